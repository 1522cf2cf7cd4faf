/- Lean texts of the claim. -/
import Derived.Test.YtpbchbcdgikonaaGreatQ13
namespace Go.Proofs.YtpbchbcdgikonaaGreat
set_option linter.unusedVariables false
set_option linter.unusedSimpArgs false
set_option maxRecDepth 100000
set_option maxHeartbeats 4000000
open Go.RowKit
theorem Fu (z:Int):inR (wrap64 z):=Aaw (wrap64_wf z)
theorem ud {α:Type} [DecidableEq α] (l:List α):(uniq l).length<=l.length:=by
 induction l with
 | nil=>exact Nat.le_refl _
 | cons a l ih =>
   unfold uniq;split
   ·simp;omega
   ·simp;exact ih
theorem Ng (a b:List (Int×Int)):(D7 a b).2.length<=268960/\∀p∈(D7 a b).2,okS p:=by
 have hin:=Nl a b;unfold D7;split
 ·simp
 ·refine⟨?_,fun p hp=>?_⟩
  ·show (Eh _).length<=_
   rw[F6];refine Nat.le_trans (List.length_filter_le _ _) (Nat.le_trans (ud _) ?_)
   have h2:∀l:List (List (Int×Int)),(∀t∈l,t.length<=160)->l.flatten.length<=l.length*160:=by
    intro l;induction l with
    | nil=>simp
    | cons a l ih =>
      intro h;rw[List.flatten_cons,List.length_append,List.length_cons,Nat.add_mul];have:=h a (by simp)
      have:=ih (fun t ht=>h t (by simp[ht]))
      omega
   have:=h2 _ (fun t ht=>(hin.2 t ht).1)
   have:=hin.1;omega
  ·have h1:p∈((uniq (Bw a b).2.flatten).filter fun p=>!Cj (Bw a b).2 p):=List.mem_mergeSort.1 hp
   have h2:=Q5.1 (List.mem_filter.1 h1).1;obtain⟨t,ht,hpt⟩:=List.mem_flatten.1 h2;exact Pr ((hin.2 t ht).2 p hpt)
def Afg (x0 y0 y1:Int) (v:Int×Int):List (Int×Int):=[v,(v.1,y0),(v.1,y1),(x0,v.2)]
def Lm (x0 y0 y1:Int) (sp L:List (Int×Int)):Nat->List (Int×Int)
 | 0=>L
 | j+1=>Rx (Lm x0 y0 y1 sp L j) (Afg x0 y0 y1 (gt sp j)) (0,0)
def Ey (l:List (Int×Int)) (x0 y0 y1:Int) (pls:List (List (Int×Int))):Nat->Int×List (Int×Int)
 | 0=>(0,Rx [] [(x0,y0),(x0,y1)] (0,0))
 | k+1=>if (Ey l x0 y0 y1 pls k).1≠0 then Ey l x0 y0 y1 pls k else if (D7 (lt_ pls k) l).1≠0 then ((D7 (lt_ pls k) l).1,[]) else (0,Lm x0 y0 y1 (D7 (lt_ pls k) l).2 (Ey l x0 y0 y1 pls k).2 (D7 (lt_ pls k) l).2.length)
def C9 (b:Bed4) (l:List (Int×Int)) (pls:List (List (Int×Int))):Int×List (Int×Int) :=
 if Bf l l.length≠0 then (Bf l l.length,[])
 else Ey l (wrap64 (-loX l l.length)) (wrap64 (-loY l l.length)) (wrap64 (wrap64 (b.wid-loY l l.length)-wrap64 (hiY l l.length-loY l l.length))) pls pls.length
theorem jx {l:List (Int×Int)} {x0 y0 y1:Int} {pls:List (List (Int×Int))} {k:Nat} {x:Int} (h:Ey l x0 y0 y1 pls k=(x,[])) (hx:x≠0):∀m,Ey l x0 y0 y1 pls (k+m)=(x,[]):=by
 intro m;induction m with
 | zero=>exact h
 | succ m ih=>rw[<-Nat.add_assoc,Ey,if_pos (by rw[ih];exact hx)];exact ih
theorem Rw (L xs:List (Int×Int)):(Rx L xs (0,0)).length<=L.length+xs.length:=Ea _ _ _ _
theorem S7 (x0 y0 y1:Int) (sp L:List (Int×Int)) (j:Nat):(Lm x0 y0 y1 sp L j).length<=L.length+4*j:=by
 induction j with
 | zero=>exact Nat.le_refl _
 | succ j ih =>
   rw[Lm];have:=Rw (Lm x0 y0 y1 sp L j) (Afg x0 y0 y1 (gt sp j));have h4:(Afg x0 y0 y1 (gt sp j)).length=4:=rfl;omega
theorem S6 (l:List (Int×Int)) (x0 y0 y1:Int) (pls:List (List (Int×Int))) (k:Nat):(Ey l x0 y0 y1 pls k).2.length<=2+1075840*k:=by
 induction k with
 | zero=>exact Rw [] [(x0,y0),(x0,y1)]
 | succ k ih =>
   rw[Ey];split
   ·omega
   ·split
    ·simp
    ·have:=S7 x0 y0 y1 (D7 (lt_ pls k) l).2 (Ey l x0 y0 y1 pls k).2 (D7 (lt_ pls k) l).2.length
     have:=(Ng (lt_ pls k) l).1
     show (Lm _ _ _ _ _ _).length<=_
     omega
theorem Wh {L xs:List (Int×Int)} (hL:∀p∈L,okS p) (hx:∀p∈xs,okS p):∀p∈Rx L xs (0,0),okS p:=by
 intro p hp;rcases su (Nat.le_refl _) hp with h|h
 ·exact hL p h
 ·exact hx p h
theorem mg {x0 y0 y1:Int} {v:Int×Int} (h0:inR x0) (h1:inR y0) (h2:inR y1) (hv:okS v):∀p∈Afg x0 y0 y1 v,okS p:=by
 intro p hp;simp[Afg] at hp;rcases hp with rfl|rfl|rfl|rfl
 ·exact hv
 ·exact⟨hv.1,h1⟩
 ·exact⟨hv.1,h2⟩
 ·exact⟨h0,hv.2⟩
theorem xi {x0 y0 y1:Int} (h0:inR x0) (h1:inR y0) (h2:inR y1) {sp L:List (Int×Int)} (hs:∀p∈sp,okS p) (hL:∀p∈L,okS p):∀j,j<=sp.length->∀p∈Lm x0 y0 y1 sp L j,okS p:=by
 intro j;induction j with
 | zero=>exact fun _=>hL
 | succ j ih =>
   intro hj;rw[Lm];exact Wh (ih (by omega)) (mg h0 h1 h2 (hs _ (List.mem_of_getElem? (Gh (by omega)))))
theorem xg {l:List (Int×Int)} {x0 y0 y1:Int} (h0:inR x0) (h1:inR y0) (h2:inR y1) {pls:List (List (Int×Int))}:∀k,∀p∈(Ey l x0 y0 y1 pls k).2,okS p:=by
 intro k;induction k with
 | zero=>exact Wh (by simp) (by intro p hp;simp at hp;rcases hp with rfl|rfl;exact⟨h0,h1⟩;exact⟨h0,h2⟩)
 | succ k ih =>
   rw[Ey];split
   ·exact ih
   ·split
    ·simp
    ·exact xi h0 h1 h2 (Ng _ _).2 ih _ (Nat.le_refl _)
theorem Pp (b:Bed4) (l:List (Int×Int)) (pls:List (List (Int×Int))):(C9 b l pls).2.length<=2+1075840*pls.length/\∀p∈(C9 b l pls).2,okS p:=by
 unfold C9;split
 ·simp
 ·exact⟨S6 _ _ _ _ _ _,xg (Fu _) (Fu _) (Fu _) _⟩
theorem Z4 (A B:Option Addr) (c1 c2 n1 n2:Nat) (b:Bed4) (l:List (Int×Int)) (w:World) (hn1:n1<=9223372036854775807) (hc1:n1<=c1) (hs:SpS w A n1 l) (hc:¬Bf l n1=0) :
 Calls Tryz.prog 128 #[Hz b,.slice A n1 c1,.slice B n2 c2] w (Wk w (Bf l n1,[])):=by
 have q:(Bf l n1 != 0)=true:=by simpa using hc
 obtain⟨len,wid,rx,ry⟩:=b;unfold Hz;dsimp only;have HC:=Lib.hid hc;clear hc;go_enter Tryz.func128,Tryz.ntmps128
 go_wp2_with (go_at_call 17;refine(Aev _ _ _ l _ hn1 hc1 (hs.keep (An (Below.refl _ _) _)) HC.out).mono ?_;rintro e w1 ⟨rfl,hb1⟩)
 go_ret2
 exact⟨_,rfl,OwG.nil,An (Ao (An (Below.refl _ _) _) hb1) _⟩
theorem SpS.keepBlk {w w':World} {sb n:Nat} {l:List (Int×Int)} (h:SpS w (some ⟨sb,0,none⟩) n l) (hb:w'.heap[sb]? = w.heap[sb]?):SpS w' (some ⟨sb,0,none⟩) n l:=by
 refine⟨h.1,?_⟩;obtain⟨_,h2⟩:=h;rcases h2 with h2|⟨b,off,e,h2⟩
 ·exact .inl h2
 ·injection e with e
  injection e with e1 e2
  subst e1 e2;exact .inr ⟨sb,0,rfl,fun k hk'=>⟨(World.cell?_of_block (w:=w) (a:=⟨sb,0+k*2,none⟩) hb).trans (h2 k hk').1,(World.cell?_of_block (w:=w) (a:=⟨sb,0+k*2+1,none⟩) hb).trans (h2 k hk').2⟩⟩
theorem jy (A B:Option Addr) (c1 c2 n1 n2:Nat) (b:Bed4) (l:List (Int×Int)) (pls:List (List (Int×Int))) (w:World) (hn2:n2<=1000) (hpl:∀t∈pls,t.length<=1000) (hc1:n1<=c1) (hs:SpS w A n1 l) (hS:Ab7 w B n2 pls) (hc:Bf l n1=0) :
 Calls Tryz.prog 128 #[Hz b,.slice A n1 c1,.slice B n2 c2] w (Wk w (C9 b l pls)):=by
 obtain⟨len,wid,rx,ry⟩:=b;have hn3:=D9 hc;have HR:=Lib.hid (show C9 ⟨len,wid,rx,ry⟩ l pls=Ey l (wrap64 (-loX l n1)) (wrap64 (-loY l n1)) (wrap64 (wrap64 (wid-loY l n1)-wrap64 (hiY l n1-loY l n1))) pls n2 by unfold C9;rw[hs.1,if_neg (by rw[hc];simp),hS.1])
 have HPL:=Lib.hid hpl;have HN2:=Lib.hid hS.1;obtain⟨ba,oa,rfl,-,-⟩:=hs.at_ (k:=0) (by omega)
 unfold Hz;dsimp only;have HC:=Lib.hid hc;clear hc hpl;have hB0:=Lib.hid (Bb.new w 33 #[.int .i64 len,.int .i64 wid,.int .i64 rx,.int .i64 ry]);obtain⟨bx,hbx⟩:∃bx,loX l n1=bx:=⟨_,rfl⟩
 obtain⟨bY,hby⟩:∃bY,loY l n1=bY:=⟨_,rfl⟩
 obtain⟨bW,hbW⟩:∃bW,wrap64 (hiX l n1-loX l n1)=bW:=⟨_,rfl⟩
 obtain⟨bH,hbH⟩:∃bH,wrap64 (hiY l n1-loY l n1)=bH:=⟨_,rfl⟩
 rw[hbH,hbx,hby] at HR;have HBX:=Lib.hid hbx;have HBY:=Lib.hid hby;have HBW:=Lib.hid hbW;have HBH:=Lib.hid hbH;clear hbx hby hbW hbH;go_enter Tryz.func128,Tryz.ntmps128
 go_upto_region 4 with (go_at_call 17;refine(Ab0 _ _ _ _ l _ (by omega) hc1 (hs.keep (An (Below.refl _ _) _)) HC.out (by omega)).mono ?_;rintro e w1 ⟨rfl,hb1⟩;rw[HBW.out,HBH.out,HBX.out,HBY.out])
 have k1:=(hB0.out.keep hb1).alloc (.cells #[.int .i64 bx,.int .i64 bY,.int .i64 bW,.int .i64 bH] 66);have k2:=Bb.new w1 66 #[.int .i64 bx,.int .i64 bY,.int .i64 bW,.int .i64 bH];have hbA:Below w.heap.size w (w1.alloc (.cells #[.int .i64 bx,.int .i64 bY,.int .i64 bW,.int .i64 bH] 66)):=An (Ao (An (Below.refl _ _) _) hb1) _;refine Cw (fun X=>Bb X w.heap.size 33 #[.int .i64 len,.int .i64 wid,.int .i64 rx,.int .i64 ry]/\Bb X w1.heap.size 66 #[.int .i64 bx,.int .i64 bY,.int .i64 bW,.int .i64 bH]/\Below w.heap.size w X) ⟨k1,k2,hbA⟩ ?_
 clear k1 k2 hbA hb1 hB0;rintro X0 ⟨k1,k2,hbA⟩;obtain⟨a1,a2,a3,a4,a5⟩:=k1.cells4;obtain⟨e1,e2,e3,e4,e5⟩:=k2.cells4
 go_quiet (fail)
 go_upto_region 6 with fail;obtain⟨x0,hx0⟩:∃x0,wrap64 (-bx)=x0:=⟨_,rfl⟩
 obtain⟨y0,hy0⟩:∃y0,wrap64 (-bY)=y0:=⟨_,rfl⟩
 obtain⟨y1,hy1⟩:∃y1,wrap64 (wrap64 (wid-bY)-bH)=y1:=⟨_,rfl⟩
 have r0:inR x0:=by rw[<-hx0];exact Fu _
 have r1:inR y0:=by rw[<-hy0];exact Fu _
 have r2:inR y1:=by rw[<-hy1];exact Fu _
 rw[hx0,hy0,hy1] at HR ⊢;have R0:=Lib.hid r0;have R1:=Lib.hid r1;have R2:=Lib.hid r2;clear r0 r1 r2 hx0 hy0 hy1 a1 a2 a3 a4 a5 e1 e2 e3 e4 e5;refine Cw (fun X=>Below w.heap.size w X) (Bg hbA nq) ?_
 clear k1 k2 hbA;rintro W0 hbA;obtain⟨BB,hBB⟩:∃BB,BB=W0.heap.size:=⟨_,rfl⟩
 have hbag:=Lib.hid (Zm.new W0);have hbag1:=Lib.hid (An (Below.refl W0.heap.size W0) (.cells #[.map none,.slice none 0 0] 219))
 go_upto_region 8 with (go_at_call 130;refine(Ry W0.heap.size (W0.heap.size+1) (W0.heap.size+1) 2 2 [] [(x0,y0),(x0,y1)] _ rfl (by omega) (by simp) (Bb.new2 _ _ _ _) (Nat.le_refl _) (by intro p hp;simp at hp;rcases hp with rfl|rfl;exact⟨R0.out,R1.out⟩;exact⟨R0.out,R2.out⟩) (hbag.out.keep (An (Below.refl _ _) _)) (W0.heap.size+1) ((hbag.out.keep (An (Below.refl _ _) _)).av (Nat.le_refl _) (by simp))).mono ?_;rintro e w3 ⟨rfl,hg3,hb3,hz3,-,-⟩)
 have hb3':Below W0.heap.size W0 w3:=(An hbag1.out _).trans hb3;rw[<-hBB] at hg3 ⊢;clear hbag hbag1 hb3 hz3;have hBB1:W0.heap.size<=BB:=by omega
 have hBB2:BB<=W0.heap.size:=by omega
 have hg3':Zm w3 BB w3.heap.size (Ey l x0 y0 y1 pls 0).2:=hg3;have HG3:=Lib.hid hg3';clear hg3 hg3' hBB;go_wp2_with fail;go_loopw [52] (fun i wr=>∃k:Nat,k<=n2/\i=.int .i64 k/\Hid ((Ey l x0 y0 y1 pls k).1=0)/\Zm wr BB wr.heap.size (Ey l x0 y0 y1 pls k).2/\Below W0.heap.size W0 wr) (fun i _=>n2-(intOf i).toNat)
 case atStart=>exact⟨0,Nat.zero_le _,rfl,Lib.hid rfl,HG3.out,hb3'⟩
 case round =>
  clear HG3 hb3';obtain⟨k,hk,rfl,hz,hg,hbr⟩:=hrel;by_cases hlt:k<n2
  ·obtain⟨b1,o1,Ak,ck,rfl,hbl,d1,d2,d3,d4⟩:=(hS.keep (Ao hbA hbr)).at_ hlt
   have l1:(lt_ pls k).length<=1000:=HPL.out _ (It (by rw[HN2.out];exact hlt))
   obtain⟨nk,hnk⟩:∃nk,(lt_ pls k).length=nk:=⟨_,rfl⟩
   rw[hnk] at d1 d2 d3 l1;clear hnk;have hok:=Ng (lt_ pls k) l;have hstep:=Lib.hid (show Ey l x0 y0 y1 pls (k+1)=if (D7 (lt_ pls k) l).1≠0 then ((D7 (lt_ pls k) l).1,[]) else (0,Lm x0 y0 y1 (D7 (lt_ pls k) l).2 (Ey l x0 y0 y1 pls k).2 (D7 (lt_ pls k) l).2.length) by rw[Ey,if_neg (by rw[hz.out];simp)])
   obtain⟨sq,hsq⟩:∃sq,D7 (lt_ pls k) l=sq:=⟨_,rfl⟩
   rw[hsq] at hok hstep;have HSQ:=Lib.hid hsq;clear hsq;obtain⟨s1,sp⟩:=sq;dsimp only at hok hstep;have hspl:=hok.1;have HOK:=Lib.hid hok.2;clear hok;by_cases hs1:s1=0
   ·subst hs1
    rw[if_neg (by simp)] at hstep
    go_upto_region 14 with (go_at_call 155;refine(Sk _ _ _ _ _ _ (lt_ pls k) l _ (by omega) (by omega) d2 hc1 d3 (hs.keep (Ao hbA hbr))).mono ?_;rintro e w5 ⟨v5,rfl,ho5,hb5⟩;rw[HSQ.out] at ho5 ⊢)
    obtain⟨As,cs,rfl,hcs,hSs,hAs⟩:=OwS.sps ho5;obtain⟨ns,hns⟩:∃ns,sp.length=ns:=⟨_,rfl⟩
    rw[hns] at hSs hcs hAs hspl hstep ⊢;have HNS:=Lib.hid hns;clear hns ho5;have hg5:=hg.keep hb5;have hb5':=Ao hbr hb5
    obtain⟨sb,hsb⟩:∃sb,0<ns->As=some ⟨sb,0,none⟩/\AvS w5 BB sb:=by
     rcases Nat.eq_zero_or_pos ns with h0|h0
     ·exact⟨0,fun h=>by omega⟩
     ·obtain⟨g,rfl,q1,q2⟩:=hAs h0
      exact⟨g,fun _=>⟨rfl,hg5.av q1 q2⟩⟩
    have HG5:=Lib.hid (hg5.mono hb5.size);have hLl:=S6 l x0 y0 y1 pls k;clear hAs hg hg5 hbl d1 d2 d3 d4 hb5;go_wp2_with fail;go_loopw [67] (fun i wx=>∃j:Nat,j<=ns/\i=.int .i64 j/\Zm wx BB wx.heap.size (Lm x0 y0 y1 sp (Ey l x0 y0 y1 pls k).2 j)/\SpS wx As ns sp/\(0<ns->AvS wx BB sb)/\Below W0.heap.size W0 wx) (fun i _=>ns-(intOf i).toNat)
    case atStart=>exact⟨0,Nat.zero_le _,rfl,HG5.out,hSs,fun h=>(hsb h).2,hb5'⟩
    case round =>
     clear HG5 hSs hb5' hbr;obtain⟨j,hj,rfl,hg,hSs,hav,hbx⟩:=hrel;by_cases hjn:j<ns
     ·obtain⟨rfl,-⟩:=hsb (by omega)
      have hav':=hav (by omega)
      obtain⟨bq,oq,eq1,hbq,hcc⟩:=hSs.at_ hjn;injection eq1 with eq1
      injection eq1 with eq1 eq2
      subst eq1 eq2;obtain⟨d1,d2⟩:=hcc j hjn;simp only[Nat.zero_add] at d1 d2;clear hcc;have hj':j<sp.length:=by rw[HNS.out];exact hjn
      have hokj:okS (gt sp j):=HOK.out _ (List.mem_of_getElem? (Gh hj'));have hpl2:=S7 x0 y0 y1 sp (Ey l x0 y0 y1 pls k).2 j;have hBx:BB<wr.heap.size:=by obtain⟨_,_,q,_⟩:=hg;exact q.lt
      have hbO:Below wr.heap.size wr ((wr.alloc (.cells #[.int .i64 (gt sp j).1,.int .i64 (gt sp j).2] 49)).alloc (.cells #[.int .i64 (gt sp j).1,.int .i64 (gt sp j).2,.int .i64 (gt sp j).1,.int .i64 y0,.int .i64 (gt sp j).1,.int .i64 y1,.int .i64 x0,.int .i64 (gt sp j).2] 49)):=An (An (Below.refl _ _) _) _;have hgO:=Lib.hid (hg.keep hbO);have haO:=Lib.hid (hav'.keep hBx hbO);have hXO:=Lib.hid (Bb.new2 wr (.cells #[.int .i64 (gt sp j).1,.int .i64 (gt sp j).2] 49) 49 #[.int .i64 (gt sp j).1,.int .i64 (gt sp j).2,.int .i64 (gt sp j).1,.int .i64 y0,.int .i64 (gt sp j).1,.int .i64 y1,.int .i64 x0,.int .i64 (gt sp j).2]);have hlO:(Lm x0 y0 y1 sp (Ey l x0 y0 y1 pls k).2 j).length<=1000000000000:=by omega
      have HBO:=Lib.hid hbO;clear hbO
      go_wp2_with (go_at_call 130;refine(Ry BB wr.heap.size (wr.heap.size+1) 4 4 (Lm x0 y0 y1 sp (Ey l x0 y0 y1 pls k).2 j) (Afg x0 y0 y1 (gt sp j)) _ rfl (by omega) hlO hXO.out (Nat.le_succ _) (mg R0.out R1.out R2.out hokj) hgO.out sb haO.out).mono ?_;rintro e w8 ⟨rfl,hg8,hb8,hz8,hh8,hv8⟩)
      have hS8:SpS w8 (some ⟨sb,0,none⟩) ns sp:=(hSs.keep HBO.out).keepBlk hh8;have hb8':Below W0.heap.size W0 w8:=(Ao hbx HBO.out).trans (hb8.mono hBB1);exact⟨⟨j+1,by omega,by go_num,hg8,hS8,fun _=>hv8,hb8'⟩,by simp[intOf];omega⟩
     ·obtain rfl:ns=j:=by omega
      go_wp2_with fail;exact⟨⟨k+1,by omega,by go_num,Lib.hid (by rw[hstep.out]),by rw[hstep.out];exact hg,hbx⟩,by simp[intOf];omega⟩
   ·have qo:(s1 != 0)=true:=by simpa using hs1
    rw[if_pos hs1] at hstep;have hbad:=jx hstep.out hs1 (n2-(k+1));rw[show k+1+(n2-(k+1))=n2 by omega] at hbad
    rw[hbad] at HR;clear hbad hs1
    go_wp2_with (go_at_call 155;refine(Sk _ _ _ _ _ _ (lt_ pls k) l _ (by omega) (by omega) d2 hc1 d3 (hs.keep (Ao hbA hbr))).mono ?_;rintro e w5 ⟨v5,rfl,ho5,hb5⟩;rw[HSQ.out])
    go_ret2
    exact⟨_,by rw[HR.out];rfl,by rw[HR.out];exact OwG.nil,Ao hbA (Ao hbr hb5)⟩
  ·obtain rfl:n2=k:=by omega
   obtain⟨mv,sv,q1,q2,-,-,-⟩:=hg;obtain⟨a1,a2,a3,a4,a5⟩:=q1.cells2;have HE:=Lib.hid (show Ey l x0 y0 y1 pls n2=(0,(Ey l x0 y0 y1 pls n2).2) by rw[<-hz.out])
   go_wp2_with fail
   go_ret2
   exact⟨sv,by rw[HR.out,HE.out];rfl,by rw[HR.out];exact OwG.lower q2 (Nat.le_trans hbA.size hBB1),Ao hbA hbr⟩
theorem Po (A B:Option Addr) (c1 c2 n1 n2:Nat) (b:Bed4) (l:List (Int×Int)) (pls:List (List (Int×Int))) (w:World) (hn1:n1<=9223372036854775807) (hn2:n2<=1000) (hpl:∀t∈pls,t.length<=1000) (hc1:n1<=c1) (hs:SpS w A n1 l) (hS:Ab7 w B n2 pls) :
 Calls Tryz.prog 128 #[Hz b,.slice A n1 c1,.slice B n2 c2] w (Wk w (C9 b l pls)):=by
 by_cases hc:Bf l n1=0
 ·exact jy A B c1 c2 n1 n2 b l pls w hn2 hpl hc1 hs hS hc
 ·rw[show C9 b l pls=(Bf l n1,[]) by unfold C9;rw[hs.1,if_pos hc]]
  exact Z4 A B c1 c2 n1 n2 b l w hn1 hc1 hs hc
section
open Go.RowKit Go.Sort
def Eu (rx ry:Int) (s:Shp) (fl:Bool) (qu:Int) (sp:List (Int×Int)):Nat->List (Int×Int)
 | 0=>[]
 | k+1=>match Mk rx ry s fl qu (gt sp k) with|none=>Eu rx ry s fl qu sp k|some a=>Rx (Eu rx ry s fl qu sp k) [a] (0,0)
def Ie (b:Bed4) (s:Shp) (fl:Bool) (qu:Int) (l:List (Int×Int)) (pls:List (List (Int×Int))):Int×List (Int×Int) :=
 if (C9 b l pls).1≠0 then ((C9 b l pls).1,[]) else (0,Eh (Eu b.rx b.ry s fl qu (C9 b l pls).2 (C9 b l pls).2.length))
theorem Lq (rx ry:Int) (s:Shp) (fl:Bool) (qu:Int) (sp:List (Int×Int)) (k:Nat):(Eu rx ry s fl qu sp k).length<=k:=by
 induction k with
 | zero=>exact Nat.le_refl _
 | succ k ih =>
   rw[Eu];split
   ·omega
   ·rename_i a _
    have:=Rw (Eu rx ry s fl qu sp k) [a];simp at this;omega
theorem Xd {rx ry:Int} {s:Shp} {fl:Bool} {qu:Int} {p a:Int×Int} (hp:okS p) (h:Mk rx ry s fl qu p=some a):okS a:=by
 unfold Mk at h;split at h
 ·split at h
  ·cases h
  ·split at h
   ·cases h
   ·injection h with h;subst h;exact⟨Fu _,Fu _⟩
 ·injection h with h;subst h;exact hp
theorem ux (F:Nat) (eg:∀args w,(callFunc F args).run Tryz.prog w=.ok (.enter F args) w) (hF:∀ax ay bx bY w,Calls Tryz.prog F #[.agg #[.int .i64 ax,.int .i64 ay],.agg #[.int .i64 bx,.int .i64 bY]] w fun e w'=>e=.returned (.int .i64 (G1 (ax,ay) (bx,bY)))/\GrW w w')
 (v:Value) (base:Nat) (l:List (Int×Int)) (w:World) (hl:l.length<=1000000000000) (hs:OwS w base v l) :
 Calls Tryz.prog 131 #[v,.func (.func F) #[] #[]] w fun e w'=>e=.returned (.tuple #[])/\OwS w' base v (Eh l)/\w.grownBy w' v.ownBlock:=by
 rcases OwG.form hs with ⟨rfl,rfl⟩|⟨g,cap,rfl,h1,h2,h3,h4⟩
 ·refine(AnyF.slices_SortFunc_none Tryz.laysS none 0 _ w).mono ?_
  rintro e w' ⟨rfl,rfl⟩;exact⟨rfl,by rw[show Eh []=[] by simp[Eh]];exact hs,World.grownBy.refl _ _⟩
 ·have hcmp:CmpLays Tryz.prog F #[] enS 2 G1 g 0 l.toArray.size w:=by
   intro m os dk hdk x y;exact hF x.1 x.2 y.1 y.2 _
  have hcon:=AnyQ.slices_SortFunc_total Tryz.laysS 2 Tryz.isAgg49 Tryz.sizeOf49 enS Ci J5 G1 Akc F #[] g 0 cap l.toArray w eg hcmp (OwG.holdsK Ci (by omega) hs) h2 (by rw[List.size_toArray];omega) Afy
  rw[List.size_toArray] at hcon;refine hcon.mono ?_;rintro e w' ⟨rfl,n,os,rfl⟩;have hso:=OwG.sorted Ci (by omega) hs (Eh l) (F6 l) n os
  exact⟨rfl,hso.1,hso.2⟩
theorem Aee:∀args w,(callFunc 132 args).run Tryz.prog w=.ok (.enter 132 args) w:=by
 intro args w
 kernel_rfl
theorem Aaa (A B Ak:Option Addr) (c1 c2 n1 n2 nk ck:Nat) (b:Bed4) (s:Shp) (fl:Bool) (qu:Int) (l:List (Int×Int)) (pls:List (List (Int×Int))) (w:World) (hn1:n1<=9223372036854775807) (hn2:n2<=1000) (hpl:∀t∈pls,t.length<=1000) (hc1:n1<=c1) (hs:SpS w A n1 l) (hS:Ab7 w B n2 pls) :
 Calls Tryz.prog 99 #[Hz b,.agg #[.slice Ak nk ck,.int .i64 s.grain,.bool s.mat,.int .i64 s.anc.1,.int .i64 s.anc.2],.agg #[.bool fl,.int .i64 qu],.slice A n1 c1,.slice B n2 c2] w (Wk w (Ie b s fl qu l pls)):=by
 have hpok:=Pp b l pls;have HP:=Lib.hid (show Ie b s fl qu l pls=if (C9 b l pls).1≠0 then ((C9 b l pls).1,[]) else (0,Eh (Eu b.rx b.ry s fl qu (C9 b l pls).2 (C9 b l pls).2.length)) from rfl)
 rw[hS.1] at hpok;obtain⟨q,hq⟩:∃q,C9 b l pls=q:=⟨_,rfl⟩
 rw[hq] at HP hpok;have HQ:=Lib.hid hq;clear hq;obtain⟨q1,sp⟩:=q;obtain⟨len,wid,rx,ry⟩:=b;obtain⟨spl,gr,mt,⟨ax,ay⟩⟩:=s;unfold Hz;dsimp only at HP hpok ⊢;have hspl:=hpok.1;have HOK:=Lib.hid hpok.2;clear hpok;obtain⟨W3,hW3⟩:∃W3,W3=(((w.alloc (.cells #[.int .i64 len,.int .i64 wid,.int .i64 rx,.int .i64 ry] 33)).alloc (.cells #[.slice Ak nk ck,.int .i64 gr,.bool mt,.int .i64 ax,.int .i64 ay] 104)).alloc (.cells #[.bool fl,.int .i64 qu] 48)):=⟨_,rfl⟩
 have h0:Bb W3 w.heap.size 33 #[.int .i64 len,.int .i64 wid,.int .i64 rx,.int .i64 ry]:=by rw[hW3];exact((Bb.new _ _ _).alloc _).alloc _
 have h1:Bb W3 (w.heap.size+1) 104 #[.slice Ak nk ck,.int .i64 gr,.bool mt,.int .i64 ax,.int .i64 ay]:=by rw[hW3];exact(Bb.new2 _ _ _ _).alloc _
 have h2:Bb W3 (w.heap.size+1+1) 48 #[.bool fl,.int .i64 qu]:=by rw[hW3];exact Bb.new3 _ _ _ _ _
 have hbw:Below w.heap.size w W3:=by rw[hW3];exact(An (An (An (Below.refl _ _) _) _) _)
 have H0:=Lib.hid h0;have H1:=Lib.hid h1;have H2:=Lib.hid h2;have HBW:=Lib.hid hbw;subst hW3;clear h0 h1 h2 hbw;by_cases hq1:q1=0
 ·subst hq1
  rw[if_neg (by simp)] at HP
  go_enter Tryz.func99,Tryz.ntmps99
  go_upto_region 4 with (go_at_call 128;refine(Po A B c1 c2 n1 n2 ⟨len,wid,rx,ry⟩ l pls _ hn1 hn2 hpl hc1 (hs.keep HBW.out) (hS.keep HBW.out)).mono ?_;rintro e w1 ⟨v1,rfl,ho1,hb1⟩;rw[HQ.out] at ho1 ⊢)
  obtain⟨A1,cc1,rfl,hcc1,hS1,-⟩:=OwS.sps ho1;obtain⟨ns,hns⟩:∃ns,sp.length=ns:=⟨_,rfl⟩
  rw[hns] at hS1 hcc1 hspl HP ⊢;have HNS:=Lib.hid hns;have K0:=Lib.hid (H0.out.keep hb1);have K1:=Lib.hid (H1.out.keep hb1);have K2:=Lib.hid (H2.out.keep hb1);have hbA:=Ao HBW.out hb1;clear hns ho1 H0 H1 H2 HBW hb1;obtain⟨BB,hBB⟩:∃BB,BB=w1.heap.size:=⟨_,rfl⟩
  have hbag:Zm (w1.alloc (.cells #[.map none,.slice none 0 0] 219)) BB (w1.alloc (.cells #[.map none,.slice none 0 0] 219)).heap.size []:=by rw[hBB];exact(Zm.new w1).mono (by simp)
  have HBag:=Lib.hid hbag;clear hbag;have hBB1:w1.heap.size<=BB:=by omega
  go_upto_region 6 with fail;rw[<-hBB];clear hBB;go_loopw [31] (fun i wr=>∃k:Nat,k<=ns/\i=.int .i64 k/\Zm wr BB wr.heap.size (Eu rx ry ⟨spl,gr,mt,(ax,ay)⟩ fl qu sp k)/\Below w1.heap.size w1 wr) (fun i _=>ns-(intOf i).toNat)
  case atStart=>exact⟨0,Nat.zero_le _,rfl,HBag.out,An (Below.refl _ _) _⟩
  case round =>
   clear HBag;obtain⟨k,hk,rfl,hg,hbr⟩:=hrel;by_cases hlt:k<ns
   ·obtain⟨b1,o1,rfl,hbl,hcc⟩:=(hS1.keep hbr).at_ hlt
    obtain⟨d1,d2⟩:=hcc k hlt;clear hcc;have hokk:okS (gt sp k):=HOK.out _ (List.mem_of_getElem? (Gh (by rw[HNS.out];exact hlt)))
    obtain⟨a1,a2,a3,a4,a5⟩:=(K0.out.keep hbr).cells4;obtain⟨e1,e2,e3,e4,e5,e6⟩:=(K1.out.keep hbr).cells5;obtain⟨f1,f2,f3,f4,f5⟩:=(K2.out.keep hbr).cells2;have hst:=Lib.hid (show Eu rx ry ⟨spl,gr,mt,(ax,ay)⟩ fl qu sp (k+1)=match Mk rx ry ⟨spl,gr,mt,(ax,ay)⟩ fl qu (gt sp k) with|none=>Eu rx ry ⟨spl,gr,mt,(ax,ay)⟩ fl qu sp k|some a=>Rx (Eu rx ry ⟨spl,gr,mt,(ax,ay)⟩ fl qu sp k) [a] (0,0) from rfl)
    have hkl:=Lq rx ry ⟨spl,gr,mt,(ax,ay)⟩ fl qu sp k;have hBx:BB<wr.heap.size:=by obtain⟨_,_,q,_⟩:=hg;exact q.lt
    cases hse:Mk rx ry ⟨spl,gr,mt,(ax,ay)⟩ fl qu (gt sp k) with
    | none =>
      rw[hse] at hst;have HSE:=Lib.hid hse;clear hse
      go_wp2_with (go_at_call 129;refine(Pg _ _ _ _ _ spl _ _ _ _ _ _ _ _ _).mono ?_;rintro e w5 ⟨rfl,hb5⟩;rw[show Mk rx ry ⟨spl,gr,mt,(ax,ay)⟩ fl qu ((gt sp k).1,(gt sp k).2)=none from HSE.out];dsimp only[Ajg,Option.getD,Option.isSome])
      have hb6:=An (Ao (An hbr _) hb5) (.cells #[.int .i64 0,.int .i64 0] 49);exact⟨⟨k+1,by omega,by go_num,by rw[hst.out];exact(((hg.keep (An (Below.refl _ _) _)).keep hb5).keep (An (Below.refl _ _) _)).mono (by have:=hb5.size;simp at this ⊢;omega),hb6⟩,by simp[intOf];omega⟩
    | some a =>
      obtain⟨px,py⟩:=a;rw[hse] at hst;have hoka:=Xd hokk hse;have HSE:=Lib.hid hse;clear hse
      go_wp2_with (first|(go_at_call 129;refine(Pg _ _ _ _ _ spl _ _ _ _ _ _ _ _ _).mono ?_;rintro e w5 ⟨rfl,hb5⟩;rw[show Mk rx ry ⟨spl,gr,mt,(ax,ay)⟩ fl qu ((gt sp k).1,(gt sp k).2)=some (px,py) from HSE.out];dsimp only[Ajg,Option.getD,Option.isSome];have hg5:=(hg.keep (An (Below.refl _ _) _)).keep hb5;have hz5:=hb5.size;simp at hz5;have hgO:Zm ((w5.alloc (.cells #[.int .i64 px,.int .i64 py] 49)).alloc (.cells #[.int .i64 px,.int .i64 py] 49)) BB w5.heap.size (Eu rx ry ⟨spl,gr,mt,(ax,ay)⟩ fl qu sp k):=(hg5.keep (An (An (Below.refl _ _) _) _)).mono (by omega);have haO:=hgO.av (s:=w5.heap.size+1) (by omega) (by simp);have hXO:=Bb.new2 w5 (.cells #[.int .i64 px,.int .i64 py] 49) 49 #[.int .i64 px,.int .i64 py])|(go_at_call 130;refine(Ry BB w5.heap.size (w5.heap.size+1) 1 1 (Eu rx ry ⟨spl,gr,mt,(ax,ay)⟩ fl qu sp k) [(px,py)] _ rfl (by omega) (by omega) hXO (by omega) (by intro p hp;simp at hp;subst hp;exact hoka) hgO (w5.heap.size+1) haO).mono ?_;rintro e w8 ⟨rfl,hg8,hb8,hz8,-,-⟩))
      have hb8':Below w1.heap.size w1 w8:=(An (An (Ao (An hbr _) hb5) _) _).trans (hb8.mono hBB1);exact⟨⟨k+1,by omega,by go_num,by rw[hst.out];exact hg8,hb8'⟩,by simp[intOf];omega⟩
   ·obtain rfl:ns=k:=by omega
    have hkl:=Lq rx ry ⟨spl,gr,mt,(ax,ay)⟩ fl qu sp ns;obtain⟨mv,sv,q1,q2,-,q4,-⟩:=hg;obtain⟨a1,a2,a3,a4,a5⟩:=q1.cells2
    go_wp2_with (go_at_call 131;refine(ux _ Aee (fun _ _ _ _ _=>yu _ _ _ _ _) sv BB (Eu rx ry ⟨spl,gr,mt,(ax,ay)⟩ fl qu sp ns) _ (by omega) q2).mono ?_;rintro e w8 ⟨rfl,ho8,hg8⟩;have q18:=Bb.grown q1 hg8 (by intro e;exact Nat.lt_irrefl _ (q4 _ e.symm).1);obtain⟨m1,m2,m3,m4,m5⟩:=q18.cells2)
    go_ret2
    exact⟨sv,by rw[HP.out];rfl,by rw[HP.out];exact OwG.lower ho8 (Nat.le_trans hbA.size hBB1),Ao hbA (Below.grown hbr hg8 hbr.size (fun j hj=>Nat.le_trans hBB1 (Nat.le_of_lt (q4 j hj).1)))⟩
 ·have qo:(q1 != 0)=true:=by simpa using hq1
  rw[if_pos hq1] at HP;clear hq1;go_enter Tryz.func99,Tryz.ntmps99
  go_wp2_with (go_at_call 128;refine(Po A B c1 c2 n1 n2 ⟨len,wid,rx,ry⟩ l pls _ hn1 hn2 hpl hc1 (hs.keep HBW.out) (hS.keep HBW.out)).mono ?_;rintro e w1 ⟨v1,rfl,ho1,hb1⟩;rw[HQ.out])
  go_ret2
  exact⟨_,by rw[HP.out];rfl,by rw[HP.out];exact OwG.nil,Ao HBW.out hb1⟩
end
def Aiw (a b:End6):Int:=orI [Er a.right b.right,Er a.put.y b.put.y,Er a.put.x b.put.x,Er a.put.qu b.put.qu]
theorem or4 (b:Nat) (tb:TypeId) (x y z u:Int) (w:World) (h:Bb w b tb #[.int .i64 x,.int .i64 y,.int .i64 z,.int .i64 u]) :
 Calls Tryz.prog 133 #[.slice (some ⟨b,0,none⟩) 4 4] w fun e w'=>e=.returned (.int .i64 (orI [x,y,z,u]))/\w=w' :=
 Abh b 4 4 [x,y,z,u] w rfl (by omega) (fun k v hv=>by
  match k,hv with
  | 0,hv=>simp at hv;subst hv;exact h.cell 0
  | 1,hv=>simp at hv;subst hv;exact h.cell 1
  | 2,hv=>simp at hv;subst hv;exact h.cell 2
  | 3,hv=>simp at hv;subst hv;exact h.cell 3)
theorem Yw (a b:End6) (w:World):Calls Tryz.prog 102 #[bh a,bh b] w fun e w'=>e=.returned (.int .i64 (Aiw a b))/\Below w.heap.size w w':=by
 obtain⟨⟨a0,a1,a2,a3,a4⟩,a5⟩:=a;obtain⟨⟨b0,b1,b2,b3,b4⟩,b5⟩:=b;unfold bh;dsimp only;go_enter Tryz.func102,Tryz.ntmps102;go_wp2_with fail;refine Br 32 (by kernel_rfl) (by kernel_rfl) ?_
 simp only[List.take_succ_cons,List.take_zero,List.drop_succ_cons,List.drop_zero]
 repeat still_step
 still_call (Dl _ _ _)
 repeat still_step
 still_call (Dl _ _ _)
 repeat still_step
 still_call (Dl _ _ _)
 repeat still_step
 still_call (Dl _ _ _)
 refine wpStill_nil ?_
 go_wp2_with (go_at_call 133;refine(or4 _ _ _ _ _ _ _ (Bb.drew (Bb.new3 _ _ _ _ _))).mono ?_;rintro e w1 ⟨rfl,rfl⟩)
 go_ret;exact⟨rfl,Aw (An (An (An (Below.refl _ _) _) _) _)⟩
def ed (l:List End6) (k:Nat):End6:=l.getD k ⟨⟨0,false,0,0,0⟩,0⟩
def Ee (l:List End6):Nat->End6
 | 0=>⟨⟨0,false,0,0,0⟩,0⟩
 | k+1=>if k=0\/Aiw (ed l k) (Ee l k)<0 then ed l k else Ee l k
def EnS (w:World) (A:Option Addr) (n:Nat) (l:List End6):Prop:=l.length=n/\(n=0\/∃b,A=some ⟨b,0,none⟩/\∀k,k<n->∀i,i<6->w.cell? ⟨b,k*6+i,none⟩=(enE (ed l k))[i]?)
theorem EnS.keep {w w':World} {A:Option Addr} {n:Nat} {l:List End6} (h:EnS w A n l) (hb:Below w.heap.size w w'):EnS w' A n l:=by
 refine⟨h.1,?_⟩;obtain⟨_,h⟩:=h;rcases h with h|⟨b,rfl,h⟩
 ·exact .inl h
 ·refine .inr ⟨b,rfl,fun k hk i hi=>?_⟩
  have h1:=h k hk i hi;obtain⟨u,hu⟩:∃u,(enE (ed l k))[i]? = some u:=⟨_,List.getElem?_eq_getElem (by rw[D0];exact hi)⟩
  rw[hu] at h1 ⊢;exact Aq hb h1
theorem OwE.ens {w:World} {base:Nat} {v:Value} {l:List End6} (h:OwG 193 6 enE w base v l):∃A c,v=.slice A l.length c/\EnS w A l.length l:=by
 rcases OwG.form h with ⟨rfl,rfl⟩|⟨g,cap,rfl,g1,g2,g3,g4⟩
 ·exact⟨none,0,rfl,rfl,.inl rfl⟩
 ·refine⟨_,cap,rfl,rfl,.inr ⟨g,rfl,fun k hk i hi=>?_⟩⟩
  have c0:=OwG.cells h (k*6+i) (by omega)
  have hk2:l[k]? = some (ed l k):=by unfold ed;rw[List.getD,List.getElem?_eq_getElem hk];rfl
  rw[Bp D0 l k i _ hk2 hi] at c0;exact c0
theorem Tl (A:Option Addr) (c n:Nat) (l:List End6) (w:World) (hn:n<=1000000) (hs:EnS w A n l) :
 Calls Tryz.prog 101 #[.slice A n c,.func (.func 102) #[] #[]] w fun e w'=>e=.returned (.tuple #[bh (Ee l n),.bool (decide (0<n))])/\Below w.heap.size w w':=by
 go_enter Tryz.func101,Tryz.ntmps101;go_wp2_with fail;go_loopw [11] (fun i wr=>∃k:Nat,k<=n/\i=.int .i64 k/\Bb wr w.heap.size 193 (enE ⟨⟨0,false,0,0,0⟩,0⟩).toArray/\Bb wr (w.heap.size+1) 193 (enE (Ee l k)).toArray/\Below w.heap.size w wr) (fun i _=>n-(intOf i).toNat)
 case atStart=>exact⟨0,Nat.zero_le _,rfl,(Bb.new _ _ _).alloc _,Bb.new2 _ _ _ _,(An (An (Below.refl _ _) _) _)⟩
 case round =>
  obtain⟨k,hk,rfl,hB0,hB,hb⟩:=hrel;obtain⟨be,hbe⟩:∃be,Ee l k=be:=⟨_,rfl⟩
  have hstep:=Lib.hid (show Ee l (k+1)=if k=0\/Aiw (ed l k) be<0 then ed l k else be by rw[Ee,hbe])
  rw[hbe] at hB;have HBE:=Lib.hid hbe;clear hbe;obtain⟨⟨b0,b1,b2,b3,b4⟩,b5⟩:=be;obtain⟨m0,m1,m2,m3,m4,m5,m6⟩:=Bb.cells6 hB;have n0:=hB.frozen 0;have n1:=hB.frozen 1;have n2:=hB.frozen 2;have n3:=hB.frozen 3;have n4:=hB.frozen 4;have n5:=hB.frozen 5;by_cases hlt:k<n
  ·obtain⟨-,hs2⟩:=hs.keep hb
   rcases hs2 with h|⟨bb,rfl,hc⟩
   ·omega
   ·obtain⟨ek,hek⟩:∃ek,ed l k=ek:=⟨_,rfl⟩
    have hck:=hc k hlt;rw[hek] at hck hstep;have HEK:=Lib.hid hek;clear hek hc;obtain⟨⟨e0,e1,e2,e3,e4⟩,e5⟩:=ek;have d0:=hck 0 (by omega)
    have d1:=hck 1 (by omega)
    have d2:=hck 2 (by omega)
    have d3:=hck 3 (by omega)
    have d4:=hck 4 (by omega)
    have d5:=hck 5 (by omega)
    simp only[enE,List.getElem?_cons_zero,List.getElem?_cons_succ,Nat.add_zero] at d0 d1 d2 d3 d4 d5;have hbl:bb<wr.heap.size:=Bj d0;clear hck;by_cases hk0:k=0
    ·rw[if_pos (.inl hk0)] at hstep
     have q0:((k:Int) == 0)=true:=by rw[hk0];rfl
     clear hk0;go_wp2_with fail;exact⟨⟨k+1,by omega,by go_num,Bb.alloc (Bb.far (Bb.far (Bb.far (Bb.far (Bb.far (Bb.far hB0 (p:=⟨w.heap.size+1,0,none⟩) (by simp) _) (p:=⟨w.heap.size+1,1,none⟩) (by simp) _) (p:=⟨w.heap.size+1,2,none⟩) (by simp) _) (p:=⟨w.heap.size+1,3,none⟩) (by simp) _) (p:=⟨w.heap.size+1,4,none⟩) (by simp) _) (p:=⟨w.heap.size+1,5,none⟩) (by simp) _) _,by rw[hstep.out];exact Bb.alloc (Bb.set_ (Bb.set_ (Bb.set_ (Bb.set_ (Bb.set_ (Bb.set_ hB 0 _) 1 _) 2 _) 3 _) 4 _) 5 _) _,An (Bc (Bc (Bc (Bc (Bc (Bc hb (p:=⟨w.heap.size+1,0,none⟩) (by simp) _) (p:=⟨w.heap.size+1,1,none⟩) (by simp) _) (p:=⟨w.heap.size+1,2,none⟩) (by simp) _) (p:=⟨w.heap.size+1,3,none⟩) (by simp) _) (p:=⟨w.heap.size+1,4,none⟩) (by simp) _) (p:=⟨w.heap.size+1,5,none⟩) (by simp) _) _⟩,by simp[intOf];omega⟩
    ·have q0:((k:Int) == 0)=false:=by simpa using hk0
     by_cases hcm:Aiw ⟨⟨e0,e1,e2,e3,e4⟩,e5⟩ ⟨⟨b0,b1,b2,b3,b4⟩,b5⟩<0
     ·rw[if_pos (.inr hcm)] at hstep
      clear hk0;have HB1:=Lib.hid ((hB.alloc (.cells (enE ⟨⟨e0,e1,e2,e3,e4⟩,e5⟩).toArray 193)));have HX1:=Lib.hid (Bb.new wr 193 (enE ⟨⟨e0,e1,e2,e3,e4⟩,e5⟩).toArray)
      go_wp2_with (go_at_call 102;refine(Yw ⟨⟨e0,e1,e2,e3,e4⟩,e5⟩ ⟨⟨b0,b1,b2,b3,b4⟩,b5⟩ _).mono ?_;rintro e w5 ⟨rfl,hb5⟩;have hB5:=HB1.out.keep hb5;have hX5:=HX1.out.keep hb5;obtain⟨p0,p1,p2,p3,p4,p5,p6⟩:=Bb.cells6 hB5;obtain⟨x0,x1,x2,x3,x4,x5,x6⟩:=Bb.cells6 hX5;have r0:=hB5.frozen 0;have r1:=hB5.frozen 1;have r2:=hB5.frozen 2;have r3:=hB5.frozen 3;have r4:=hB5.frozen 4;have r5:=hB5.frozen 5)
      exact⟨⟨k+1,by omega,by go_num,(Bb.far (Bb.far (Bb.far (Bb.far (Bb.far (Bb.far (Bb.keep (Bb.alloc hB0 _) hb5) (p:=⟨w.heap.size+1,0,none⟩) (by simp) _) (p:=⟨w.heap.size+1,1,none⟩) (by simp) _) (p:=⟨w.heap.size+1,2,none⟩) (by simp) _) (p:=⟨w.heap.size+1,3,none⟩) (by simp) _) (p:=⟨w.heap.size+1,4,none⟩) (by simp) _) (p:=⟨w.heap.size+1,5,none⟩) (by simp) _),by rw[hstep.out];exact(Bb.set_ (Bb.set_ (Bb.set_ (Bb.set_ (Bb.set_ (Bb.set_ hB5 0 _) 1 _) 2 _) 3 _) 4 _) 5 _),(Bc (Bc (Bc (Bc (Bc (Bc (Ao (An hb _) hb5) (p:=⟨w.heap.size+1,0,none⟩) (by simp) _) (p:=⟨w.heap.size+1,1,none⟩) (by simp) _) (p:=⟨w.heap.size+1,2,none⟩) (by simp) _) (p:=⟨w.heap.size+1,3,none⟩) (by simp) _) (p:=⟨w.heap.size+1,4,none⟩) (by simp) _) (p:=⟨w.heap.size+1,5,none⟩) (by simp) _)⟩,by simp[intOf];omega⟩
     ·rw[if_neg (by simp[hk0];omega)] at hstep
      clear hk0
      go_wp2_with (go_at_call 102;refine(Yw ⟨⟨e0,e1,e2,e3,e4⟩,e5⟩ ⟨⟨b0,b1,b2,b3,b4⟩,b5⟩ _).mono ?_;rintro e w5 ⟨rfl,hb5⟩)
      exact⟨⟨k+1,by omega,by go_num,(hB0.alloc _).keep hb5,by rw[hstep.out];exact(hB.alloc _).keep hb5,Ao (An hb _) hb5⟩,by simp[intOf];omega⟩
  ·obtain rfl:n=k:=by omega
   obtain⟨z0,z1,z2,z3,z4,z5,z6⟩:=Bb.cells6 hB0;have y0:=hB0.frozen 0;have y1:=hB0.frozen 1;have y2:=hB0.frozen 2;have y3:=hB0.frozen 3;have y4:=hB0.frozen 4;have y5:=hB0.frozen 5;have e:bh (Ee l n)=.agg #[.int .i64 b0,.bool b1,.int .i64 b2,.int .i64 b3,.int .i64 b4,.int .i64 b5]:=by rw[HBE.out];rfl
   have HKE:=Lib.hid e;clear e;go_wp2_with fail;refine bodyPost_ret (v:=.tuple #[.agg #[.int .i64 b0,.bool b1,.int .i64 b2,.int .i64 b3,.int .i64 b4,.int .i64 b5],.bool (decide (0<n))]) (by simp[results,Tryz.results101,go_sem,z0,z1,z2,z3,z4,z5]) rfl ⟨by rw[HKE.out],by (repeat first|exact hb|refine Bc ?_ (by dsimp only;omega) _)⟩
end Go.Proofs.YtpbchbcdgikonaaGreat

/- Lean texts of the claim. -/
import Derived.Test.YtpbchbcdgikonaaGreatQ14
namespace Go.Proofs.YtpbchbcdgikonaaGreat
set_option linter.unusedVariables false
set_option linter.unusedSimpArgs false
set_option maxRecDepth 100000
set_option maxHeartbeats 4000000
open Go.RowKit
theorem lu {rx ry:Int} {s:Shp} {fl:Bool} {qu:Int} {sp:List (Int×Int)} (hs:∀p∈sp,okS p):∀k,k<=sp.length->∀p∈Eu rx ry s fl qu sp k,okS p:=by
 intro k;induction k with
 | zero=>simp[Eu]
 | succ k ih =>
   intro hk;rw[Eu];split
   ·exact ih (by omega)
   ·rename_i a ha
    refine Wh (ih (by omega)) (by intro p hp;simp at hp;subst hp;exact Xd (hs _ (List.mem_of_getElem? (Gh (by omega)))) ha)
theorem Aab (b:Bed4) (s:Shp) (fl:Bool) (qu:Int) (l:List (Int×Int)) (pls:List (List (Int×Int))):(Ie b s fl qu l pls).2.length<=2+1075840*pls.length/\∀p∈(Ie b s fl qu l pls).2,okS p:=by
 have h:=Pp b l pls;unfold Ie;split
 ·simp
 ·refine⟨?_,fun p hp=>lu h.2 _ (Nat.le_refl _) p (List.mem_mergeSort.1 hp)⟩
  show (Eh _).length<=_
  rw[F6];exact Nat.le_trans (Lq _ _ _ _ _ _ _) h.1
def tr (ts:List Trn) (k:Nat):Trn:=ts.getD k (false,0)
def Vo (b:Bed4) (S:List Shp) (ps:List Pt5) (sh:Int) (t:Trn) (a:Int×Int):Bool:=Dm b S ps ⟨sh,t.1,t.2,a.1,a.2⟩ == 0
def Oc (b:Bed4) (S:List Shp) (ps:List Pt5) (sh:Int) (t:Trn) (cs:List (Int×Int)):Option Nat:=(List.range cs.length).find? fun i=>Vo b S ps sh t (gt cs i)
def ot (sh:Int) (t:Trn) (r:List (Int×Int)) (a:Int×Int):End6:=⟨⟨sh,t.1,t.2,a.1,a.2⟩,wrap64 (wrap64 (a.1+loX r r.length)+wrap64 (hiX r r.length-loX r r.length))⟩
def Ig (b:Bed4) (S:List Shp) (ps:List Pt5) (sh:Int) (pls:List (List (Int×Int))) (ts:List Trn):Nat->Int×List End6
 | 0=>(0,[])
 | k+1=>if (Ig b S ps sh pls ts k).1≠0 then Ig b S ps sh pls ts k
   else if (Be S ⟨sh,(tr ts k).1,(tr ts k).2,0,0⟩).1≠0 then ((Be S ⟨sh,(tr ts k).1,(tr ts k).2,0,0⟩).1,[])
   else if (Ie b (shp S sh.toNat) (tr ts k).1 (tr ts k).2 (Be S ⟨sh,(tr ts k).1,(tr ts k).2,0,0⟩).2 pls).1≠0 then ((Ie b (shp S sh.toNat) (tr ts k).1 (tr ts k).2 (Be S ⟨sh,(tr ts k).1,(tr ts k).2,0,0⟩).2 pls).1,[])
   else match Oc b S ps sh (tr ts k) (Ie b (shp S sh.toNat) (tr ts k).1 (tr ts k).2 (Be S ⟨sh,(tr ts k).1,(tr ts k).2,0,0⟩).2 pls).2 with
    | none=>(0,(Ig b S ps sh pls ts k).2)
    | some j=>(0,Rx (Ig b S ps sh pls ts k).2 [ot sh (tr ts k) (Be S ⟨sh,(tr ts k).1,(tr ts k).2,0,0⟩).2 (gt (Ie b (shp S sh.toNat) (tr ts k).1 (tr ts k).2 (Be S ⟨sh,(tr ts k).1,(tr ts k).2,0,0⟩).2 pls).2 j)] ⟨⟨0,false,0,0,0⟩,0⟩)
def Ih:Pt5:=⟨0,false,0,0,0⟩
def Jk (r:Int×List End6):Int×Pt5:=if r.1≠0 then (r.1,Ih) else if r.2.length=0 then (18,Ih) else (0,(Ee r.2 r.2.length).put)
def Fw (b:Bed4) (S:List Shp) (ps:List Pt5) (sh:Int):Int×Pt5 :=
 if (Fy b S ps sh false 0).1≠0 then ((Fy b S ps sh false 0).1,Ih)
 else Jk (Ig b S ps sh (Fy b S ps sh false 0).2.2 (sf (shp S sh.toNat).grain false) (sf (shp S sh.toNat).grain false).length)
theorem Wz {b:Bed4} {S:List Shp} {ps:List Pt5} {sh:Int} {pls:List (List (Int×Int))} {ts:List Trn} {k:Nat} {x:Int} (h:Ig b S ps sh pls ts k=(x,[])) (hx:x≠0):∀m,Ig b S ps sh pls ts (k+m)=(x,[]):=by
 intro m;induction m with
 | zero=>exact h
 | succ m ih=>rw[<-Nat.add_assoc,Ig,if_pos (by rw[ih];exact hx)];exact ih
theorem Aan (L:List End6) (x:End6):(Rx L [x] ⟨⟨0,false,0,0,0⟩,0⟩).length<=L.length+1:=Ea _ _ _ _
theorem Wy {b:Bed4} {S:List Shp} {ps:List Pt5} {sh:Int} {pls:List (List (Int×Int))} {ts:List Trn} (k:Nat):(Ig b S ps sh pls ts k).2.length<=k:=by
 induction k with
 | zero=>simp[Ig]
 | succ k ih =>
   rw[Ig];split
   ·omega
   ·split
    ·simp
    ·split
     ·simp
     ·split
      ·exact Nat.le_succ_of_le ih
      ·refine Nat.le_trans (Aan _ _) (by omega)
theorem Ed {S:List Shp} {p:Pt5} (h:(Be S p).1=0):Bf (Be S p).2 (Be S p).2.length=0:=by
 unfold Be at h ⊢;split at h
 ·cases h
 ·rename_i h1
  rw[if_neg h1];unfold Ip at h ⊢;split at h
  ·rename_i h2;exact absurd h h2
  ·rename_i h2
   rw[if_neg h2];split at h
   ·rename_i h3;exact absurd h h3
   ·rename_i h3
    rw[if_neg h3]
    show Bf (Th _ _) (Th _ _).length=0
    rw[Kl,Fg];simpa using h3
theorem wk {b:Bed4} {S:List Shp} {ps:List Pt5} {sh:Int} {fl:Bool} {qu:Int} (h:(Fy b S ps sh fl qu).1=0):Dc b=false/\(Be S ⟨sh,fl,qu,0,0⟩).1=0/\(Fy b S ps sh fl qu).2.2=(Db S ps ps.length).2:=by
 unfold Fy at h ⊢;split at h
 ·cases h
 ·rename_i h1
  rw[if_neg h1];split at h
  ·rename_i h2;exact absurd h h2
  ·rename_i h2
   rw[if_neg h2];split at h
   ·rename_i h3;exact absurd h h3
   ·rename_i h3
    rw[if_neg h3];exact⟨by simpa using h1,by simpa using h2,rfl⟩
def TrS (w:World) (A:Option Addr) (n:Nat) (ts:List Trn):Prop:=ts.length=n/\(n=0\/∃b,A=some ⟨b,0,none⟩/\∀k,k<n->w.cell? ⟨b,k*2,none⟩=some (.bool (tr ts k).1)/\w.cell? ⟨b,k*2+1,none⟩=some (.int .i64 (tr ts k).2))
theorem OwT.trs {w:World} {base:Nat} {v:Value} {l:List Trn} (h:OwG 48 2 enT w base v l):∃A c,v=.slice A l.length c/\TrS w A l.length l/\(0<l.length->∃g,A=some ⟨g,0,none⟩/\base<=g/\g<w.heap.size):=by
 rcases OwG.form h with ⟨rfl,rfl⟩|⟨g,cap,rfl,g1,g2,g3,g4⟩
 ·exact⟨none,0,rfl,⟨rfl,.inl rfl⟩,fun h=>absurd h (by simp)⟩
 ·refine⟨_,cap,rfl,⟨rfl,.inr ⟨g,rfl,fun k hk=>?_⟩⟩,fun _=>⟨g,rfl,g1,g2⟩⟩
  have hk2:l[k]? = some (tr l k):=by unfold tr;rw[List.getD,List.getElem?_eq_getElem hk];rfl
  have c0:=OwG.cells h (k*2) (by omega)
  have c1:=OwG.cells h (k*2+1) (by omega)
  have f0:=Bp Vz l k 0 _ hk2 (by omega)
  rw[Nat.add_zero] at f0;rw[f0] at c0;rw[Bp Vz l k 1 _ hk2 (by omega)] at c1
  exact⟨c0,c1⟩
theorem TrS.keepBlk {w w':World} {sb n:Nat} {l:List Trn} (h:TrS w (some ⟨sb,0,none⟩) n l) (hb:w'.heap[sb]? = w.heap[sb]?):TrS w' (some ⟨sb,0,none⟩) n l:=by
 refine⟨h.1,?_⟩;obtain⟨_,h2⟩:=h;rcases h2 with h2|⟨b,e,h2⟩
 ·exact .inl h2
 ·injection e with e
  injection e with e1
  subst e1;exact .inr ⟨sb,rfl,fun k hk'=>⟨(World.cell?_of_block (w:=w) (a:=⟨sb,k*2,none⟩) hb).trans (h2 k hk').1,(World.cell?_of_block (w:=w) (a:=⟨sb,k*2+1,none⟩) hb).trans (h2 k hk').2⟩⟩
theorem TrS.keep {w w':World} {A:Option Addr} {n:Nat} {l:List Trn} (h:TrS w A n l) (hb:Below w.heap.size w w'):TrS w' A n l:=by
 refine⟨h.1,?_⟩;obtain⟨_,h2⟩:=h;rcases h2 with h2|⟨b,rfl,h2⟩
 ·exact .inl h2
 ·exact .inr ⟨b,rfl,fun k hk=>⟨Aq hb (h2 k hk).1,Aq hb (h2 k hk).2⟩⟩
theorem Aam (g:Int) (m:Bool):∀k,∀t∈Kb g m k,t.1=m/\0<=t.2/\t.2<k:=by
 intro k;induction k with
 | zero=>simp[Kb]
 | succ k ih =>
   intro t ht;rw[Kb] at ht;rcases List.mem_append.1 ht with ht|ht
   ·have:=ih t ht;exact⟨this.1,this.2.1,by omega⟩
   ·split at ht
    ·simp at ht;subst ht;exact⟨rfl,by show (0:Int)<=(k:Int);omega,by show (k:Int)<((k+1:Nat):Int);omega⟩
    ·simp at ht
theorem Ad8 {f:Nat->Bool} {k n:Nat} (hk:k<n) (h:Bq f k=false) (h2:f k=true):(List.range n).find? f=some k:=by
 have e:List.range n=List.range k++(List.range' k (n-k)):=by
  have h:=List.range'_append_1 (s:=0) (m:=k) (n:=n-k);rw[List.range_eq_range',List.range_eq_range',show n=k+(n-k) by omega,<-h];simp
 rw[e,List.find?_append]
 have h3:(List.range k).find? f=none:=by
  rw[List.find?_eq_none];intro x hx hf;exact(List.any_eq_false.1 h) x hx hf
 rw[h3];obtain⟨m,hm⟩:∃m,n-k=m+1:=⟨n-k-1,by omega⟩
 rw[hm,List.range'_succ];simp[h2]
theorem nu {f:Nat->Bool} {n:Nat} (h:Bq f n=false):(List.range n).find? f=none:=by
 rw[List.find?_eq_none];intro x hx hf;exact(List.any_eq_false.1 h) x hx hf
theorem Bb.frz5 {w:World} {g:Nat} {t:TypeId} {cs:Array Value} (h:Bb w g t cs):w.frozen? ⟨g,0,none⟩=false/\w.frozen? ⟨g,1,none⟩=false/\w.frozen? ⟨g,2,none⟩=false/\w.frozen? ⟨g,3,none⟩=false/\w.frozen? ⟨g,4,none⟩=false :=
 ⟨h.frozen 0,h.frozen 1,h.frozen 2,h.frozen 3,h.frozen 4⟩
def Wj (w:World) (r:Int×Pt5) (e:Ending) (w':World):Prop:=e=.returned (.tuple #[Lk r.2,.int .i64 r.1])/\Below w.heap.size w w'
theorem uk (A1 A2:Option Addr) (c1 c2 n1 n2:Nat) (b:Bed4) (S:List Shp) (ps:List Pt5) (sh:Int) (w:World) (hn2:n2<=1000) (hS:ShS w A1 n1 S) (hPu:PuS w A2 n2 ps) (hp:¬(Fy b S ps sh false 0).1=0) :
 Calls Tryz.prog 63 #[Hz b,.slice A1 n1 c1,.slice A2 n2 c2,.int .i64 sh] w (Wj w ((Fy b S ps sh false 0).1,Ih)):=by
 have q:((Fy b S ps sh false 0).1 != 0)=true:=by simpa using hp
 clear hp;obtain⟨x,hx⟩:∃x,(Fy b S ps sh false 0).1=x:=⟨_,rfl⟩
 rw[hx] at q ⊢;have HX:=Lib.hid hx;clear hx;obtain⟨len,wid,rx,ry⟩:=b;unfold Hz;dsimp only;have hbw:=Lib.hid (show Below w.heap.size w ((w.alloc (.cells #[.int .i64 len,.int .i64 wid,.int .i64 rx,.int .i64 ry] 33)).alloc (.cells #[.int .i64 0,.bool false,.int .i64 0,.int .i64 0,.int .i64 0] 89)) from (An (An (Below.refl _ _) _) _))
 have H1:=Lib.hid (Bb.new2 w (.cells #[.int .i64 len,.int .i64 wid,.int .i64 rx,.int .i64 ry] 33) 89 #[.int .i64 0,.bool false,.int .i64 0,.int .i64 0,.int .i64 0]);go_enter Tryz.func63,Tryz.ntmps63
 go_wp2_with (go_at_call 97;refine(Xn A1 A2 c1 c2 n1 n2 ⟨len,wid,rx,ry⟩ S ps sh false 0 _ (by omega) (hS.keep hbw.out) (hPu.keep hbw.out)).mono ?_;rintro e w1 ⟨v1,v2,rfl,ho1,ho2,hb1⟩;rw[HX.out];have k1:=H1.out.keep hb1;obtain⟨a1,a2,a3,a4,a5,a6⟩:=k1.cells5;obtain⟨f1,f2,f3,f4,f5⟩:=k1.frz5)
 exact bodyPost_ret (v:=.tuple #[Lk Ih,.int .i64 x]) (by simp[results,Tryz.results63,go_sem,a1,a2,a3,a4,a5,Lk,Ih]) rfl ⟨rfl,by have hbb:=Ao hbw.out hb1;(repeat first|exact hbb|refine Bc ?_ (by dsimp only;omega) _)⟩
theorem Acg (A1 A2:Option Addr) (c1 c2 n1 n2:Nat) (b:Bed4) (S:List Shp) (ps:List Pt5) (sh:Int) (w:World) (hn2:n2<=1000) (hS:ShS w A1 n1 S) (hPu:PuS w A2 n2 ps) (hp:(Fy b S ps sh false 0).1=0) :
 Calls Tryz.prog 63 #[Hz b,.slice A1 n1 c1,.slice A2 n2 c2,.int .i64 sh] w (Wj w (Jk (Ig b S ps sh (Fy b S ps sh false 0).2.2 (sf (shp S sh.toNat).grain false) (sf (shp S sh.toNat).grain false).length))):=by
 obtain⟨hb0,hp1,hp2⟩:=wk hp;obtain⟨k,hk,hkn,hkt⟩:=Xo hp1;dsimp only at hk hkn hkt;have hplm:=Gu S ps ps.length;rw[hkt];obtain⟨pls,hpls⟩:∃pls,(Fy b S ps sh false 0).2.2=pls:=⟨_,rfl⟩
 rw[hpls] at hp2 ⊢;rw[<-hp2,hPu.1] at hplm;have hpl1:=hplm.1;have HPL:=Lib.hid (show ∀t∈pls,t.length<=1000 from fun t ht=>Nat.le_trans (hplm.2 t ht) (by omega))
 have HPLS:=Lib.hid hpls;have HP:=Lib.hid hp;clear hpls hp2 hp1 hp hplm hkt hb0;subst hk;have hn1:k<n1:=by rw[<-hS.1];exact hkn
 have hn1':=hS.2.1;have HSL:=Lib.hid hS.1;clear hkn;obtain⟨ba,oa,rfl,hbl,hsh⟩:=hS.at_ hn1;have HSH:=Lib.hid hsh;obtain⟨s,hs⟩:∃s,shp S k=s:=⟨_,rfl⟩
 rw[hs] at HSH ⊢;have HSS:=Lib.hid hs;clear hs hsh hbl;obtain⟨ts,hts⟩:∃ts,sf s.grain false=ts:=⟨_,rfl⟩
 rw[hts];have htsl:ts.length<=4:=by rw[<-hts];exact Ov _ _ 4
 have HTI:=Lib.hid (show ∀t∈ts,inR t.2 from fun t ht=>by rw[<-hts] at ht;have:=Aam s.grain false 4 t ht;unfold inR;omega)
 have HTS:=Lib.hid hts;clear hts;obtain⟨nt,hnt⟩:∃nt,ts.length=nt:=⟨_,rfl⟩
 rw[hnt] at htsl ⊢;have HNT:=Lib.hid hnt;clear hnt;obtain⟨len,wid,rx,ry⟩:=b;unfold Hz;dsimp only;have hbw:=Lib.hid (show Below w.heap.size w ((w.alloc (.cells #[.int .i64 len,.int .i64 wid,.int .i64 rx,.int .i64 ry] 33)).alloc (.cells #[.int .i64 0,.bool false,.int .i64 0,.int .i64 0,.int .i64 0] 89)) from (An (An (Below.refl _ _) _) _))
 have H0:=Lib.hid ((Bb.new w 33 #[.int .i64 len,.int .i64 wid,.int .i64 rx,.int .i64 ry]).alloc (.cells #[.int .i64 0,.bool false,.int .i64 0,.int .i64 0,.int .i64 0] 89));have H1:=Lib.hid (Bb.new2 w (.cells #[.int .i64 len,.int .i64 wid,.int .i64 rx,.int .i64 ry] 33) 89 #[.int .i64 0,.bool false,.int .i64 0,.int .i64 0,.int .i64 0]);go_enter Tryz.func63,Tryz.ntmps63
 go_upto_region 4 with (go_at_call 97;refine(Xn _ A2 c1 c2 n1 n2 ⟨len,wid,rx,ry⟩ S ps (k:Int) false 0 _ (by omega) (hS.keep hbw.out) (hPu.keep hbw.out)).mono ?_;rintro e w1 ⟨v1,v2,rfl,ho1,ho2,hb1⟩;rw[HPLS.out] at ho2;rw[HP.out])
 obtain⟨Ap,cp,rfl,hcp,hSp,-⟩:=ho2.spss;have hbA:=Ao hbw.out hb1;have hSA:=hS.keep hbA;have hPA:=hPu.keep hbA;have K0:=Lib.hid (H0.out.keep hb1);have K1:=Lib.hid (H1.out.keep hb1);have hshA:=HSH.out.keep hbA;clear ho1 ho2 hb1 hbw H0 H1 hS hPu HSH;obtain⟨np,hnp⟩:∃np,pls.length=np:=⟨_,rfl⟩
 rw[hnp] at hSp hcp hpl1 ⊢;clear hnp;obtain⟨spl,gr,mt,⟨ax,ay⟩⟩:=s;obtain⟨Ak,ck,g1,g2,g3,g4,g5,g6,g7,g8,g9⟩:=hshA;dsimp only at g1 g2 g4 g6 g7 g8 g9 HTS;obtain⟨nk,hnk⟩:∃nk,spl.length=nk:=⟨_,rfl⟩
 rw[hnk] at g1 g2 g4;clear hnk g2 g3 g4 g5;obtain⟨BB,hBB⟩:∃BB,BB=w1.heap.size:=⟨_,rfl⟩
 have hg0:=Lib.hid (ti.new w1);rw[<-hBB] at hg0;have g6':(w1.alloc (.cells #[.map none,.slice none 0 0] 187)).cell? ⟨ba,oa+k*5+1,none⟩=some (.int .i64 gr):=Aq (An (Below.refl _ _) _) g6
 go_upto_region 6 with (go_at_call 98;refine(Ae0 _ _ _).mono ?_;rintro e w2 ⟨v3,rfl,ho3,hb3⟩;rw[HTS.out] at ho3;obtain⟨At,ct,rfl,hTt,hAt⟩:=OwT.trs ho3;rw[HNT.out] at hTt hAt ⊢)
 rw[<-hBB];have hBB1:w1.heap.size<=BB:=by omega
 have hBB2:BB<=w1.heap.size:=by omega
 have hg2:=hg0.out.keep hb3;have hb2:Below w1.heap.size w1 w2:=Ao (An (Below.refl _ _) _) hb3;have hz3:=hb3.size;simp at hz3
 obtain⟨sb,hsb⟩:∃sb,0<nt->At=some ⟨sb,0,none⟩/\AvE w2 BB sb:=by
  rcases Nat.eq_zero_or_pos nt with h0|h0
  ·exact⟨0,fun h=>by omega⟩
  ·obtain⟨g,rfl,q1,q2⟩:=hAt h0
   exact⟨g,fun _=>⟨rfl,hg2.av (by simp at q1;omega) q2⟩⟩
 have HG2:=Lib.hid (show ti w2 BB w2.heap.size (Ig ⟨len,wid,rx,ry⟩ S ps (k:Int) pls ts 0).2 from hg2.mono (by omega))
 clear hg0 hg2 hb3 ho3 hAt g6' hz3 hBB;go_loopw [46] (fun i wr=>∃j:Nat,j<=nt/\i=.int .i64 j/\Hid ((Ig ⟨len,wid,rx,ry⟩ S ps (k:Int) pls ts j).1=0)/\ti wr BB wr.heap.size (Ig ⟨len,wid,rx,ry⟩ S ps (k:Int) pls ts j).2/\TrS wr At nt ts/\(0<nt->AvE wr BB sb)/\Below w1.heap.size w1 wr) (fun i _=>nt-(intOf i).toNat)
 case atStart=>exact⟨0,Nat.zero_le _,rfl,Lib.hid rfl,HG2.out,hTt,fun h=>(hsb h).2,hb2⟩
 case round =>
  clear HG2 hTt hb2;obtain⟨j,hj,rfl,hz,hg,hTt,hav,hbr⟩:=hrel;by_cases hlt:j<nt
  ·obtain⟨rfl,-⟩:=hsb (by omega)
   have hav':=hav (by omega)
   obtain⟨-,hT2⟩:=hTt;rcases hT2 with h|⟨sb',eq1,hT2⟩
   ·omega
   ·injection eq1 with eq1
    injection eq1 with eq1
    subst eq1;obtain⟨d1,d2⟩:=hT2 j hlt;have hTt:TrS wr (some ⟨sb,0,none⟩) nt ts:=⟨HNT.out,.inr ⟨sb,rfl,hT2⟩⟩;have hstep:=Lib.hid (show Ig ⟨len,wid,rx,ry⟩ S ps (k:Int) pls ts (j+1)=_ by rw[Ig,if_neg (by rw[hz.out];simp)])
    rw[Int.toNat_natCast,HSS.out] at hstep;have hti:inR (tr ts j).2:=HTI.out _ (by unfold tr;rw[List.getD,List.getElem?_eq_getElem (by rw[HNT.out];exact hlt)];exact List.getElem_mem _)
    obtain⟨tj,htj⟩:∃tj,tr ts j=tj:=⟨_,rfl⟩
    rw[htj] at d1 d2 hstep hti;clear htj hT2;obtain⟨tf,tq⟩:=tj;dsimp only at d1 d2 hstep hti;have hsl:sb<wr.heap.size:=Bj d1;have hchk:=fun h=>Ed (S:=S) (p:=⟨(k:Int),tf,tq,0,0⟩) h
    have hrl:=Fj S ⟨(k:Int),tf,tq,0,0⟩;obtain⟨r,hr⟩:∃r,Be S ⟨(k:Int),tf,tq,0,0⟩=r:=⟨_,rfl⟩
    rw[hr] at hstep hchk hrl;have HR:=Lib.hid hr;clear hr;obtain⟨r1,r⟩:=r;dsimp only at hstep hchk hrl;by_cases hr1:r1=0
    ·subst hr1
     have hck:=hchk rfl;have HCK:=Lib.hid hck;have hcl:=D9 hck;rw[if_neg (by simp)] at hstep
     clear hchk hck;obtain⟨nr,hnr⟩:∃nr,r.length=nr:=⟨_,rfl⟩
     rw[hnr] at hrl HCK hcl;have HNR:=Lib.hid hnr;clear hnr
     go_upto_region 14 with (first|(go_at_call 26;refine(Bu _ _ _ S ⟨(k:Int),tf,tq,0,0⟩ _ (hSA.keep (An hbr _))).mono ?_;rintro e w5 ⟨v5,rfl,ho5,hb5⟩;rw[HR.out] at ho5 ⊢;obtain⟨A5,c5,rfl,hc5,hS5,hA5⟩:=OwS.sps ho5;rw[HNR.out] at hS5 hc5 hA5 ⊢;obtain⟨gb,rfl,hgb1,hgb2⟩:=hA5 (by omega))|(go_at_call 17;refine(Ab0 _ _ _ _ r _ (by omega) hc5 hS5 HCK.out (by omega)).mono ?_;rintro e w6 ⟨rfl,hb6⟩))
     obtain⟨T15,hT15⟩:∃T15,T15=wr.heap.size:=⟨_,rfl⟩
     obtain⟨T18,hT18⟩:∃T18,T18=w6.heap.size:=⟨_,rfl⟩
     rw[<-hT15,<-hT18];have hbX:Below wr.heap.size wr (w6.alloc (.cells #[.int .i64 (loX r nr),.int .i64 (loY r nr),.int .i64 (wrap64 (hiX r nr-loX r nr)),.int .i64 (wrap64 (hiY r nr-loY r nr))] 66)):=An (Ao (Ao (An (Below.refl _ _) _) hb5) hb6) _;have x1:Bb (w6.alloc (.cells #[.int .i64 (loX r nr),.int .i64 (loY r nr),.int .i64 (wrap64 (hiX r nr-loX r nr)),.int .i64 (wrap64 (hiY r nr-loY r nr))] 66)) T15 48 #[.bool tf,.int .i64 tq]:=by rw[hT15];exact(((Bb.new wr _ _).keep hb5).keep hb6).alloc _
     have x2:Bb (w6.alloc (.cells #[.int .i64 (loX r nr),.int .i64 (loY r nr),.int .i64 (wrap64 (hiX r nr-loX r nr)),.int .i64 (wrap64 (hiY r nr-loY r nr))] 66)) T18 66 #[.int .i64 (loX r nr),.int .i64 (loY r nr),.int .i64 (wrap64 (hiX r nr-loX r nr)),.int .i64 (wrap64 (hiY r nr-loY r nr))]:=by rw[hT18];exact Bb.new _ _ _
     have hBw:BB<wr.heap.size:=by obtain⟨_,_,q,_⟩:=hg;exact q.lt
     refine Cw (fun X=>Below w1.heap.size w1 X/\Bb X T15 48 #[.bool tf,.int .i64 tq]/\Bb X T18 66 #[.int .i64 (loX r nr),.int .i64 (loY r nr),.int .i64 (wrap64 (hiX r nr-loX r nr)),.int .i64 (wrap64 (hiY r nr-loY r nr))]/\SpS X (some ⟨gb,0,none⟩) nr r/\ti X BB X.heap.size (Ig ⟨len,wid,rx,ry⟩ S ps (k:Int) pls ts j).2/\TrS X (some ⟨sb,0,none⟩) nt ts/\AvE X BB sb) ⟨Ao hbr hbX,x1,x2,(hS5.keep hb6).keep (An (Below.refl _ _) _),(hg.keep hbX).mono hbX.size,hTt.keep hbX,hav'.keep hBw hbX⟩ ?_
     clear x1 x2 hbX hBw hg hTt hav hav' hbr hS5 hb5 hb6 ho5 hT15 hT18 d1 d2 hsl hgb1 hgb2;rintro X ⟨hbr,x1,x2,hS5,hg,hTt,hav⟩;obtain⟨a1,a2,a3,a4,a5⟩:=(K0.out.keep hbr).cells4;obtain⟨t1,t2,t3,t4,t5⟩:=x1.cells2;have s1:=Aq hbr g1;have s2:=Aq hbr g6;have s3:=Aq hbr g7;have s4:=Aq hbr g8;have s5:=Aq hbr g9;have hcok:=Aab ⟨len,wid,rx,ry⟩ ⟨spl,gr,mt,(ax,ay)⟩ tf tq r pls;obtain⟨cw,hcw⟩:∃cw,Ie ⟨len,wid,rx,ry⟩ ⟨spl,gr,mt,(ax,ay)⟩ tf tq r pls=cw:=⟨_,rfl⟩
     rw[hcw] at hstep hcok;have HCW:=Lib.hid hcw;clear hcw;obtain⟨e1,cs⟩:=cw;dsimp only at hstep hcok;go_cut [19,17] (fun v19 v17 wx=>v17=.int .i64 e1/\OwS wx X.heap.size v19 cs/\Below X.heap.size X wx)
     case first =>
      go_region_held3 (fun w'=>w'.cell? ⟨w.heap.size,0,none⟩=some (.int .i64 len)/\w'.cell? ⟨w.heap.size,1,none⟩=some (.int .i64 wid)/\w'.cell? ⟨w.heap.size,2,none⟩=some (.int .i64 rx)/\w'.cell? ⟨w.heap.size,3,none⟩=some (.int .i64 ry)/\w'.cell? ⟨T15,0,none⟩=some (.bool tf)/\w'.cell? ⟨T15,1,none⟩=some (.int .i64 tq)/\w'.cell? ⟨ba,oa+k*5,none⟩=some (.slice Ak nk ck)/\w'.cell? ⟨ba,oa+k*5+1,none⟩=some (.int .i64 gr)/\w'.cell? ⟨ba,oa+k*5+2,none⟩=some (.bool mt)/\w'.cell? ⟨ba,oa+k*5+3,none⟩=some (.int .i64 ax)/\w'.cell? ⟨ba,oa+k*5+4,none⟩=some (.int .i64 ay))
       (first
        | go_keep
        | exact⟨Aq hb8 a1,Aq hb8 a2,Aq hb8 a3,Aq hb8 a4,Aq hb8 t1,Aq hb8 t2,Aq hb8 s1,Aq hb8 s2,Aq hb8 s3,Aq hb8 s4,Aq hb8 s5⟩)
       ((first
         | (go_at_call 99;refine(Aaa _ _ Ak _ _ _ _ nk ck ⟨len,wid,rx,ry⟩ ⟨spl,gr,mt,(ax,ay)⟩ tf tq r pls _ (by omega) (by omega) HPL.out hc5 (hS5.keep (Aw (Below.refl _ _))) (hSp.keep (Aw hbr))).mono ?_;rintro e w8 ⟨v8,rfl,ho8,hb8⟩;rw[HCW.out] at ho8 ⊢)))
      all_goals go_wp2_with fail
      all_goals go_meet
      all_goals exact⟨rfl,ho8,Ao (Aw (Below.refl _ _)) hb8⟩
     case rest =>
      obtain⟨rfl,ho,hbx⟩:=hcut;clear a1 a2 a3 a4 a5 t1 t2 t3 t4 t5 s1 s2 s3 s4 s5;by_cases he1:e1=0
      ·subst he1
       rw[if_neg (by simp)] at hstep
       obtain⟨Ac,cc,rfl,hcc,hSc,-⟩:=OwS.sps ho;have HCOK:=Lib.hid hcok.2;have hcl2:=hcok.1;obtain⟨nc,hnc⟩:∃nc,cs.length=nc:=⟨_,rfl⟩
       rw[hnc] at hcc hSc hcl2 ⊢;have HNC:=Lib.hid hnc;have hpn:=hSp.1;rw[hpn] at hcl2;have hst2:=Lib.hid (show Oc ⟨len,wid,rx,ry⟩ S ps (k:Int) (tf,tq) cs=(List.range nc).find? fun i=>Vo ⟨len,wid,rx,ry⟩ S ps (k:Int) (tf,tq) (gt cs i) by unfold Oc;rw[hnc])
       clear hnc hpn hcok ho;have hbX:=Ao hbr hbx;have y1:=x1.keep hbx;have y2:=x2.keep hbx;have hg1:=(hg.keep hbx).mono hbx.size;have hTt1:=hTt.keep hbx;have hBX:BB<X.heap.size:=by obtain⟨_,_,q,_⟩:=hg;exact q.lt
       have hav1:=hav.keep hBX hbx;clear x1 x2 hg hTt hav hS5 hbr hBX;obtain⟨wo,hwo⟩:∃wo:World,wo=wc:=⟨_,rfl⟩
       rw[<-hwo] at hbx hSc hbX y1 y2 hg1 hTt1 hav1 ⊢;clear hwo hbx;have hBw:BB<wo.heap.size:=by obtain⟨_,_,q,_⟩:=hg1;exact q.lt
       have Y1:=Lib.hid y1;have Y2:=Lib.hid y2;clear y1 y2;go_wp2_with fail;go_loopw [89] (fun i wx=>∃m:Nat,m<=nc/\i=.int .i64 m/\Hid (Bq (fun i=>Vo ⟨len,wid,rx,ry⟩ S ps (k:Int) (tf,tq) (gt cs i)) m=false)/\Below wo.heap.size wo wx) (fun i _=>nc-(intOf i).toNat)
       case atStart=>exact⟨0,Nat.zero_le _,rfl,Lib.hid (Bq.zero _),Below.refl _ _⟩
       case round =>
        obtain⟨m,hm,rfl,hf,hbm⟩:=hrel;by_cases hmn:m<nc
        ·obtain⟨bc,oc,rfl,hblc,hccc⟩:=(hSc.keep hbm).at_ hmn
         obtain⟨d1,d2⟩:=hccc m hmn;clear hccc;have hokm:okS (gt cs m):=HCOK.out _ (List.mem_of_getElem? (Gh (by rw[HNC.out];exact hmn)))
         obtain⟨a1,a2,a3,a4,a5⟩:=(K0.out.keep (Ao hbX hbm)).cells4;obtain⟨t1,t2,t3,t4,t5⟩:=(Y1.out.keep hbm).cells2;obtain⟨px,hpx⟩:∃px,gt cs m=px:=⟨_,rfl⟩
         rw[hpx] at d1 d2 hokm;have HPX:=Lib.hid hpx;clear hpx;obtain⟨px,py⟩:=px;dsimp only at d1 d2;by_cases hfit:Dm ⟨len,wid,rx,ry⟩ S ps ⟨(k:Int),tf,tq,px,py⟩=0
         ·have q9:(Dm ⟨len,wid,rx,ry⟩ S ps ⟨(k:Int),tf,tq,px,py⟩ == 0)=true:=by simpa using hfit
          rw[hst2.out,Ad8 hmn hf.out (show Vo ⟨len,wid,rx,ry⟩ S ps (k:Int) (tf,tq) (gt cs m)=true by rw[HPX.out];exact q9)] at hstep
          dsimp only at hstep;rw[HPX.out] at hstep;have hex:ot (k:Int) (tf,tq) r (px,py)=⟨⟨(k:Int),tf,tq,px,py⟩,wrap64 (wrap64 (px+loX r nr)+wrap64 (hiX r nr-loX r nr))⟩:=by unfold ot;rw[HNR.out]
          rw[hex] at hstep;clear hex hfit
          go_upto_region 22 with (go_at_call 69;refine(Rh _ _ _ _ _ _ ⟨len,wid,rx,ry⟩ S ps ⟨(k:Int),tf,tq,px,py⟩ _ (by omega) (hSA.keep (An (An (Ao hbX hbm) _) _)) (hPA.keep (An (An (Ao hbX hbm) _) _))).mono ?_;rintro e w9 ⟨rfl,hb9⟩)
          have hbo:Below wo.heap.size wo w9:=Ao (An (An hbm _) _) hb9;obtain⟨z1,z2,z3,z4,z5⟩:=(Y2.out.keep hbo).cells4;obtain⟨m1,m2,m3,m4,m5⟩:=(((Bb.new wr 49 #[.int .i64 px,.int .i64 py]).alloc (.cells #[.int .i64 (k:Int),.bool tf,.int .i64 tq,.int .i64 px,.int .i64 py] 89)).keep hb9).cells2;obtain⟨o1,o2,o3,o4,o5,o6⟩:=((Bb.new2 wr (.cells #[.int .i64 px,.int .i64 py] 49) 89 #[.int .i64 (k:Int),.bool tf,.int .i64 tq,.int .i64 px,.int .i64 py]).keep hb9).cells5;have hbO:Below w9.heap.size w9 (w9.alloc (.cells #[.int .i64 (k:Int),.bool tf,.int .i64 tq,.int .i64 px,.int .i64 py,.int .i64 (wrap64 (wrap64 (px+loX r nr)+wrap64 (hiX r nr-loX r nr)))] 193)):=An (Below.refl _ _) _;have hB9:BB<w9.heap.size:=Nat.lt_of_lt_of_le hBw hbo.size;have hgO:=Lib.hid (((hg1.keep hbo).mono hbo.size).keep hbO);have haO:=Lib.hid ((hav1.keep hBw hbo).keep hB9 hbO);have hTO:=Lib.hid ((hTt1.keep hbo).keep hbO);have hXO:=Lib.hid (Bb.new w9 193 #[.int .i64 (k:Int),.bool tf,.int .i64 tq,.int .i64 px,.int .i64 py,.int .i64 (wrap64 (wrap64 (px+loX r nr)+wrap64 (hiX r nr-loX r nr)))]);have hlO:(Ig ⟨len,wid,rx,ry⟩ S ps (k:Int) pls ts j).2.length<=1000000000000:=Nat.le_trans (Wy j) (by omega)
          have HBO:=Lib.hid (Ao hbX (Ao hbo hbO))
          have hokO:∀x∈[(⟨⟨(k:Int),tf,tq,px,py⟩,wrap64 (wrap64 (px+loX r nr)+wrap64 (hiX r nr-loX r nr))⟩:End6)],okE x:=by
           intro x hx;simp at hx;subst hx;exact⟨by show inR (k:Int);unfold inR;omega,hti,hokm.1,hokm.2,Fu _⟩
          have HOKO:=Lib.hid hokO;clear hbO hb9 hbm hbo hokO
          go_wp2_with (go_at_call 100;refine(Aao BB w9.heap.size w9.heap.size 1 1 (Ig ⟨len,wid,rx,ry⟩ S ps (k:Int) pls ts j).2 [⟨⟨(k:Int),tf,tq,px,py⟩,wrap64 (wrap64 (px+loX r nr)+wrap64 (hiX r nr-loX r nr))⟩] _ rfl (by omega) hlO hXO.out (Nat.le_refl _) HOKO.out hgO.out sb haO.out).mono ?_;rintro e w8 ⟨rfl,hg8,hb8,hz8,hh8,hv8⟩)
          exact⟨⟨j+1,by omega,by go_num,Lib.hid (by rw[hstep.out]),by rw[hstep.out];exact hg8,hTO.out.keepBlk hh8,fun _=>hv8,HBO.out.trans (hb8.mono hBB1)⟩,by simp[intOf];omega⟩
         ·have q9:(Dm ⟨len,wid,rx,ry⟩ S ps ⟨(k:Int),tf,tq,px,py⟩ == 0)=false:=by simpa using hfit
          have hf1:=Bq.succ hf.out (show Vo ⟨len,wid,rx,ry⟩ S ps (k:Int) (tf,tq) (gt cs m)=false by rw[HPX.out];exact q9)
          have HF1:=Lib.hid hf1;clear hf1 hfit
          go_wp2_with (go_at_call 69;refine(Rh _ _ _ _ _ _ ⟨len,wid,rx,ry⟩ S ps ⟨(k:Int),tf,tq,px,py⟩ _ (by omega) (hSA.keep (An (An (Ao hbX hbm) _) _)) (hPA.keep (An (An (Ao hbX hbm) _) _))).mono ?_;rintro e w9 ⟨rfl,hb9⟩)
          exact⟨⟨m+1,by omega,by go_num,HF1,Ao (An (An hbm _) _) hb9⟩,by simp[intOf];omega⟩
        ·obtain rfl:nc=m:=by omega
         rw[hst2.out,nu hf.out] at hstep;dsimp only at hstep;go_wp2_with fail;exact⟨⟨j+1,by omega,by go_num,Lib.hid (by rw[hstep.out]),by rw[hstep.out];exact(hg1.keep hbm).mono hbm.size,hTt1.keep hbm,fun _=>hav1.keep hBw hbm,Ao hbX hbm⟩,by simp[intOf];omega⟩
      ·have qo:(e1 != 0)=true:=by simpa using he1
       rw[if_pos he1] at hstep;have hbad:=Wz hstep.out he1 (nt-(j+1));rw[show j+1+(nt-(j+1))=nt by omega] at hbad
       have HF:=Lib.hid (show Jk (Ig ⟨len,wid,rx,ry⟩ S ps (k:Int) pls ts nt)=(e1,Ih) by rw[hbad];unfold Jk;rw[if_pos he1])
       clear hbad he1;have k1:=K1.out.keep (Ao hbr hbx);obtain⟨a1,a2,a3,a4,a5,a6⟩:=k1.cells5;obtain⟨f1,f2,f3,f4,f5⟩:=k1.frz5;go_wp2_with fail;exact bodyPost_ret (v:=.tuple #[Lk Ih,.int .i64 e1]) (by simp[results,Tryz.results63,go_sem,a1,a2,a3,a4,a5,Lk,Ih]) rfl ⟨by rw[HF.out],by have hbb:=Ao hbA (Ao hbr hbx);(repeat first|exact hbb|refine Bc ?_ (by dsimp only;omega) _)⟩
    ·have qo:(r1 != 0)=true:=by simpa using hr1
     rw[if_pos hr1] at hstep;have hbad:=Wz hstep.out hr1 (nt-(j+1));rw[show j+1+(nt-(j+1))=nt by omega] at hbad
     have HF:=Lib.hid (show Jk (Ig ⟨len,wid,rx,ry⟩ S ps (k:Int) pls ts nt)=(r1,Ih) by rw[hbad];unfold Jk;rw[if_pos hr1])
     clear hbad hr1 hchk
     go_wp2_with (go_at_call 26;refine(Bu _ _ _ S ⟨(k:Int),tf,tq,0,0⟩ _ (hSA.keep (An hbr _))).mono ?_;rintro e w5 ⟨v5,rfl,ho5,hb5⟩;rw[HR.out];have k1:=K1.out.keep (Ao (An hbr _) hb5);obtain⟨a1,a2,a3,a4,a5,a6⟩:=k1.cells5;obtain⟨f1,f2,f3,f4,f5⟩:=k1.frz5)
     exact bodyPost_ret (v:=.tuple #[Lk Ih,.int .i64 r1]) (by simp[results,Tryz.results63,go_sem,a1,a2,a3,a4,a5,Lk,Ih]) rfl ⟨by rw[HF.out],by have hbb:=Ao hbA (Ao (An hbr _) hb5);(repeat first|exact hbb|refine Bc ?_ (by dsimp only;omega) _)⟩
  ·obtain rfl:nt=j:=by omega
   obtain⟨mv,sv,k1,k2,-,-,-⟩:=hg;obtain⟨A7,c7,rfl,hE7⟩:=OwE.ens k2;have hl7:=Wy (b:=⟨len,wid,rx,ry⟩) (S:=S) (ps:=ps) (sh:=(k:Int)) (pls:=pls) (ts:=ts) nt;obtain⟨L,hL⟩:∃L,(Ig ⟨len,wid,rx,ry⟩ S ps (k:Int) pls ts nt).2=L:=⟨_,rfl⟩
   have HF:=Lib.hid (show Jk (Ig ⟨len,wid,rx,ry⟩ S ps (k:Int) pls ts nt)=if L.length=0 then (18,Ih) else (0,(Ee L L.length).put) by unfold Jk;rw[if_neg (by rw[hz.out];simp),hL])
   rw[hL] at k1 hE7 hl7;clear hL k2 hsb hTt hav hlt;obtain⟨n7,hn7⟩:∃n7,L.length=n7:=⟨_,rfl⟩
   rw[hn7] at k1 hE7 hl7 HF;clear hn7;obtain⟨b1,b2,b3,b4,b5⟩:=k1.cells2;obtain⟨le,hle⟩:∃le,Ee L n7=le:=⟨_,rfl⟩
   rw[hle] at HF;have HLE:=Lib.hid hle;clear hle;obtain⟨⟨e1,e2,e3,e4,e5⟩,e6⟩:=le;dsimp only at HF;have K2:=Lib.hid (K1.out.keep hbr);by_cases h7:n7=0
   ·rw[if_pos h7] at HF
    have q7:decide (0<n7)=false:=by simp[h7]
    clear h7
    go_upto_region 26 with (go_at_call 101;refine(Tl A7 _ n7 L _ (by omega) hE7).mono ?_;rintro e w8 ⟨rfl,hb8⟩;rw[HLE.out];unfold bh;dsimp only)
    obtain⟨T23,hT23⟩:∃T23,T23=w8.heap.size:=⟨_,rfl⟩
    rw[<-hT23];refine Cw (fun X=>Below w.heap.size w X/\Bb X T23 193 #[.int .i64 e1,.bool e2,.int .i64 e3,.int .i64 e4,.int .i64 e5,.int .i64 e6]/\Bb X (w.heap.size+1) 89 #[.int .i64 0,.bool false,.int .i64 0,.int .i64 0,.int .i64 0]) ⟨An (Ao hbA (Ao hbr hb8)) _,by rw[hT23];exact Bb.new _ _ _,(K2.out.keep hb8).alloc _⟩ ?_
    clear hT23 hb8 b1 b2 b3 b4 b5 hE7 k1 hbr;rintro X ⟨hbF,kX,k1'⟩;obtain⟨a1,a2,a3,a4,a5,a6⟩:=k1'.cells5;obtain⟨f1,f2,f3,f4,f5⟩:=k1'.frz5;obtain⟨c1',c2',c3',c4',c5',c6',c7'⟩:=kX.cells6;have HBF:=Lib.hid hbF;clear hbF;go_wp2_with fail;exact bodyPost_ret (v:=.tuple #[Lk Ih,.int .i64 18]) (by simp[results,Tryz.results63,go_sem,a1,a2,a3,a4,a5,Lk,Ih]) rfl ⟨by rw[HF.out],by have hbb:=HBF.out;(repeat first|exact hbb|refine Bc ?_ (by dsimp only;omega) _)⟩
   ·rw[if_neg h7] at HF
    have q7:decide (0<n7)=true:=by simp;omega
    clear h7
    go_upto_region 26 with (go_at_call 101;refine(Tl A7 _ n7 L _ (by omega) hE7).mono ?_;rintro e w8 ⟨rfl,hb8⟩;rw[HLE.out];unfold bh;dsimp only)
    obtain⟨T23,hT23⟩:∃T23,T23=w8.heap.size:=⟨_,rfl⟩
    rw[<-hT23];refine Cw (fun X=>Below w.heap.size w X/\Bb X T23 193 #[.int .i64 e1,.bool e2,.int .i64 e3,.int .i64 e4,.int .i64 e5,.int .i64 e6]/\Bb X (w.heap.size+1) 89 #[.int .i64 0,.bool false,.int .i64 0,.int .i64 0,.int .i64 0]) ⟨An (Ao hbA (Ao hbr hb8)) _,by rw[hT23];exact Bb.new _ _ _,(K2.out.keep hb8).alloc _⟩ ?_
    clear hT23 hb8 b1 b2 b3 b4 b5 hE7 k1 hbr;rintro X ⟨hbF,kX,k1'⟩;obtain⟨a1,a2,a3,a4,a5,a6⟩:=k1'.cells5;obtain⟨f1,f2,f3,f4,f5⟩:=k1'.frz5;obtain⟨c1',c2',c3',c4',c5',c6',c7'⟩:=kX.cells6;have HBF:=Lib.hid hbF;clear hbF;go_wp2_with fail;exact bodyPost_ret (v:=.tuple #[Lk ⟨e1,e2,e3,e4,e5⟩,.int .i64 0]) (by simp[results,Tryz.results63,go_sem,a1,a2,a3,a4,a5,Lk,Ih]) rfl ⟨by rw[HF.out],by have hbb:=HBF.out;(repeat first|exact hbb|refine Bc ?_ (by dsimp only;omega) _)⟩
theorem Wx (A1 A2:Option Addr) (c1 c2 n1 n2:Nat) (b:Bed4) (S:List Shp) (ps:List Pt5) (sh:Int) (w:World) (hn2:n2<=1000) (hS:ShS w A1 n1 S) (hPu:PuS w A2 n2 ps) :
 Calls Tryz.prog 63 #[Hz b,.slice A1 n1 c1,.slice A2 n2 c2,.int .i64 sh] w (Wj w (Fw b S ps sh)):=by
 unfold Fw;by_cases hp:(Fy b S ps sh false 0).1=0
 ·rw[if_neg (by simp[hp])]
  exact Acg A1 A2 c1 c2 n1 n2 b S ps sh w hn2 hS hPu hp
 ·rw[if_pos hp]
  exact uk A1 A2 c1 c2 n1 n2 b S ps sh w hn2 hS hPu hp
def gi (l:List Int) (k:Nat):Int:=l.getD k 0
theorem Vu {l:List Int} {k:Nat} (h:k<l.length):l[k]? = some (gi l k):=by
 unfold gi;rw[List.getD,List.getElem?_eq_getElem h];rfl
def InS (w:World) (A:Option Addr) (n:Nat) (l:List Int):Prop:=l.length=n/\(n=0\/∃b off,A=some ⟨b,off,none⟩/\∀k,k<n->w.cell? ⟨b,off+k,none⟩=some (.int .i64 (gi l k)))
theorem InS.keep {w w':World} {A:Option Addr} {n:Nat} {l:List Int} (h:InS w A n l) (hb:Below w.heap.size w w'):InS w' A n l:=by
 refine⟨h.1,?_⟩;obtain⟨_,h2⟩:=h;rcases h2 with h2|⟨b,off,rfl,h2⟩
 ·exact .inl h2
 ·exact .inr ⟨b,off,rfl,fun k hk=>Aq hb (h2 k hk)⟩
theorem InS.at_ {w:World} {A:Option Addr} {n:Nat} {l:List Int} (h:InS w A n l) {k:Nat} (hk:k<n):∃b off,A=some ⟨b,off,none⟩/\w.cell? ⟨b,off+k,none⟩=some (.int .i64 (gi l k)):=by
 obtain⟨_,h2⟩:=h;rcases h2 with h2|⟨b,off,rfl,h2⟩
 ·omega
 ·exact⟨b,off,rfl,h2 k hk⟩
def enI (z:Int):List Value:=[.int .i64 z]
theorem Lx (z:Int):(enI z).length=1:=rfl
theorem Aeg (z:Int):∀u∈enI z,u.oneCell'=true:=by
 intro u hu;simp[enI] at hu;subst hu;rfl
def OwI (w:World) (base:Nat) (v:Value) (l:List Int):Prop:=OwG 3 1 enI w base v l
theorem Ag7:(Tryz.prog.info? 3).map (fun i=>(i.zero,i.size,i.bytes))=some (some (.int .i64 0),1,8):=by kernel_rfl
theorem OwI.ins {w:World} {base:Nat} {v:Value} {l:List Int} (h:OwI w base v l):∃A cap,v=.slice A l.length cap/\l.length<=cap/\InS w A l.length l/\(0<l.length->∃g,A=some ⟨g,0,none⟩/\base<=g/\g<w.heap.size):=by
 rcases OwG.form h with ⟨rfl,rfl⟩|⟨g,cap,rfl,h1,h2,h3,h4⟩
 ·exact⟨none,0,rfl,Nat.le_refl _,⟨rfl,.inl rfl⟩,fun h=>absurd h (by simp)⟩
 ·refine⟨_,cap,rfl,h3,⟨rfl,.inr ⟨g,0,rfl,fun k hk=>?_⟩⟩,fun _=>⟨g,rfl,h1,h2⟩⟩
  have c0:=OwG.cells h k (by omega)
  have f0:=Bp Lx l k 0 _ (Vu hk) (by omega)
  rw[Nat.mul_one,Nat.add_zero] at f0;rw[f0] at c0;rw[Nat.zero_add];exact c0
theorem Aji {w:World} {ad:Addr} {m:Nat} {l:List Int} (h:InS w (some ad) m l):∀j u,(l.flatMap enI)[j]? = some u->w.cell? (ad.add j)=some u:=by
 intro j u hj
 have hjl:j<(l.flatMap enI).length:=by
  rcases Nat.lt_or_ge j (l.flatMap enI).length with h1|h1
  ·exact h1
  ·rw[List.getElem?_eq_none h1] at hj;cases hj
 rw[Cy Lx,h.1,Nat.mul_one] at hjl;obtain⟨b,off,e,hc⟩:=h.at_ hjl;injection e with e
 subst e;have hf0:=Bp Lx l j 0 _ (Vu (by rw[h.1];exact hjl)) (by omega)
 rw[Nat.mul_one,Nat.add_zero,hj] at hf0
 have ea:(⟨b,off,none⟩:Addr).add j=⟨b,off+j,none⟩:=by
  unfold Addr.add;by_cases h0:j=0
  ·subst h0;simp
  ·simp[h0]
 rw[ea,hc,hf0];rfl
theorem Jr {w:World} {ops:Array Oper} {rest:List Oper} {o:Oper} {a:Act} {Q:Exit->Act->World->Prop} (hgd:o.guard=none) (s x:Operand)
 (ho:o.op=.call { callee:=.builtin .append,args:=#[s,x],argTypes:=#[23,23] })
 (base:Nat) (v:Value) (l:List Int) (hs:a.eval s=v) (hown:OwI w base v l)
 (A:Option Addr) (m c:Nat) (l2:List Int) (hx:a.eval x=.slice A m c) (hr:InS w A m l2) (hnil:A=none->c=0)
 (hlen:l.length+m<=1000000) (hbase:base<=w.heap.size)
 (h:∀v' w',OwI w' base v' (l++l2)->w.grownBy w' v.ownBlock->(v'.ownBlock=v.ownBlock\/v'.ownBlock=some w.heap.size)->wpList Tryz.prog ops Q rest (a.put o.dst v') w') :
 wpList Tryz.prog ops Q (o::rest) a w:=by
 obtain⟨i,hi,hz0,hz1,hz2⟩:=info_parts Ag7;cases A with
 | none =>
   have h0:=hnil rfl;subst h0
   have hm:m=0:=by
    rcases Nat.eq_zero_or_pos m with h1|h1
    ·exact h1
    ·obtain⟨_,_,e,_⟩:=hr.at_ h1;cases e
   subst hm;have hl2:l2=[]:=List.eq_nil_of_length_eq_zero hr.1;subst hl2;refine wpList_append_own_none hgd s x 23 ho base 3 i 1 Tryz.underlying23 hi v l.length (l.flatMap enI) hs hown hx ?_;exact h v w (by rw[List.append_nil];exact hown) (World.grownBy.refl _ _) (Or.inl rfl)
 | some ad =>
   refine wpList_append_own_at (P:=Tryz.prog) w hgd s x 23 ho base 3 i (.int .i64 0) 1 8 Tryz.underlying23 hi hz0 hz1 hz2 rfl (by omega) v l.length (l.flatMap enI) hs hown ad m c (l2.flatMap enI) hx (by rw[Cy Lx,hr.1]) (Aji hr) ?_ (by unfold maxLen;omega) (by omega) hbase ?_
   ·intro u hu
    obtain⟨p,_,hp⟩:=List.mem_flatMap.1 hu;exact Aeg p u hp
   ·intro v' w' ho' hg _ hat
    refine h v' w' ?_ hg hat;unfold OwI OwG;rw[List.length_append,List.flatMap_append,hr.1];exact ho'
theorem InS.new (w:World) (t:TypeId) (z:Int):InS (w.alloc (.cells #[.int .i64 z] t)) (some ⟨w.heap.size,0,none⟩) 1 [z]:=by
 refine⟨rfl,.inr ⟨_,0,rfl,fun k hk=>?_⟩⟩
 obtain rfl:k=0:=by omega
 simp[gi]
theorem bo (A:Option Addr) (cap n:Nat) (l:List Int) (x:Int) (w:World) (hl:n<=1000000) (hs:InS w A n l) :
 Calls Tryz.prog 136 #[.slice A n cap,.int .i64 x] w fun e w'=>e=.returned (.int .i64 (Cx (fun i=>x == gi l i) n))/\Below w.heap.size w w':=by
 go_enter Tryz.func136,Tryz.ntmps136;go_wp2_with fail;go_loopw [8] (fun i wr=>∃k:Nat,k<=n/\i=.int .i64 k/\Hid (Bq (fun i=>x == gi l i) k=false)/\Below w.heap.size w wr) (fun i _=>n-(intOf i).toNat)
 case atStart=>exact⟨0,Nat.zero_le _,rfl,Bq.zero _,Below.refl _ _⟩
 case round =>
  obtain⟨k,hk,rfl,hp,hb⟩:=hrel;by_cases hlt:k<n
  ·obtain⟨b,off,rfl,hc⟩:=(hs.keep hb).at_ hlt
   go_wp2_with fail
   ·go_ret
    exact⟨Bh (Gv hlt hp.out (by assumption)).symm,hb⟩
   ·go_roundw
    case rel=>exact⟨k+1,by omega,by go_num,Bq.succ hp.out (by assumption),hb⟩
    case measure=>simp[intOf];omega
  ·obtain rfl:n=k:=by omega
   go_wp2_with fail;go_ret;exact⟨Bh (Fa hp.out).symm,hb⟩
theorem Kw (A:Option Addr) (cap n:Nat) (l:List Int) (x:Int) (w:World) (hl:n<=1000000) (hs:InS w A n l) :
 Calls Tryz.prog 105 #[.slice A n cap,.int .i64 x] w fun e w'=>e=.returned (.bool (Bq (fun i=>x == gi l i) n))/\Below w.heap.size w w':=by
 go_enter Tryz.func105,Tryz.ntmps105
 go_wp2_with (go_at_call 136;refine(bo _ _ _ _ _ _ hl hs).mono ?_;rintro e w1 ⟨rfl,hb1⟩)
 go_ret;exact⟨Bn (Hg _ _),hb1⟩
def Aiy (w:World) (l:List Int) (e:Ending) (w':World):Prop:=∃v,e=.returned v/\OwI w' w.heap.size v l/\Below w.heap.size w w'
theorem Wd (ad:Addr) (cap n:Nat) (l:List Int) (w:World) (hn:n<=1000000) (hs:InS w (some ad) n l) :
 Calls Tryz.prog 40 #[.slice (some ad) n cap] w (Aiy w l):=by
 have heq:=fun (w:World)=>Lib.run_eql_slice_nil (P:=Tryz.prog) w 23 3 (some ad) n cap 0 0 Tryz.underlying23
 have hE:OwI (w.alloc (.cells #[] 3)) w.heap.size (.slice (some ⟨w.heap.size,0,none⟩) 0 0) []:=World.ownsRow_lit w #[] 0 (Nat.le_refl _) (Nat.zero_le _) rfl;go_enter Tryz.func40,Tryz.ntmps40
 go_wp2_with (at_builtin;refine Jr rfl _ _ rfl w.heap.size _ [] rfl hE (some ad) n cap l rfl (hs.keep (An (Below.refl _ _) _)) (fun h=>by cases h) (by simp;omega) (An (Below.refl _ _) _).size ?_;intro v' w' ho' hg' hat')
 go_ret;exact⟨v',rfl,by simpa using ho',Bm (An (Below.refl _ _) _) hE hg'⟩
theorem We (w:World):Calls Tryz.prog 40 #[.slice none 0 0] w (Aiy w []):=by
 have heq:=fun (w:World)=>Lib.run_eql_slice_nil (P:=Tryz.prog) w 23 3 none 0 0 0 0 Tryz.underlying23
 go_enter Tryz.func40,Tryz.ntmps40;go_wp2_with fail;go_ret;exact⟨_,rfl,OwG.nil,Below.refl _ _⟩
theorem dz (A:Option Addr) (cap n:Nat) (l:List Int) (w:World) (hn:n<=1000000) (hs:InS w A n l) (hz:A=none->cap=0) :
 Calls Tryz.prog 40 #[.slice A n cap] w (Aiy w l):=by
 cases A with
 | some ad=>exact Wd ad cap n l w hn hs
 | none =>
   have h0:=hz rfl
   have hn0:n=0:=by
    rcases Nat.eq_zero_or_pos n with h|h
    ·exact h
    ·obtain⟨_,_,e,_⟩:=hs.at_ h;cases e
   subst hn0 h0;rw[List.eq_nil_of_length_eq_zero hs.1];exact We w
end Go.Proofs.YtpbchbcdgikonaaGreat

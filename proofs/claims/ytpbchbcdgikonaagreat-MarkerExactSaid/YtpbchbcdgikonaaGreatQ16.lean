/- Lean texts of the claim. -/
import Derived.Test.YtpbchbcdgikonaaGreatQ15
namespace Go.Proofs.YtpbchbcdgikonaaGreat
set_option linter.unusedVariables false
set_option linter.unusedSimpArgs false
set_option maxRecDepth 100000
set_option maxHeartbeats 4000000
open Go.RowKit
theorem OwP.pus {w:World} {base:Nat} {v:Value} {l:List Pt5} (h:OwG 89 5 enP w base v l):∃A c,v=.slice A l.length c/\PuS w A l.length l:=by
 rcases OwG.form h with ⟨rfl,rfl⟩|⟨g,cap,rfl,g1,g2,g3,g4⟩
 ·exact⟨none,0,rfl,rfl,.inl rfl⟩
 ·refine⟨_,cap,rfl,rfl,.inr ⟨g,0,rfl,fun k hk=>?_⟩⟩
  have hk2:l[k]? = some (pt l k):=by unfold pt;rw[List.getD,List.getElem?_eq_getElem hk];rfl
  have c0:=OwG.cells h (k*5) (by omega)
  have c1:=OwG.cells h (k*5+1) (by omega)
  have c2:=OwG.cells h (k*5+2) (by omega)
  have c3:=OwG.cells h (k*5+3) (by omega)
  have c4:=OwG.cells h (k*5+4) (by omega)
  have f0:=Bp J6 l k 0 _ hk2 (by omega)
  rw[Nat.add_zero] at f0;rw[f0] at c0;rw[Bp J6 l k 1 _ hk2 (by omega)] at c1
  rw[Bp J6 l k 2 _ hk2 (by omega)] at c2
  rw[Bp J6 l k 3 _ hk2 (by omega)] at c3
  rw[Bp J6 l k 4 _ hk2 (by omega)] at c4
  rw[Nat.zero_add];exact⟨c0,c1,c2,c3,c4⟩
def Ch (b:Bed4) (S:List Shp) (os:List Int):Nat->Int×List Pt5
 | 0=>(0,[])
 | k+1=>if (Ch b S os k).1≠0 then Ch b S os k
   else if (Fw b S (Ch b S os k).2 (gi os k)).1≠0 then ((Fw b S (Ch b S os k).2 (gi os k)).1,[])
   else (0,(Ch b S os k).2++[(Fw b S (Ch b S os k).2 (gi os k)).2])
def Ho (b:Bed4) (S:List Shp) (os:List Int):Int×List Pt5:=if 60<os.length then (5,[]) else Ch b S os os.length
theorem jd {b:Bed4} {S:List Shp} {os:List Int} {k:Nat} {x:Int} (h:Ch b S os k=(x,[])) (hx:x≠0):∀m,Ch b S os (k+m)=(x,[]):=by
 intro m;induction m with
 | zero=>exact h
 | succ m ih=>rw[<-Nat.add_assoc,Ch,if_pos (by rw[ih];exact hx)];exact ih
theorem jc {b:Bed4} {S:List Shp} {os:List Int} (k:Nat):(Ch b S os k).2.length<=k:=by
 induction k with
 | zero=>simp[Ch]
 | succ k ih =>
   rw[Ch];split
   ·omega
   ·split
    ·simp
    ·simp;omega
theorem Ag6:(Tryz.prog.info? 89).map (fun i=>(i.zero,i.size,i.bytes))=some (some (.agg #[.int .i64 0,.bool false,.int .i64 0,.int .i64 0,.int .i64 0]),5,40):=by kernel_rfl
def Ab8 (w:World) (r:Int×List Pt5) (e:Ending) (w':World):Prop:=∃v,e=.returned (.tuple #[v,.int .i64 r.1])/\OwG 89 5 enP w' w.heap.size v r.2/\Below w.heap.size w w'
theorem Acs (A1 A2:Option Addr) (c1 c2 n1 n2:Nat) (b:Bed4) (S:List Shp) (os:List Int) (w:World) (hn2:n2<=9223372036854775807) (hS:ShS w A1 n1 S) (hO:InS w A2 n2 os) :
 Calls Tryz.prog 38 #[Hz b,.slice A1 n1 c1,.slice A2 n2 c2] w (Ab8 w (Ho b S os)):=by
 have hB:=Lib.hid (Bb.new w 33 #[.int .i64 b.len,.int .i64 b.wid,.int .i64 b.rx,.int .i64 b.ry]);have hbw:=Lib.hid (show Below w.heap.size w (w.alloc (.cells #[.int .i64 b.len,.int .i64 b.wid,.int .i64 b.rx,.int .i64 b.ry] 33)) from (An (Below.refl _ _) _))
 obtain⟨len,wid,rx,ry⟩:=b;unfold Hz;dsimp only at hB hbw ⊢;have hl:=hO.1;by_cases h60:60<n2
 ·have HR:=Lib.hid (show Ho ⟨len,wid,rx,ry⟩ S os=(5,[]) by unfold Ho;rw[hl,if_pos h60])
  clear hl;go_enter Tryz.func38,Tryz.ntmps38;go_wp2_with fail;exact bodyPost_ret (v:=.tuple #[.slice none 0 0,.int .i64 5]) (by simp[results,Tryz.results38,go_sem]) rfl ⟨_,by rw[HR.out],by rw[HR.out];exact OwG.nil,hbw.out⟩
 ·have HR:=Lib.hid (show Ho ⟨len,wid,rx,ry⟩ S os=Ch ⟨len,wid,rx,ry⟩ S os n2 by unfold Ho;rw[hl,if_neg h60])
  clear hl;go_enter Tryz.func38,Tryz.ntmps38;go_wp2_with fail;refine Cw (fun X=>Below w.heap.size w X/\Bb X w.heap.size 33 #[.int .i64 len,.int .i64 wid,.int .i64 rx,.int .i64 ry]) ⟨hbw.out,hB.out⟩ ?_
  clear hbw hB;rintro X ⟨hbw,hB⟩;have hSX:=hS.keep hbw;have hOX:=hO.keep hbw;have HB:=Lib.hid hB;clear hS hO hB;go_loopw [8,18] (fun v i wr=>∃k:Nat,k<=n2/\i=.int .i64 k/\Hid ((Ch ⟨len,wid,rx,ry⟩ S os k).1=0)/\OwG 89 5 enP wr X.heap.size v (Ch ⟨len,wid,rx,ry⟩ S os k).2/\Below X.heap.size X wr) (fun _ i _=>n2-(intOf i).toNat)
  case atStart=>exact⟨0,Nat.zero_le _,rfl,Lib.hid rfl,OwG.nil,Below.refl _ _⟩
  case round =>
   obtain⟨k,hk,rfl,hz,ho,hb⟩:=hrel;by_cases hlt:k<n2
   ·obtain⟨ba,oa,rfl,d1⟩:=(hOX.keep hb).at_ hlt
    have hstep:=Lib.hid (show Ch ⟨len,wid,rx,ry⟩ S os (k+1)=_ by rw[Ch,if_neg (by rw[hz.out];simp)])
    have hpl:=jc (b:=⟨len,wid,rx,ry⟩) (S:=S) (os:=os) k;obtain⟨ps,hps⟩:∃ps,(Ch ⟨len,wid,rx,ry⟩ S os k).2=ps:=⟨_,rfl⟩
    rw[hps] at hstep hpl ho;clear hps;obtain⟨Ap,cp,rfl,hPu⟩:=OwP.pus ho;obtain⟨r,hr⟩:∃r,Fw ⟨len,wid,rx,ry⟩ S ps (gi os k)=r:=⟨_,rfl⟩
    rw[hr] at hstep;have HS:=Lib.hid hr;clear hr;obtain⟨np,hnp⟩:∃np,ps.length=np:=⟨_,rfl⟩
    rw[hnp] at hPu hpl ho ⊢;have HNP:=Lib.hid hnp;clear hnp;obtain⟨a1,a2,a3,a4,a5⟩:=(HB.out.keep hb).cells4;obtain⟨r1,⟨p1,p2,p3,p4,p5⟩⟩:=r;dsimp only at hstep;by_cases hr1:r1=0
    ·subst hr1
     rw[if_neg (by simp)] at hstep
     go_wp2_with (first|(go_at_call 63;refine(Wx _ _ _ _ _ _ ⟨len,wid,rx,ry⟩ S ps (gi os k) _ (by omega) (hSX.keep hb) hPu).mono ?_;rintro e w1 ⟨rfl,hb1⟩;rw[HS.out];unfold Lk;dsimp only)|(at_builtin;refine Cr rfl _ _ 85 rfl enP X.heap.size 89 (.agg #[.int .i64 0,.bool false,.int .i64 0,.int .i64 0,.int .i64 0]) 5 40 Tryz.underlying85 Ag6 rfl (by omega) J6 oz _ ps rfl (((ho.keep hb1).alloc _).alloc _) (w1.heap.size+1) 1 ⟨p1,p2,p3,p4,p5⟩ 89 rfl (Bb.new2 _ _ _ _) (by rw[HNP.out];unfold maxLen;omega) (by rw[HNP.out];omega) (An (An (Ao hb hb1) _) _).size ?_;intro v' w2 ho' hg' hat'))
     exact⟨⟨k+1,by omega,by go_num,Lib.hid (by rw[hstep.out]),by rw[hstep.out];exact ho',Bm (An (An (Ao hb hb1) _) _) (((ho.keep hb1).alloc _).alloc _) hg'⟩,by simp[intOf];omega⟩
    ·have qo:(r1 != 0)=true:=by simpa using hr1
     rw[if_pos hr1] at hstep;have hbad:=jd hstep.out hr1 (n2-(k+1));rw[show k+1+(n2-(k+1))=n2 by omega] at hbad
     have HF:=Lib.hid hbad;clear hbad hr1
     go_wp2_with (go_at_call 63;refine(Wx _ _ _ _ _ _ ⟨len,wid,rx,ry⟩ S ps (gi os k) _ (by omega) (hSX.keep hb) hPu).mono ?_;rintro e w1 ⟨rfl,hb1⟩;rw[HS.out];unfold Lk;dsimp only)
     exact bodyPost_ret (v:=.tuple #[.slice none 0 0,.int .i64 r1]) (by simp[results,Tryz.results38,go_sem]) rfl ⟨_,by rw[HR.out,HF.out],by rw[HR.out,HF.out];exact OwG.nil,Ao hbw (An (Ao hb hb1) _)⟩
   ·obtain rfl:n2=k:=by omega
    go_wp2_with fail;exact bodyPost_ret (v:=.tuple #[u8,.int .i64 0]) (by simp[results,Tryz.results38,go_sem]) rfl ⟨_,by rw[HR.out,hz.out],by rw[HR.out];exact ho.lower hbw.size,Ao hbw hb⟩
def Iz (f:Bool) (l:List (Int×Int)) (e:Int):Nat->Int
 | 0=>e
 | k+1=>if (f&&decide (k=0))=true\/Iz f l e k<(gt l k).1 then (gt l k).1 else Iz f l e k
def Ef (S:List Shp) (ps:List Pt5):Nat->Int×Int
 | 0=>(0,0)
 | k+1=>if (Ef S ps k).1≠0 then Ef S ps k
   else if (Be S (pt ps k)).1≠0 then ((Be S (pt ps k)).1,0)
   else (0,Iz (decide (k=0)) (Be S (pt ps k)).2 (Ef S ps k).2 (Be S (pt ps k)).2.length)
def Mo (S:List Shp) (ps:List Pt5):Int×Int:=Ef S ps ps.length
theorem oi {S:List Shp} {ps:List Pt5} {k:Nat} {x:Int} (h:Ef S ps k=(x,0)) (hx:x≠0):∀m,Ef S ps (k+m)=(x,0):=by
 intro m;induction m with
 | zero=>exact h
 | succ m ih=>rw[<-Nat.add_assoc,Ef,if_pos (by rw[ih];exact hx)];exact ih
theorem dj (A1 A2:Option Addr) (c1 c2 n1 n2:Nat) (S:List Shp) (ps:List Pt5) (w:World) (hn2:n2<=1000000) (hS:ShS w A1 n1 S) (hPu:PuS w A2 n2 ps) :
 Calls Tryz.prog 39 #[.slice A1 n1 c1,.slice A2 n2 c2] w fun e w'=>e=.returned (.tuple #[.int .i64 (Mo S ps).2,.int .i64 (Mo S ps).1])/\Below w.heap.size w w':=by
 have HR:=Lib.hid (show Mo S ps=Ef S ps n2 by unfold Mo;rw[hPu.1])
 go_enter Tryz.func39,Tryz.ntmps39;go_wp2_with fail;go_loopw [6,15] (fun v i wr=>∃k:Nat,k<=n2/\i=.int .i64 k/\Hid ((Ef S ps k).1=0)/\v=.int .i64 (Ef S ps k).2/\Below w.heap.size w wr) (fun _ i _=>n2-(intOf i).toNat)
 case atStart=>exact⟨0,Nat.zero_le _,rfl,Lib.hid rfl,rfl,Below.refl _ _⟩
 case round =>
  obtain⟨k,hk,rfl,hz,rfl,hb⟩:=hrel;by_cases hlt:k<n2
  ·obtain⟨-,hP2⟩:=hPu.keep hb
   rcases hP2 with h|⟨ba,oa,rfl,hP2⟩
   ·omega
   obtain⟨d1,d2,d3,d4,d5⟩:=hP2 k hlt;clear hP2;have hstep:=Lib.hid (show Ef S ps (k+1)=_ by rw[Ef,if_neg (by rw[hz.out];simp)])
   obtain⟨p,hp⟩:∃p,pt ps k=p:=⟨_,rfl⟩
   rw[hp] at d1 d2 d3 d4 d5 hstep;clear hp;obtain⟨p1,p2,p3,p4,p5⟩:=p;dsimp only at d1 d2 d3 d4 d5;have hrl:=Fj S ⟨p1,p2,p3,p4,p5⟩;obtain⟨r,hr⟩:∃r,Be S ⟨p1,p2,p3,p4,p5⟩=r:=⟨_,rfl⟩
   rw[hr] at hstep hrl;have HP:=Lib.hid hr;clear hr;obtain⟨r1,r⟩:=r;dsimp only at hstep hrl;obtain⟨ee,hee⟩:∃ee,(Ef S ps k).2=ee:=⟨_,rfl⟩
   rw[hee] at hstep ⊢;clear hee;by_cases hr1:r1=0
   ·subst hr1
    rw[if_neg (by simp)] at hstep
    obtain⟨nr,hnr⟩:∃nr,r.length=nr:=⟨_,rfl⟩
    rw[hnr] at hstep hrl;have HNR:=Lib.hid hnr;clear hnr
    go_upto_region 8 with (go_at_call 26;refine(Bu _ _ _ S ⟨p1,p2,p3,p4,p5⟩ _ (hS.keep (An hb _))).mono ?_;rintro e w5 ⟨v5,rfl,ho5,hb5⟩;rw[HP.out] at ho5 ⊢;obtain⟨A5,c5,rfl,hc5,hS5,-⟩:=OwS.sps ho5;rw[HNR.out] at hS5 hc5 ⊢)
    have hb5':=Ao (An hb _) hb5;clear hb5 ho5;go_wp2_with fail;go_loopw [6,31] (fun v i wr=>∃j:Nat,j<=nr/\i=.int .i64 j/\v=.int .i64 (Iz (decide (k=0)) r ee j)/\Below w5.heap.size w5 wr) (fun _ i _=>nr-(intOf i).toNat)
    case atStart=>exact⟨0,Nat.zero_le _,rfl,rfl,Below.refl _ _⟩
    case round =>
     obtain⟨j,hj,rfl,rfl,hbj⟩:=hrel;by_cases hjn:j<nr
     ·obtain⟨bc,oc,rfl,hblc,hccc⟩:=(hS5.keep hbj).at_ hjn
      obtain⟨x1,x2⟩:=hccc j hjn;clear hccc;have hext:Iz (decide (k=0)) r ee (j+1)=if (decide (k=0)&&decide (j=0))=true\/Iz (decide (k=0)) r ee j<(gt r j).1 then (gt r j).1 else Iz (decide (k=0)) r ee j:=rfl
      by_cases h0:k=0
      ·have q0:((k:Int) == 0)=true:=by simp[h0]
       by_cases h1:j=0
       ·have q1:((j:Int) == 0)=true:=by simp[h1]
        rw[if_pos (by simp[h0,h1])] at hext
        have HE:=Lib.hid hext;clear hext h0 h1;go_wp2_with fail;exact⟨⟨j+1,by omega,by go_num,by rw[HE.out],An hbj _⟩,by simp[intOf];omega⟩
       ·have q1:((j:Int) == 0)=false:=by simp;omega
        by_cases h2:Iz (decide (k=0)) r ee j<(gt r j).1
        ·rw[if_pos (.inr h2)] at hext
         have HE:=Lib.hid hext;clear hext h0 h1;go_wp2_with fail;exact⟨⟨j+1,by omega,by go_num,by rw[HE.out],An hbj _⟩,by simp[intOf];omega⟩
        ·rw[if_neg (by simp[h1];omega)] at hext
         have HE:=Lib.hid hext;have h2':=Int.not_lt.1 h2;clear hext h0 h1;go_wp2_with fail;exact⟨⟨j+1,by omega,by go_num,by rw[HE.out],An hbj _⟩,by simp[intOf];omega⟩
      ·have q0:((k:Int) == 0)=false:=by simp;omega
       by_cases h2:Iz (decide (k=0)) r ee j<(gt r j).1
       ·rw[if_pos (.inr h2)] at hext
        have HE:=Lib.hid hext;clear hext h0;go_wp2_with fail;exact⟨⟨j+1,by omega,by go_num,by rw[HE.out],An hbj _⟩,by simp[intOf];omega⟩
       ·rw[if_neg (by simp[h0] at h2 ⊢;omega)] at hext
        have HE:=Lib.hid hext;have h2':=Int.not_lt.1 h2;clear hext h0;go_wp2_with fail;exact⟨⟨j+1,by omega,by go_num,by rw[HE.out],An hbj _⟩,by simp[intOf];omega⟩
     ·obtain rfl:nr=j:=by omega
      go_wp2_with fail;exact⟨⟨k+1,by omega,by go_num,Lib.hid (by rw[hstep.out]),by rw[hstep.out],Ao hb5' hbj⟩,by simp[intOf];omega⟩
   ·have qo:(r1 != 0)=true:=by simpa using hr1
    rw[if_pos hr1] at hstep;have hbad:=oi hstep.out hr1 (n2-(k+1));rw[show k+1+(n2-(k+1))=n2 by omega] at hbad
    have HF:=Lib.hid hbad;clear hbad hr1
    go_wp2_with (go_at_call 26;refine(Bu _ _ _ S ⟨p1,p2,p3,p4,p5⟩ _ (hS.keep (An hb _))).mono ?_;rintro e w5 ⟨v5,rfl,ho5,hb5⟩;rw[HP.out])
    exact bodyPost_ret (v:=.tuple #[.int .i64 0,.int .i64 r1]) (by simp[results,Tryz.results39,go_sem]) rfl ⟨by rw[HR.out,HF.out],Ao (An hb _) hb5⟩
  ·obtain rfl:n2=k:=by omega
   go_wp2_with fail;exact bodyPost_ret (v:=.tuple #[.int .i64 (Ef S ps n2).2,.int .i64 0]) (by simp[results,Tryz.results39,go_sem]) rfl ⟨by rw[HR.out,hz.out],hb⟩
section
section
variable {α : Type}
def Ag2 (lt:α->α->Bool) (x:α):List α->List α
 | []=>[x]
 | y::ys=>if lt y x then y::Ag2 lt x ys else x::y::ys
def Mf (lt:α->α->Bool):List α->List α
 | []=>[]
 | x::xs=>Ag2 lt x (Mf lt xs)
theorem Tr (lt:α->α->Bool) (x:α) (l:List α):(Ag2 lt x l).Perm (x::l):=by
 induction l with
 | nil=>exact List.Perm.refl _
 | cons y ys ih =>
   unfold Ag2;split
   ·exact(List.Perm.cons y ih).trans (List.Perm.swap x y ys)
   ·exact List.Perm.refl _
theorem Vm (lt:α->α->Bool) (l:List α):(Mf lt l).Perm l:=by
 induction l with
 | nil=>exact List.Perm.refl _
 | cons x xs ih=>exact(Tr lt x _).trans (List.Perm.cons x ih)
variable {lt : α -> α -> Bool} (hi : ∀ x, lt x x = false) (ht : ∀ x y z, lt x y = true -> lt y z = true -> lt x z = true) (hu : ∀ x y, lt x y = false -> lt y x = false -> x = y)
include hi ht hu
omit hi in
theorem Tm (x y z:α) (h1:(!lt y x)=true) (h2:(!lt z y)=true):(!lt z x)=true:=by
 simp only[Bool.not_eq_true'] at *
 by_cases h:lt z x=true
 ·by_cases h3:lt x y=true
  ·rw[ht z x y h h3] at h2;cases h2
  ·have:=hu x y (by simpa using h3) h1
   subst this;rw[h] at h2;cases h2
 ·simpa using h
omit hu in
theorem lj (x y:α):(!lt y x || !lt x y)=true:=by
 by_cases h:lt y x=true
 ·by_cases h2:lt x y=true
  ·have:=ht x y x h2 h;rw[hi] at this;cases this
  ·simp[h2]
 ·simp[h]
theorem Q8 (l:List α):(Mf lt l).Pairwise fun x y=>(!lt y x)=true:=by
 induction l with
 | nil=>exact List.Pairwise.nil
 | cons x xs ih =>
   unfold Mf;generalize Mf lt xs=ys at ih;induction ys with
   | nil=>exact List.pairwise_singleton _ _
   | cons y ys ih2 =>
     unfold Ag2;rw[List.pairwise_cons] at ih;split
     ·rename_i hyx
      rw[List.pairwise_cons];refine⟨fun z hz=>?_,ih2 ih.2⟩
      rcases List.mem_cons.1 ((Tr lt x ys).mem_iff.1 hz) with rfl|hz
      ·by_cases h:lt z y=true
       ·have:=ht z y z h hyx;rw[hi] at this;cases this
       ·simpa using h
      ·exact ih.1 z hz
     ·rename_i hyx
      rw[List.pairwise_cons];refine⟨fun z hz=>?_,List.pairwise_cons.2 ih⟩
      have hxy:(!lt y x)=true:=by simpa using hyx
      rcases List.mem_cons.1 hz with rfl|hz
      ·exact hxy
      ·exact Tm ht hu x y z hxy (ih.1 z hz)
theorem Nv (l:List α):l.mergeSort (fun x y=>!lt y x)=Mf lt l :=
 List.Perm.eq_of_pairwise (le:=fun x y=>(!lt y x)=true) (fun x y _ _ h1 h2=>hu x y (by simpa using h2) (by simpa using h1))
  (List.pairwise_mergeSort (le:=fun x y=>!lt y x) (fun x y z=>Tm ht hu x y z) (fun x y=>lj hi ht x y) l)
  (Q8 hi ht hu l) ((List.mergeSort_perm _ _).trans (Vm lt l).symm)
end
def ie (l:List (Int×Int)):List (Int×Int):=Mf Ge l
theorem Qo (l:List (Int×Int)):Eh l=ie l:=by
 have e:ltOf G1=Ge:=by funext p q;exact ltS p q
 unfold Eh ie;have h:=Nv (lt:=ltOf G1) Akc.irrefl Akc.trans Afy l;rw[h,e]
def Aa5 (l:List (List (Int×Int))):List (List (Int×Int)):=Mf (fun x y=>decide (G2 x y<0)) l
theorem ic (l:List (List (Int×Int))):F7 l=Aa5 l :=
 Nv (lt:=ltOf G2) (uj id).irrefl (uj id).trans Akb l
def Aio (p:Int×Int):Nat->List (Int×Int)->List (Int×Int)
 | 0,r=>r
 | f+1,r=>if 1<r.length/\Bo (gt r (r.length-2)) (gt r (r.length-1)) p<=0 then Aio p f (r.take (r.length-1)) else r
theorem Acy (p:Int×Int):∀(f:Nat) (r:List (Int×Int)),r.length<=f->U7 p r=Aio p f r:=by
 intro f;induction f with
 | zero=>intro r hr;rw[U7,if_neg (by omega)];rfl
 | succ f ih =>
   intro r hr;rw[U7,Aio];split
   ·exact ih _ (by rw[List.length_take];omega)
   ·rfl
def Y4 (l:List (Int×Int)):Nat->List (Int×Int)
 | 0=>[]
 | k+1=>Aio (gt l k) k (Y4 l k)++[gt l k]
theorem Aad (l:List (Int×Int)):∀k,I2 l k=Y4 l k:=by
 intro k;induction k with
 | zero=>rfl
 | succ k ih=>rw[I2,Y4,Acy (gt l k) k _ (K8 l k),ih]
def Afm (l:List (Int×Int)):List (Int×Int):=(Y4 l l.length).dropLast
theorem rj (l:List (Int×Int)):Ot l=Afm l:=by
 unfold Ot Afm;rw[Aad,List.dropLast_eq_take]
def Abr (s:List (Int×Int)):Option (List (Int×Int)) :=
 if s.length<3 then none else if (Afm s++Afm s.reverse).length<3 then none else some (Afm s++Afm s.reverse)
def yk (l:List (Int×Int)):Option (List (Int×Int)):=Abr (D6 eqS (0,0) (ie l))
theorem Yi (l:List (Int×Int)):Gg l=yk l:=by
 unfold Gg yk Abr;rw[Qo,rj,rj]
def Aau (l:List (Int×Int)):Int×List (Int×Int) :=
 if l.length > 160 then (5,[]) else if Bq (fun i=>Ce 4194304 (gt l i)) l.length then (3,[]) else match yk l with|none=>(11,[])|some r=>(0,r)
theorem Zl (l:List (Int×Int)):Di l=Aau l:=by
 unfold Di Aau;rw[Yi];rfl
def Aie (r:List (Int×Int)):Int×List (Int×Int) :=
 if Bq (fun i=>Ce 4194304 (gt r i)) r.length then (3,[]) else if r.length > 160 then (5,[]) else (0,r)
def Aj8 (a b:List (Int×Int)):Int×List (Int×Int) :=
 match Aau a with
 | (x,p)=>if x≠0 then (x,[]) else match Aau b with
   | (y,q)=>if y≠0 then (y,[]) else Aie ((yk (F5 p q p.length)).getD [])
theorem Ae2 (a b:List (Int×Int)):M9 a b=Aj8 a b:=by
 unfold M9 Aj8 Aie;rw[Zl,Zl,Yi]
def Xj (s:List (Int×Int)) (ts acc:List (List (Int×Int))):Nat->Int×List (List (Int×Int))
 | 0=>(0,acc)
 | j+1=>match Xj s ts acc j with
   | (x,r)=>if x≠0 then (x,r) else match Aj8 s (O0 (lt_ ts j)) with
     | (y,t)=>if y≠0 then (y,[]) else (0,r++[t])
theorem wi (s:List (Int×Int)) (ts acc:List (List (Int×Int))):∀j,Fx s ts acc j=Xj s ts acc j:=by
 intro j;induction j with
 | zero=>rfl
 | succ j ih=>rw[Fx,Xj,ih,Ae2]
def Xi (ss ts:List (List (Int×Int))):Nat->Int×List (List (Int×Int))
 | 0=>(0,[])
 | k+1=>match Xi ss ts k with
   | (x,r)=>if x≠0 then (x,r) else Xj (lt_ ss k) ts r ts.length
theorem wg (ss ts:List (List (Int×Int))):∀k,C7 ss ts k=Xi ss ts k:=by
 intro k;induction k with
 | zero=>rfl
 | succ k ih=>rw[C7,Xi,ih,wi]
def Sx (r:Int×List (List (Int×Int))):Int×List (List (Int×Int)) :=
 match r with
 | (x,l)=>if x≠0 then (x,[]) else (0,D6 eqL [] (Aa5 l))
def Qs (a b:List (Int×Int)):Int×List (List (Int×Int)) :=
 match Ba a with
 | (x,ss)=>if x≠0 then (x,[]) else match Ba b with
   | (y,ts)=>if y≠0 then (y,[]) else Sx (Xi ss ts ss.length)
theorem U5 (a b:List (Int×Int)):Bw a b=Qs a b:=by
 unfold Bw Qs Sx;rw[wg,ic]
def gv (r:Int×List (List (Int×Int))):Int×List (Int×Int) :=
 match r with
 | (x,l)=>if x≠0 then (x,[]) else (0,ie ((uniq l.flatten).filter fun p=>!Cj l p))
def gy (a b:List (Int×Int)):Int×List (Int×Int):=gv (Qs a b)
theorem gq (a b:List (Int×Int)):D7 a b=gy a b:=by
 unfold D7 gy gv Qn;rw[U5,Qo]
end
def Xq (l:List (Int×Int)) (x0 y0 y1:Int) (pls:List (List (Int×Int))):Nat->Int×List (Int×Int)
 | 0=>(0,Rx [] [(x0,y0),(x0,y1)] (0,0))
 | k+1=>match Xq l x0 y0 y1 pls k with
   | (x,r)=>if x≠0 then (x,r) else match gy (lt_ pls k) l with
     | (y,sp)=>if y≠0 then (y,[]) else (0,Lm x0 y0 y1 sp r sp.length)
theorem xh (l:List (Int×Int)) (x0 y0 y1:Int) (pls:List (List (Int×Int))):∀k,Ey l x0 y0 y1 pls k=Xq l x0 y0 y1 pls k:=by
 intro k;induction k with
 | zero=>rfl
 | succ k ih=>rw[Ey,Xq,ih,gq]
def U9 (b:Bed4) (l:List (Int×Int)) (pls:List (List (Int×Int))):Int×List (Int×Int) :=
 if Bf l l.length≠0 then (Bf l l.length,[])
 else Xq l (wrap64 (-loX l l.length)) (wrap64 (-loY l l.length)) (wrap64 (wrap64 (b.wid-loY l l.length)-wrap64 (hiY l l.length-loY l l.length))) pls pls.length
theorem Z5 (b:Bed4) (l:List (Int×Int)) (pls:List (List (Int×Int))):C9 b l pls=U9 b l pls:=by
 unfold C9 U9;rw[xh]
def Aeu (b:Bed4) (s:Shp) (fl:Bool) (qu:Int) (l:List (Int×Int)) (pls:List (List (Int×Int))):Int×List (Int×Int) :=
 match U9 b l pls with
 | (x,r)=>if x≠0 then (x,[]) else (0,ie (Eu b.rx b.ry s fl qu r r.length))
theorem Aac (b:Bed4) (s:Shp) (fl:Bool) (qu:Int) (l:List (Int×Int)) (pls:List (List (Int×Int))):Ie b s fl qu l pls=Aeu b s fl qu l pls:=by
 unfold Ie Aeu;rw[Z5,Qo]
def Akq (b:Bed4) (S:List Shp) (ps:List Pt5) (sh:Int) (t:Trn) (E:List End6) (l:List (Int×Int)) (c:Int×List (Int×Int)):Int×List End6 :=
 match c with
 | (y,cs)=>if y≠0 then (y,[]) else match Oc b S ps sh t cs with
   | none=>(0,E)
   | some j=>(0,Rx E [ot sh t l (gt cs j)] ⟨⟨0,false,0,0,0⟩,0⟩)
def Akr (b:Bed4) (S:List Shp) (ps:List Pt5) (sh:Int) (pls:List (List (Int×Int))) (t:Trn) (E:List End6) (q:Int×List (Int×Int)):Int×List End6 :=
 match q with
 | (x,l)=>if x≠0 then (x,[]) else Akq b S ps sh t E l (Aeu b (shp S sh.toNat) t.1 t.2 l pls)
def uo (b:Bed4) (S:List Shp) (ps:List Pt5) (sh:Int) (pls:List (List (Int×Int))) (ts:List Trn):Nat->Int×List End6
 | 0=>(0,[])
 | k+1=>match uo b S ps sh pls ts k with
   | (e,E)=>if e≠0 then (e,E) else Akr b S ps sh pls (tr ts k) E (Be S ⟨sh,(tr ts k).1,(tr ts k).2,0,0⟩)
theorem Ach (b:Bed4) (S:List Shp) (ps:List Pt5) (sh:Int) (pls:List (List (Int×Int))) (ts:List Trn):∀k,Ig b S ps sh pls ts k=uo b S ps sh pls ts k:=by
 intro k;induction k with
 | zero=>rfl
 | succ k ih=>rw[Ig,uo,ih,Aac];rfl
def Aaz (b:Bed4) (S:List Shp) (ps:List Pt5) (sh:Int) (ts:List Trn) (r:Int×List (Int×Int)×List (List (Int×Int))):Int×Pt5 :=
 match r with
 | (x,_,pls)=>if x≠0 then (x,Ih) else Jk (uo b S ps sh pls ts ts.length)
def Af1 (b:Bed4) (S:List Shp) (ps:List Pt5) (sh:Int):Int×Pt5:=Aaz b S ps sh (sf (shp S sh.toNat).grain false) (Fy b S ps sh false 0)
theorem Ms (b:Bed4) (S:List Shp) (ps:List Pt5) (sh:Int):Fw b S ps sh=Af1 b S ps sh:=by
 unfold Fw Af1 Aaz;rw[Ach]
theorem kn {α:Type} [DecidableEq α] {L xs:List α} {d:α}:∀{k:Nat},k<=xs.length->∀{x:α},x∈Bk L xs d k->x∈L\/x∈xs:=by
 intro k;induction k with
 | zero=>intro _ x h;exact .inl h
 | succ k ih =>
   intro hk x h;rw[Bk] at h;split at h
   ·exact ih (by omega) h
   ·rcases List.mem_append.1 h with h|h
    ·exact ih (by omega) h
    ·simp at h
     right;rw[h,List.getElem?_eq_getElem (by omega)]
     exact List.getElem_mem _
theorem x8 {α:Type} [DecidableEq α] {L xs:List α} {d x:α} (h:x∈Rx L xs d):x∈L\/x∈xs:=kn (Nat.le_refl _) h
theorem sk {α:Type} [DecidableEq α] {L xs:List α} {d:α}:∀{k:Nat} {x:α},x∈L->x∈Bk L xs d k:=by
 intro k;induction k with
 | zero=>intro x h;exact h
 | succ k ih =>
   intro x h;rw[Bk];split
   ·exact ih h
   ·exact List.mem_append.2 (.inl (ih h))
theorem so {α:Type} [DecidableEq α] {L xs:List α} {d:α}:∀{k i:Nat},i<k->k<=xs.length->xs.getD i d∈Bk L xs d k:=by
 intro k;induction k with
 | zero=>intro i h;omega
 | succ k ih =>
   intro i hi hk;rw[Bk];by_cases h:i<k
   ·split
    ·exact ih h (by omega)
    ·exact List.mem_append.2 (.inl (ih h (by omega)))
   ·obtain rfl:i=k:=by omega
    split
    ·assumption
    ·exact List.mem_append.2 (.inr (by simp))
theorem Tj {α:Type} [DecidableEq α] {L xs:List α} {d x:α}:x∈Rx L xs d↔x∈L\/x∈xs:=by
 refine⟨x8,fun h=>?_⟩
 rcases h with h|h
 ·exact sk h
 ·obtain⟨i,hi,rfl⟩:=List.getElem_of_mem h
  have:=so (L:=L) (xs:=xs) (d:=d) hi (Nat.le_refl _);rw[List.getD,List.getElem?_eq_getElem hi] at this;exact this
theorem di {f:Nat->Bool} {n j:Nat} (h:(List.range n).find? f=some j):j<n/\f j=true/\∀i,i<j->f i=false:=by
 have h1:=List.mem_of_find?_eq_some h;have h2:=List.find?_some h;refine⟨by simpa using h1,h2,fun i hi=>?_⟩
 have hj:j<n:=by simpa using h1
 cases hf:f i with
 | false=>rfl
 | true =>
   exfalso
   -- the first index at which f holds is at most i
   have hex:∃m,m<n/\f m=true/\∀q,q<m->f q=false:=by
    have:∀N,(∃m,m<=N/\f m=true)->∃m,m<=N/\f m=true/\∀q,q<m->f q=false:=by
     intro N;induction N with
     | zero =>
       rintro⟨m,hm,hfm⟩;obtain rfl:m=0:=by omega
       exact⟨0,hm,hfm,fun q hq=>absurd hq (by omega)⟩
     | succ N ih =>
       rintro⟨m,hm,hfm⟩;by_cases hh:∃m,m<=N/\f m=true
       ·obtain⟨q,q1,q2,q3⟩:=ih hh
        exact⟨q,by omega,q2,q3⟩
       ·refine⟨m,hm,hfm,fun q hq=>?_⟩
        cases hq2:f q with
        | false=>rfl
        | true=>exact absurd ⟨q,by omega,hq2⟩ hh
    obtain⟨m,m1,m2,m3⟩:=this i ⟨i,Nat.le_refl _,hf⟩;exact⟨m,by omega,m2,m3⟩
   obtain⟨m,m1,m2,m3⟩:=hex;have hm:Cx f n=m:=Gv m1 (by unfold Bq;rw[List.any_eq_false];intro q hq;simp at hq;simp[m3 q hq]) m2
   unfold Cx at hm;rw[h] at hm;have:j=m:=by have h9:((j:Nat):Int)=(m:Int):=hm;omega
   subst this;rw[m3 i hi] at hf;cases hf
theorem Vj {l:List End6}:∀{n:Nat},0<n->n<=l.length->Ee l n∈l:=by
 intro n;induction n with
 | zero=>intro h;omega
 | succ k ih =>
   intro _ hk;rw[Ee];split
   ·unfold ed;rw[List.getD,List.getElem?_eq_getElem (by omega)];exact List.getElem_mem _
   ·rename_i h
    exact ih (by omega) (by omega)
def StE (b:Bed4) (S:List Shp) (ps:List Pt5) (sh:Int) (pls:List (List (Int×Int))) (ts:List Trn) (i j:Nat):Prop :=
 (Be S ⟨sh,(tr ts i).1,(tr ts i).2,0,0⟩).1=0/\(Ie b (shp S sh.toNat) (tr ts i).1 (tr ts i).2 (Be S ⟨sh,(tr ts i).1,(tr ts i).2,0,0⟩).2 pls).1=0 /\
 Oc b S ps sh (tr ts i) (Ie b (shp S sh.toNat) (tr ts i).1 (tr ts i).2 (Be S ⟨sh,(tr ts i).1,(tr ts i).2,0,0⟩).2 pls).2=some j
def Aja (b:Bed4) (S:List Shp) (sh:Int) (pls:List (List (Int×Int))) (ts:List Trn) (i j:Nat):End6 :=
 ot sh (tr ts i) (Be S ⟨sh,(tr ts i).1,(tr ts i).2,0,0⟩).2 (gt (Ie b (shp S sh.toNat) (tr ts i).1 (tr ts i).2 (Be S ⟨sh,(tr ts i).1,(tr ts i).2,0,0⟩).2 pls).2 j)
theorem um {b:Bed4} {S:List Shp} {ps:List Pt5} {sh:Int} {pls:List (List (Int×Int))} {ts:List Trn}:∀{k:Nat},(Ig b S ps sh pls ts k).1=0 ->
 (∀i,i<k->(Be S ⟨sh,(tr ts i).1,(tr ts i).2,0,0⟩).1=0/\(Ie b (shp S sh.toNat) (tr ts i).1 (tr ts i).2 (Be S ⟨sh,(tr ts i).1,(tr ts i).2,0,0⟩).2 pls).1=0) /\
 ∀e,e∈(Ig b S ps sh pls ts k).2↔∃i j,i<k/\StE b S ps sh pls ts i j/\e=Aja b S sh pls ts i j:=by
 intro k;induction k with
 | zero=>intro _;exact⟨fun i hi=>absurd hi (by omega),fun e=>by simp[Ig]⟩
 | succ k ih =>
   intro h;rw[Ig] at h;rw[Ig];split at h
   ·rename_i h0;exact absurd h h0
   ·rename_i h0
    rw[if_neg h0];have h0':(Ig b S ps sh pls ts k).1=0:=by simpa using h0
    obtain⟨ih1,ih2⟩:=ih h0';split at h
    ·rename_i h1;exact absurd h h1
    ·rename_i h1
     rw[if_neg h1];split at h
     ·rename_i h2;exact absurd h h2
     ·rename_i h2
      rw[if_neg h2];have h1':(Be S ⟨sh,(tr ts k).1,(tr ts k).2,0,0⟩).1=0:=by simpa using h1
      have h2':(Ie b (shp S sh.toNat) (tr ts k).1 (tr ts k).2 (Be S ⟨sh,(tr ts k).1,(tr ts k).2,0,0⟩).2 pls).1=0:=by simpa using h2
      refine⟨fun i hi=>?_,fun e=>?_⟩
      ·by_cases hik:i<k
       ·exact ih1 i hik
       ·obtain rfl:i=k:=by omega
        exact⟨h1',h2'⟩
      ·cases hf:Oc b S ps sh (tr ts k) (Ie b (shp S sh.toNat) (tr ts k).1 (tr ts k).2 (Be S ⟨sh,(tr ts k).1,(tr ts k).2,0,0⟩).2 pls).2 with
       | none =>
         show e∈(Ig b S ps sh pls ts k).2↔_
         rw[ih2 e];constructor
         ·rintro⟨i,j,g1,g2,g3⟩;exact⟨i,j,by omega,g2,g3⟩
         ·rintro⟨i,j,g1,g2,g3⟩
          refine⟨i,j,?_,g2,g3⟩;by_cases hik:i<k
          ·exact hik
          ·obtain rfl:i=k:=by omega
           obtain⟨_,_,g4⟩:=g2;rw[hf] at g4;cases g4
       | some j =>
         show e∈Rx (Ig b S ps sh pls ts k).2 _ _↔_
         rw[Tj,ih2 e];constructor
         ·rintro(⟨i,j',g1,g2,g3⟩|g)
          ·exact⟨i,j',by omega,g2,g3⟩
          ·simp at g
           exact⟨k,j,by omega,⟨h1',h2',hf⟩,g⟩
         ·rintro⟨i,j',g1,g2,g3⟩
          by_cases hik:i<k
          ·exact .inl ⟨i,j',hik,g2,g3⟩
          ·obtain rfl:i=k:=by omega
           obtain⟨_,_,g4⟩:=g2;rw[hf] at g4;injection g4 with g4
           subst g4;exact .inr (by simp;exact g3)
theorem Vw {b:Bed4} {S:List Shp} {ps:List Pt5} {sh:Int} {t:Trn} {cs:List (Int×Int)} {j:Nat} (h:Oc b S ps sh t cs=some j) :
 j<cs.length/\Dm b S ps ⟨sh,t.1,t.2,(gt cs j).1,(gt cs j).2⟩=0/\∀i,i<j->Dm b S ps ⟨sh,t.1,t.2,(gt cs i).1,(gt cs i).2⟩≠0:=by
 obtain⟨h1,h2,h3⟩:=di h;refine⟨h1,by simpa[Vo] using h2,fun i hi=>?_⟩
 have:=h3 i hi;simpa[Vo] using this
theorem gl {b:Bed4} {S:List Shp} {ps:List Pt5} {sh:Int} {p:Pt5} (h:Fw b S ps sh=(0,p)) :
 (Fy b S ps sh false 0).1=0/\(Ig b S ps sh (Fy b S ps sh false 0).2.2 (sf (shp S sh.toNat).grain false) (sf (shp S sh.toNat).grain false).length).1=0 /\
 ∃E,(Ig b S ps sh (Fy b S ps sh false 0).2.2 (sf (shp S sh.toNat).grain false) (sf (shp S sh.toNat).grain false).length).2=E/\E≠[]/\p=(Ee E E.length).put/\Ee E E.length∈E:=by
 unfold Fw at h;split at h
 ·rename_i h0
  injection h with h1 h2
  exact absurd h1 h0
 ·rename_i h0
  refine⟨by simpa using h0,?_⟩
  unfold Jk at h;split at h
  ·rename_i h1
   injection h with h2 h3
   exact absurd h2 h1
  ·rename_i h1
   split at h
   ·injection h with h2 h3;cases h2
   ·rename_i h2
    injection h with h3 h4
    refine⟨by simpa using h1,_,rfl,?_,h4.symm,Vj (by omega) (Nat.le_refl _)⟩
    intro e;rw[e] at h2;exact h2 rfl
theorem gm {b:Bed4} {S:List Shp} {ps:List Pt5} {sh:Int} {p:Pt5} (h:Fw b S ps sh=(0,p)):Dm b S ps p=0/\p.sh=sh:=by
 obtain⟨_,h1,E,hE,_,hp,hm⟩:=gl h;rw[<-hE] at hm;obtain⟨i,j,hi,hst,he⟩:=((um h1).2 _).1 hm;rw[hp,<-hE,he];exact⟨(Vw hst.2.2).2.1,rfl⟩
theorem Co {b:Bed4} {S:List Shp} {ps:List Pt5} {p:Pt5} (h:Dm b S ps p=0):Dc b=false/\(Be S p).1=0/\Lt b S ps p (shp S p.sh.toNat) (Be S p).2=0:=by
 unfold Dm at h;split at h
 ·cases h
 ·rename_i h0
  split at h
  ·rename_i h1;exact absurd h h1
  ·rename_i h1
   exact⟨by simpa using h0,by simpa using h1,h⟩
theorem vu {b:Bed4} {S:List Shp} {os:List Int}:∀{k:Nat},(Ch b S os k).1=0->(Ch b S os k).2.length=k /\
 ∀i,i<k->(Ch b S os i)=(0,(Ch b S os k).2.take i)/\Fw b S ((Ch b S os k).2.take i) (gi os i)=(0,pt (Ch b S os k).2 i):=by
 intro k;induction k with
 | zero=>intro _;exact⟨rfl,fun i hi=>absurd hi (by omega)⟩
 | succ k ih =>
   intro h;rw[Ch] at h;split at h
   ·rename_i h0;exact absurd h h0
   ·rename_i h0
    have h0':(Ch b S os k).1=0:=by simpa using h0
    split at h
    ·rename_i h1;exact absurd h h1
    ·rename_i h1
     have h1':(Fw b S (Ch b S os k).2 (gi os k)).1=0:=by simpa using h1
     obtain⟨ih1,ih2⟩:=ih h0';have hr:Ch b S os (k+1)=(0,(Ch b S os k).2++[(Fw b S (Ch b S os k).2 (gi os k)).2]):=by rw[Ch,if_neg h0,if_neg h1]
     have hl:((Ch b S os k).2++[(Fw b S (Ch b S os k).2 (gi os k)).2]).length=k+1:=by rw[List.length_append,ih1];rfl
     rw[hr];refine⟨hl,fun i hi=>?_⟩
     by_cases hik:i<k
     ·obtain⟨g1,g2⟩:=ih2 i hik
      have e1:(((Ch b S os k).2++[(Fw b S (Ch b S os k).2 (gi os k)).2]).take i)=(Ch b S os k).2.take i:=by
       rw[List.take_append_of_le_length (by omega)]
      have e2:pt ((Ch b S os k).2++[(Fw b S (Ch b S os k).2 (gi os k)).2]) i=pt (Ch b S os k).2 i:=by
       unfold pt;rw[List.getD,List.getD,List.getElem?_append_left (by omega)]
      rw[e1,e2];exact⟨g1,g2⟩
     ·obtain rfl:i=k:=by omega
      have e1:(((Ch b S os i).2++[(Fw b S (Ch b S os i).2 (gi os i)).2]).take i)=(Ch b S os i).2:=by
       rw[List.take_append_of_le_length (by omega),List.take_of_length_le (by omega)]
      have e2:pt ((Ch b S os i).2++[(Fw b S (Ch b S os i).2 (gi os i)).2]) i=(Fw b S (Ch b S os i).2 (gi os i)).2:=by
       unfold pt;rw[List.getD,List.getElem?_append_right (by omega),ih1,Nat.sub_self];rfl
      dsimp only;rw[e1,e2];refine⟨Prod.ext h0' rfl,Prod.ext h1' rfl⟩
theorem U0 {b:Bed4} {S:List Shp} {os:List Int} (h:(Ho b S os).1=0):os.length<=60/\Ho b S os=Ch b S os os.length/\(Ho b S os).2.length=os.length /\
 ∀i,i<os.length->Dm b S ((Ho b S os).2.take i) (pt (Ho b S os).2 i)=0/\(pt (Ho b S os).2 i).sh=gi os i:=by
 unfold Ho at h ⊢;split at h
 ·cases h
 ·rename_i h60
  rw[if_neg h60];obtain⟨h1,h2⟩:=vu h;exact⟨by omega,rfl,h1,fun i hi=>gm (h2 i hi).2⟩
theorem yv {S:List Shp} {ps:List Pt5}:∀{k:Nat},(∀i,i<k->(Be S (pt ps i)).1=0)->(Ef S ps k).1=0:=by
 intro k;induction k with
 | zero=>intro _;rfl
 | succ k ih =>
   intro h;have h1:=ih fun i hi=>h i (by omega)
   rw[Ef,if_neg (by rw[h1];simp),if_neg (by rw[h k (by omega)];simp)]
theorem Zu {b:Bed4} {S:List Shp} {os:List Int} (h:(Ho b S os).1=0):(Mo S (Ho b S os).2).1=0:=by
 obtain⟨_,_,h1,h2⟩:=U0 h;unfold Mo;rw[h1];exact yv fun i hi=>(Co (h2 i hi).1).2.1
end Go.Proofs.YtpbchbcdgikonaaGreat

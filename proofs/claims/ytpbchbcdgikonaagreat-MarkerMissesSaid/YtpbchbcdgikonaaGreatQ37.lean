/- Lean texts of the claim. -/
import Derived.Test.YtpbchbcdgikonaaGreatQ36
namespace Go.Proofs.YtpbchbcdgikonaaGreat
set_option linter.unusedVariables false
set_option linter.unusedSimpArgs false
set_option maxRecDepth 100000
set_option maxHeartbeats 4000000
open Go.RowKit
theorem Ab6 (l:List (Int×Int)) : -100000000000000<=R7 l/\R7 l<=100000000000000:=by
 by_cases hc:Bf l l.length=0
 ·exact(Rt hc).2
 ·unfold R7;rw[if_neg hc];omega
theorem ru (l:List (Int×Int)):0<=Kd l/\Kd l<=100000000000000:=by
 have:=Ab6 l;unfold Kd;omega
theorem Nz (A:Option Addr) (cap n:Nat) (l:List (Int×Int)) (w:World) (hl:n<=9223372036854775807) (hcap:n<=cap) (hs:SpS w A n l) :
 Calls Tryz.prog 35 #[.slice A n cap] w fun e w'=>e=.returned (.int .i64 (Kd l))/\Below w.heap.size w w':=by
 have H2:=Lib.hid (show (if Bf l n=0 then Ma l n n else 0)=R7 l by unfold R7;rw[hs.1])
 have hb:=Ab6 l;have HR:=Lib.hid (show Kd l=max (R7 l) (-(R7 l)) from rfl)
 obtain⟨z,hz⟩:∃z,R7 l=z:=⟨_,rfl⟩
 rw[hz] at H2 hb HR;have W1:IntKind.i64.wrap (-z) = -z:=by rw[IntKind.wrap_i64];omega
 clear hz;go_enter Tryz.func35,Tryz.ntmps35
 go_wp2_with (go_at_call 61;refine(Un A cap n l _ hl hcap hs).mono ?_;rintro e w1 ⟨rfl,hb1⟩;rw[H2.out])
 go_ret;exact⟨Bh (by rw[HR.out]),hb1⟩
def Afk (B:Nat):Value:=.func (.func 37) #[] #[.pointer (some ⟨B,0,none⟩)]
theorem Aaf (B:Nat) (A:Option Addr) (n c:Nat) (S:List Shp) (i k:Nat) (w:World) (hB:Bb w B 82 #[.slice A n c]) (hS:ShS w A n S) (hi:i<n) (hk:k<n) :
 Calls Tryz.prog 37 #[.int .i64 (i:Int),.int .i64 (k:Int),.pointer (some ⟨B,0,none⟩)] w fun e w'=>e=.returned (.int .i64 (Ns S i k))/\Below w.heap.size w w':=by
 have HR:=Lib.hid (show Ns S i k=Kd (shp S k).poly-Kd (shp S i).poly by unfold Ns;simp)
 have c0:w.cell? ⟨B,0,none⟩=some (.slice A n c):=(hB.cell 0).trans rfl;obtain⟨b,off,rfl,-,hi2⟩:=hS.at_ hi;obtain⟨b',off',e,-,hk2⟩:=hS.at_ hk;injection e with e
 injection e with e1 e2
 subst e1 e2;obtain⟨Ai,ci,i1,i2,i3,i4,-⟩:=hi2;obtain⟨Ak,ck,k1,k2,k3,k4,-⟩:=hk2;have ai:=ru (shp S i).poly;have ak:=ru (shp S k).poly;obtain⟨li,hli⟩:∃l,(shp S i).poly=l:=⟨_,rfl⟩
 obtain⟨lk,hlk⟩:∃l,(shp S k).poly=l:=⟨_,rfl⟩
 rw[hli] at i1 i2 i4 ai HR;rw[hlk] at k1 k2 k4 ak HR;obtain⟨ni,hni⟩:∃l,li.length=l:=⟨_,rfl⟩
 obtain⟨nk,hnk⟩:∃l,lk.length=l:=⟨_,rfl⟩
 rw[hni] at i1 i2 i4;rw[hnk] at k1 k2 k4;obtain⟨zi,hzi⟩:∃l,Kd li=l:=⟨_,rfl⟩
 obtain⟨zk,hzk⟩:∃l,Kd lk=l:=⟨_,rfl⟩
 have ZI:=Lib.hid hzi;have ZK:=Lib.hid hzk;rw[hzi] at ai HR;rw[hzk] at ak HR;have B1:(i:Int)<(n:Int):=by omega
 have B2:(k:Int)<(n:Int):=by omega
 have W1:IntKind.i64.wrap (zk-zi)=zk-zi:=by rw[IntKind.wrap_i64];omega
 clear hli hlk hni hnk hzi hzk hS hB;have KF:∀W',Below w.heap.size w W'->(W'.cell? ⟨B,0,none⟩=some (.slice (some ⟨b,off,none⟩) n c)/\W'.cell? ⟨b,off+i*5,none⟩=some (.slice Ai ni ci)/\W'.cell? ⟨b,off+k*5,none⟩=some (.slice Ak nk ck)):=fun W' hb=>⟨Aq hb c0,Aq hb i1,Aq hb k1⟩
 have hbD:=Aw (Below.refl w.heap.size w);clear c0 i1 k1;go_enter Tryz.func37,Tryz.ntmps37;go_upto_region 1 with fail
 go_region_held3 (fun W'=>W'.cell? ⟨B,0,none⟩=some (.slice (some ⟨b,off,none⟩) n c)/\W'.cell? ⟨b,off+i*5,none⟩=some (.slice Ai ni ci)/\W'.cell? ⟨b,off+k*5,none⟩=some (.slice Ak nk ck))
  (with_reducible exact KF _ hbD)
  ((first
    | (go_at_call 35;have hX1:=hb4;(with_reducible refine(Nz Ai ci ni li _ (by omega) i2 (i4.keep hbD)).mono ?_);rintro e w5 ⟨rfl,hb5⟩;rw[ZI.out];replace hbD:=Ao hbD hb5)
    | (go_at_call 35;(with_reducible refine(Nz Ak ck nk lk _ (by omega) k2 (k4.keep hbD)).mono ?_);rintro e w4 ⟨rfl,hb4⟩;rw[ZK.out];replace hbD:=Ao hbD hb4)))
 all_goals go_wp2_with fail
 all_goals go_ret
 all_goals exact⟨Bh (by rw[HR.out]),hbD⟩
theorem OwI.cellsI {w:World} {base g cap n:Nat} {l:List Int} (h:OwI w base (.slice (some ⟨g,0,none⟩) n cap) l) (hn:l.length=n) {k:Nat} (hk:k<n):w.cell? ⟨g,k,none⟩=some (.int .i64 (gi l k))/\w.frozen? ⟨g,k,none⟩=false:=by
 subst hn;have c0:=OwG.cells h k (by omega)
 have f0:=Bp Lx l k 0 _ (Vu hk) (by omega)
 rw[Nat.mul_one,Nat.add_zero] at f0;rw[f0] at c0;exact⟨c0,OwG.frozen h _⟩
theorem mj {l:List Int} {k:Nat} (x:Int):(l.flatMap enI).set k (.int .i64 x)=(l.set k x).flatMap enI:=by
 induction l generalizing k with
 | nil=>simp
 | cons a l ih =>
   cases k with
   | zero=>simp[enI]
   | succ k=>rw[List.set_cons_succ,List.flatMap_cons,List.flatMap_cons,<-ih];simp[enI]
theorem OwI.storeI {w:World} {base g cap n:Nat} {l:List Int} (h:OwI w base (.slice (some ⟨g,0,none⟩) n cap) l) (hn:l.length=n) (k:Nat) (x:Int):OwI (w.setCell ⟨g,k,none⟩ (.int .i64 x)) base (.slice (some ⟨g,0,none⟩) n cap) (l.set k x):=by
 subst hn;have h1:=(World.ownsRow.stored h k (.int .i64 x)).1;rw[mj] at h1;unfold OwI OwG;rw[List.length_set];exact h1
def Uv (l:List Int) (j:Nat):List Int:=(l.set (j+1) (gi l j)).set j (gi l (j+1))
theorem fz {l:List Int} {j:Nat} (h:j+1<l.length) {P:Int->Prop} (hP:∀z∈l,P z):∀z∈Uv l j,P z:=by
 intro z hz;unfold Uv at hz;have g1:gi l j∈l:=by rw[Ob (by omega)];exact List.getElem_mem _
 have g2:gi l (j+1)∈l:=by rw[Ob h];exact List.getElem_mem _
 rcases List.mem_or_eq_of_mem_set hz with h|rfl
 ·rcases List.mem_or_eq_of_mem_set h with h|rfl
  ·exact hP z h
  ·exact hP _ g1
 ·exact hP _ g2
theorem mb {l:List Int} {k:Nat} (h:k<l.length):gi l k∈l:=by rw[Ob h];exact List.getElem_mem _
theorem l7 {f:Int->Int->Int} {l:List Int} {j:Nat} (h:f (gi l (j+1)) (gi l j)<0):J1 f l (j+1)=J1 f (Uv l j) j:=by rw[J1,if_pos h];rfl
theorem yi {f:Int->Int->Int} {l:List Int} {j:Nat} (h:¬f (gi l (j+1)) (gi l j)<0):J1 f l (j+1)=l:=by rw[J1,if_neg h]
theorem Py (f:Int->Int->Int) (l:List Int):J1 f l 0=l:=by rw[J1]
theorem gd (l:List Int) (j:Nat):(Uv l j).length=l.length:=by unfold Uv;simp
def SoW (w0:World) (B n:Nat) (S:List Shp):Prop:=∃A c,Bb w0 B 82 #[.slice A n c]/\ShS w0 A n S
def Afp (n:Nat) (l:List Int):Prop:=∀z∈l,0<=z/\z<n
theorem lv (B n:Nat) (S:List Shp) (g cap m:Nat) (l:List Int) (w0 w:World) (hm:m<=1000) (hl:l.length=m) (hS:SoW w0 B n S) (hb0:Below w0.heap.size w0 w) (hM:Afp n l) (ho:OwI w w0.heap.size (.slice (some ⟨g,0,none⟩) m cap) l) :
 Calls Tryz.prog 95 #[.slice (some ⟨g,0,none⟩) m cap,.int .i64 0,.int .i64 (m:Int),Afk B] w fun e w'=>e=.returned (.tuple #[])/\OwI w' w0.heap.size (.slice (some ⟨g,0,none⟩) m cap) (Iw (Ns S) l m)/\Below w0.heap.size w0 w':=by
 have HS:=Lib.hid hS;unfold Afk;have HI:=Lib.hid (fun i=>show Iw (Ns S) l (i+1)=J1 (Ns S) (Iw (Ns S) l i) i from rfl)
 have hgb:w0.heap.size<=g:=(OwG.lt ho g rfl).1;have HLN:=Lib.hid (fun i (hi:i<=m)=>show (Iw (Ns S) l i).length=m from by rw[(Jd _ _ i (by omega)).length_eq,hl])
 have HMN:=Lib.hid (fun i (hi:i<=m)=>show Afp n (Iw (Ns S) l i) from fun z hz=>hM z ((Jd _ _ i (by omega)).mem_iff.1 hz))
 have h01:Iw (Ns S) l 1=l:=by rw[HI.out 0,Py];rfl
 clear hS hM;by_cases hm1:m<=1
 ·have HE:=Lib.hid (show Iw (Ns S) l m=l by
   rcases Nat.le_one_iff_eq_zero_or_eq_one.1 hm1 with h|h
   ·rw[h];rfl
   ·rw[h];exact h01)
  clear h01 hl;go_enter Tryz.func95,Tryz.ntmps95;go_wp2_with fail;go_loopw [8] (fun i wr=>i=.int .i64 1/\wr=w) (fun _ _=>0)
  case atStart=>exact⟨rfl,rfl⟩
  case round =>
   obtain⟨rfl,rfl⟩:=hrel;have B1:¬(1:Int)<(m:Int):=by omega
   go_wp2_with fail
   go_end0
   exact⟨rfl,by rw[HE.out];exact ho,hb0⟩
 ·have H01:=Lib.hid h01
  clear h01 hl;go_enter Tryz.func95,Tryz.ntmps95;go_wp2_with fail;go_loopw [8,9] (fun i _ wr=>∃k:Nat,1<=k/\k<=m/\i=.int .i64 k/\OwI wr w0.heap.size (.slice (some ⟨g,0,none⟩) m cap) (Iw (Ns S) l k)/\Below w0.heap.size w0 wr) (fun i _ _=>m-(intOf i).toNat)
  case atStart=>exact⟨1,Nat.le_refl _,by omega,rfl,by rw[H01.out];exact ho,hb0⟩
  case round =>
   clear ho hb0;obtain⟨k,hk1,hk,rfl,ho,hb⟩:=hrel;by_cases hlt:k<m
   ·have B1:(k:Int)<(m:Int):=by omega
    have HK:=Lib.hid (HI.out k);have HL1:=Lib.hid (HLN.out k hk);have HM1:=Lib.hid (HMN.out k hk);obtain⟨L0,hL0⟩:∃L,Iw (Ns S) l k=L:=⟨_,rfl⟩
    rw[hL0] at ho HK HL1 HM1;clear hL0;obtain⟨wa,rfl⟩:∃wa:World,wa=wr:=⟨_,rfl⟩
    go_upto_region 4 with fail;go_loopw [9] (fun j wx=>∃(p:Nat) (L:List Int),p<=k/\j=.int .i64 p/\Hid (J1 (Ns S) L p=J1 (Ns S) L0 k)/\Hid (L.length=m)/\Hid (Afp n L)/\OwI wx w0.heap.size (.slice (some ⟨g,0,none⟩) m cap) L/\Below w0.heap.size w0 wx) (fun j _=>(intOf j).toNat)
    case atStart=>exact⟨k,L0,Nat.le_refl _,rfl,Lib.hid rfl,HL1,HM1,ho,hb⟩
    case round =>
     clear ho hb;obtain⟨p,L,hp,rfl,hI,hL,hN,ho,hb⟩:=hrel;by_cases hp0:p=0
     ·subst hp0
      go_upto_region 4 with fail
      go_quiet (fail)
      go_wp2_with fail;have hfin:=hI.out;rw[Py] at hfin;exact⟨⟨k+1,by omega,by omega,by go_num,by rw[HK.out,<-hfin];exact OwG.keep ho (Bg (Below.refl _ _) _),Bg hb _⟩,by simp[intOf];omega⟩
     ·obtain⟨q,rfl⟩:∃q,p=q+1:=⟨p-1,by omega⟩
      clear hp0;have hq1:q+1<m:=by omega
      obtain⟨c1,f1⟩:=OwI.cellsI ho hL.out hq1;obtain⟨c2,f2⟩:=OwI.cellsI ho hL.out (show q<m by omega)
      have n1:=hN.out _ (mb (show q+1<L.length by rw[hL.out];exact hq1))
      have n2:=hN.out _ (mb (show q<L.length by rw[hL.out];omega))
      have HY:=Lib.hid (fun (h:Ns S (gi L (q+1)) (gi L q)<0)=>(l7 h).symm.trans hI.out)
      have HNo:=Lib.hid (fun (h:¬Ns S (gi L (q+1)) (gi L q)<0)=>(yi h).symm.trans hI.out)
      have HSW:=Lib.hid (show Uv L q=(L.set (q+1) (gi L q)).set q (gi L (q+1)) from rfl)
      obtain⟨za,hza⟩:∃z:Nat,gi L (q+1)=z:=⟨(gi L (q+1)).toNat,by omega⟩
      obtain⟨zb,hzb⟩:∃z:Nat,gi L q=z:=⟨(gi L q).toNat,by omega⟩
      rw[hza] at c1 n1 HY HNo HSW;rw[hzb] at c2 n2 HY HNo HSW;have hza2:za<n:=by omega
      have hzb2:zb<n:=by omega
      obtain⟨x,hx⟩:∃x,Ns S za zb=x:=⟨_,rfl⟩
      rw[hx] at HY HNo;have HX:=Lib.hid hx;clear hza hzb n1 n2 hx;have W1:IntKind.i64.wrap (((q+1:Nat):Int)-1)=(q:Int):=by rw[IntKind.wrap_i64];omega
      have B3:((q+1:Nat):Int)<(m:Int):=by omega
      have B4:(q:Int)<(m:Int):=by omega
      have B5:(0<q+1)=True:=by simp
      obtain⟨r,hr⟩:∃r,q+1=r:=⟨_,rfl⟩
      rw[hr] at c1 f1 W1 B3 B5 HSW ⊢;have HR:=Lib.hid hr;clear hr hq1;have KF:∀W',Below wr.heap.size wr W'->(W'.cell? ⟨g,r,none⟩=some (.int .i64 (za:Int))/\W'.cell? ⟨g,q,none⟩=some (.int .i64 (zb:Int))):=fun W' hb=>⟨Aq hb c1,Aq hb c2⟩
      have hbD:=Aw (Below.refl wr.heap.size wr);go_upto_region 4 with fail
      go_region_held3 (fun W'=>W'.cell? ⟨g,r,none⟩=some (.int .i64 (za:Int))/\W'.cell? ⟨g,q,none⟩=some (.int .i64 (zb:Int)))
       (with_reducible exact KF _ hbD)
       ((go_at_call 37;obtain⟨AS,cS,hBS,hSS⟩:=HS.out;(with_reducible refine(Aaf B AS n cS S za zb _ (hBS.keep (Ao hb hbD)) (hSS.keep (Ao hb hbD)) hza2 hzb2).mono ?_);rintro e w5 ⟨rfl,hb5⟩;rw[HX.out];replace hbD:=Ao hbD hb5))
      have hoD:=OwG.keep ho hbD;have hbE:=Ao hb hbD;have hgb:=(OwG.lt ho g rfl).1;have d1:=Aq hbD c1;have d2:=Aq hbD c2;obtain⟨-,f1'⟩:=OwI.cellsI hoD hL.out (show r<m by have:=HR.out;omega)
      obtain⟨-,f2'⟩:=OwI.cellsI hoD hL.out (show q<m by have:=HR.out;omega)
      clear KF hbD ho hb c1 c2 f1 f2;by_cases hx0:x<0
      ·have hI2:=HY.out hx0
       have hne1:¬r=q:=by have:=HR.out;omega
       have hne2:¬q=r:=by have:=HR.out;omega
       go_wp2_with fail
       go_region
       go_wp2_with fail;have hrm:q+1<L.length:=by rw[hL.out,HR.out];omega
       have ho2:=(OwI.storeI hoD hL.out r (zb:Int)).storeI (by rw[List.length_set];exact hL.out) q (za:Int)
       refine⟨⟨q,Uv L q,by have:=HR.out;omega,rfl,Lib.hid hI2,Lib.hid (by rw[gd];exact hL.out),Lib.hid (fun z hz=>fz hrm (P:=fun z=>0<=z/\z<(n:Int)) hN.out z hz),?_,?_⟩,by have:=HR.out;simp[intOf];omega⟩
       ·rw[HSW.out];exact ho2
       ·exact Aw (Bc (Bc hbE (p:=⟨g,r,none⟩) hgb _) (p:=⟨g,q,none⟩) hgb _)
      ·have hI2:=HNo.out (by omega)
       go_wp2_with fail;exact⟨⟨k+1,by omega,by omega,by go_num,by rw[HK.out,<-hI2];exact hoD,hbE⟩,by simp[intOf];omega⟩
   ·obtain rfl:m=k:=by omega
    go_wp2_with fail
    go_end0
    exact⟨rfl,ho,hb⟩
section
open Go.RowKit Limb
theorem Dx (x y:Int) (w:World) (h1 : -4611686018427387904<=x) (h2:x<=4611686018427387904) (h3 : -4611686018427387904<=y) (h4:y<=4611686018427387904):Calls Tryz.prog 78 #[.agg #[.int .i64 x,.int .i64 y]] w (Ae5 w (x:Rat) (y:Rat)):=by
 obtain⟨zx,hzx⟩:∃z:Rat,(x:Rat)=z:=⟨_,rfl⟩
 obtain⟨zy,hzy⟩:∃z:Rat,(y:Rat)=z:=⟨_,rfl⟩
 have E1:=Lib.hid hzx;have E2:=Lib.hid hzy;rw[hzx,hzy];clear hzx hzy;go_enter Tryz.func78,Tryz.ntmps78;go_upto_region 1 with fail;refine Ar (fun X=>Below w.heap.size w X/\Bb X w.heap.size 49 #[.int .i64 x,.int .i64 y]/\Bb X (w.heap.size+1) 163 #[.bool false,.slice none 0 0,.slice none 0 0,.bool false,.slice none 0 0,.slice none 0 0]) ⟨An (An (Below.refl _ _) _) _,Bb.alloc (Bb.new _ _ _) _,Bb.new2 _ _ _ _⟩ ?_
 rintro X ⟨hbX,hP,hR⟩;have hltR:=hR.lt;obtain⟨p0,p1,-,-,-⟩:=hP.pair
 go_wp2_with (go_at_call 115;refine(pof x y _ h1 h2 h3 h4).mono ?_;rintro e w1 ⟨v1,rfl,h5,hb1⟩;rw[E1.out,E2.out] at h5;obtain⟨m1,d1,m2,d2,rfl,hm1,hd1,hm2,hd2⟩:=h5;obtain⟨B1,n1,c1,rfl⟩:=hm1.sl;obtain⟨B2,n2,c2,rfl⟩:=hd1.sl;obtain⟨B3,n3,c3,rfl⟩:=hm2.sl;obtain⟨B4,n4,c4,rfl⟩:=hd2.sl;obtain⟨r0,r1,r2,r3,r4,r5⟩:=cells6 (hR.keep hb1);obtain⟨f0,f1,f2,f3,f4,f5,flt⟩:=Mh (hR.keep hb1))
 obtain⟨hZ,HR⟩:=No (w:=w) (hR.keep hb1) hm1 hd1 hm2 hd2 hltR (by omega) (Ao hbX hb1) _ rfl
 obtain⟨s0,s1,s2,s3,s4,s5⟩:=cells6 hZ;exact bodyPost_ret (v:=.agg #[.bool (decide (zx.num<0)),.slice B1 n1 c1,.slice B2 n2 c2,.bool (decide (zy.num<0)),.slice B3 n3 c3,.slice B4 n4 c4]) (by simp[results,Tryz.results78,go_sem,s0,s1,s2,s3,s4,s5]) rfl HR
end
end Go.Proofs.YtpbchbcdgikonaaGreat

/- Lean texts of the claim. -/
import Derived.Test.YtpbchbcdgikonaaGreatQ23
namespace Go.Proofs.YtpbchbcdgikonaaGreat
set_option linter.unusedVariables false
set_option linter.unusedSimpArgs false
set_option maxRecDepth 100000
set_option maxHeartbeats 4000000
open Go.RowKit
section
open Go.RowKit Limb
theorem Aga (x y:Int):sg (decide (x<0) != decide (y<0)) (x.natAbs*y.natAbs)=x*y:=by
 unfold sg;rw[<-Int.natAbs_mul];by_cases h1:x<0<;>by_cases h2:y<0<;>simp[h1,h2]
 ·have:=Int.mul_pos_of_neg_of_neg h1 h2;omega
 ·have:x*y<=0:=Int.mul_nonpos_of_nonpos_of_nonneg (by omega) (by omega)
  omega
 ·have:x*y<=0:=Int.mul_nonpos_of_nonneg_of_nonpos (by omega) (by omega)
  omega
 ·have:=Int.mul_nonneg (show 0<=x by omega) (show 0<=y by omega);omega
theorem cf1 {w:World} {g k:Nat} (o i:Nat) (u:Value) (h:k≠g):(w.setCell ⟨g,i,none⟩ u).cell? ⟨k,o,none⟩=w.cell? ⟨k,o,none⟩:=by
 unfold World.cell?;rw[Below.heap_setCell w ⟨g,i,none⟩ u k h]
theorem cf2 {w:World} {g k:Nat} {o:Nat} {u v x:Value} (h:k≠g) (hc:w.cell? ⟨k,o,none⟩=some x):((w.setCell ⟨g,0,none⟩ u).setCell ⟨g,1,none⟩ v).cell? ⟨k,o,none⟩=some x:=by
 rw[cf1 _ _ _ h,cf1 _ _ _ h];exact hc
theorem Adv {w:World} {ba bb:Nat} {x y:Int} {vx vy:Value} (hX:Mq w ba vx x) (hY:Mq w bb vy y) (sx:Sm x.natAbs) (sy:Sm y.natAbs) (sxy:Sm (x.natAbs*y.natAbs)):Calls Tryz.prog 176 #[vx,vy] w (Aat w (x*y)):=by
 obtain⟨mx,rfl,hx⟩:=hX;obtain⟨my,rfl,hy⟩:=hY;have HSG:=Lib.hid (Aga x y);obtain⟨p,hp⟩:∃p,decide (x<0)=p:=⟨_,rfl⟩
 obtain⟨q,hq⟩:∃q,decide (y<0)=q:=⟨_,rfl⟩
 rw[hp,hq] at HSG;rw[hp,hq];clear hp hq;go_enter Tryz.func176,Tryz.ntmps176;go_upto_region 1 with fail;refine Ar (fun X=>Below w.heap.size w X/\Bb X w.heap.size 159 #[.bool p,mx]/\Bb X (w.heap.size+1) 159 #[.bool q,my]/\Bb X (w.heap.size+1+1) 159 #[.bool false,.slice none 0 0]) ⟨An (An (An (Below.refl _ _) _) _) _,Bb.alloc (Bb.alloc (Bb.new _ _ _) _) _,Bb.alloc (Bb.new2 _ _ _ _) _,Bb.new3 _ _ _ _ _⟩ ?_
 rintro X ⟨hbX,hP,hQ,hR⟩;have hx':=(hx.keep hbX).keep (Aw (Below.refl _ _));have hy':=(hy.keep hbX).keep (Aw (Below.refl _ _));obtain⟨p0,p1,-,-,-⟩:=hP.pair;obtain⟨q0,q1,-,-,-⟩:=hQ.pair;have hltR:=hR.lt;have hbD:=Aw (Below.refl X.heap.size X);have hne0:w.heap.size≠w.heap.size+1+1:=by omega
 have hne1:w.heap.size+1≠w.heap.size+1+1:=by omega
 go_region_held3 (fun w'=>w'.cell? ⟨w.heap.size,0,none⟩=some (.bool p)/\w'.cell? ⟨w.heap.size,1,none⟩=some mx/\w'.cell? ⟨w.heap.size+1,0,none⟩=some (.bool q)/\w'.cell? ⟨w.heap.size+1,1,none⟩=some my)
  (first
   | exact⟨Aq hbD p0,Aq hbD p1,Aq hbD q0,Aq hbD q1⟩
   | exact⟨cf2 hne0 k0,cf2 hne0 k1,cf2 hne1 k2,cf2 hne1 k3⟩)
  ((first
    | (go_at_call 214;have hd:=hm1;refine(Iv _ hm1 sxy).mono ?_;rintro e w2 ⟨v2,rfl,⟨m2,rfl,hm2⟩,hb2⟩;replace hbD:=Ao hbD hb2;have hR2:=hR.keep hbD;obtain⟨r0,r1,f0,f1,lt⟩:=hR2.pair;obtain⟨A1,n1,c1,rfl⟩:=hm2.sl;have k0:=Aq hbD p0;have k1:=Aq hbD p1;have k2:=Aq hbD q0;have k3:=Aq hbD q1)
    | (go_at_call 143;refine(Afa hx' hy' sx sy).mono ?_;rintro e w1 ⟨m1,rfl,hm1,hb1⟩;replace hbD:=Ao hbD hb1)))
 all_goals go_wp2_with fail
 have hsg:sg (!(p == q)) (x.natAbs*y.natAbs)=x*y:=HSG.out;rw[hsg] at hm2;obtain⟨s0,s1,HR⟩:=Hr (w:=w) hR2 hm2 (Nat.lt_of_lt_of_le hltR (Ao (Aw (Below.refl X.heap.size X)) hb1).size) (by omega) (Ao hbX hbD)
 rw[hsg];exact bodyPost_ret (v:=.agg #[.bool (decide (x*y<0)),.slice A1 n1 c1]) (by simp[results,Tryz.results176,go_sem,s0,s1]) rfl HR
end
section
open Go.RowKit Limb
theorem Acn {x y:Int} (h:decide (x<0)=decide (y<0)):sg (decide (x<0)) (x.natAbs+y.natAbs)=x+y:=by
 unfold sg;by_cases h1:x<0<;>by_cases h2:y<0<;>simp[h1,h2] at h ⊢<;>omega
theorem Acm {x y:Int} (h:decide (x<0)≠decide (y<0)) (hle:y.natAbs<=x.natAbs):sg (decide (x<0)) (x.natAbs-y.natAbs)=x+y:=by
 unfold sg;by_cases h1:x<0<;>by_cases h2:y<0<;>simp[h1,h2] at h ⊢<;>omega
theorem Acl {x y:Int} (h:decide (x<0)≠decide (y<0)) (hle:x.natAbs<=y.natAbs):sg (decide (y<0)) (y.natAbs-x.natAbs)=x+y:=by
 unfold sg;by_cases h1:x<0<;>by_cases h2:y<0<;>simp[h1,h2] at h ⊢<;>omega
theorem Akk {w:World} {ba bb:Nat} {x y:Int} {vx vy:Value} (hX:Mq w ba vx x) (hY:Mq w bb vy y) (sx:Sm x.natAbs) (sy:Sm y.natAbs) (sxy:Sm (x.natAbs+y.natAbs)):Calls Tryz.prog 179 #[vx,vy] w (Aat w (x+y)):=by
 obtain⟨mx,rfl,hx⟩:=hX;obtain⟨my,rfl,hy⟩:=hY;have HS1:=Lib.hid (fun h=>Acn (x:=x) (y:=y) h)
 have HS2:=Lib.hid (fun h g=>Acm (x:=x) (y:=y) h g)
 have HS3:=Lib.hid (fun h g=>Acl (x:=x) (y:=y) h g)
 obtain⟨p,hp⟩:∃p,decide (x<0)=p:=⟨_,rfl⟩
 obtain⟨q,hq⟩:∃q,decide (y<0)=q:=⟨_,rfl⟩
 rw[hp,hq] at HS1 HS2 HS3;rw[hp,hq];obtain⟨mx',n1',c1',rfl⟩:=hx.sl;obtain⟨my',n2',c2',rfl⟩:=hy.sl;clear hp hq;go_enter Tryz.func179,Tryz.ntmps179;go_upto_region 1 with fail;refine Ar (fun X=>Below w.heap.size w X/\Bb X w.heap.size 159 #[.bool p,.slice mx' n1' c1']/\Bb X (w.heap.size+1) 159 #[.bool q,.slice my' n2' c2']/\Bb X (w.heap.size+1+1) 159 #[.bool false,.slice none 0 0]) ⟨An (An (An (Below.refl _ _) _) _) _,Bb.alloc (Bb.alloc (Bb.new _ _ _) _) _,Bb.alloc (Bb.new2 _ _ _ _) _,Bb.new3 _ _ _ _ _⟩ ?_
 rintro X ⟨hbX,hP,hQ,hR⟩;have hx':=hx.keep hbX;have hy':=hy.keep hbX;obtain⟨p0,p1,-,-,-⟩:=hP.pair;obtain⟨q0,q1,-,-,-⟩:=hQ.pair;have hltR:=hR.lt;have hne0:w.heap.size≠w.heap.size+1+1:=by omega
 have hne1:w.heap.size+1≠w.heap.size+1+1:=by omega
 by_cases hpq:p=q
 ·subst hpq
  have hsg:=HS1.out rfl;have HSG:=Lib.hid hsg;clear HS1 HS2 HS3 hsg;go_upto_region 2 with fail;have hbD:=Aw (Below.refl X.heap.size X)
  go_region_held3 (fun w'=>w'.cell? ⟨w.heap.size,0,none⟩=some (.bool p)/\w'.cell? ⟨w.heap.size,1,none⟩=some (.slice mx' n1' c1')/\w'.cell? ⟨w.heap.size+1,0,none⟩=some (.bool p)/\w'.cell? ⟨w.heap.size+1,1,none⟩=some (.slice my' n2' c2'))
   (first
    | exact⟨Aq hbD p0,Aq hbD p1,Aq hbD q0,Aq hbD q1⟩
    | exact⟨cf2 hne0 k0,cf2 hne0 k1,cf2 hne1 k2,cf2 hne1 k3⟩)
   ((first
     | (go_at_call 214;have hd:=hm1;refine(Iv _ hm1 sxy).mono ?_;rintro e w2 ⟨v2,rfl,⟨m2,rfl,hm2⟩,hb2⟩;replace hbD:=Ao hbD hb2;have hR2:=hR.keep hbD;obtain⟨r0,r1,f0,f1,lt⟩:=hR2.pair;obtain⟨A1,n1,c1,rfl⟩:=hm2.sl;have k0:=Aq hbD p0;have k1:=Aq hbD p1;have k2:=Aq hbD q0;have k3:=Aq hbD q1)
     | (go_at_call 178;refine(Aij (hx'.keep (Aw (Below.refl _ _))) (hy'.keep (Aw (Below.refl _ _))) sx sy).mono ?_;rintro e w1 ⟨m1,rfl,hm1,hb1⟩;replace hbD:=Ao hbD hb1)))
  all_goals go_wp2_with fail
  rw[HSG.out] at hm2;obtain⟨s0,s1,HR⟩:=Hr (w:=w) hR2 hm2 (Nat.lt_of_lt_of_le hltR (Ao (Aw (Below.refl X.heap.size X)) hb1).size) (by omega) (Ao hbX hbD)
  rw[HSG.out];exact bodyPost_ret (v:=.agg #[.bool (decide (x+y<0)),.slice A1 n1 c1]) (by simp[results,Tryz.results179,go_sem,s0,s1]) rfl HR
 ·have hpq2:(p == q)=false:=by simpa using hpq
  by_cases hle:y.natAbs<=x.natAbs
  ·have HSG:=Lib.hid (HS2.out hpq hle)
   have HD:Hid (decide (y.natAbs<=x.natAbs)=true):=Lib.hid (by simpa using hle)
   have HSm:Hid (Sm (x.natAbs-y.natAbs)):=Lib.hid (sx.le (Nat.sub_le _ _));clear HS1 HS2 HS3 hpq hle
   go_wp2_with (first
    | (go_at_call 214;have hd:=hm1;refine(Iv _ hm1 HSm.out).mono ?_;rintro e w2 ⟨v2,rfl,⟨m2,rfl,hm2⟩,hb2⟩;have hbE:=Ao hb1 hb2;have hR2:=hR.keep hbE;obtain⟨r0,r1,f0,f1,lt⟩:=hR2.pair;obtain⟨A1,n1,c1,rfl⟩:=hm2.sl)
    | (go_at_call 215;refine(Ai5 hx' hy' sx sy).mono ?_;rintro e w1 ⟨m1,rfl,hm1,hb1⟩;rw[HD.out];have p0':=Aq hb1 p0;have q0':=Aq hb1 q0))
   rw[HSG.out] at hm2;obtain⟨s0,s1,HR⟩:=Hr (w:=w) hR2 hm2 (Nat.lt_of_lt_of_le hltR hb1.size) (by omega) (Ao hbX hbE)
   rw[HSG.out];exact bodyPost_ret (v:=.agg #[.bool (decide (x+y<0)),.slice A1 n1 c1]) (by simp[results,Tryz.results179,go_sem,s0,s1]) rfl HR
  ·have HSG:=Lib.hid (HS3.out hpq (by omega))
   have HD:Hid (decide (y.natAbs<=x.natAbs)=false):=Lib.hid (by simpa using hle)
   have HSm:Hid (Sm (y.natAbs-x.natAbs)):=Lib.hid (sy.le (Nat.sub_le _ _));clear HS1 HS2 HS3 hpq hle
   go_wp2_with (first
    | (go_at_call 214;have hd:=hm3;refine(Iv _ hm3 HSm.out).mono ?_;rintro e w2 ⟨v2,rfl,⟨m2,rfl,hm2⟩,hb2⟩;have hbE:=Ao (Ao hb1 hb3) hb2;have hR2:=hR.keep hbE;obtain⟨r0,r1,f0,f1,lt⟩:=hR2.pair;obtain⟨A1,n1,c1,rfl⟩:=hm2.sl)
    | (go_at_call 215;have hd:=hm1;refine(Ai5 (hy'.keep hb1) (hx'.keep hb1) sy sx).mono ?_;rintro e w3 ⟨m3,rfl,hm3,hb3⟩;have p0'':=Aq hb3 p0';have q0'':=Aq hb3 q0')
    | (go_at_call 215;refine(Ai5 hx' hy' sx sy).mono ?_;rintro e w1 ⟨m1,rfl,hm1,hb1⟩;rw[HD.out];have p0':=Aq hb1 p0;have q0':=Aq hb1 q0;have p1':=Aq hb1 p1;have q1':=Aq hb1 q1))
   rw[HSG.out] at hm2;obtain⟨s0,s1,HR⟩:=Hr (w:=w) hR2 hm2 (Nat.lt_of_lt_of_le hltR (Ao hb1 hb3).size) (by omega) (Ao hbX hbE)
   rw[HSG.out];exact bodyPost_ret (v:=.agg #[.bool (decide (x+y<0)),.slice A1 n1 c1]) (by simp[results,Tryz.results179,go_sem,s0,s1]) rfl HR
end
namespace Limb
theorem X6 {n:Int} {d:Nat} (hd:d≠0):(mkRat n d).num.natAbs=n.natAbs / Nat.gcd n.natAbs d/\(mkRat n d).den=d / Nat.gcd n.natAbs d/\((mkRat n d).num<0↔n<0):=by
 rw[Rat.num_mkRat,Rat.den_mkRat,if_neg hd,if_neg hd,Nat.gcd_comm d];obtain⟨k,hk⟩:((Nat.gcd n.natAbs d:Nat):Int) ∣ n:=Int.ofNat_dvd_left.2 (Nat.gcd_dvd_left _ _);have hg:0<Nat.gcd n.natAbs d:=Nat.gcd_pos_of_pos_right _ (Nat.pos_of_ne_zero hd);generalize Nat.gcd n.natAbs d=g at *
 subst hk;rw[Int.mul_ediv_cancel_left _ (by omega),Int.natAbs_mul,Int.natAbs_natCast,Nat.mul_div_cancel_left _ hg]
 refine⟨rfl,rfl,?_⟩;constructor
 ·intro h;exact Int.mul_neg_of_pos_of_neg (by omega) h
 ·intro h
  apply Classical.byContradiction;intro hc;have:=Int.mul_nonneg (show (0:Int)<=(g:Int) by omega) (show 0<=k by omega)
  omega
theorem X7 {n:Int} {d:Nat} (hd:d≠0):(mkRat n d).num.natAbs<=n.natAbs/\(mkRat n d).den<=d:=by
 obtain⟨h1,h2,-⟩:=X6 (n:=n) hd;rw[h1,h2];exact⟨Nat.div_le_self _ _,Nat.div_le_self _ _⟩
def RB (m:Nat) (q:Rat):Prop:=q.num.natAbs<2 ^ m/\q.den<2 ^ m
theorem F9 {a b m n:Nat} (h1:a<2 ^ m) (h2:b<2 ^ n):a*b<2 ^ (m+n):=by
 rw[Nat.pow_add];exact Nat.mul_lt_mul_of_lt_of_lt h1 h2
theorem RB.mk {m:Nat} {n:Int} {d:Nat} (hd:d≠0) (h1:n.natAbs<2 ^ m) (h2:d<2 ^ m):RB m (mkRat n d) :=
 ⟨Nat.lt_of_le_of_lt (X7 hd).1 h1,Nat.lt_of_le_of_lt (X7 hd).2 h2⟩
theorem RB.le {m n:Nat} {q:Rat} (h:RB m q) (hn:m<=n):RB n q :=
 ⟨Nat.lt_of_lt_of_le h.1 (Nat.pow_le_pow_right (by decide) hn),Nat.lt_of_lt_of_le h.2 (Nat.pow_le_pow_right (by decide) hn)⟩
theorem RB.mul {m n:Nat} {p q:Rat} (hp:RB m p) (hq:RB n q):RB (m+n) (p*q):=by
 rw[Rat.mul_def'];exact RB.mk (Nat.mul_ne_zero p.den_nz q.den_nz) (by rw[Int.natAbs_mul];exact F9 hp.1 hq.1) (F9 hp.2 hq.2)
theorem RB.add {m n:Nat} {p q:Rat} (hp:RB m p) (hq:RB n q):RB (m+n+1) (p+q):=by
 rw[Rat.add_def'];have h1:=F9 hp.1 hq.2;have h2:=F9 hq.1 hp.2;rw[Nat.add_comm n] at h2;have h3:=F9 hp.2 hq.2;have e:2 ^ (m+n+1)=2*2 ^ (m+n):=by rw[Nat.pow_succ,Nat.mul_comm]
 refine RB.mk (Nat.mul_ne_zero p.den_nz q.den_nz) ?_ (by omega)
 have a1:(p.num*(q.den:Int)).natAbs=p.num.natAbs*q.den:=by rw[Int.natAbs_mul,Int.natAbs_natCast]
 have a2:(q.num*(p.den:Int)).natAbs=q.num.natAbs*p.den:=by rw[Int.natAbs_mul,Int.natAbs_natCast]
 have:=Int.natAbs_add_le (p.num*q.den) (q.num*p.den);omega
theorem RB.neg {m:Nat} {q:Rat} (h:RB m q):RB m (-q):=⟨by rw[Rat.neg_num,Int.natAbs_neg];exact h.1,h.2⟩
theorem RB.sub {m n:Nat} {p q:Rat} (hp:RB m p) (hq:RB n q):RB (m+n+1) (p-q):=by
 rw[Rat.sub_eq_add_neg];exact hp.add hq.neg
theorem uz {z:Int} (h:z≠0):z.sign.natAbs=1:=by rw[Int.natAbs_sign];simp[h]
theorem RB.div {m n:Nat} {p q:Rat} (hp:RB m p) (hq:RB n q) (h0:q.num≠0):RB (m+n) (p / q):=by
 rw[Rat.div_def];refine hp.mul ⟨?_,?_⟩
 ·rw[Rat.num_inv,Int.natAbs_mul,uz h0,Nat.one_mul,Int.natAbs_natCast];exact hq.2
 ·rw[Rat.den_inv,if_neg h0];exact hq.1
theorem RB.of {m:Nat} {z:Int} (h:z.natAbs<2 ^ m) (hm:0<m):RB m (z:Rat) :=
 ⟨h,Nat.lt_of_lt_of_le (by decide:1<2 ^ 1) (Nat.pow_le_pow_right (by decide) hm)⟩
theorem Ah3 (p q:Rat) (h0:q.num≠0):p / q=mkRat (p.num*q.num.sign*q.den) (p.den*q.num.natAbs):=by
 rw[Rat.div_def,Rat.mul_def',Rat.num_inv,Rat.den_inv,if_neg h0,Int.mul_assoc]
def rnd (n:Int) (d:Nat):Int:=if n<0 then -(((2*n.natAbs+d) / (2*d):Nat):Int) else (((2*n.natAbs+d) / (2*d):Nat):Int)
theorem jf {n:Int} {d g:Nat} (hg:0<g):rnd (n*g) (d*g)=rnd n d:=by
 unfold rnd
 have e:(2*(n*(g:Int)).natAbs+d*g) / (2*(d*g))=(2*n.natAbs+d) / (2*d):=by
  rw[Int.natAbs_mul,Int.natAbs_natCast,show 2*(n.natAbs*g)+d*g=(2*n.natAbs+d)*g by rw[Nat.add_mul,Nat.mul_assoc],<-Nat.mul_assoc,Nat.mul_div_mul_right _ _ hg]
 rw[e]
 have:n*(g:Int)<0↔n<0:=by
  constructor
  ·intro h
   apply Classical.byContradiction;intro hc;have:=Int.mul_nonneg (show (0:Int)<=n by omega) (show (0:Int)<=(g:Int) by omega)
   omega
  ·intro h
   exact Int.mul_neg_of_neg_of_pos h (by omega)
 simp only[this]
theorem Aa9 {n:Int} {d:Nat} (hd:d≠0):rnd (mkRat n d).num (mkRat n d).den=rnd n d:=by
 obtain⟨m,h0,h1,h2⟩:=Rat.mkRat_num_den (n:=n) (n':=(mkRat n d).num) (d':=(mkRat n d).den) (z':=(mkRat n d).den_nz) (c:=(mkRat n d).reduced) hd rfl;have:=jf (n:=(mkRat n d).num) (d:=(mkRat n d).den) (g:=m) (Nat.pos_of_ne_zero h0);rw[<-this,<-h1,<-h2]
theorem X8 (ax bx vx N D:Int) (h:D≠0):((ax:Rat)+((bx:Rat)-ax)*((N:Rat) / D))-vx=mkRat (((ax-vx)*D+(bx-ax)*N)*D.sign) D.natAbs:=by
 have hD:(D:Rat)≠0:=fun e=>h (Rat.intCast_eq_zero_iff.1 e)
 have e1:mkRat (((ax-vx)*D+(bx-ax)*N)*D.sign) D.natAbs=Rat.divInt ((ax-vx)*D+(bx-ax)*N) D:=by
  generalize (ax-vx)*D+(bx-ax)*N=M;rcases Int.lt_or_gt_of_ne h with g|g
  ·rw[Int.sign_eq_neg_one_of_neg g,<-Rat.divInt_ofNat,show ((D.natAbs:Nat):Int) = -D by omega,Rat.divInt_neg']
   congr 1
   omega
  ·rw[Int.sign_eq_one_of_pos g,<-Rat.divInt_ofNat,show ((D.natAbs:Nat):Int)=D by omega,Int.mul_one]
 rw[e1,Rat.divInt_eq_div];simp only[Rat.intCast_add,Rat.intCast_sub,Rat.intCast_mul]
 grind
end Limb
section
open Go.RowKit Limb
def Gr (w:World) (base:Nat) (v:Value) (q:Rat):Prop:=∃m d,v=.agg #[.bool (decide (q.num<0)),m,d]/\Cq w base m q.num.natAbs/\Cq w base d q.den
theorem Gr.keep {w w':World} {base:Nat} {v:Value} {q:Rat} (h:Gr w base v q) (hb:Below w.heap.size w w'):Gr w' base v q:=by
 obtain⟨m,d,e,hm,hd⟩:=h;exact⟨m,d,e,hm.keep hb,hd.keep hb⟩
def Ab9 (w:World) (q:Rat) (e:Ending) (w':World):Prop:=∃v,e=.returned v/\Gr w' w.heap.size v q/\Below w.heap.size w w'
theorem Bb.triple {w:World} {g:Nat} {t:TypeId} {u v x:Value} (h:Bb w g t #[u,v,x]):w.cell? ⟨g,0,none⟩=some u/\w.cell? ⟨g,1,none⟩=some v/\w.cell? ⟨g,2,none⟩=some x/\w.frozen? ⟨g,0,none⟩=false/\w.frozen? ⟨g,1,none⟩=false/\w.frozen? ⟨g,2,none⟩=false/\g<w.heap.size :=
 ⟨(h.cell 0).trans rfl,(h.cell 1).trans rfl,(h.cell 2).trans rfl,h.frozen 0,h.frozen 1,h.frozen 2,h.lt⟩
theorem Bb.set3 {w:World} {g:Nat} {t:TypeId} {u v x u' v' x':Value} (h:Bb w g t #[u,v,x]):Bb (((w.setCell ⟨g,0,none⟩ u').setCell ⟨g,1,none⟩ v').setCell ⟨g,2,none⟩ x') g t #[u',v',x']:=((h.set_ 0 u').set_ 1 v').set_ 2 x'
theorem Bb.far3 {w:World} {g k:Nat} {t:TypeId} {cs:Array Value} (h:Bb w k t cs) (hne:k≠g) (u v x:Value):Bb (((w.setCell ⟨g,0,none⟩ u).setCell ⟨g,1,none⟩ v).setCell ⟨g,2,none⟩ x) k t cs :=
 ((h.far (p:=⟨g,0,none⟩) hne u).far (p:=⟨g,1,none⟩) hne v).far (p:=⟨g,2,none⟩) hne x
theorem Ca {a w:World} (h:Below a.heap.size a w) {g:Nat} (hg:a.heap.size<=g) (u v x:Value):Below a.heap.size a (((w.setCell ⟨g,0,none⟩ u).setCell ⟨g,1,none⟩ v).setCell ⟨g,2,none⟩ x) :=
 Bc (Bc (Bc h (p:=⟨g,0,none⟩) hg u) (p:=⟨g,1,none⟩) hg v) (p:=⟨g,2,none⟩) hg x
theorem Cq.far3 {w:World} {base:Nat} {v:Value} {a g:Nat} (h:Cq w base v a) (hg:g<base) (u x z:Value):Cq (((w.setCell ⟨g,0,none⟩ u).setCell ⟨g,1,none⟩ x).setCell ⟨g,2,none⟩ z) base v a :=
 ((h.far (p:=⟨g,0,none⟩) hg u).far (p:=⟨g,1,none⟩) hg x).far (p:=⟨g,2,none⟩) hg z
theorem Im {w w1:World} {g base:Nat} {T:TypeId} {x y z m d:Value} {q:Rat} (hR:Bb w1 g T #[x,y,z]) (hm:Cq w1 base m q.num.natAbs) (hd:Cq w1 base d q.den) (hg:g<base) (hw:w.heap.size<=g) (hb:Below w.heap.size w w1) :
 (((w1.setCell ⟨g,0,none⟩ (.bool (decide (q.num<0)))).setCell ⟨g,1,none⟩ m).setCell ⟨g,2,none⟩ d).cell? ⟨g,0,none⟩=some (.bool (decide (q.num<0)))/\(((w1.setCell ⟨g,0,none⟩ (.bool (decide (q.num<0)))).setCell ⟨g,1,none⟩ m).setCell ⟨g,2,none⟩ d).cell? ⟨g,1,none⟩=some m/\(((w1.setCell ⟨g,0,none⟩ (.bool (decide (q.num<0)))).setCell ⟨g,1,none⟩ m).setCell ⟨g,2,none⟩ d).cell? ⟨g,2,none⟩=some d/\Ab9 w q (.returned (.agg #[.bool (decide (q.num<0)),m,d])) (((w1.setCell ⟨g,0,none⟩ (.bool (decide (q.num<0)))).setCell ⟨g,1,none⟩ m).setCell ⟨g,2,none⟩ d):=by
 obtain⟨s0,s1,s2,-,-,-,-⟩:=(hR.set3 (u':=.bool (decide (q.num<0))) (v':=m) (x':=d)).triple;exact⟨s0,s1,s2,_,rfl,⟨m,d,rfl,(hm.far3 hg _ _ _).lower (by omega),(hd.far3 hg _ _ _).lower (by omega)⟩,Ca hb hw _ _ _⟩
theorem vq {w:World} {ba a:Nat} {va:Value} (hA:Cq w ba va a) (sa:Sm a):Calls Tryz.prog 142 #[va] w fun e w'=>e=.returned (.bool (decide (a=0)))/\Below w.heap.size w w':=by
 obtain⟨c,hc,HC⟩:∃c:Bool,decide (a=0)=c/\Hid ((Ld a 0 == 0)=c):=⟨_,rfl,Lib.hid (by
  unfold Ld;by_cases h0:a=0
  ·simp[h0]
  ·simp[h0])⟩
 rw[hc];obtain⟨k,hk,HK⟩:∃k,(k == 0)=c/\Hid (Ld a 0=k):=⟨_,HC.out,Lib.hid rfl⟩
 clear hc HC;go_enter Tryz.func142,Tryz.ntmps142
 go_wp2_with (go_at_call 171;refine(Ai6 hA (Q4 _ 0) sa (by unfold Sm;exact Nat.pow_pos (by decide))).mono ?_;rintro e w1 ⟨rfl,hb1⟩;rw[HK.out])
 go_ret;exact⟨rfl,hb1⟩
theorem Aim (A:Option Addr) (n c:Nat) (w:World):Calls Tryz.prog 180 #[.slice A n c] w fun e w'=>e=.returned (.agg #[.bool false,.slice A n c])/\Below w.heap.size w w':=by
 go_enter Tryz.func180,Tryz.ntmps180;go_wp2_with fail;obtain⟨s0,s1,-,-,-⟩:=Bb.pair (Bb.new w 159 #[.bool false,.slice A n c]);exact bodyPost_ret (v:=.agg #[.bool false,.slice A n c]) (by simp[results,Tryz.results180,go_sem,s0,s1]) rfl ⟨rfl,An (Below.refl _ _) _⟩
theorem Jm {w:World} {ba d:Nat} {b:Bool} {A D:Option Addr} {n c k e:Nat} (hD:Cq w ba (.slice D k e) d) (sd:Sm d) (h0:d≠0):Calls Tryz.prog 141 #[.agg #[.bool b,.slice A n c,.slice D k e]] w fun e1 w'=>e1=.returned (.agg #[.bool b,.slice A n c,.slice D k e])/\Below w.heap.size w w':=by
 have HZ:Hid (decide (d=0)=false):=Lib.hid (by simpa using h0)
 go_enter Tryz.func141,Tryz.ntmps141;go_upto_region 1 with fail;refine Ar (fun X=>Below w.heap.size w X/\Bb X w.heap.size 161 #[.bool b,.slice A n c,.slice D k e]/\Bb X (w.heap.size+1) 161 #[.bool false,.slice none 0 0,.slice none 0 0]) ⟨An (An (Below.refl _ _) _) _,Bb.alloc (Bb.new _ _ _) _,Bb.new2 _ _ _ _⟩ ?_
 rintro X ⟨hbX,hP,hR⟩;obtain⟨p0,p1,p2,-,-,-,-⟩:=hP.triple
 go_wp2_with (go_at_call 142;refine(vq (hD.keep hbX) sd).mono ?_;rintro e1 w1 ⟨rfl,hb1⟩;rw[HZ.out];have p0':=Aq hb1 p0;have p1':=Aq hb1 p1;have p2':=Aq hb1 p2;obtain⟨r0,r1,r2,f0,f1,f2,lt⟩:=(hR.keep hb1).triple)
 obtain⟨s0,s1,s2,-,-,-,-⟩:=((hR.keep hb1).set3 (u':=.bool b) (v':=.slice A n c) (x':=.slice D k e)).triple;exact bodyPost_ret (v:=.agg #[.bool b,.slice A n c,.slice D k e]) (by simp[results,Tryz.results141,go_sem,s0,s1,s2]) rfl ⟨rfl,Ca (Ao hbX hb1) (by omega) _ _ _⟩
theorem Ajc {n:Int} {a c:Nat} {b:Bool} (h1:n.natAbs=a) (h2:n<0↔sg b c<0) (h3:0<a->0<c):sg b a=n:=by
 unfold sg at *
 cases b<;>simp at h2 ⊢<;>omega
theorem Qp (z:Int):sg (decide (z<0)) z.natAbs=z:=by unfold sg;by_cases h:z<0<;>simp[h]<;>omega
theorem Qr {w:World} {ba bd d a:Nat} {va vd:Value} (p:Bool) (hz:Cq w ba va a) (hD:Cq w bd vd d) (sz:Sm a) (sd:Sm d) (h0:d≠0):Calls Tryz.prog 144 #[.agg #[.bool p,va],vd] w (Ab9 w (mkRat (sg p a) d)):=by
 obtain⟨Az,nz,cz,rfl⟩:=hz.sl;obtain⟨Ad,nd,cd,rfl⟩:=hD.sl;obtain⟨M1,M2,M3⟩:=X6 (n:=sg p a) h0;rw[Aa6] at M1 M2;have hg:0<Nat.gcd a d:=Nat.gcd_pos_of_pos_right _ (Nat.pos_of_ne_zero h0);have sg1:Sm (Nat.gcd a d):=sd.le (Nat.gcd_le_right _ (Nat.pos_of_ne_zero h0));have HSG:=Lib.hid (Ajc (b:=p) M1 M3 (fun h=>Nat.lt_of_lt_of_le h (Nat.div_le_self _ _)))
 obtain⟨r,hr⟩:∃r,mkRat (sg p a) d=r:=⟨_,rfl⟩
 rw[hr] at M2 HSG ⊢;clear hr;obtain⟨g,hge⟩:∃g,Nat.gcd a d=g:=⟨_,rfl⟩
 rw[hge] at M1 M2 hg sg1 HSG;have HG:=Lib.hid hge;have HM2:=Lib.hid M2;have s1:Sm (a / g):=sz.le (Nat.div_le_self _ _);clear M1 M2 M3 hge;go_enter Tryz.func144,Tryz.ntmps144;go_upto_region 1 with fail;refine Ar (fun X=>Below w.heap.size w X/\Bb X w.heap.size 159 #[.bool p,.slice Az nz cz]/\Bb X (w.heap.size+1) 161 #[.bool false,.slice none 0 0,.slice none 0 0]) ⟨An (An (Below.refl _ _) _) _,Bb.alloc (Bb.new _ _ _) _,Bb.new2 _ _ _ _⟩ ?_
 rintro X ⟨hbX,hP,hR⟩;have hz':=hz.keep hbX;have hd':=hD.keep hbX;obtain⟨p0,p1,-,-,-⟩:=hP.pair;have hltR:=hR.lt
 go_wp2_with (first
  | (go_at_call 175;have hX3:=hb3;refine(Vp p (hq2.keep hb3) s1).mono ?_;rintro e w4 ⟨v4,rfl,⟨m4,rfl,hm4⟩,hb4⟩;obtain⟨A4,n4,c4,rfl⟩:=hm4.sl;obtain⟨A3,n3,c3,rfl⟩:=hq3.sl;have hbE:=Ao (Ao (Ao hb1 hb2) hb3) hb4;obtain⟨r0,r1,r2,f0,f1,f2,lt⟩:=(hR.keep hbE).triple)
  | (go_at_call 174;have hX2:=hb2;refine(Aii ((hd'.keep hb1).keep hb2) (hv1.keep hb2) sd sg1 hg).mono ?_;rintro e w3 ⟨q3,r3,rfl,hq3,hr3,hb3⟩;have p0''':=Aq hb3 p0'')
  | (go_at_call 174;have hX1:=hb1;refine(Aii (hz'.keep hb1) hv1 sz sg1 hg).mono ?_;rintro e w2 ⟨q2,r2,rfl,hq2,hr2,hb2⟩;have p0'':=Aq hb2 p0';obtain⟨A2,n2,c2,rfl⟩:=hq2.sl)
  | (go_at_call 173;refine(Akp hz' hd' sz sd).mono ?_;rintro e w1 ⟨v1,rfl,hv1,hb1⟩;rw[HG.out] at hv1;have p0':=Aq hb1 p0;have p1':=Aq hb1 p1))
 have hsg:=HSG.out;rw[hsg] at hm4 ⊢;have hq3':=hq3.keep hb4;rw[<-HM2.out] at hq3';obtain⟨s0,s1,s2,HR⟩:=Im (w:=w) (hR.keep hbE) (hm4.lower hb3.size) hq3' (Nat.lt_of_lt_of_le hltR (Ao hb1 hb2).size) (by omega) (Ao hbX hbE)
 exact bodyPost_ret (v:=.agg #[.bool (decide (r.num<0)),.slice A4 n4 c4,.slice A3 n3 c3]) (by simp[results,Tryz.results144,go_sem,s0,s1,s2]) rfl HR
theorem U1 {w:World} {ba bd d:Nat} {z:Int} {vz vd:Value} (hZ:Mq w ba vz z) (hD:Cq w bd vd d) (sz:Sm z.natAbs) (sd:Sm d) (h0:d≠0):Calls Tryz.prog 144 #[vz,vd] w (Ab9 w (mkRat z d)):=by
 obtain⟨mz,rfl,hz⟩:=hZ;have:=Qr (decide (z<0)) hz hD sz sd h0
 rwa [Qp] at this
end
section
open Go.RowKit Limb
theorem Mt {w:World} {g0 g1:Nat} {t:TypeId} {a b c d e f:Value} (hP:Bb w g0 t #[a,b,c]) (hQ:Bb w g1 t #[d,e,f]) :
 w.cell? ⟨g0,0,none⟩=some a/\w.cell? ⟨g0,1,none⟩=some b/\w.cell? ⟨g0,2,none⟩=some c/\w.cell? ⟨g1,0,none⟩=some d/\w.cell? ⟨g1,1,none⟩=some e/\w.cell? ⟨g1,2,none⟩=some f :=
 ⟨(hP.cell 0).trans rfl,(hP.cell 1).trans rfl,(hP.cell 2).trans rfl,(hQ.cell 0).trans rfl,(hQ.cell 1).trans rfl,(hQ.cell 2).trans rfl⟩
theorem Ml {q:Rat} (h:RB 600 q):Sm q.num.natAbs/\Sm q.den:=⟨H8 h.1 (by decide),H8 h.2 (by decide)⟩
theorem Sz {p q:Rat} (hp:RB 600 p) (hq:RB 600 q):Sm (p.num.natAbs*q.num.natAbs)/\Sm (p.den*q.den)/\Sm (p.num.natAbs*q.den)/\Sm (q.num.natAbs*p.den) :=
 ⟨H8 (F9 hp.1 hq.1) (by decide),H8 (F9 hp.2 hq.2) (by decide),H8 (F9 hp.1 hq.2) (by decide),H8 (F9 hq.1 hp.2) (by decide)⟩
theorem Ain {w:World} {ba bb:Nat} {x y:Rat} {vx vy:Value} (hX:Gr w ba vx x) (hY:Gr w bb vy y) (bx:RB 600 x) (by_:RB 600 y):Calls Tryz.prog 145 #[vx,vy] w (Ab9 w (x*y)):=by
 obtain⟨mx,dx,rfl,hx,hxd⟩:=hX;obtain⟨my,dy,rfl,hy,hyd⟩:=hY;obtain⟨Ax,nx,cx,rfl⟩:=hx.sl;obtain⟨Bx,ox,ex,rfl⟩:=hxd.sl;obtain⟨Ay,ny,cy,rfl⟩:=hy.sl;obtain⟨By,oy,ey,rfl⟩:=hyd.sl;obtain⟨sxn,sxd⟩:=Ml bx;obtain⟨syn,syd⟩:=Ml by_;obtain⟨s11,s22,s12,s21⟩:=Sz bx by_;have HX0:=x.den_nz;have HY0:=y.den_nz;obtain⟨p,hp⟩:∃p,decide (x.num<0)=p:=⟨_,rfl⟩
 obtain⟨q,hq⟩:∃q,decide (y.num<0)=q:=⟨_,rfl⟩
 have HP:=Lib.hid hp;have HQ:=Lib.hid hq;rw[hp,hq];clear hp hq;go_enter Tryz.func145,Tryz.ntmps145;go_upto_region 1 with fail;refine Ar (fun X=>Below w.heap.size w X/\Bb X w.heap.size 161 #[.bool p,.slice Ax nx cx,.slice Bx ox ex]/\Bb X (w.heap.size+1) 161 #[.bool q,.slice Ay ny cy,.slice By oy ey]/\Bb X (w.heap.size+1+1) 161 #[.bool false,.slice none 0 0,.slice none 0 0]) ⟨An (An (An (Below.refl _ _) _) _) _,Bb.alloc (Bb.alloc (Bb.new _ _ _) _) _,Bb.alloc (Bb.new2 _ _ _ _) _,Bb.new3 _ _ _ _ _⟩ ?_
 rintro X ⟨hbX,hP,hQ,hR⟩;have hne01:w.heap.size≠w.heap.size+1:=by omega
 have hne10:w.heap.size+1≠w.heap.size:=by omega
 have hne02:w.heap.size≠w.heap.size+1+1:=by omega
 have hne12:w.heap.size+1≠w.heap.size+1+1:=by omega
 have hbD:=Aw (Below.refl X.heap.size X)
 go_region_held3 (fun w'=>w'.cell? ⟨w.heap.size,0,none⟩=some (.bool p)/\w'.cell? ⟨w.heap.size,1,none⟩=some (.slice Ax nx cx)/\w'.cell? ⟨w.heap.size,2,none⟩=some (.slice Bx ox ex)/\w'.cell? ⟨w.heap.size+1,0,none⟩=some (.bool q)/\w'.cell? ⟨w.heap.size+1,1,none⟩=some (.slice Ay ny cy)/\w'.cell? ⟨w.heap.size+1,2,none⟩=some (.slice By oy ey))
  (first
   | with_reducible exact Mt (hP.keep hbD) (hQ.keep hbD)
   | with_reducible exact Mt (hP.keep hbD).set3 ((hQ.keep hbD).far3 hne10 _ _ _)
   | with_reducible exact Mt ((hP.keep hbD).set3.far3 hne01 _ _ _) ((hQ.keep hbD).far3 hne10 _ _ _).set3)
  ((first
    | (go_at_call 141;have hX1:=hb1;refine(Jm (((hyd.keep hbX).keep (Aw (Below.refl _ _))).keep hb1) syd HY0).mono ?_;rintro e w2 ⟨rfl,hb2⟩;replace hbD:=Ao hbD hb2;obtain⟨a0,a1,a2,a3,a4,a5,a6⟩:=(hP.keep hbD).triple;obtain⟨b0,b1,b2,b3,b4,b5,b6⟩:=(hQ.keep hbD).triple)
    | (go_at_call 141;refine(Jm ((hxd.keep hbX).keep (Aw (Below.refl _ _))) sxd HX0).mono ?_;rintro e w1 ⟨rfl,hb1⟩;replace hbD:=Ao hbD hb1)))
 all_goals go_wp2_with fail
 refine Ar (fun Y=>Below w.heap.size w Y/\Bb Y w.heap.size 161 #[.bool p,.slice Ax nx cx,.slice Bx ox ex]/\Bb Y (w.heap.size+1) 161 #[.bool q,.slice Ay ny cy,.slice By oy ey]/\Bb Y (w.heap.size+1+1) 161 #[.bool false,.slice none 0 0,.slice none 0 0]) ⟨Ca (Ca (Ao hbX hbD) (Nat.le_refl _) _ _ _) (by omega) _ _ _,(hP.keep hbD).set3.far3 hne01 _ _ _,((hQ.keep hbD).far3 hne10 _ _ _).set3,((hR.keep hbD).far3 hne02.symm _ _ _).far3 hne12.symm _ _ _⟩ ?_
 clear hbX hbD hP hQ hR hb1 hb2 hX1 a0 a1 a2 a3 a4 a5 a6 b0 b1 b2 b3 b4 b5 b6;rintro X ⟨hbX,hP,hQ,hR⟩;have hltR:=hR.lt;have hbD:=Aw (Below.refl X.heap.size X);have hx':=(hx.keep hbX).keep hbD;have hxd':=(hxd.keep hbX).keep hbD;have hy':=(hy.keep hbX).keep hbD;have hyd':=(hyd.keep hbX).keep hbD;have hXi:Mq X.drew ba (.agg #[.bool p,.slice Ax nx cx]) x.num:=⟨_,by rw[HP.out],hx'⟩
 have hYi:Mq X.drew bb (.agg #[.bool q,.slice Ay ny cy]) y.num:=⟨_,by rw[HQ.out],hy'⟩
 have s11':Sm (x.num*y.num).natAbs:=by rw[Int.natAbs_mul];exact s11
 have hd0:x.den*y.den≠0:=Nat.mul_ne_zero HX0 HY0;have EQ:=Lib.hid (Rat.mul_def' x y).symm
 go_region_held3 (fun w'=>w'.cell? ⟨w.heap.size,0,none⟩=some (.bool p)/\w'.cell? ⟨w.heap.size,1,none⟩=some (.slice Ax nx cx)/\w'.cell? ⟨w.heap.size,2,none⟩=some (.slice Bx ox ex)/\w'.cell? ⟨w.heap.size+1,0,none⟩=some (.bool q)/\w'.cell? ⟨w.heap.size+1,1,none⟩=some (.slice Ay ny cy)/\w'.cell? ⟨w.heap.size+1,2,none⟩=some (.slice By oy ey))
  (first
   | with_reducible exact Mt (hP.keep hbD) (hQ.keep hbD)
   | with_reducible exact Mt ((hP.keep hbD).far3 hne02 _ _ _) ((hQ.keep hbD).far3 hne12 _ _ _))
  ((first
    | (go_at_call 144;have hX2:=h2;refine(U1 (h1.keep hb2) h2 s11' s22 hd0).mono ?_;rintro e w3 ⟨v3,rfl,h3,hb3⟩;rw[EQ.out] at h3;obtain⟨m3,d3,rfl,hm3,hd3⟩:=h3;obtain⟨A3,n3,c3,rfl⟩:=hm3.sl;obtain⟨B3,o3,e3,rfl⟩:=hd3.sl;replace hbD:=Ao hbD hb3;obtain⟨r0,r1,r2,f0,f1,f2,lt⟩:=(hR.keep hbD).triple)
    | (go_at_call 143;have hX1:=h1;refine(Afa (hxd'.keep hb1) (hyd'.keep hb1) sxd syd).mono ?_;rintro e w2 ⟨v2,rfl,h2,hb2⟩;replace hbD:=Ao hbD hb2)
    | (go_at_call 176;refine(Adv hXi hYi sxn syn s11).mono ?_;rintro e w1 ⟨v1,rfl,h1,hb1⟩;replace hbD:=Ao hbD hb1)))
 all_goals go_wp2_with fail
 obtain⟨s0,s1,s2,HR⟩:=Im (w:=w) (hR.keep hbD) hm3 hd3 (Nat.lt_of_lt_of_le hltR (Ao (Ao (Aw (Below.refl X.heap.size X)) hb1) hb2).size) (by omega) (Ao hbX hbD)
 exact bodyPost_ret (v:=.agg #[.bool (decide ((x*y).num<0)),.slice A3 n3 c3,.slice B3 o3 e3]) (by simp[results,Tryz.results145,go_sem,s0,s1,s2]) rfl HR
end
section
open Go.RowKit Limb
theorem Akg (w:World) (base:Nat):Cq w base (.slice none 0 0) 0:=by
 have e:lmb 0=[]:=by rw[lmb];rfl
 refine⟨none,0,?_,?_,by unfold maxLen;omega,⟨rfl,?_⟩,fun _=>rfl,fun p hp=>by cases hp⟩
 ·rw[e];rfl
 ·rw[e];exact Nat.le_refl _
 ·rw[e];exact .inl rfl
theorem jb (w:World):Calls Tryz.prog 141 #[.agg #[.bool false,.slice none 0 0,.slice none 0 0]] w fun e w'=>∃v,e=.returned (.agg #[.bool false,.slice none 0 0,v])/\Cq w' w.heap.size v 1/\Below w.heap.size w w':=by
 have s0:Sm 0:=H8 (m:=1) (by decide) (by decide)
 go_enter Tryz.func141,Tryz.ntmps141;go_upto_region 1 with fail;refine Ar (fun X=>Below w.heap.size w X/\Bb X w.heap.size 161 #[.bool false,.slice none 0 0,.slice none 0 0]/\Bb X (w.heap.size+1) 161 #[.bool false,.slice none 0 0,.slice none 0 0]) ⟨An (An (Below.refl _ _) _) _,Bb.alloc (Bb.new _ _ _) _,Bb.new2 _ _ _ _⟩ ?_
 rintro X ⟨hbX,hP,hR⟩;obtain⟨p0,p1,p2,-,-,-,-⟩:=hP.triple;have hltR:=hR.lt
 go_wp2_with (first
  | (go_at_call 170;have hz:=hb1;refine(Qz 1 _ (by omega)).mono ?_;rintro e w2 ⟨v2,rfl,h2,hb2⟩;have hR2:=(hR.keep hb1).keep hb2;obtain⟨r0,r1,r2,f0,f1,f2,lt⟩:=hR2.triple;obtain⟨A2,n2,c2,rfl⟩:=h2.sl)
  | (go_at_call 142;refine(vq (Akg _ 0) s0).mono ?_;rintro e w1 ⟨rfl,hb1⟩))
 obtain⟨s0',s1',s2',-,-,-,-⟩:=(hR2.set3 (u':=.bool false) (v':=.slice none 0 0) (x':=.slice A2 n2 c2)).triple;have hb12:=Ao hb1 hb2;exact bodyPost_ret (v:=.agg #[.bool false,.slice none 0 0,.slice A2 n2 c2]) (by simp[results,Tryz.results141,go_sem,s0',s1',s2']) rfl ⟨_,rfl,(h2.far3 (Nat.lt_of_lt_of_le hltR hb1.size) _ _ _).lower (Nat.le_trans hbX.size hb1.size),Ca (Ao hbX hb12) (by omega) _ _ _⟩
theorem Cq.fr2 {w:World} {base:Nat} {v:Value} {a g:Nat} (h:Cq w base v a) (hg:g<base) (u x:Value):Cq ((w.setCell ⟨g,0,none⟩ u).setCell ⟨g,1,none⟩ x) base v a :=
 (h.far (p:=⟨g,0,none⟩) hg u).far (p:=⟨g,1,none⟩) hg x
theorem Aca {a w:World} (h:Below a.heap.size a w) {g:Nat} (hg:a.heap.size<=g) (u v:Value):Below a.heap.size a ((w.setCell ⟨g,0,none⟩ u).setCell ⟨g,1,none⟩ v) :=
 Bc (Bc h (p:=⟨g,0,none⟩) hg u) (p:=⟨g,1,none⟩) hg v
theorem Ail:decide (sg false 0<0)=false:=rfl
theorem Ahb {w:World} {ba bb:Nat} {mx my:Value} (hX:Cq w ba mx 0) (hY:Cq w bb my 0):Calls Tryz.prog 199 #[.agg #[.bool false,mx],.agg #[.bool false,my]] w fun e w'=>e=.returned (.int .i64 0)/\Below w.heap.size w w':=by
 have s0:Sm 0:=H8 (m:=1) (by decide) (by decide)
 go_enter Tryz.func199,Tryz.ntmps199;go_upto_region 1 with fail;obtain⟨Ax,nx,cx,rfl⟩:=hX.sl;obtain⟨Ay,ny,cy,rfl⟩:=hY.sl;refine Ar (fun X=>Below w.heap.size w X/\Bb X w.heap.size 159 #[.bool false,.slice Ax nx cx]/\Bb X (w.heap.size+1) 159 #[.bool false,.slice Ay ny cy]) ⟨An (An (Below.refl _ _) _) _,Bb.alloc (Bb.new _ _ _) _,Bb.new2 _ _ _ _⟩ ?_
 rintro X ⟨hbX,hP,hQ⟩;have hX':=hX.keep hbX;have hY':=hY.keep hbX;have hltP:=hP.lt;have hltQ:=hQ.lt;have hne01:w.heap.size≠w.heap.size+1:=by omega
 have hne10:w.heap.size+1≠w.heap.size:=by omega
 have hbD:=Aw (Below.refl X.heap.size X);obtain⟨p0,p1,-,-,-⟩:=hP.pair;obtain⟨q0,q1,-,-,-⟩:=hQ.pair;clear hX hY
 go_region_with (first
  | (go_at_call 175;have hz:=hm1;refine(Vp false (hX'.keep hbD) s0).mono ?_;rintro e w2 ⟨v2,rfl,⟨m2,rfl,hm2⟩,hb2⟩;obtain⟨A2,n2,c2,rfl⟩:=hm2.sl;rw[Ail];replace hm1:=hm1.keep hb2;replace hbD:=Ao hbD hb2;clear k0 k1 k2 k3;have k0:=Aq hbD p0;have k1:=Aq hbD p1;have k2:=Aq hbD q0;have k3:=Aq hbD q1;obtain⟨-,-,f0,f1,l0⟩:=(hP.keep hbD).pair;obtain⟨-,-,f2,f3,l1⟩:=(hQ.keep hbD).pair)
  | (go_at_call 175;have hz:=hm1;refine(Vp false (hY'.keep hbD) s0).mono ?_;rintro e w2 ⟨v2,rfl,⟨m2,rfl,hm2⟩,hb2⟩;obtain⟨A2,n2,c2,rfl⟩:=hm2.sl;rw[Ail];replace hm1:=hm1.keep hb2;replace hbD:=Ao hbD hb2;clear k0 k1 k2 k3;have k0:=Aq hbD p0;have k1:=Aq hbD p1;have k2:=Aq hbD q0;have k3:=Aq hbD q1;obtain⟨-,-,f0,f1,l0⟩:=(hP.keep hbD).pair;obtain⟨-,-,f2,f3,l1⟩:=(hQ.keep hbD).pair)
  | (go_at_call 175;refine(Vp false (hX'.keep hbD) s0).mono ?_;rintro e w1 ⟨v1,rfl,⟨m1,rfl,hm1⟩,hb1⟩;obtain⟨A1,n1,c1,rfl⟩:=hm1.sl;rw[Ail];replace hbD:=Ao hbD hb1;have k0:=Aq hbD p0;have k1:=Aq hbD p1;have k2:=Aq hbD q0;have k3:=Aq hbD q1)
  | (go_at_call 175;refine(Vp false (hY'.keep hbD) s0).mono ?_;rintro e w1 ⟨v1,rfl,⟨m1,rfl,hm1⟩,hb1⟩;obtain⟨A1,n1,c1,rfl⟩:=hm1.sl;rw[Ail];replace hbD:=Ao hbD hb1;have k0:=Aq hbD p0;have k1:=Aq hbD p1;have k2:=Aq hbD q0;have k3:=Aq hbD q1))
 all_goals go_wp2_with (go_at_call 171;(first|refine(Ai6 ((hm1.fr2 hltP _ _).fr2 hltQ _ _) ((hm2.fr2 (Nat.lt_of_lt_of_le hltP hb1.size) _ _).fr2 (Nat.lt_of_lt_of_le hltQ hb1.size) _ _) s0 s0).mono ?_|refine(Ai6 ((hm2.fr2 (Nat.lt_of_lt_of_le hltP hb1.size) _ _).fr2 (Nat.lt_of_lt_of_le hltQ hb1.size) _ _) ((hm1.fr2 hltP _ _).fr2 hltQ _ _) s0 s0).mono ?_);rintro e w3 ⟨rfl,hb3⟩)
 all_goals go_ret
 all_goals exact⟨rfl,Ao (Aca (Aca (Ao hbX hbD) (Nat.le_refl _) _ _) (by omega) _ _) hb3⟩
end
section
open Go.RowKit Limb
theorem Aik {w:World} {g g':Nat} {t:TypeId} {x y:Value} (h:Bb w g t #[.bool false,.slice none 0 0,x]) (k:Bb w g' t #[.bool false,.slice none 0 0,y]) :
 w.cell? ⟨g,0,none⟩=some (.bool false)/\w.cell? ⟨g,1,none⟩=some (.slice none 0 0)/\w.cell? ⟨g,2,none⟩=some x/\w.cell? ⟨g',0,none⟩=some (.bool false)/\w.cell? ⟨g',1,none⟩=some (.slice none 0 0)/\w.cell? ⟨g',2,none⟩=some y :=
 ⟨(h.cell 0).trans rfl,(h.cell 1).trans rfl,(h.cell 2).trans rfl,(k.cell 0).trans rfl,(k.cell 1).trans rfl,(k.cell 2).trans rfl⟩
theorem Akj (w:World):Mq w 0 (.agg #[.bool false,.slice none 0 0]) 0:=⟨_,rfl,Akg w 0⟩
theorem Aki {w:World} {b:Nat} {m:Value} (h:Cq w b m 1):Mq w b (.agg #[.bool false,m]) 1:=⟨_,rfl,h⟩
theorem Ag1 {w:World} {b:Nat} {v:Value} (h:Mq w b v (0*1)):∃m,v=.agg #[.bool false,m]/\Cq w b m 0:=by
 obtain⟨m,e,hm⟩:=h;exact⟨m,e,hm⟩
theorem Agf (w:World):Calls Tryz.prog 163 #[.agg #[.bool false,.slice none 0 0,.slice none 0 0],.agg #[.bool false,.slice none 0 0,.slice none 0 0]] w fun e w'=>e=.returned (.int .i64 0)/\Below w.heap.size w w':=by
 have s0:Sm 0:=H8 (m:=1) (by decide) (by decide)
 have s1:Sm 1:=H8 (m:=1) (by decide) (by decide)
 go_enter Tryz.func163,Tryz.ntmps163;go_upto_region 1 with fail;refine Ar (fun X=>Below w.heap.size w X/\Bb X w.heap.size 161 #[.bool false,.slice none 0 0,.slice none 0 0]/\Bb X (w.heap.size+1) 161 #[.bool false,.slice none 0 0,.slice none 0 0]) ⟨An (An (Below.refl _ _) _) _,Bb.alloc (Bb.new _ _ _) _,Bb.new2 _ _ _ _⟩ ?_
 rintro X ⟨hbX,hP,hQ⟩;have hltP:=hP.lt;have hltQ:=hQ.lt;have hne01:w.heap.size≠w.heap.size+1:=by omega
 have hne10:w.heap.size+1≠w.heap.size:=by omega
 go_cut [6] (fun v6 wx=>∃A1 n1 c1 A2 n2 c2,Below w.heap.size w wx/\Bb wx w.heap.size 161 #[.bool false,.slice none 0 0,.slice A1 n1 c1]/\Bb wx (w.heap.size+1) 161 #[.bool false,.slice none 0 0,.slice A2 n2 c2]/\Cq wx 0 (.slice A1 n1 c1) 1/\Cq wx 0 (.slice A2 n2 c2) 1)
 case first =>
  have hbD:=Aw (Below.refl X.heap.size X);obtain⟨p0,p1,p2,q0,q1,q2⟩:=Aik hP hQ
  go_region_with (first
   | (go_at_call 141;have hz:=h1;refine(jb _).mono ?_;rintro e w2 ⟨v2,rfl,h2,hb2⟩;obtain⟨A2,n2,c2,rfl⟩:=h2.sl;replace h1:=h1.keep hb2;replace hbD:=Ao hbD hb2;clear k0 k1 k2 k3 k4 k5;obtain⟨k0,k1,k2,k3,k4,k5⟩:=Aik (hP.keep hbD) (hQ.keep hbD);obtain⟨-,-,-,f0,f1,f2,l0⟩:=(hP.keep hbD).triple;obtain⟨-,-,-,f3,f4,f5,l1⟩:=(hQ.keep hbD).triple)
   | (go_at_call 141;refine(jb _).mono ?_;rintro e w1 ⟨v1,rfl,h1,hb1⟩;obtain⟨A1,n1,c1,rfl⟩:=h1.sl;replace hbD:=Ao hbD hb1;obtain⟨k0,k1,k2,k3,k4,k5⟩:=Aik (hP.keep hbD) (hQ.keep hbD)))
  all_goals go_wp2_with fail
  all_goals go_meet
  all_goals (first
   | exact⟨A1,n1,c1,A2,n2,c2,Ca (Ca (Ao hbX hbD) (Nat.le_refl _) _ _ _) (by omega) _ _ _,(hP.keep hbD).set3.far3 hne01 _ _ _,((hQ.keep hbD).far3 hne10 _ _ _).set3,((h1.far3 hltP _ _ _).far3 hltQ _ _ _).lower (Nat.zero_le _),((h2.far3 (Nat.lt_of_lt_of_le hltP hb1.size) _ _ _).far3 (Nat.lt_of_lt_of_le hltQ hb1.size) _ _ _).lower (Nat.zero_le _)⟩
   | exact⟨A2,n2,c2,A1,n1,c1,Ca (Ca (Ao hbX hbD) (Nat.le_refl _) _ _ _) (by omega) _ _ _,(hP.keep hbD).set3.far3 hne01 _ _ _,((hQ.keep hbD).far3 hne10 _ _ _).set3,((h2.far3 (Nat.lt_of_lt_of_le hltP hb1.size) _ _ _).far3 (Nat.lt_of_lt_of_le hltQ hb1.size) _ _ _).lower (Nat.zero_le _),((h1.far3 hltP _ _ _).far3 hltQ _ _ _).lower (Nat.zero_le _)⟩)
 case rest =>
  obtain⟨A1,n1,c1,A2,n2,c2,hbX,hP,hQ,hm1,hm2⟩:=hcut;go_upto_region 2 with fail;have hbD:=Aw (Below.refl wc.heap.size wc);have hM1:=hm1.keep hbD;have hM2:=hm2.keep hbD
  go_region_held3 (fun w'=>w'.cell? ⟨w.heap.size,0,none⟩=some (.bool false)/\w'.cell? ⟨w.heap.size,1,none⟩=some (.slice none 0 0)/\w'.cell? ⟨w.heap.size,2,none⟩=some (.slice A1 n1 c1)/\w'.cell? ⟨w.heap.size+1,0,none⟩=some (.bool false)/\w'.cell? ⟨w.heap.size+1,1,none⟩=some (.slice none 0 0)/\w'.cell? ⟨w.heap.size+1,2,none⟩=some (.slice A2 n2 c2))
   (with_reducible exact Aik (hP.keep hbD) (hQ.keep hbD))
   ((first
     | (go_at_call 199;refine(Ahb (h2.keep (Ao hbP2 hb4)) h4).mono ?_;rintro e w5 ⟨rfl,hb5⟩;replace hbD:=Ao hbD hb5)
     | (go_at_call 176;have hz:=hbP2;refine(Adv (Akj _) (Aki (hM1.keep hbM)) s0 s1 s0).mono ?_;rintro e w4 ⟨v4,rfl,h4',hb4⟩;obtain⟨m4,rfl,h4⟩:=Ag1 h4';replace hbD:=Ao hbD hb4)
     | (go_at_call 180;have hz:=h2;refine(Aim _ _ _ _).mono ?_;rintro e w3 ⟨rfl,hb3⟩;have hbP2:=hb3;have hbM:=Ao (Ao hb1 hb2) hb3;replace hbD:=Ao hbD hb3)
     | (go_at_call 176;refine(Adv (Akj _) (Aki (hM2.keep hb1)) s0 s1 s0).mono ?_;rintro e w2 ⟨v2,rfl,h2',hb2⟩;obtain⟨m2,rfl,h2⟩:=Ag1 h2';replace hbD:=Ao hbD hb2)
     | (go_at_call 180;refine(Aim _ _ _ _).mono ?_;rintro e w1 ⟨rfl,hb1⟩;replace hbD:=Ao hbD hb1)))
  all_goals go_wp2_with fail
  all_goals go_ret
  all_goals exact⟨rfl,Ao hbX hbD⟩
end
end Go.Proofs.YtpbchbcdgikonaaGreat

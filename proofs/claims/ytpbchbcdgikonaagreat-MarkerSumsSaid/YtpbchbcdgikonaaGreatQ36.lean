/- Lean texts of the claim. -/
import Derived.Test.YtpbchbcdgikonaaGreatQ35
import Derived.Laws.Externs
namespace Go.Proofs.YtpbchbcdgikonaaGreat
set_option linter.unusedVariables false
set_option linter.unusedSimpArgs false
set_option maxRecDepth 100000
set_option maxHeartbeats 4000000
open Go.RowKit
theorem Adc {n:Nat} (h0:0<n):∀x,0<x->n<(x+1)*(x+1)->Q0 n x*Q0 n x<=n/\n<(Q0 n x+1)*(Q0 n x+1):=by
 intro x;induction x using Nat.strongRecOn with
 | _ x ih =>
   intro hx hn;rw[Q0];split
   ·rename_i h
    have hinv:=Xv (n:=n) hx
    have hpos:0<(x+n / x) / 2:=by
     rcases Nat.eq_zero_or_pos ((x+n / x) / 2) with g|g
     ·have hx1:x=1/\n / x=0:=by
       generalize n / x=q at g ⊢;omega
      obtain⟨rfl,e1⟩:=hx1;rw[Nat.div_one] at e1;omega
     ·exact g
    exact ih _ h hpos hinv
   ·rename_i h
    refine⟨?_,hn⟩
    have hq:x<=n / x:=by
     generalize n / x=q at h ⊢;omega
    exact(Nat.le_div_iff_mul_le hx).1 hq
theorem Pn {n:Nat} (hn:n<9223372036854775808):Cf n*Cf n<=n/\n<(Cf n+1)*(Cf n+1):=by
 unfold Cf;split
 ·rename_i h
  have:n=0\/n=1:=by omega
  rcases this with rfl|rfl<;>simp
 ·rename_i h
  have hb:=(Lib.bitLenAux_bounds 64 n (by have e:(2:Nat) ^ 64=18446744073709551616:=(by decide);omega) (by omega)).2.2
  refine Adc (by omega) _ (Nat.two_pow_pos _) ?_
  have hb':n<2 ^ Lib.bitLen n:=hb
  have:2 ^ Lib.bitLen n<=2 ^ ((Lib.bitLen n+1) / 2)*2 ^ ((Lib.bitLen n+1) / 2):=by
   rw[<-Nat.pow_add];exact Nat.pow_le_pow_right (by decide) (by omega)
  have h2:2 ^ ((Lib.bitLen n+1) / 2)*2 ^ ((Lib.bitLen n+1) / 2)<=(2 ^ ((Lib.bitLen n+1) / 2)+1)*(2 ^ ((Lib.bitLen n+1) / 2)+1):=Nat.mul_le_mul (Nat.le_succ _) (Nat.le_succ _);omega
theorem je {n a b:Nat} (h1:a*a<=n) (h2:n<(a+1)*(a+1)) (h3:b*b<=n) (h4:n<(b+1)*(b+1)):a=b:=by
 rcases Nat.lt_trichotomy a b with g|g|g
 ·have:=Nat.mul_le_mul (show a+1<=b by omega) (show a+1<=b by omega);omega
 ·exact g
 ·have:=Nat.mul_le_mul (show b+1<=a by omega) (show b+1<=a by omega);omega
theorem ur : ((Tryz.f140).name == "runtime.NumGoroutine") = false := by kernel_rfl
theorem uv:(Tryz.f140).body.isNone=true:=by kernel_rfl
theorem uq:Extern.findNext Tryz.f140=none:=by kernel_rfl
theorem uu:Extern.find Tryz.f140=some Extern.MathSqrt.sqrt:=by kernel_rfl
theorem vr {x r:Nat} (h:Ieee.double.sqrt x=some r) (w:World):(callFunc 140 #[.float .f64 x]).run Tryz.prog w=.ok (.value (.float .f64 r)) w:=by
 rw[run_callFunc_extern Tryz.func140 ur uv uq uu];have h':FloatKind.f64.format.sqrt x=some r:=h;have e:Extern.MathSqrt.sqrt #[.float .f64 x]=(match FloatKind.f64.format.sqrt x with|some r=>pure (.float .f64 r)|none=>do pure (.float .f64 (<-choose (.nanBits .f64 x x)))):=rfl
 rw[e,h'];rfl
theorem ki {x r:Nat} (h:Ieee.double.sqrt x=some r) (w:World):Calls Tryz.prog 111 #[.float .f64 x] w fun e w'=>e=.returned (.float .f64 r)/\w=w':=by
 have hs:=vr h;clear h;go_enter Tryz.func111,Tryz.ntmps111;go_wp2_with fail;go_ret;exact⟨rfl,rfl⟩
theorem rp (n:Nat) (w:World) (hn:n<1125899906842624):Calls Tryz.prog 74 #[.int .i64 (n:Int)] w fun e w'=>e=.returned (.int .i64 (Cf n:Int))/\w=w':=by
 obtain⟨HA,HB⟩:=Pn (n:=n) (by omega)
 obtain⟨R,hR⟩:∃R,Cf n=R:=⟨_,rfl⟩
 rw[hR] at HA HB ⊢;have HU:=Lib.hid (fun a h1 h2=>je (n:=n) (a:=a) (b:=R) h1 h2 HA HB)
 clear hR HA HB;obtain⟨r,hr,z,hz,hzb⟩:=Zp (n:=n) (by have e:(2:Nat) ^ 50=1125899906842624:=(by decide);omega)
 have e30:(2:Nat) ^ 30=1073741824:=by decide
 rw[e30] at hzb;have hci:=fun (w:World)=>run_convert_int_float (P:=Tryz.prog) w 3 203 .i64 .f64 (n:Int) (by rw[Tryz.underlying3];rfl) Tryz.underlying203
 have hfo:floatOfInt .f64 (n:Int)=Ieee.double.write (.number false n 0):=by
  unfold floatOfInt FloatKind.nearest FloatKind.encode FloatKind.format;simp[show ¬((n:Int)<0) by omega]
 rw[hfo] at hci;obtain⟨x,hx⟩:∃x,Ieee.double.write (.number false n 0)=x:=⟨_,rfl⟩
 rw[hx] at hr hci
 have hfi:floatToIntVal .f64 r .i64=some (z:Int):=by
  unfold floatToIntVal FloatKind.decode FloatKind.format;have e1:IntKind.i64.min = -9223372036854775808:=by decide
  have e2:IntKind.i64.max=9223372036854775807:=by decide
  rw[hz];simp only[e1,e2];rw[if_pos (by omega)]
 have hcf:=fun (w:World)=>run_convert_float_int (P:=Tryz.prog) w 203 3 .f64 .i64 r (z:Int) (by rw[Tryz.underlying203];rfl) Tryz.underlying3 hfi
 clear hz hfi hx hfo e30;have HRR:=Lib.hid hr;clear hr;go_enter Tryz.func74,Tryz.ntmps74
 go_upto_region 2 with (go_at_call 111;refine(ki HRR.out _).mono ?_;rintro e w1 ⟨rfl,rfl⟩)
 clear hci hcf HRR
 go_loop [3] (fun i=>∃a:Nat,i=.int .i64 a/\a<=1073741824) (fun i=>(intOf i).toNat)
 case atStart=>exact⟨z,rfl,by omega⟩
 case round =>
  obtain⟨a,rfl,ha⟩:=hrel;obtain⟨q,hq⟩:∃q,a*a=q:=⟨_,rfl⟩
  have hqb:q<=1152921504606846976:=by rw[<-hq];exact Nat.mul_le_mul ha ha
  have E1:(a:Int)*(a:Int)=(q:Int):=by rw[<-hq];simp
  have W1:IntKind.i64.wrap (q:Int)=q:=by rw[IntKind.wrap_i64];omega
  by_cases hlt:n<q
  ·have ha0:0<a:=by
    rcases Nat.eq_zero_or_pos a with g|g
    ·subst g;omega
    ·exact g
   have HQ:=Lib.hid hq;clear hq;go_wp2_with fail;exact⟨⟨a-1,by rw[show ((a-1:Nat):Int)=(a:Int)-1 by omega],by omega⟩,by simp[intOf];omega⟩
  ·have HQ:=Lib.hid (show a*a<=n by omega)
   clear hq;go_wp2_with fail;clear E1 W1 hqb hlt
   go_loop [3] (fun i=>∃b:Nat,i=.int .i64 b/\b<=1073741824/\Hid (b*b<=n)) (fun i=>1073741825-(intOf i).toNat)
   case atStart=>exact⟨a,rfl,ha,HQ⟩
   case round =>
    obtain⟨b,rfl,hb,HB⟩:=hrel;obtain⟨q,hq⟩:∃q,(b+1)*(b+1)=q:=⟨_,rfl⟩
    have hqb:q<=1152921506754330625:=by rw[<-hq];exact Nat.mul_le_mul (show b+1<=1073741825 by omega) (show b+1<=1073741825 by omega)
    have E1:((b:Int)+1)*((b:Int)+1)=(q:Int):=by rw[<-hq];simp
    have W1:IntKind.i64.wrap (q:Int)=q:=by rw[IntKind.wrap_i64];omega
    by_cases hlt:q<=n
    ·have hb1:b<1073741824:=by
      apply Classical.byContradiction;intro hc;have:=Nat.mul_le_mul (show 1073741824<=b by omega) (show 1073741824<=b by omega)
      have:=HB.out;omega
     have HQ:=Lib.hid (show (b+1)*(b+1)<=n by omega)
     clear hq;go_wp2_with fail;exact⟨⟨b+1,by go_num,by omega,HQ⟩,by simp[intOf];omega⟩
    ·have HE:=Lib.hid (HU.out b HB.out (by omega))
     clear hq;go_wp2_with fail;go_ret;exact⟨by rw[HE.out];rfl,rfl⟩
theorem L7 {l:List (Int×Int)} {n:Nat} (h:Bf l n=0):3<=n/\n<=40/\(∀k,k<n->Vr (gt l k))/\Dz l n=true:=by
 unfold Bf at h;split at h
 ·cases h
 ·split at h
  ·cases h
  ·split at h
   ·cases h
   ·rename_i g1 g2 g3
    split at h
    ·rename_i g4
     refine⟨by omega,by omega,fun k hk=>?_,g4⟩
     cases ho:Ce 1048576 (gt l k) with
     | false=>unfold Ce at ho;unfold Vr;simp at ho;omega
     | true=>exact absurd (Bq.yes (f:=fun i=>Ce 1048576 (gt l i)) hk ho) g3
    ·cases h
theorem Yx {l:List (Int×Int)} {n:Nat} (h:Bf l n=0) {i j:Nat} (hi:i<n) (hj:j<n) (hne:i≠j):gt l i≠gt l j:=by
 have hs:=(L7 h).2.2.2;unfold Dz at hs;rw[Bool.and_eq_true] at hs;have hd:=Jq.iff.1 hs.1
 have key:∀a b,b<a->a<n->gt l a≠gt l b:=by
  intro a b hba ha he;have:=hd a ha;rw[show Aej l a=true from Bq.yes (f:=fun j=>eqS (gt l a) (gt l j)) hba ((Vy _ _).2 he)] at this
  cases this
 rcases Nat.lt_or_ge i j with g|g
 ·exact fun e=>key j i g hj e.symm
 ·exact key i j (by omega) hi
theorem Aa0 (p q:Int×Int):(q.1-p.1)*(q.1-p.1)<=(sqd p q:Int)/\(q.2-p.2)*(q.2-p.2)<=(sqd p q:Int)/\(p≠q->1<=sqd p q)/\(sqd p q:Int)=(q.1-p.1)*(q.1-p.1)+(q.2-p.2)*(q.2-p.2):=by
 have n1:0<=(q.1-p.1)*(q.1-p.1):=(Sj (M:=((q.1-p.1).natAbs:Int)) (by omega) (by omega)).1
 have n2:0<=(q.2-p.2)*(q.2-p.2):=(Sj (M:=((q.2-p.2).natAbs:Int)) (by omega) (by omega)).1
 have e:(sqd p q:Int)=(q.1-p.1)*(q.1-p.1)+(q.2-p.2)*(q.2-p.2):=by unfold sqd;omega
 refine⟨by omega,by omega,fun hne=>?_,e⟩
 by_cases h1:q.1-p.1=0
 ·by_cases h2:q.2-p.2=0
  ·exact absurd (Prod.ext (by omega) (by omega)) hne
  ·have:(q.2-p.2)*(q.2-p.2)≠0:=Int.mul_ne_zero h2 h2
   omega
 ·have:(q.1-p.1)*(q.1-p.1)≠0:=Int.mul_ne_zero h1 h1
  omega
theorem Hv {d:Int} {N R:Nat} (h:d*d<=(N:Int)) (hR:N<(R+1)*(R+1)) : -(R:Int)<=d/\d<=(R:Int):=by
 constructor
 ·refine Classical.byContradiction fun hc=>?_
  have h1:(R:Int)+1 <= -d:=by omega
  have:=Int.mul_le_mul h1 h1 (by omega) (by omega)
  rw[Int.neg_mul_neg] at this;have e:(((R+1)*(R+1):Nat):Int)=((R:Int)+1)*((R:Int)+1):=by push_cast;rfl
  omega
 ·refine Classical.byContradiction fun hc=>?_
  have h1:(R:Int)+1<=d:=by omega
  have:=Int.mul_le_mul h1 h1 (by omega) (by omega)
  have e:(((R+1)*(R+1):Nat):Int)=((R:Int)+1)*((R:Int)+1):=by push_cast;rfl
  omega
theorem Abi (v:List (Int×Int)) : -1<=orW v/\orW v<=1:=by unfold orW Er;split<;>(try split)<;>omega
theorem Xb {p q:Int×Int} (hp:Vr p) (hq:Vr q) (hne:p≠q):(sqd p q)<1125899906842624/\1<=Cf (sqd p q)/\Cf (sqd p q)<=4294967296 /\
 -(Cf (sqd p q):Int)<=q.1-p.1/\q.1-p.1<=Cf (sqd p q) /\ -(Cf (sqd p q):Int)<=q.2-p.2/\q.2-p.2<=Cf (sqd p q):=by
 obtain⟨a1,a2,a3,a4⟩:=hp;obtain⟨b1,b2,b3,b4⟩:=hq;obtain⟨s1,s2,s3,s4⟩:=Aa0 p q;have m1:=Sj (d:=q.1-p.1) (M:=2097152) (by omega) (by omega)
 have m2:=Sj (d:=q.2-p.2) (M:=2097152) (by omega) (by omega)
 have hN:sqd p q<1125899906842624:=by omega
 obtain⟨r1,r2⟩:=Pn (n:=sqd p q) (by omega)
 have h1:=s3 hne;refine⟨hN,?_,Xm (by omega),Hv s1 r2 |>.1,Hv s1 r2 |>.2,Hv s2 r2 |>.1,Hv s2 r2 |>.2⟩
 refine Classical.byContradiction fun hc=>?_
 have h0:Cf (sqd p q)=0:=by omega
 rw[h0] at r2;omega
theorem Ais {c d R:Int} (hc1 : -500<=c) (hc2:c<=500) (hR:0<=R) (h1 : -R<=d) (h2:d<=R) : -(R*500)<=c*d/\c*d<=R*500:=by
 have k1:0<=(500-c)*R:=Int.mul_nonneg (by omega) hR
 have k2:0<=(500+c)*R:=Int.mul_nonneg (by omega) hR
 rcases Int.le_total 0 c with g|g
 ·have e1:=Int.mul_le_mul_of_nonneg_left h2 g
  have e2:=Int.mul_le_mul_of_nonneg_left h1 g;rw[Int.sub_mul] at k1;rw[Int.mul_neg] at e2;have:=Int.mul_comm R 500;omega
 ·have e1:=Int.mul_le_mul_of_nonneg_left h2 (show 0 <= -c by omega)
  have e2:=Int.mul_le_mul_of_nonneg_left h1 (show 0 <= -c by omega)
  rw[Int.add_mul] at k2;rw[Int.neg_mul,Int.neg_mul] at e1;rw[Int.neg_mul,Int.neg_mul,Int.mul_neg] at e2;have:=Int.mul_comm R 500;omega
theorem iw {c:Int} {p q:Int×Int} (hc1 : -500<=c) (hc2:c<=500) (hp:Vr p) (hq:Vr q) (hne:p≠q) :
 -1048576000<=c*(q.2-p.2)/\c*(q.2-p.2)<=1048576000 /\ -1048576000 <= -c*(q.1-p.1) /\ -c*(q.1-p.1)<=1048576000 /\
 -500<=G8 (c*(q.2-p.2)) (Cf (sqd p q))/\G8 (c*(q.2-p.2)) (Cf (sqd p q))<=500 /\ -500<=G8 (-c*(q.1-p.1)) (Cf (sqd p q))/\G8 (-c*(q.1-p.1)) (Cf (sqd p q))<=500:=by
 obtain⟨f1,f2,f3,f4,f5,f6,f7⟩:=Xb hp hq hne;obtain⟨a1,a2,a3,a4⟩:=hp;obtain⟨b1,b2,b3,b4⟩:=hq;have k1:=Ais (c:=c) (d:=q.2-p.2) (R:=Cf (sqd p q)) hc1 hc2 (by omega) f6 f7
 have k2:=Ais (c := -c) (d:=q.1-p.1) (R:=Cf (sqd p q)) (by omega) (by omega) (by omega) f4 f5
 have j1:=Ais (c:=c) (d:=q.2-p.2) (R:=2097152) hc1 hc2 (by omega) (by omega) (by omega)
 have j2:=Ais (c := -c) (d:=q.1-p.1) (R:=2097152) (by omega) (by omega) (by omega) (by omega) (by omega)
 have r1:=Ni (M:=500) (show (0:Int)<Cf (sqd p q) by omega) k1.1 k1.2 (by omega)
 have r2:=Ni (M:=500) (show (0:Int)<Cf (sqd p q) by omega) k2.1 k2.2 (by omega)
 exact⟨by omega,by omega,by omega,by omega,r1.1,r1.2,r2.1,r2.2⟩
theorem Ob {l:List Int} {i:Nat} (h:i<l.length):gi l i=l[i]:=by
 unfold gi;rw[List.getD,List.getElem?_eq_getElem h];rfl
theorem Pz (f:Int->Int->Int):∀(j:Nat) (l:List Int),j<l.length->(J1 f l j).Perm l
 | 0,l,_=>by rw[J1]
 | j+1,l,h=>by
   rw[J1];split
   ·have h2:=@List.set_set_perm _ l (j+1) j h (by omega)
    rw[Ob h,Ob (show j<l.length by omega)]
    exact(Pz f j _ (by simp;omega)).trans h2
   ·exact List.Perm.refl _
theorem Jd (f:Int->Int->Int) (l:List Int):∀i,i<=l.length->(Iw f l i).Perm l
 | 0,_=>List.Perm.refl _
 | i+1,h=>by
   have ih:=Jd f l i (by omega)
   rw[Iw];exact(Pz f i _ (by rw[ih.length_eq];omega)).trans ih
theorem Nr (S:List Shp):(Jx S).Perm ((List.range S.length).map fun i:Nat=>(i:Int)):=Jd _ _ _ (by simp)
theorem ll {a c:PlcP} (h:kt a=kt c) (hf:a.fl=c.fl) (p:Pt5):az a p=az c p:=by
 unfold kt at h;injection h with h1 h2
 injection h2 with h2 h3
 unfold az;rw[h1,h2,h3,hf]
theorem Ac0 {l:List PlcP} {t i:Nat} {x:PlcP} (h:i<l.length):plc (l.set t x) i=if t=i then x else plc l i:=by
 unfold plc;rw[List.getD,List.getD,List.getElem?_set];by_cases g:t=i
 ·rw[if_pos g,if_pos g,if_pos (by omega)];rfl
 ·rw[if_neg g,if_neg g]
theorem Ye {C:List PlcP} {P:List Pt5}:∀(k i:Nat),i<C.length->(∃j,j<k/\(pt P j).sh.toNat=i)->∃j,j<k/\(pt P j).sh.toNat=i/\plc (Cp C P k) i=az (plc C i) (pt P j)
 | 0,i,_,h=>by obtain⟨j,hj,_⟩:=h;omega
 | k+1,i,hi,h=>by
   obtain⟨s1,s2⟩:=Cb (C:=C) (P:=P) k;rw[Cp,Ac0 (by rw[s1];exact hi)]
   by_cases g:(pt P k).sh.toNat=i
   ·rw[if_pos g]
    refine⟨k,by omega,g,?_⟩
    rw[g];exact ll (s2 i hi).1 (s2 i hi).2 _
   ·rw[if_neg g]
    obtain⟨j,hj,hs⟩:=h
    have hjk:j<k:=by
     rcases Nat.lt_or_ge j k with q|q
     ·exact q
     ·obtain rfl:j=k:=by omega
      exact absurd hs g
    obtain⟨j',h1,h2,h3⟩:=Ye k i hi ⟨j,hjk,hs⟩;exact⟨j',by omega,h2,h3⟩
theorem kg {α β:Type} {l:List α} {f:α->β} (h:(l.map f).Nodup) {a c:α} (ha:a∈l) (hc:c∈l) (e:f a=f c):a=c:=by
 obtain⟨i,hi,rfl⟩:=List.mem_iff_getElem.1 ha;obtain⟨j,hj,rfl⟩:=List.mem_iff_getElem.1 hc;have hp:=List.pairwise_iff_getElem.1 (List.pairwise_map.1 h);rcases Nat.lt_trichotomy i j with g|g|g
 ·exact absurd e (hp i j hi hj g)
 ·subst g;rfl
 ·exact absurd e.symm (hp j i hj hi g)
theorem Q7 {S:List Shp} {C:List PlcP} {P:List Pt5} (hC:(C.map kt).Nodup) (hl:S.length=C.length) (hP:P.map (·.sh)=Jx S) (hf:∀p∈P,p.fl=false) :
 ((Cp C P P.length).map (Kc C)).Perm P/\∀i,i<C.length->∃p,p∈P/\p.sh=i/\plc (Cp C P P.length) i=az (plc C i) p/\Kc C (plc (Cp C P P.length) i)=p:=by
 have hperm:=Nr S;have hnd:(P.map (·.sh)).Nodup:=by rw[hP];exact hperm.nodup_iff.2 (L9 _)
 have hmem:∀z:Int,z∈P.map (·.sh)↔∃i,i<C.length/\(i:Int)=z:=by
  intro z;rw[hP,hperm.mem_iff,hl];simp
 have key:∀i,i<C.length->∃p,p∈P/\p.sh=i/\plc (Cp C P P.length) i=az (plc C i) p/\Kc C (plc (Cp C P P.length) i)=p:=by
  intro i hi;obtain⟨p,hp,e⟩:=List.mem_map.1 ((hmem i).2 ⟨i,hi,rfl⟩);obtain⟨k,hk,rfl⟩:=List.mem_iff_getElem.1 hp;obtain⟨j,hj,hs,hlay⟩:=Ye (C:=C) (P:=P) P.length i hi ⟨k,hk,by rw[Dy hk,e];simp⟩
  have hsh:(pt P j).sh=i:=by
   obtain⟨q,_,hq⟩:=(hmem (pt P j).sh).1 (List.mem_map.2 ⟨_,Jn hj,rfl⟩);omega
  refine⟨pt P j,Jn hj,hsh,hlay,?_⟩;have hfl:=hf _ (Jn hj);have hk2:=Ads hC hi (p:=plc (Cp C P P.length) i) (by rw[hlay];rfl)
  unfold Kc;rw[hk2,hlay];clear hk2 hlay hs;generalize pt P j=q at *
  obtain⟨sh,fl,qu,x,y⟩:=q;dsimp only at hsh hfl;subst hsh hfl;rfl
 refine⟨(List.perm_ext_iff_of_nodup ?_ ?_).2 fun a=>⟨fun ha=>?_,fun ha=>?_⟩,key⟩
 ·have h2:((Cp C P P.length).map (kI C)).Nodup:=by rw[Abm hC];exact L9 _
  exact List.pairwise_map.2 (List.Pairwise.imp (fun h e=>h (congrArg Pt5.sh e)) (List.pairwise_map.1 h2))
 ·exact List.Pairwise.imp (fun h e=>h (congrArg Pt5.sh e)) (List.pairwise_map.1 hnd)
 ·obtain⟨c,hc,rfl⟩:=List.mem_map.1 ha
  obtain⟨i,hi,rfl⟩:=List.mem_iff_getElem.1 hc;have hi2:i<C.length:=by rw[(Cb P.length).1] at hi;exact hi
  obtain⟨p,h1,_,_,h4⟩:=key i hi2;rw[<-Dd hi,h4];exact h1
 ·obtain⟨i,hi,e⟩:=(hmem a.sh).1 (List.mem_map.2 ⟨a,ha,rfl⟩)
  obtain⟨p,h1,h2,_,h4⟩:=key i hi;have:p=a:=kg hnd h1 ha (by show p.sh=a.sh;omega)
  subst this;have hi2:i<(Cp C P P.length).length:=by rw[(Cb P.length).1];exact hi
  rw[<-h4,Dd hi2];exact List.mem_map.2 ⟨_,List.getElem_mem hi2,rfl⟩
theorem mw {b:Bed4} {S:List Shp} {ps:List Pt5} {p:Pt5} (h:Dm b S ps p=0):p.fl=false:=by
 have h3:=(Co h).2.2;unfold Lt at h3;split at h3
 ·cases h3
 ·rename_i g
  unfold Zf at g;cases hf:p.fl with
  | false=>rfl
  | true=>rw[hf] at g;simp at g
theorem Qq {b:Bed4} {S:List Shp} {os:List Int} (h:(Ho b S os).1=0):Ic b S (Ho b S os).2=0/\(Ho b S os).2.map (·.sh)=os/\∀p∈(Ho b S os).2,p.fl=false:=by
 obtain⟨h60,_,hlen,hf⟩:=U0 h;refine⟨?_,?_,fun p hp=>?_⟩
 ·unfold Ic
  rw[hlen,if_neg (by omega),Gj]
  exact fun k hk=>(hf k hk).1
 ·apply List.ext_getElem
  ·simp[hlen]
  ·intro i h1 h2
   have:=(hf i h2).2;rw[Ob h2,Dy (by omega)] at this
   simpa using this
 ·obtain⟨i,hi,rfl⟩:=List.mem_iff_getElem.1 hp
  have:=mw (hf i (by omega)).1
  rwa [Dy hi] at this
theorem K6 {s:StyleP} {b:Bed4} {Z:List Int} (h:(Bz s b Z).1=0):∃S C P,Bd s Z=(0,S,C)/\S.length=C.length/\(C.map kt).Nodup/\Ho b S (Jx S)=(0,P)/\(Mo S P).1=0 /\
 (Bz s b Z).2=⟨(Mo S P).2,b.wid,b.rx,b.ry,Z,Cp C P P.length⟩:=by
 unfold Bz at h ⊢;split at h
 ·rename_i g;exact absurd h g
 ·rename_i g0
  split at h
  ·rename_i g;exact absurd h g
  ·rename_i g1
   split at h
   ·rename_i g;exact absurd h g
   ·rename_i g2
    rw[if_neg g0,if_neg g1,if_neg g2];have h0:(Bd s Z).1=0:=by simpa using g0
    refine⟨_,_,_,Prod.ext h0 rfl,?_,Uw h0,Prod.ext (by simpa using g1) rfl,by simpa using g2,rfl⟩
    rw[(Fi h0).1];dsimp only;rw[Hm,Hi]
theorem Aex {C:List PlcP} {S:List Shp} {m:MkP} (h1:∀p∈m.pl,0<=kI C p) (h2:(m.pl.map (kI C)).Nodup) (h3:∀t,t<C.length->(t:Int)∈m.pl.map (kI C)) (h4:∀p∈m.pl,p.fl=(plc C (kI C p).toNat).fl) :
 Aaj C S m (Ft C m.pl m.pl.length)=if Ic (Y8 m) S (m.pl.map (Kc C))≠0 then (Ic (Y8 m) S (m.pl.map (Kc C)),[],[]) else (0,S,m.pl.map (Kc C)):=by
 have hT:m.pl.take m.pl.length=m.pl:=List.take_length;have h0:=Wg (C:=C) (P:=m.pl) m.pl.length (Nat.le_refl _) (by rw[hT];exact h1) (by rw[hT];exact h2)
 obtain⟨_,_,i3,i4,i5⟩:=I4 m.pl.length (Nat.le_refl _) h0;rw[hT] at i3 i5;unfold Aaj;rw[if_neg (by rw[h0];simp),if_neg,if_neg,i3]
 ·intro h
  obtain⟨i,hi,hb⟩:=Bq.iff.1 h;rw[i3] at hb;have e:pt (m.pl.map (Kc C)) i=Kc C m.pl[i]:=by rw[Dy (by simpa using hi)];simp
  rw[e,Dd hi] at hb;have:=h4 _ (List.getElem_mem hi);simp[Kc,this] at hb
 ·intro h
  obtain⟨i,hi,hb⟩:=Bq.iff.1 h;have:=(i5 i).2 (h3 i hi);simp[this] at hb
theorem I1 {s:StyleP} {b:Bed4} {Z:List Int} {S:List Shp} {C:List PlcP} {P:List Pt5} (h0:Bd s Z=(0,S,C)) (hl:S.length=C.length) (hC:(C.map kt).Nodup) (hr:Ho b S (Jx S)=(0,P)) (len:Int) :
 Fs s ⟨len,b.wid,b.rx,b.ry,Z,Cp C P P.length⟩=if Ic (Gz b len) S ((Cp C P P.length).map (Kc C))≠0 then (Ic (Gz b len) S ((Cp C P P.length).map (Kc C)),[],[]) else (0,S,(Cp C P P.length).map (Kc C)):=by
 obtain⟨c1,c2,c3⟩:=Qq (b:=b) (S:=S) (os:=Jx S) (by rw[hr])
 rw[hr] at c1 c2 c3;have hk:=Abm hC P P.length;unfold Fs;dsimp only;rw[h0,if_neg (by simp)]
 dsimp only;rw[Aex]
 ·rfl
 ·dsimp only
  intro p hp;have:kI C p∈(Cp C P P.length).map (kI C):=List.mem_map.2 ⟨p,hp,rfl⟩;rw[hk] at this;obtain⟨j,_,e⟩:=List.mem_map.1 this;omega
 ·dsimp only;rw[hk];exact L9 _
 ·dsimp only;rw[hk];intro t ht;exact List.mem_map.2 ⟨t,List.mem_range.2 ht,rfl⟩
 ·dsimp only
  intro p hp;obtain⟨i,hi,rfl⟩:=List.mem_iff_getElem.1 hp;have hi2:i<C.length:=by rw[(Cb P.length).1] at hi;exact hi
  obtain⟨s1,s2⟩:=(Cb (C:=C) (P:=P) P.length).2 i hi2;rw[Dd hi] at s1 s2;rw[Ads hC hi2 s1,s2];rfl
theorem dh {b:Bed4} {l:Int} {S:List Shp} {ps:List Pt5} {p:Pt5} (h:Dm b S ps p=0) (hl:Dc (Gz b l)=false) :
 (Dm (Gz b l) S ps p=0/\O3 (Be S p).2<=l)\/(Dm (Gz b l) S ps p=13/\l<O3 (Be S p).2):=by
 obtain⟨_,h2,h3⟩:=Co h;have hpos:0<(Be S p).2.length:=by obtain⟨_,_,e,_,h5,_⟩:=G9 h2;rw[e];unfold km;simp;omega
 have e:Dm (Gz b l) S ps p=Lt (Gz b l) S ps p (shp S p.sh.toNat) (Be S p).2:=by
  unfold Dm;rw[hl,if_neg (by simp),if_neg (by rw[h2];simp)]
 rw[e];unfold Lt at h3 ⊢;split at h3
 ·cases h3
 ·rename_i g1
  rw[if_neg g1];split at h3
  ·cases h3
  ·rename_i g2
   by_cases g3:Bq (fun i=>Da (Gz b l) (gt (Be S p).2 i)) (Be S p).2.length=true
   ·rw[if_pos g3]
    refine .inr ⟨rfl,?_⟩;obtain⟨i,hi,ho⟩:=Bq.iff.1 g3
    have ho2:Da b (gt (Be S p).2 i)=false:=by
     cases hq:Da b (gt (Be S p).2 i) with
     | false=>rfl
     | true=>exact absurd (Bq.yes (f:=fun i=>Da b (gt (Be S p).2 i)) hi hq) g2
    have:=(Jz hpos (z:=O3 (Be S p).2)).1 (Int.le_refl _) _ (Oa hi);unfold Da Gz at ho;unfold Da at ho2;simp at ho ho2;omega
   ·rw[if_neg g3]
    refine .inl ⟨h3,?_⟩;rw[Jz hpos];intro q hq;obtain⟨i,hi,rfl⟩:=Nx hq;cases ho:Da (Gz b l) (gt (Be S p).2 i) with
    | true=>exact absurd (Bq.yes (f:=fun i=>Da (Gz b l) (gt (Be S p).2 i)) hi ho) g3
    | false=>unfold Da Gz at ho;simp at ho;omega
theorem Yl {f:Nat->Int} {c:Int}:∀{n:Nat},(∀i,i<n->f i=0\/f i=c)->Gk f n=0\/Gk f n=c
 | 0,_=>.inl rfl
 | n+1,h=>by
   rw[Gk];split
   ·exact h n (by omega)
   ·exact Yl fun i hi=>h i (by omega)
theorem Ym {f:Nat->Int} {c:Int} {n i:Nat} (h:∀i,i<n->f i=0\/f i=c) (hi:i<n) (hc:f i=c) (h0:c≠0):Gk f n=c:=by
 rcases Yl h with g|g
 ·exact absurd (Gj.1 g i hi) (by rw[hc];exact h0)
 ·exact g
theorem qk {b:Bed4} {l:Int} {S:List Shp} {ps:List Pt5} (h:Ic b S ps=0) (hl:Dc (Gz b l)=false) :
 ((∀p∈ps,O3 (Be S p).2<=l)->Ic (Gz b l) S ps=0)/\((∃p∈ps,l<O3 (Be S p).2)->Ic (Gz b l) S ps=13):=by
 unfold Ic at h ⊢;split at h
 ·cases h
 ·rename_i h60
  rw[if_neg h60];have hf:=fun i hi=>dh (l:=l) (Gj.1 h i hi) hl
  constructor
  ·intro hm
   rw[Gj];intro i hi;rcases hf i hi with g|g
   ·exact g.1
   ·have:=hm _ (Jn hi)
    have:=g.2;omega
  ·rintro⟨p,hp,hlt⟩
   obtain⟨i,hi,rfl⟩:=List.mem_iff_getElem.1 hp;rw[<-Dy hi] at hlt;refine Ym (fun i hi=>?_) hi ?_ (by decide)
   ·rcases hf i hi with g|g
    ·exact .inl g.1
    ·exact .inr g.1
   ·rcases hf i hi with g|g
    ·have:=g.2;omega
    ·exact g.1
theorem qj {b:Bed4} {S:List Shp} {ps:List Pt5} (hb:Dc b=true) (h0:0<ps.length) (h60:ps.length<=60):Ic b S ps=3:=by
 unfold Ic;rw[if_neg (by omega)]
 have h3:∀i,i<ps.length->Dm b S (ps.take i) (pt ps i)=3:=fun i _=>by unfold Dm;rw[if_pos hb]
 exact Ym (fun i hi=>.inr (h3 i hi)) h0 (h3 0 h0) (by decide)
theorem Aay (f:Nat->Int):∀n,0<n->∃m,m<n/\∀i,i<n->f i<=f m
 | 0,h=>by omega
 | n+1,_=>by
   rcases Nat.eq_zero_or_pos n with h|h
   ·exact⟨0,by omega,fun i hi=>by (obtain rfl:i=0:=by omega);exact Int.le_refl _⟩
   ·obtain⟨m,hm,hall⟩:=Aay f n h
    rcases Int.lt_or_le (f m) (f n) with g|g
    ·refine⟨n,by omega,fun i hi=>?_⟩
     rcases Nat.lt_or_ge i n with q|q
     ·have:=hall i q;omega
     ·obtain rfl:i=n:=by omega
      exact Int.le_refl _
    ·refine⟨m,by omega,fun i hi=>?_⟩
     rcases Nat.lt_or_ge i n with q|q
     ·exact hall i q
     ·obtain rfl:i=n:=by omega
      exact g
theorem Ajf {l:List (Int×Int)} (hc:Bf l l.length=0) (h0:∀q∈l,0<=q.1):1<=O3 l:=by
 obtain⟨h3,h40,hin,hs⟩:=L7 hc;apply Classical.byContradiction;intro hn
 have hx:∀i,i<l.length->(gt l i).1=0:=by
  intro i hi;have h1:=h0 _ (Oa hi);have h2:=(Jz (by omega) (z:=O3 l)).1 (Int.le_refl _) _ (Oa hi)
  omega
 obtain⟨m,hm,hall⟩:=Aay (fun i=>(gt l i).2) l.length (by omega)
 obtain⟨k,hk,hk1⟩:∃k,k<l.length/\(k+1) % l.length=m:=by
  rcases Nat.eq_zero_or_pos m with g|g
  ·exact⟨l.length-1,by omega,by rw[show l.length-1+1=l.length by omega,Nat.mod_self,g]⟩
  ·exact⟨m-1,by omega,by rw[show m-1+1=m by omega,Nat.mod_eq_of_lt hm]⟩
 have hq:(k+2) % l.length<l.length:=Nat.mod_lt _ (by omega)
 have hkm:k≠m:=by
  intro e;subst e;rcases Nat.lt_or_ge (k+1) l.length with g|g
  ·rw[Nat.mod_eq_of_lt g] at hk1;omega
  ·rw[show k+1=l.length by omega,Nat.mod_self] at hk1;omega
 have hqm:(k+2) % l.length≠m:=by
  intro e;have e2:(k+2) % l.length=(m+1) % l.length:=by rw[<-hk1,Nat.mod_add_mod]
  rw[e2] at e;rcases Nat.lt_or_ge (m+1) l.length with g|g
  ·rw[Nat.mod_eq_of_lt g] at e;omega
  ·rw[show m+1=l.length by omega,Nat.mod_self] at e;omega
 have n1:=Yx hc hk hm hkm;have n2:=Yx hc hq hm hqm;have a1:=hall k hk;have a2:=hall _ hq;have x1:=hx k hk;have x2:=hx m hm;have x3:=hx _ hq;have i1:=hin k hk;have i2:=hin m hm;have i3:=hin _ hq
 have hf:J3 (gt l k) (gt l ((k+1) % l.length)) (gt l ((k+2) % l.length))=true:=by
  rw[hk1];generalize gt l k=a at *
  generalize gt l m=c at *
  generalize gt l ((k+2) % l.length)=d at *
  obtain⟨ax,ay⟩:=a;obtain⟨cx,cy⟩:=c;obtain⟨dx,dy⟩:=d;unfold Vr at i1 i2 i3;dsimp only at *
  subst x1 x2 x3
  have p1:ay<cy:=by
   rcases Int.lt_or_eq_of_le a1 with g|g
   ·exact g
   ·subst g;exact absurd rfl n1
  have p2:dy<cy:=by
   rcases Int.lt_or_eq_of_le a2 with g|g
   ·exact g
   ·subst g;exact absurd rfl n2
  have w1:wrap64 (ay-cy)=ay-cy:=Dn (by omega) (by omega)
  have w2:wrap64 (dy-cy)=dy-cy:=Dn (by omega) (by omega)
  have w0:wrap64 (0-0)=0:=Dn (by omega) (by omega)
  have hp:0<(cy-ay)*(cy-dy):=Int.mul_pos (by omega) (by omega)
  have hp2:(cy-ay)*(cy-dy)<=4194304*4194304:=Int.mul_le_mul (by omega) (by omega) (by omega) (by omega)
  have he:(ay-cy)*(dy-cy)=(cy-ay)*(cy-dy):=by grind
  unfold J3 Bo;dsimp only;rw[w1,w2,w0,he];generalize (cy-ay)*(cy-dy)=z at *
  have wz:wrap64 z=z:=by unfold wrap64;omega
  simp only[Int.zero_mul,Int.mul_zero];rw[wz,show wrap64 0=0 from Dn (by omega) (by omega)]
  simp only[Int.sub_zero,Int.zero_add];rw[wz,show wrap64 0=0 from Dn (by omega) (by omega)]
  simp;exact hp
 rw[Sr hk hf] at hs;cases hs
theorem Kn {s:StyleP} {b:Bed4} {Z:List Int} (h:(Bz s b Z).1=0) (hp:0<(Bz s b Z).2.pl.length) :
 1<=(Bz s b Z).2.len/\(Bz s b Z).2.len<=1048576/\(∀l,(Bz s b Z).2.len<=l->l<=1048576->(Fs s { (Bz s b Z).2 with len:=l }).1=0) /\
 (Fs s { (Bz s b Z).2 with len:=(Bz s b Z).2.len-1 }).1=if (Bz s b Z).2.len-1<1 then 3 else 13:=by
 obtain⟨S,C,P,h0,hl,hC,hr,he,hm⟩:=K6 h;rw[hm] at hp ⊢;dsimp only at hp ⊢;obtain⟨c1,c2,c3⟩:=Qq (b:=b) (S:=S) (os:=Jx S) (by rw[hr])
 rw[hr] at c1 c2 c3;dsimp only at c1 c2 c3;obtain⟨hperm,-⟩:=Q7 hC hl c2 c3;have hPL:P.length=C.length:=by have:=hperm.length_eq;rw[List.length_map,(Cb P.length).1] at this;exact this.symm
 have hpos:0<P.length:=by rw[(Cb P.length).1] at hp;omega
 obtain⟨k60,kf,-⟩:=L6.1 c1;obtain⟨E,hE⟩:∃E,(Mo S P).2=E:=⟨_,rfl⟩
 unfold Mo at he hE;obtain⟨e1,e2⟩:=Ty he;obtain⟨i,hi,ei⟩:=e2 hpos;rw[hE] at e1 ei
 have hall:∀p∈P,O3 (Be S p).2<=E:=by
  intro p hp;obtain⟨j,hj,rfl⟩:=List.mem_iff_getElem.1 hp;rw[<-Dy hj];exact(e1 j hj).2
 have hfi:=kf _ (Jn hi);have hbed:Dc b=false:=(Co hfi).1;have hEb:E<=b.len:=by rw[ei];exact Tx hfi
 have hE1:1<=E:=by
  rw[ei];refine Ajf (Ed (Co hfi).2.1) fun q hq=>?_
  have h3:=(Co hfi).2.2;unfold Lt at h3;split at h3
  ·cases h3
  ·split at h3
   ·cases h3
   ·rename_i g2
    obtain⟨j,hj,rfl⟩:=Nx hq;cases ho:Da b (gt (Be S (pt P i)).2 j) with
    | true=>exact absurd (Bq.yes (f:=fun i'=>Da b (gt (Be S (pt P i)).2 i')) hj ho) g2
    | false=>unfold Da at ho;simp at ho;omega
 have hbb:=hbed;unfold Dc at hbb;simp at hbb
 have hgood:∀l,1<=l->l<=1048576->Dc (Gz b l)=false:=by
  intro l l1 l2;unfold Dc Gz;simp;omega
 change 1<=(Ef S P P.length).2/\_
 rw[show (Mo S P).2=E from hE,hE]
 refine⟨hE1,by omega,fun l l1 l2=>?_,?_⟩
 ·have h1:=((qk c1 (hgood l (by omega) l2)).1) fun p hp=>by have:=hall p hp;omega
  rw[I1 h0 hl hC hr,if_neg (fun hne=>hne ((Kz hperm).2 h1))]
 ·rw[I1 h0 hl hC hr]
  by_cases hs:E-1<1
  ·have hb3:=qj (S:=S) (ps:=(Cp C P P.length).map (Kc C)) (b:=Gz b (E-1)) (by unfold Dc Gz;simp;omega) (by rw[List.length_map];exact hp) (by rw[hperm.length_eq];exact k60)
   rw[if_pos hs,hb3,if_pos (by decide)]
  ·have hch:Ic (Gz b (E-1)) S ((Cp C P P.length).map (Kc C))=13:=by
    have hbase:Ic b S ((Cp C P P.length).map (Kc C))=0:=(Kz hperm).2 c1;refine(qk hbase (hgood (E-1) (by omega) (by omega))).2 ⟨pt P i,hperm.mem_iff.2 (Jn hi),?_⟩
    omega
   rw[if_neg hs,hch,if_pos (by decide)]
def arT (l:List (Int×Int)) (n:Nat):Nat->Int
 | 0=>0
 | k+1=>arT l n k+((gt l k).1*(gt l ((k+1) % n)).2-(gt l k).2*(gt l ((k+1) % n)).1)
theorem Agq {x y:Int} (h1 : -1048576<=x) (h2:x<=1048576) (h3 : -1048576<=y) (h4:y<=1048576) : -1099511627776<=x*y/\x*y<=1099511627776:=by
 have h:=Nat.mul_le_mul (show x.natAbs<=1048576 by omega) (show y.natAbs<=1048576 by omega)
 rw[<-Int.natAbs_mul] at h;generalize x*y=z at h ⊢;omega
theorem Zb {l:List (Int×Int)} (hl:∀q∈l,Ep 1048576 q) (hn:l.length<=45):∀k,k<=l.length->Ma l l.length k=arT l l.length k /\ -(k:Int)*2199023255552<=arT l l.length k/\arT l l.length k<=(k:Int)*2199023255552
 | 0,_=>by simp[Ma,arT]
 | k+1,hk=>by
   obtain⟨ih,b1,b2⟩:=Zb hl hn k (by omega)
   have n1:=hl _ (Oa (l:=l) (i:=k) (by omega))
   have n2:=hl _ (Oa (l:=l) (i:=(k+1) % l.length) (Nat.mod_lt _ (by omega)))
   unfold Ep at n1 n2;have m1:=Agq (x:=(gt l k).1) (y:=(gt l ((k+1) % l.length)).2) (by omega) (by omega) (by omega) (by omega)
   have m2:=Agq (x:=(gt l k).2) (y:=(gt l ((k+1) % l.length)).1) (by omega) (by omega) (by omega) (by omega)
   rw[Ma,arT,ih];generalize (gt l k).1*(gt l ((k+1) % l.length)).2=u at *
   generalize (gt l k).2*(gt l ((k+1) % l.length)).1=v at *
   generalize arT l l.length k=a at *
   have kk:(k:Int)<=45:=by omega
   rw[show wrap64 u=u by unfold wrap64;omega,show wrap64 v=v by unfold wrap64;omega,show wrap64 (u-v)=u-v by unfold wrap64;omega,show wrap64 (a+(u-v))=a+(u-v) by unfold wrap64;omega]
   refine⟨by omega,by omega,by omega⟩
theorem Rb {f:Int×Int->Int×Int} {l:List (Int×Int)} {i:Nat} (h:i<l.length):gt (l.map f) i=f (gt l i):=by
 unfold gt;rw[List.getD,List.getD,List.getElem?_map,List.getElem?_eq_getElem h];rfl
theorem Zc {l:List (Int×Int)} (hl:∀q∈l,Ep 1048576 q):∀k,k<=l.length->arT (l.map Afc) l.length k=arT l l.length k
 | 0,_=>rfl
 | k+1,hk=>by
   have hm:(k+1) % l.length<l.length:=Nat.mod_lt _ (by omega)
   rw[arT,arT,Zc hl k (by omega),Rb (by omega),Rb hm]
   have n1:=hl _ (Oa (l:=l) (i:=k) (by omega))
   have n2:=hl _ (Oa hm);unfold Ep at n1 n2;unfold Afc;dsimp only;rw[Dn (by omega) (by omega),Dn (by omega) (by omega)]
   grind
theorem Aai {l:List (Int×Int)} (hl:∀q∈l,Ep 1048576 q):∀n,arT (l.map (R6 n)) l.length l.length=arT l l.length l.length:=by
 intro n;induction n with
 | zero =>
   rw[show (R6 0:Int×Int->Int×Int)=id from funext fun q=>rfl,List.map_id]
 | succ n ih =>
   have e:l.map (R6 (n+1))=(l.map (R6 n)).map Afc:=by rw[List.map_map];rfl
   have h2:=Zc (l:=l.map (R6 n)) (fun q hq=>by
    obtain⟨p,hp,rfl⟩:=List.mem_map.1 hq;exact Su (by omega) n (hl p hp)) l.length (by rw[List.length_map];exact Nat.le_refl _)
   rw[List.length_map] at h2;rw[e,h2,ih]
theorem Aah {l:List (Int×Int)} (hl:∀q∈l,Ep 1048576 q) (u:Int):arT (Fv false u l) l.length l.length=arT l l.length l.length:=by
 unfold Fv;rw[if_neg (by simp)]
 have:C4 false u=R6 (u % 4).toNat:=funext fun q=>rfl
 rw[this,Aai hl]
theorem Qi {l:List (Int×Int)} {x y:Int}:∀k,k<=l.length->arT (km l x y) l.length k=arT l l.length k+(x*((gt l (k % l.length)).2-(gt l 0).2)-y*((gt l (k % l.length)).1-(gt l 0).1))
 | 0,_=>by rw[Nat.zero_mod];simp[arT]
 | k+1,hk=>by
   have hm:(k+1) % l.length<l.length:=Nat.mod_lt _ (by omega)
   have h0:k % l.length=k:=Nat.mod_eq_of_lt (by omega)
   have ih:=Qi (l:=l) (x:=x) (y:=y) k (by omega)
   rw[h0] at ih;rw[arT,arT,ih];unfold km;rw[Rb (show k<l.length by omega),Rb hm]
   dsimp only
   grind
theorem Aew {l:List (Int×Int)} {x y:Int}:arT (km l x y) l.length l.length=arT l l.length l.length:=by
 rw[Qi l.length (Nat.le_refl _),Nat.mod_self];simp
theorem Rt {l:List (Int×Int)} (hc:Bf l l.length=0):R7 l=arT l l.length l.length /\ -100000000000000<=R7 l/\R7 l<=100000000000000:=by
 have hn:=D9 hc;obtain⟨h1,h2,h3⟩:=Zb (Jg hc) (by omega) l.length (Nat.le_refl _)
 unfold R7;rw[if_pos hc,h1];have:(l.length:Int)<=40:=by omega
 refine⟨rfl,by omega,by omega⟩
theorem rz {l:List (Int×Int)} (hc:Bf l l.length=0):0<=Kd l/\Kd l<=100000000000000:=by
 have:=Rt hc;unfold Kd;omega
theorem rq {S:List Shp} {p:Pt5} (h:(Be S p).1=0) (hf:p.fl=false):Kd (Be S p).2=Kd (shp S p.sh.toNat).poly:=by
 obtain⟨a1,a2,a3,a4,a5,a6⟩:=G9 h;have hc:=Ed h;have e1:=(Rt hc).1;have e2:=(Rt a6).1;have hl:(tpS S p).length=(shp S p.sh.toNat).poly.length:=Fg _ _ _;have hl2:(Be S p).2.length=(tpS S p).length:=by rw[a3];unfold km;simp
 have:R7 (Be S p).2=R7 (shp S p.sh.toNat).poly:=by
  rw[e1,e2,hl2,a3,Aew];unfold tpS at hl ⊢;rw[hf] at hl ⊢;rw[hl,Aah (Jg a6)]
 unfold Kd;rw[this]
theorem Qv {S:List Shp} {ps:List Pt5} (h:∀p∈ps,(Be S p).1=0):∀k,k<=ps.length->Gq S ps k=(0,(ps.take k).map fun p=>(Be S p).2)
 | 0,_=>by simp[Gq]
 | k+1,hk=>by
   rw[Gq,Qv h k (by omega),if_neg (by simp),if_neg (by rw[h _ (Jn (by omega))];simp),List.take_succ_eq_append_getElem (by omega),List.map_append,<-Dy (by omega)]
   rfl
theorem O7 {l:List (List (Int×Int))}:∀k,k<=l.length->Gt l k=((l.take k).map Kd).sum
 | 0,_=>by simp[Gt]
 | k+1,hk=>by
   rw[Gt,O7 k (by omega),List.take_succ_eq_append_getElem (by omega),List.map_append,List.sum_append]
   unfold lt_;rw[List.getD,List.getElem?_eq_getElem (by omega)]
   simp
def Abv (s:StyleP) (C:List PlcP) (z:Int):Int:=(C.map fun c=>Kd (F8 s z c).1.poly).sum
theorem Uo (s:StyleP) (Z:List Int) (C:List PlcP):∀j,((O5 s Z C j).map fun S=>Kd S.poly).sum=((List.range j).map fun i=>Abv s C (gi Z i)).sum
 | 0=>rfl
 | j+1=>by
   rw[O5,List.map_append,List.sum_append,Uo s Z C j,List.range_succ,List.map_append,List.sum_append,List.map_map]
   congr 1
   unfold Abv;simp;rfl
theorem wj (Z:List Int) (f:Int->Int):((List.range Z.length).map fun i=>f (gi Z i))=Z.map f:=by
 apply List.ext_getElem
 ·simp
 ·intro i h1 h2
  simp only[List.length_map] at h2;rw[List.getElem_map,List.getElem_map,List.getElem_range,Ob h2]
theorem jl (S:List Shp) (f:Shp->Int):((List.range S.length).map fun i=>f (shp S i))=S.map f:=by
 apply List.ext_getElem
 ·simp
 ·intro i h1 h2
  simp only[List.length_map] at h2;rw[List.getElem_map,List.getElem_map,List.getElem_range];unfold shp;rw[List.getD,List.getElem?_eq_getElem h2];rfl
theorem Af0 {l:List Int} {M:Int} (h:∀z∈l,0<=z/\z<=M):0<=l.sum/\l.sum<=l.length*M:=by
 induction l with
 | nil=>simp
 | cons a l ih =>
   have h1:=h a (by simp)
   have h2:=ih fun z hz=>h z (by simp[hz])
   rw[List.sum_cons,List.length_cons,show ((l.length+1:Nat):Int)=(l.length:Int)+1 by omega,Int.add_mul]
   omega
theorem Lf {s:StyleP} {b:Bed4} {Z:List Int} (h:(Bz s b Z).1=0):(Fs s (Bz s b Z).2).1=0/\Zo s (Bz s b Z).2=((Z.map (Abv s (Em s))).sum,0)/\0<=(Z.map (Abv s (Em s))).sum/\(Z.map (Abv s (Em s))).sum<=6000000000000000:=by
 obtain⟨S,C,P,h0,hl,hC,hr,he,hm⟩:=K6 h;rw[hm];obtain⟨c1,c2,c3⟩:=Qq (b:=b) (S:=S) (os:=Jx S) (by rw[hr])
 rw[hr] at c1 c2 c3;dsimp only at c1 c2 c3;obtain⟨hperm,hat⟩:=Q7 hC hl c2 c3;obtain⟨k60,kf,-⟩:=L6.1 c1;obtain⟨L,hL⟩:∃L,(Cp C P P.length).map (Kc C)=L:=⟨_,rfl⟩
 have hL2:L.length=S.length:=by rw[<-hL,List.length_map,(Cb P.length).1,hl]
 rw[hL] at hperm
 have hat2:∀i,i<L.length->(Be S (pt L i)).1=0/\Kd (Be S (pt L i)).2=Kd (shp S i).poly:=by
  intro i hi;obtain⟨p,p1,p2,p3,p4⟩:=hat i (by omega)
  have e:pt L i=p:=by
   rw[Dy hi];have hi2:i<(Cp C P P.length).length:=by rw[(Cb P.length).1];omega
   have:L[i]=Kc C (Cp C P P.length)[i]:=by
    have:=List.getElem_of_eq hL.symm hi;rw[this,List.getElem_map]
   rw[this,<-Dd hi2,p4]
  have hp:=(Co (kf p p1)).2.1;rw[e];refine⟨hp,?_⟩;rw[rq hp (c3 p p1),p2];rfl
 have hbed:∀p∈L,Dm b S [] p=0:=fun p hp=>kf p (hperm.mem_iff.1 hp)
 have hall:∀p∈L,(Be S p).1=0:=fun p hp=>(Co (hbed p hp)).2.1
 have hS:=(Fi (s:=s) (Z:=Z) (by rw[h0])).1
 rw[h0] at hS;injection hS with _ hS
 injection hS with hS hCC
 have hsum:(L.map fun p=>Kd (Be S p).2).sum=(Z.map (Abv s (Em s))).sum:=by
  have e1:(L.map fun p=>Kd (Be S p).2)=(List.range S.length).map fun i=>Kd (shp S i).poly:=by
   apply List.ext_getElem
   ·simp[hL2]
   ·intro i i1 i2
    simp only[List.length_map] at i1;rw[List.getElem_map,List.getElem_map,List.getElem_range,<-Dy i1];exact(hat2 i i1).2
  rw[e1,jl S fun s=>Kd s.poly,hS,Uo,wj Z (Abv s (Em s))]
 have harr:Fs s ⟨(Mo S P).2,b.wid,b.rx,b.ry,Z,Cp C P P.length⟩=(0,S,L):=by
  rw[I1 h0 hl hC hr,hL,if_neg];have hbase:Ic b S L=0:=(Kz hperm).2 c1;rcases Nat.eq_zero_or_pos P.length with g|g
  ·have:L=[]:=by
    have:=hperm.length_eq;exact List.eq_nil_of_length_eq_zero (by omega)
   rw[this];simp[Ic,Gk]
  ·have hpl:0<(Bz s b Z).2.pl.length:=by
    rw[hm];dsimp only;rw[(Cb P.length).1];have:=hperm.length_eq;omega
   obtain⟨q1,q2,q3,-⟩:=Kn h hpl;have q4:=q3 (Bz s b Z).2.len (Int.le_refl _) q2;rw[hm] at q4;dsimp only at q4;rw[I1 h0 hl hC hr,hL] at q4;intro hne;rw[if_pos hne] at q4;exact hne q4
 refine⟨by rw[harr],?_,?_⟩
 ·unfold Zo Ia
  rw[harr];dsimp only;rw[if_neg (show ¬((0:Int)≠0) by simp),Qv hall L.length (Nat.le_refl _),List.take_length]
  dsimp only;rw[if_neg (show ¬((0:Int)≠0) by simp),O7 _ (Nat.le_refl _),List.take_length,List.map_map,<-hsum]
  rfl
 ·rw[<-hsum]
  have:=Af0 (l:=L.map fun p=>Kd (Be S p).2) (M:=100000000000000) fun z hz=>by
   obtain⟨p,hp,rfl⟩:=List.mem_map.1 hz;exact rz (Ed (hall p hp))
  rw[List.length_map] at this;have h60:(L.length:Int)<=60:=by have:=hperm.length_eq;omega
  omega
end Go.Proofs.YtpbchbcdgikonaaGreat

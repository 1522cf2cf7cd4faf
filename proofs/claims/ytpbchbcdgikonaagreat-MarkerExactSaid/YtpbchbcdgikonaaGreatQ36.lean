/- Lean texts of the claim. -/
import Derived.Test.YtpbchbcdgikonaaGreatQ35
import Derived.Laws.FloatArith
import Derived.Laws.Externs
namespace Go.Proofs.YtpbchbcdgikonaaGreat
set_option linter.unusedVariables false
set_option linter.unusedSimpArgs false
set_option maxRecDepth 100000
set_option maxHeartbeats 4000000
open Go.RowKit
def kt (c:PlcP):Int×Int×Int:=(c.ga,c.us,c.cp)
theorem Mv {c p:PlcP}:Aff c p=true↔kt c=kt p:=by
 unfold Aff kt;simp[and_assoc]
theorem To (C:List PlcP) (p:PlcP):∀n,(Pw C p n = -1/\∀t,t<n->Aff (plc C t) p=false)\/∃k:Nat,Pw C p n=k/\k<n/\Aff (plc C k) p=true
 | 0=>.inl ⟨rfl,fun t ht=>by omega⟩
 | n+1=>by
   rw[Pw];by_cases h:Aff (plc C n) p=true
   ·rw[if_pos h];exact .inr ⟨n,rfl,by omega,h⟩
   ·rw[if_neg h]
    rcases To C p n with ⟨h1,h2⟩|⟨k,h1,h2,h3⟩
    ·refine .inl ⟨h1,fun t ht=>?_⟩
     rcases Nat.lt_or_ge t n with g|g
     ·exact h2 t g
     ·obtain rfl:t=n:=by omega
      simpa using h
    ·exact .inr ⟨k,h1,by omega,h3⟩
theorem Ads {C:List PlcP} (hC:(C.map kt).Nodup) {p:PlcP} {i:Nat} (hi:i<C.length) (hp:kt p=kt (plc C i)):kI C p=i:=by
 unfold kI;rcases To C p C.length with ⟨_,h2⟩|⟨k,h1,h2,h3⟩
 ·have:=h2 i hi
  rw[Mv.2 hp.symm] at this;cases this
 ·rw[h1]
  have e:=Mv.1 h3;rw[hp,Dd h2,Dd hi] at e;have hp2:=List.pairwise_iff_getElem.1 hC;rcases Nat.lt_trichotomy k i with g|g|g
  ·exact absurd (by rw[List.getElem_map,List.getElem_map];exact e) (hp2 k i (by simpa using h2) (by simpa using hi) g)
  ·omega
  ·exact absurd (by rw[List.getElem_map,List.getElem_map];exact e.symm) (hp2 i k (by simpa using hi) (by simpa using h2) g)
theorem Jf (U:List UseP):∀i,((Fb U i).map kt).Nodup/\∀c∈Fb U i,0<=c.us/\c.us<i
 | 0=>by simp[Fb]
 | i+1=>by
   obtain⟨h1,h2⟩:=Jf U i;rw[Fb];refine⟨?_,fun c hc=>?_⟩
   ·rw[List.map_append,List.nodup_append]
    refine⟨h1,?_,fun a ha b hb e=>?_⟩
    ·rw[List.map_map]
     refine List.Pairwise.map _ ?_ List.nodup_range;intro a b hab e;have:=congrArg (fun z=>z.2.2) e
     simp[kt,dq] at this;exact hab (by omega)
    ·subst e
     obtain⟨c,hc,rfl⟩:=List.mem_map.1 ha;obtain⟨d,hd,e⟩:=List.mem_map.1 hb;obtain⟨k,_,rfl⟩:=List.mem_map.1 hd;have:=congrArg (fun z=>z.2.1) e
     simp[kt,dq] at this;have:=(h2 c hc).2;omega
   ·rcases List.mem_append.1 hc with hc|hc
    ·have:=h2 c hc;omega
    ·obtain⟨k,_,rfl⟩:=List.mem_map.1 hc
     unfold dq;dsimp only;omega
theorem p9 (s:StyleP):((Em s).map kt).Nodup:=by
 unfold Em;split
 ·simp
 ·exact(Jf _ _).1
def J2 (C:List PlcP):Nat->List PlcP
 | 0=>[]
 | j+1=>J2 C j++C.map (Ju · (j:Int))
theorem Ys (U:List UseP):∀i,∀c∈Fb U i,c.ga=0
 | 0=>by simp[Fb]
 | i+1=>by
   rw[Fb];intro c hc;rcases List.mem_append.1 hc with hc|hc
   ·exact Ys U i c hc
   ·obtain⟨k,_,rfl⟩:=List.mem_map.1 hc
    rfl
theorem Aes (s:StyleP):∀c∈Em s,c.ga=0:=by
 unfold Em;split
 ·simp
 ·exact Ys _ _
theorem P9 {C:List PlcP} (hC:(C.map kt).Nodup) (h0:∀c∈C,c.ga=0):∀j,((J2 C j).map kt).Nodup/\∀c∈J2 C j,c.ga<j
 | 0=>by simp[J2]
 | j+1=>by
   obtain⟨h1,h2⟩:=P9 hC h0 j;rw[J2];refine⟨?_,fun c hc=>?_⟩
   ·rw[List.map_append,List.nodup_append]
    refine⟨h1,?_,fun a ha b hb e=>?_⟩
    ·rw[List.map_map]
     have hC':C.Pairwise fun a b=>kt a≠kt b:=List.pairwise_map.1 hC
     refine List.pairwise_map.2 (List.Pairwise.imp_of_mem ?_ hC');intro a b ha hb hab e;refine hab ?_;have e1:=congrArg (fun z=>z.2.1) e
     have e2:=congrArg (fun z=>z.2.2) e
     simp[kt,Ju] at e1 e2;unfold kt;rw[h0 a ha,h0 b hb,e1,e2]
    ·subst e
     obtain⟨c,hc,rfl⟩:=List.mem_map.1 ha;obtain⟨d,hd,e⟩:=List.mem_map.1 hb;obtain⟨k,_,rfl⟩:=List.mem_map.1 hd;have:=congrArg (fun z=>z.1) e
     simp[kt,Ju] at this;have:=h2 c hc;omega
   ·rcases List.mem_append.1 hc with hc|hc
    ·have:=h2 c hc;omega
    ·obtain⟨k,_,rfl⟩:=List.mem_map.1 hc
     unfold Ju;dsimp only;omega
theorem Uz {s:StyleP} {z j:Int} {C:List PlcP} {a:Int×List Shp×List PlcP}:∀k,k<=C.length->(Lj s z j C a k).1=0 ->
 a.1=0/\(∀c∈C.take k,(F8 s z c).2=0)/\Lj s z j C a k=(0,a.2.1++(C.take k).map (fun c=>(F8 s z c).1),a.2.2++(C.take k).map (Ju · j))
 | 0,_,h=>by
   refine⟨h,by simp,?_⟩
   simp[Lj];exact Prod.ext h rfl
 | k+1,hk,h=>by
   rw[Lj] at h ⊢;split at h
   ·rename_i g;exact absurd h g
   ·rename_i g0
    obtain⟨h1,h2,h3⟩:=Uz (s:=s) (z:=z) (j:=j) (C:=C) (a:=a) k (by omega) (by simpa using g0)
    split at h
    ·rename_i g;exact absurd h g
    ·rename_i g1
     rw[if_neg g0,if_neg g1,h3,Qm (by omega)]
     refine⟨h1,fun c hc=>?_,by simp⟩
     rcases List.mem_append.1 hc with hc|hc
     ·exact h2 c hc
     ·simp at hc;subst hc;simpa using g1
def O5 (s:StyleP) (Z:List Int) (C:List PlcP):Nat->List Shp
 | 0=>[]
 | j+1=>O5 s Z C j++C.map (fun c=>(F8 s (gi Z j) c).1)
theorem Uy {s:StyleP} {Z:List Int} {C:List PlcP}:∀j,(Li s Z C j).1=0->Li s Z C j=(0,O5 s Z C j,J2 C j)/\∀i,i<j->∀c∈C,(F8 s (gi Z i) c).2=0
 | 0,_=>⟨rfl,fun i hi=>by omega⟩
 | j+1,h=>by
   rw[Li] at h ⊢;split at h
   ·rename_i g;exact absurd h g
   ·rename_i g0
    obtain⟨h1,h2⟩:=Uy (s:=s) (Z:=Z) (C:=C) j (by simpa using g0)
    obtain⟨_,h4,h5⟩:=Uz C.length (Nat.le_refl _) h;rw[List.take_length] at h4 h5;rw[if_neg g0,h5,h1];refine⟨rfl,fun i hi c hc=>?_⟩
    rcases Nat.lt_or_ge i j with g|g
    ·exact h2 i g c hc
    ·obtain rfl:i=j:=by omega
     exact h4 c hc
theorem Hi (C:List PlcP):∀j,(J2 C j).length=j*C.length
 | 0=>by simp[J2]
 | j+1=>by rw[J2,List.length_append,Hi C j,List.length_map,Nat.add_mul];omega
theorem Hm (s:StyleP) (Z:List Int) (C:List PlcP):∀j,(O5 s Z C j).length=j*C.length
 | 0=>by simp[O5]
 | j+1=>by rw[O5,List.length_append,Hm s Z C j,List.length_map,Nat.add_mul];omega
theorem Fi {s:StyleP} {Z:List Int} (h:(Bd s Z).1=0):Bd s Z=(0,O5 s Z (Em s) Z.length,J2 (Em s) Z.length)/\Bt s=0/\1<=Z.length/\Z.length<=6 /\
 (∀i,i<Z.length->0<=gi Z i/\gi Z i<s.sz.length)/\(Em s).length*Z.length<=60/\∀i,i<Z.length->∀c∈Em s,(F8 s (gi Z i) c).2=0:=by
 unfold Bd at h ⊢;split at h
 ·rename_i g;exact absurd h g
 ·rename_i g0
  split at h
  ·cases h
  ·rename_i g1
   split at h
   ·cases h
   ·rename_i g2
    split at h
    ·cases h
    ·rename_i g3
     rw[if_neg g0,if_neg g1,if_neg g2,if_neg g3];obtain⟨h1,h2⟩:=Uy _ h;refine⟨h1,by simpa using g0,by omega,by omega,fun i hi=>?_,by omega,h2⟩
     cases hb:(decide (gi Z i<0) || decide ((s.sz.length:Int)<=gi Z i)) with
     | true=>exact absurd (Bq.yes (f:=fun i=>decide (gi Z i<0) || decide ((s.sz.length:Int)<=gi Z i)) hi hb) g2
     | false=>simp at hb;omega
theorem Uw {s:StyleP} {Z:List Int} (h:(Bd s Z).1=0):((Bd s Z).2.2.map kt).Nodup:=by
 rw[(Fi h).1];exact(P9 (p9 s) (Aes s) _).1
theorem Cb {C:List PlcP} {P:List Pt5}:∀k,(Cp C P k).length=C.length/\∀i,i<C.length->kt (plc (Cp C P k) i)=kt (plc C i)/\(plc (Cp C P k) i).fl=(plc C i).fl
 | 0=>⟨rfl,fun _ _=>⟨rfl,rfl⟩⟩
 | k+1=>by
   obtain⟨h1,h2⟩:=Cb (C:=C) (P:=P) k;rw[Cp];refine⟨by rw[List.length_set,h1],fun i hi=>?_⟩
   have e:plc ((Cp C P k).set (pt P k).sh.toNat (az (plc (Cp C P k) (pt P k).sh.toNat) (pt P k))) i=if (pt P k).sh.toNat=i then az (plc (Cp C P k) (pt P k).sh.toNat) (pt P k) else plc (Cp C P k) i:=by
    unfold plc;rw[List.getD,List.getD,List.getElem?_set];by_cases g:(pt P k).sh.toNat=i
    ·rw[if_pos g,if_pos g,if_pos (by omega)];rfl
    ·rw[if_neg g,if_neg g];rfl
   rw[e];by_cases g:(pt P k).sh.toNat=i
   ·rw[if_pos g,g]
    exact h2 i hi
   ·rw[if_neg g]
    exact h2 i hi
theorem Abm {C:List PlcP} (hC:(C.map kt).Nodup) (P:List Pt5) (k:Nat):(Cp C P k).map (kI C)=(List.range C.length).map fun i:Nat=>(i:Int):=by
 obtain⟨h1,h2⟩:=Cb (C:=C) (P:=P) k;apply List.ext_getElem
 ·simp[h1]
 ·intro i hi hi2
  simp at hi hi2;have h3:=Ads hC hi2 (h2 i hi2).1;rw[Dd (by omega)] at h3
  simpa using h3
theorem L9 (n:Nat):((List.range n).map fun i:Nat=>(i:Int)).Nodup:=by
 refine List.Pairwise.map _ ?_ List.nodup_range;intro a b hab e;exact hab (by omega)
section
open Ieee
theorem iu {m k a:Nat} (h:m<2 ^ k):m <<< a<2 ^ (k+a):=by
 rw[Nat.shiftLeft_eq,Nat.pow_add];exact Nat.mul_lt_mul_of_pos_right h (Nat.two_pow_pos _)
theorem Qb {m k a:Nat} (h:m<2 ^ (k+a)):m / 2 ^ a<2 ^ k:=by
 rw[Nat.div_lt_iff_lt_mul (Nat.two_pow_pos _),<-Nat.pow_add];exact h
theorem b2n (b:Bool):b.toNat<=1:=by cases b<;>simp
theorem Ah7 (w:Toward) (neg:Bool) {n drop k:Nat} (h:n<2 ^ (k+drop)):w.cut neg n drop<=2 ^ k:=by
 unfold Toward.cut;dsimp only
 have hl:n / 1 <<< min drop (n.log2+2)<2 ^ k:=by
  rw[Nat.shiftLeft_eq,Nat.one_mul];rcases Nat.le_total drop (n.log2+2) with g|g
  ·rw[Nat.min_eq_left g];exact Qb h
  ·rw[Nat.min_eq_right g]
   have:n<2 ^ (n.log2+1):=Nat.lt_log2_self;have h2:n / 2 ^ (n.log2+2)=0:=Nat.div_eq_of_lt (Nat.lt_trans this (Nat.pow_lt_pow_right (by decide) (by omega)))
   rw[h2];exact Nat.two_pow_pos _
 have hb:∀b:Bool,n / 1 <<< min drop (n.log2+2)+b.toNat<=2 ^ k:=fun b=>by have:=b2n b;omega
 exact hb _
theorem V6 (neg:Bool) {n drop k:Nat} (h:n<2 ^ (k+drop)):Toward.zero.cut neg n drop<2 ^ k:=by
 unfold Toward.cut;dsimp only;rw[Nat.shiftLeft_eq,Nat.one_mul];simp only[Bool.toNat_false,Nat.add_zero];rcases Nat.le_total drop (n.log2+2) with g|g
 ·rw[Nat.min_eq_left g];exact Qb h
 ·rw[Nat.min_eq_right g]
  have:n<2 ^ (n.log2+1):=Nat.lt_log2_self;have h2:n / 2 ^ (n.log2+2)=0:=Nat.div_eq_of_lt (Nat.lt_trans this (Nat.pow_lt_pow_right (by decide) (by omega)))
  rw[h2];exact Nat.two_pow_pos _
theorem lp:double.leastPlace = -1074:=by decide
theorem bin:double.binade=2 ^ 52:=rfl
theorem sw:double.signWeight=2 ^ 63:=rfl
theorem inf:double.infRung=2047*2 ^ 52:=by decide
theorem Acx {r e:Nat} (he:e<=2000) (h:r<=e*2 ^ 52+2 ^ 53):∃m i,double.read r=.number false m i/\m<2 ^ 53 /\ -1074<=i/\i <= -1074+e+1:=by
 have h63:r<2 ^ 63:=by omega
 unfold Format.read;rw[sw,bin,inf,lp,Nat.div_eq_of_lt h63,Nat.mod_eq_of_lt h63];dsimp only;have hn:(0 % 2 == 1)=false:=by decide
 rw[hn];by_cases h1:r<2 ^ 52
 ·rw[if_pos h1]
  exact⟨_,_,rfl,by omega,by omega,by omega⟩
 ·rw[if_neg h1,if_pos (by omega)]
  refine⟨_,_,rfl,?_,?_,?_⟩
  ·have:=Nat.mod_lt r (show 0<2 ^ 52 by decide);omega
  ·omega
  ·have:r / 2 ^ 52<=e+2:=by omega
   omega
theorem an {mag:Nat} {place:Int} {L:Nat} (h0:mag≠0) (hL:mag.log2=L) (h1 : -1074<=place+L-52):double.nearest false mag place<=(place+L-52+1074).toNat*2 ^ 52+2 ^ 53:=by
 unfold Format.nearest;rw[if_neg h0];dsimp only
 have e:max (place+(mag.log2:Int)-(double.fractionBits:Int)) double.leastPlace=place+L-52:=by
  rw[lp,hL];show max (place+(L:Int)-52) (-1074)=_;omega
 rw[e,lp,bin,inf];unfold Format.word;rw[if_neg (by simp)]
 refine Nat.le_trans (Nat.min_le_left _ _) ?_;have hm:mag<2 ^ (L+1):=by rw[<-hL];exact Nat.lt_log2_self
 have hk:Toward.even.cut false (mag <<< (place-(place+L-52)).toNat) (place+L-52-place).toNat<=2 ^ 53:=by
  apply Ah7;refine Nat.lt_of_lt_of_le (iu hm) (Nat.pow_le_pow_right (by decide) (by omega))
 have:(place+↑L-52 - -1074).toNat=(place+↑L-52+1074).toNat:=by omega
 rw[this];omega
theorem U4 (n:Nat):∀todo root,Datum.rootFrom n todo root<root+2 ^ todo:=by
 intro todo;induction todo with
 | zero=>intro root;simp[Datum.rootFrom]
 | succ t ih =>
   intro root;rw[Datum.rootFrom];have e:1 <<< t=2 ^ t:=by rw[Nat.shiftLeft_eq,Nat.one_mul]
   rw[e];have:=ih (root+2 ^ t);have:=ih root;rw[Nat.pow_succ];split<;>omega
theorem Ph {mag:Nat} {place:Int} {L:Nat} (h0:mag≠0) (hL:mag.log2<=L) (h1 : -1074<=place+mag.log2-52) (h2:place+L<=500):∃m i,double.read (double.write (.number false mag place))=.number false m i/\m<2 ^ 53 /\ -1074<=i/\i<=place+L-51:=by
 have h:=an h0 rfl h1;obtain⟨m,i,a,b,c,d⟩:=Acx (e:=(place+mag.log2-52+1074).toNat) (by omega) h
 exact⟨m,i,a,b,c,by omega⟩
theorem ff (place:Int):double.write (.number false 0 place)=0:=rfl
theorem Agd:double.read 0=.number false 0 (-1074):=by decide
theorem Jc {m k:Nat} (h:m<2 ^ (k+1)):m.log2<=k:=by
 rcases Nat.eq_zero_or_pos m with rfl|h0
 ·simp
 ·have:=(Nat.log2_lt (by omega:m≠0)).2 h
  omega
theorem Zp {n:Nat} (hn:n<2 ^ 50):∃r,double.sqrt (double.write (.number false n 0))=some r/\∃z:Nat,(double.read r).toInt .zero=some (z:Int)/\z<2 ^ 30:=by
 have zero:∃z:Nat,(double.read 0).toInt .zero=some (z:Int)/\z<2 ^ 30:=⟨0,by rw[Agd];rfl,by decide⟩
 by_cases h0:n=0
 ·subst h0
  refine⟨0,?_,zero⟩;rw[ff];unfold Format.sqrt;rw[Agd];rfl
 ·obtain⟨m,i,hr,hm,hi1,hi2⟩:=Ph (L:=49) h0 (Jc hn) (by omega) (by omega:(0:Int)+(49:Nat)<=500)
  unfold Format.sqrt;rw[hr];unfold Datum.root;by_cases hm0:m=0
  ·subst hm0
   exact⟨_,by simp only[if_true,Option.map_some,ff],zero⟩
  ·simp only[if_neg hm0,Bool.false_eq_true,if_false]
   have hml:m.log2<=52:=Jc hm;have e54:2*(double.fractionBits+2)=108:=rfl;rw[e54];obtain⟨mo,hmo⟩:∃mo,108-m.log2+((i-((108-m.log2:Nat):Int)) % 2).toNat=mo:=⟨_,rfl⟩
   have hmo2:mo<=109:=by omega
   rw[hmo];obtain⟨N,hN⟩:∃N,m <<< mo=N:=⟨_,rfl⟩
   rw[hN];have hNl:N.log2<=52+mo:=Jc (by rw[<-hN];have:=iu (a:=mo) hm;rw[show 52+mo+1=53+mo by omega];exact this)
   have hw:=U4 N (N.log2 / 2+1) 0;obtain⟨W,hW⟩:∃W,Datum.rootFrom N (N.log2 / 2+1) 0=W:=⟨_,rfl⟩
   rw[hW] at hw ⊢;have hb:=b2n (W*W != N);obtain⟨b,hbb⟩:∃b,(W*W != N).toNat=b:=⟨_,rfl⟩
   rw[hbb] at hb ⊢;have hmag:2*W+b<2 ^ (N.log2 / 2+1+1):=by rw[Nat.pow_succ];omega
   by_cases hz:2*W+b=0
   ·rw[hz];exact⟨_,rfl,by rw[ff];exact zero⟩
   ·refine⟨_,rfl,?_⟩
    have hl:=Jc hmag;obtain⟨m2,i2,hr2,hm2,hj1,hj2⟩:=Ph (L:=N.log2 / 2+1) (place:=(i-(mo:Int)) / 2-1) hz hl (by omega) (by omega)
    rw[hr2];refine⟨Toward.zero.cut false (m2 <<< i2.toNat) (-i2).toNat,?_,?_⟩
    ·unfold Datum.toInt Datum.integral;simp[signed]
    ·apply V6
     refine Nat.lt_of_lt_of_le (iu hm2) (Nat.pow_le_pow_right (by decide) (by omega))
end
theorem Adc {n:Nat} (h0:0<n):∀x,0<x->n<(x+1)*(x+1)->Q0 n x*Q0 n x<=n/\n<(Q0 n x+1)*(Q0 n x+1):=by
 intro x;induction x using Nat.strongRecOn with
 | _ x ih =>
   intro hx hn;rw[Q0];split
   ·rename_i h
    have hinv:=Xv (n:=n) hx
    have hpos:0<(x+n / x) / 2:=by
     rcases Nat.eq_zero_or_pos ((x+n / x) / 2) with g|g
     ·have hx1:x=1/\n / x=0:=by
       generalize n / x=q at g ⊢;omega
      obtain⟨rfl,e1⟩:=hx1;rw[Nat.div_one] at e1;omega
     ·exact g
    exact ih _ h hpos hinv
   ·rename_i h
    refine⟨?_,hn⟩
    have hq:x<=n / x:=by
     generalize n / x=q at h ⊢;omega
    exact(Nat.le_div_iff_mul_le hx).1 hq
theorem Pn {n:Nat} (hn:n<9223372036854775808):Cf n*Cf n<=n/\n<(Cf n+1)*(Cf n+1):=by
 unfold Cf;split
 ·rename_i h
  have:n=0\/n=1:=by omega
  rcases this with rfl|rfl<;>simp
 ·rename_i h
  have hb:=(Lib.bitLenAux_bounds 64 n (by have e:(2:Nat) ^ 64=18446744073709551616:=(by decide);omega) (by omega)).2.2
  refine Adc (by omega) _ (Nat.two_pow_pos _) ?_
  have hb':n<2 ^ Lib.bitLen n:=hb
  have:2 ^ Lib.bitLen n<=2 ^ ((Lib.bitLen n+1) / 2)*2 ^ ((Lib.bitLen n+1) / 2):=by
   rw[<-Nat.pow_add];exact Nat.pow_le_pow_right (by decide) (by omega)
  have h2:2 ^ ((Lib.bitLen n+1) / 2)*2 ^ ((Lib.bitLen n+1) / 2)<=(2 ^ ((Lib.bitLen n+1) / 2)+1)*(2 ^ ((Lib.bitLen n+1) / 2)+1):=Nat.mul_le_mul (Nat.le_succ _) (Nat.le_succ _);omega
theorem je {n a b:Nat} (h1:a*a<=n) (h2:n<(a+1)*(a+1)) (h3:b*b<=n) (h4:n<(b+1)*(b+1)):a=b:=by
 rcases Nat.lt_trichotomy a b with g|g|g
 ·have:=Nat.mul_le_mul (show a+1<=b by omega) (show a+1<=b by omega);omega
 ·exact g
 ·have:=Nat.mul_le_mul (show b+1<=a by omega) (show b+1<=a by omega);omega
theorem ur : ((Tryz.f140).name == "runtime.NumGoroutine") = false := by kernel_rfl
theorem uv:(Tryz.f140).body.isNone=true:=by kernel_rfl
theorem uq:Extern.findNext Tryz.f140=none:=by kernel_rfl
theorem uu:Extern.find Tryz.f140=some Extern.MathSqrt.sqrt:=by kernel_rfl
theorem vr {x r:Nat} (h:Ieee.double.sqrt x=some r) (w:World):(callFunc 140 #[.float .f64 x]).run Tryz.prog w=.ok (.value (.float .f64 r)) w:=by
 rw[run_callFunc_extern Tryz.func140 ur uv uq uu];have h':FloatKind.f64.format.sqrt x=some r:=h;have e:Extern.MathSqrt.sqrt #[.float .f64 x]=(match FloatKind.f64.format.sqrt x with|some r=>pure (.float .f64 r)|none=>do pure (.float .f64 (<-choose (.nanBits .f64 x x)))):=rfl
 rw[e,h'];rfl
theorem ki {x r:Nat} (h:Ieee.double.sqrt x=some r) (w:World):Calls Tryz.prog 111 #[.float .f64 x] w fun e w'=>e=.returned (.float .f64 r)/\w=w':=by
 have hs:=vr h;clear h;go_enter Tryz.func111,Tryz.ntmps111;go_wp2_with fail;go_ret;exact⟨rfl,rfl⟩
theorem rp (n:Nat) (w:World) (hn:n<1125899906842624):Calls Tryz.prog 74 #[.int .i64 (n:Int)] w fun e w'=>e=.returned (.int .i64 (Cf n:Int))/\w=w':=by
 obtain⟨HA,HB⟩:=Pn (n:=n) (by omega)
 obtain⟨R,hR⟩:∃R,Cf n=R:=⟨_,rfl⟩
 rw[hR] at HA HB ⊢;have HU:=Lib.hid (fun a h1 h2=>je (n:=n) (a:=a) (b:=R) h1 h2 HA HB)
 clear hR HA HB;obtain⟨r,hr,z,hz,hzb⟩:=Zp (n:=n) (by have e:(2:Nat) ^ 50=1125899906842624:=(by decide);omega)
 have e30:(2:Nat) ^ 30=1073741824:=by decide
 rw[e30] at hzb;have hci:=fun (w:World)=>run_convert_int_float (P:=Tryz.prog) w 3 203 .i64 .f64 (n:Int) (by rw[Tryz.underlying3];rfl) Tryz.underlying203
 have hfo:floatOfInt .f64 (n:Int)=Ieee.double.write (.number false n 0):=by
  unfold floatOfInt FloatKind.nearest FloatKind.encode FloatKind.format;simp[show ¬((n:Int)<0) by omega]
 rw[hfo] at hci;obtain⟨x,hx⟩:∃x,Ieee.double.write (.number false n 0)=x:=⟨_,rfl⟩
 rw[hx] at hr hci
 have hfi:floatToIntVal .f64 r .i64=some (z:Int):=by
  unfold floatToIntVal FloatKind.decode FloatKind.format;have e1:IntKind.i64.min = -9223372036854775808:=by decide
  have e2:IntKind.i64.max=9223372036854775807:=by decide
  rw[hz];simp only[e1,e2];rw[if_pos (by omega)]
 have hcf:=fun (w:World)=>run_convert_float_int (P:=Tryz.prog) w 203 3 .f64 .i64 r (z:Int) (by rw[Tryz.underlying203];rfl) Tryz.underlying3 hfi
 clear hz hfi hx hfo e30;have HRR:=Lib.hid hr;clear hr;go_enter Tryz.func74,Tryz.ntmps74
 go_upto_region 2 with (go_at_call 111;refine(ki HRR.out _).mono ?_;rintro e w1 ⟨rfl,rfl⟩)
 clear hci hcf HRR
 go_loop [3] (fun i=>∃a:Nat,i=.int .i64 a/\a<=1073741824) (fun i=>(intOf i).toNat)
 case atStart=>exact⟨z,rfl,by omega⟩
 case round =>
  obtain⟨a,rfl,ha⟩:=hrel;obtain⟨q,hq⟩:∃q,a*a=q:=⟨_,rfl⟩
  have hqb:q<=1152921504606846976:=by rw[<-hq];exact Nat.mul_le_mul ha ha
  have E1:(a:Int)*(a:Int)=(q:Int):=by rw[<-hq];simp
  have W1:IntKind.i64.wrap (q:Int)=q:=by rw[IntKind.wrap_i64];omega
  by_cases hlt:n<q
  ·have ha0:0<a:=by
    rcases Nat.eq_zero_or_pos a with g|g
    ·subst g;omega
    ·exact g
   have HQ:=Lib.hid hq;clear hq;go_wp2_with fail;exact⟨⟨a-1,by rw[show ((a-1:Nat):Int)=(a:Int)-1 by omega],by omega⟩,by simp[intOf];omega⟩
  ·have HQ:=Lib.hid (show a*a<=n by omega)
   clear hq;go_wp2_with fail;clear E1 W1 hqb hlt
   go_loop [3] (fun i=>∃b:Nat,i=.int .i64 b/\b<=1073741824/\Hid (b*b<=n)) (fun i=>1073741825-(intOf i).toNat)
   case atStart=>exact⟨a,rfl,ha,HQ⟩
   case round =>
    obtain⟨b,rfl,hb,HB⟩:=hrel;obtain⟨q,hq⟩:∃q,(b+1)*(b+1)=q:=⟨_,rfl⟩
    have hqb:q<=1152921506754330625:=by rw[<-hq];exact Nat.mul_le_mul (show b+1<=1073741825 by omega) (show b+1<=1073741825 by omega)
    have E1:((b:Int)+1)*((b:Int)+1)=(q:Int):=by rw[<-hq];simp
    have W1:IntKind.i64.wrap (q:Int)=q:=by rw[IntKind.wrap_i64];omega
    by_cases hlt:q<=n
    ·have hb1:b<1073741824:=by
      apply Classical.byContradiction;intro hc;have:=Nat.mul_le_mul (show 1073741824<=b by omega) (show 1073741824<=b by omega)
      have:=HB.out;omega
     have HQ:=Lib.hid (show (b+1)*(b+1)<=n by omega)
     clear hq;go_wp2_with fail;exact⟨⟨b+1,by go_num,by omega,HQ⟩,by simp[intOf];omega⟩
    ·have HE:=Lib.hid (HU.out b HB.out (by omega))
     clear hq;go_wp2_with fail;go_ret;exact⟨by rw[HE.out];rfl,rfl⟩
theorem L7 {l:List (Int×Int)} {n:Nat} (h:Bf l n=0):3<=n/\n<=40/\(∀k,k<n->Vr (gt l k))/\Dz l n=true:=by
 unfold Bf at h;split at h
 ·cases h
 ·split at h
  ·cases h
  ·split at h
   ·cases h
   ·rename_i g1 g2 g3
    split at h
    ·rename_i g4
     refine⟨by omega,by omega,fun k hk=>?_,g4⟩
     cases ho:Ce 1048576 (gt l k) with
     | false=>unfold Ce at ho;unfold Vr;simp at ho;omega
     | true=>exact absurd (Bq.yes (f:=fun i=>Ce 1048576 (gt l i)) hk ho) g3
    ·cases h
theorem Yx {l:List (Int×Int)} {n:Nat} (h:Bf l n=0) {i j:Nat} (hi:i<n) (hj:j<n) (hne:i≠j):gt l i≠gt l j:=by
 have hs:=(L7 h).2.2.2;unfold Dz at hs;rw[Bool.and_eq_true] at hs;have hd:=Jq.iff.1 hs.1
 have key:∀a b,b<a->a<n->gt l a≠gt l b:=by
  intro a b hba ha he;have:=hd a ha;rw[show Aej l a=true from Bq.yes (f:=fun j=>eqS (gt l a) (gt l j)) hba ((Vy _ _).2 he)] at this
  cases this
 rcases Nat.lt_or_ge i j with g|g
 ·exact fun e=>key j i g hj e.symm
 ·exact key i j (by omega) hi
theorem Aa0 (p q:Int×Int):(q.1-p.1)*(q.1-p.1)<=(sqd p q:Int)/\(q.2-p.2)*(q.2-p.2)<=(sqd p q:Int)/\(p≠q->1<=sqd p q)/\(sqd p q:Int)=(q.1-p.1)*(q.1-p.1)+(q.2-p.2)*(q.2-p.2):=by
 have n1:0<=(q.1-p.1)*(q.1-p.1):=(Sj (M:=((q.1-p.1).natAbs:Int)) (by omega) (by omega)).1
 have n2:0<=(q.2-p.2)*(q.2-p.2):=(Sj (M:=((q.2-p.2).natAbs:Int)) (by omega) (by omega)).1
 have e:(sqd p q:Int)=(q.1-p.1)*(q.1-p.1)+(q.2-p.2)*(q.2-p.2):=by unfold sqd;omega
 refine⟨by omega,by omega,fun hne=>?_,e⟩
 by_cases h1:q.1-p.1=0
 ·by_cases h2:q.2-p.2=0
  ·exact absurd (Prod.ext (by omega) (by omega)) hne
  ·have:(q.2-p.2)*(q.2-p.2)≠0:=Int.mul_ne_zero h2 h2
   omega
 ·have:(q.1-p.1)*(q.1-p.1)≠0:=Int.mul_ne_zero h1 h1
  omega
theorem Hv {d:Int} {N R:Nat} (h:d*d<=(N:Int)) (hR:N<(R+1)*(R+1)) : -(R:Int)<=d/\d<=(R:Int):=by
 constructor
 ·refine Classical.byContradiction fun hc=>?_
  have h1:(R:Int)+1 <= -d:=by omega
  have:=Int.mul_le_mul h1 h1 (by omega) (by omega)
  rw[Int.neg_mul_neg] at this;have e:(((R+1)*(R+1):Nat):Int)=((R:Int)+1)*((R:Int)+1):=by push_cast;rfl
  omega
 ·refine Classical.byContradiction fun hc=>?_
  have h1:(R:Int)+1<=d:=by omega
  have:=Int.mul_le_mul h1 h1 (by omega) (by omega)
  have e:(((R+1)*(R+1):Nat):Int)=((R:Int)+1)*((R:Int)+1):=by push_cast;rfl
  omega
theorem Abi (v:List (Int×Int)) : -1<=orW v/\orW v<=1:=by unfold orW Er;split<;>(try split)<;>omega
theorem Xb {p q:Int×Int} (hp:Vr p) (hq:Vr q) (hne:p≠q):(sqd p q)<1125899906842624/\1<=Cf (sqd p q)/\Cf (sqd p q)<=4294967296 /\
 -(Cf (sqd p q):Int)<=q.1-p.1/\q.1-p.1<=Cf (sqd p q) /\ -(Cf (sqd p q):Int)<=q.2-p.2/\q.2-p.2<=Cf (sqd p q):=by
 obtain⟨a1,a2,a3,a4⟩:=hp;obtain⟨b1,b2,b3,b4⟩:=hq;obtain⟨s1,s2,s3,s4⟩:=Aa0 p q;have m1:=Sj (d:=q.1-p.1) (M:=2097152) (by omega) (by omega)
 have m2:=Sj (d:=q.2-p.2) (M:=2097152) (by omega) (by omega)
 have hN:sqd p q<1125899906842624:=by omega
 obtain⟨r1,r2⟩:=Pn (n:=sqd p q) (by omega)
 have h1:=s3 hne;refine⟨hN,?_,Xm (by omega),Hv s1 r2 |>.1,Hv s1 r2 |>.2,Hv s2 r2 |>.1,Hv s2 r2 |>.2⟩
 refine Classical.byContradiction fun hc=>?_
 have h0:Cf (sqd p q)=0:=by omega
 rw[h0] at r2;omega
theorem Ais {c d R:Int} (hc1 : -500<=c) (hc2:c<=500) (hR:0<=R) (h1 : -R<=d) (h2:d<=R) : -(R*500)<=c*d/\c*d<=R*500:=by
 have k1:0<=(500-c)*R:=Int.mul_nonneg (by omega) hR
 have k2:0<=(500+c)*R:=Int.mul_nonneg (by omega) hR
 rcases Int.le_total 0 c with g|g
 ·have e1:=Int.mul_le_mul_of_nonneg_left h2 g
  have e2:=Int.mul_le_mul_of_nonneg_left h1 g;rw[Int.sub_mul] at k1;rw[Int.mul_neg] at e2;have:=Int.mul_comm R 500;omega
 ·have e1:=Int.mul_le_mul_of_nonneg_left h2 (show 0 <= -c by omega)
  have e2:=Int.mul_le_mul_of_nonneg_left h1 (show 0 <= -c by omega)
  rw[Int.add_mul] at k2;rw[Int.neg_mul,Int.neg_mul] at e1;rw[Int.neg_mul,Int.neg_mul,Int.mul_neg] at e2;have:=Int.mul_comm R 500;omega
theorem iw {c:Int} {p q:Int×Int} (hc1 : -500<=c) (hc2:c<=500) (hp:Vr p) (hq:Vr q) (hne:p≠q) :
 -1048576000<=c*(q.2-p.2)/\c*(q.2-p.2)<=1048576000 /\ -1048576000 <= -c*(q.1-p.1) /\ -c*(q.1-p.1)<=1048576000 /\
 -500<=G8 (c*(q.2-p.2)) (Cf (sqd p q))/\G8 (c*(q.2-p.2)) (Cf (sqd p q))<=500 /\ -500<=G8 (-c*(q.1-p.1)) (Cf (sqd p q))/\G8 (-c*(q.1-p.1)) (Cf (sqd p q))<=500:=by
 obtain⟨f1,f2,f3,f4,f5,f6,f7⟩:=Xb hp hq hne;obtain⟨a1,a2,a3,a4⟩:=hp;obtain⟨b1,b2,b3,b4⟩:=hq;have k1:=Ais (c:=c) (d:=q.2-p.2) (R:=Cf (sqd p q)) hc1 hc2 (by omega) f6 f7
 have k2:=Ais (c := -c) (d:=q.1-p.1) (R:=Cf (sqd p q)) (by omega) (by omega) (by omega) f4 f5
 have j1:=Ais (c:=c) (d:=q.2-p.2) (R:=2097152) hc1 hc2 (by omega) (by omega) (by omega)
 have j2:=Ais (c := -c) (d:=q.1-p.1) (R:=2097152) (by omega) (by omega) (by omega) (by omega) (by omega)
 have r1:=Ni (M:=500) (show (0:Int)<Cf (sqd p q) by omega) k1.1 k1.2 (by omega)
 have r2:=Ni (M:=500) (show (0:Int)<Cf (sqd p q) by omega) k2.1 k2.2 (by omega)
 exact⟨by omega,by omega,by omega,by omega,r1.1,r1.2,r2.1,r2.2⟩
end Go.Proofs.YtpbchbcdgikonaaGreat

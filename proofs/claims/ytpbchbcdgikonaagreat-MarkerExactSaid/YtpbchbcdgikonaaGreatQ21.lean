/- Lean texts of the claim. -/
import Derived.Test.YtpbchbcdgikonaaGreatQ20
import Derived.Lib.EndianBits
namespace Go.Proofs.YtpbchbcdgikonaaGreat
set_option linter.unusedVariables false
set_option linter.unusedSimpArgs false
set_option maxRecDepth 100000
set_option maxHeartbeats 4000000
open Go.RowKit
section
namespace Limb
structure DigC (X W P P2 H v2 T u2:Nat):Prop where
 hP:P=BB*P2
 hP2:0<P2
 hW1:H*P<=W
 hW2:W<(H+1)*P
 hX1:T*P<=X
 hX2:X<(T+1)*P
 hV1:(H*BB+v2)*P2<=W
 hV2:W<(H*BB+v2+1)*P2
 hU1:(T*BB+u2)*P2<=X
 hU2:X<(T*BB+u2+1)*P2
 hH:BB<=2*H
 hHb:H<BB
 hv2:v2<BB
 hu2:u2<BB
 hXW:X<W*BB
structure DigI (X W H T q r:Nat):Prop where
 e:q*H+r=T
 ge:X / W<=q
 le:q<=BB+1
 or:q<=BB\/r<BB
section
variable {X W P P2 H v2 T u2 q r : Nat}
theorem DigC.pW (h:DigC X W P P2 H v2 T u2):0<W:=by
 have h1:=h.hV1;rcases Nat.eq_zero_or_pos W with e|e
 ·have:=h.hXW;rw[e] at this;omega
 ·exact e
theorem DigC.hq (h:DigC X W P P2 H v2 T u2):X / W*W<=X:=Nat.div_mul_le_self X W
theorem DigC.hq2 (h:DigC X W P P2 H v2 T u2):X<(X / W+1)*W:=by
 have:=Nat.lt_mul_div_succ X h.pW;rw[Nat.mul_comm] at this;exact this
theorem DigC.lt (h:DigC X W P P2 H v2 T u2):X / W<BB:=Nat.div_lt_of_lt_mul h.hXW
theorem DigC.start (h:DigC X W P P2 H v2 T u2):DigI X W H T (T / H) (T % H):=by
 have hH:0<H:=by have:=h.hH;unfold BB at this;omega
 have hP:0<P:=by rw[h.hP];exact Nat.mul_pos (by decide) h.hP2
 refine⟨by rw[Nat.mul_comm];exact Nat.div_add_mod T H,Ah5 hP h.hW1 h.hX2 hH h.hq,?_,.inr (Nat.lt_trans (Nat.mod_lt _ hH) h.hHb)⟩
 have h1:T*P<(H+1)*BB*P:=by
  have a:=Nat.mul_lt_mul_of_pos_right h.hW2 (show 0<BB by decide)
  have b:(H+1)*P*BB=(H+1)*BB*P:=by rw[Nat.mul_assoc,Nat.mul_assoc,Nat.mul_comm P]
  rw[b] at a;exact Nat.lt_of_le_of_lt h.hX1 (Nat.lt_trans h.hXW a)
 have h2:=Nat.lt_of_mul_lt_mul_right h1;rw[Nat.add_mul,Nat.one_mul] at h2
 have h3:T<(BB+1+1)*H:=by
  have:=h.hH;rw[Nat.add_mul,Nat.add_mul,Nat.one_mul,Nat.mul_comm BB];omega
 have:=(Nat.div_lt_iff_lt_mul hH).2 h3;omega
theorem DigC.step (h:DigC X W P P2 H v2 T u2) (i:DigI X W H T q r) (hr:r<BB) (hc:BB<=q\/r*BB+u2<q*v2):DigI X W H T (q-1) (r+H)/\1<=q:=by
 have hlt:X / W<q:=by
  rcases hc with hc|hc
  ·exact Nat.lt_of_lt_of_le h.lt hc
  ·refine Aek h.hV1 h.hU2 ?_ h.hq
   rw[Nat.mul_add,<-Nat.mul_assoc,<-i.e,Nat.add_mul];omega
 have e:=i.e;have h0:1<=q:=Nat.lt_of_le_of_lt (Nat.zero_le _) hlt;obtain⟨p,rfl⟩:∃p,q=p+1:=⟨q-1,by omega⟩
 rw[Nat.add_mul,Nat.one_mul] at e;have:=i.le;exact⟨⟨by rw[Nat.add_sub_cancel];omega,Nat.le_of_lt_succ hlt,by omega,.inl (by omega)⟩,h0⟩
theorem DigC.end1 (h:DigC X W P P2 H v2 T u2) (i:DigI X W H T q r) (hr:BB<=r):q=X / W:=by
 have hq:q<=BB:=by rcases i.or with g|g;exact g;omega
 refine Nat.le_antisymm ?_ i.ge;rw[Nat.le_div_iff_mul_le h.pW];have h1:q*W<=q*((H+1)*P):=Nat.mul_le_mul_left q (Nat.le_of_lt h.hW2);have h2:q*((H+1)*P)=(q*H+q)*P:=by rw[<-Nat.mul_assoc,Nat.mul_add,Nat.mul_one]
 have h3:(q*H+q)*P<=T*P:=Nat.mul_le_mul_right P (by rw[<-i.e];omega)
 have:=h.hX1;omega
theorem DigC.end2 (h:DigC X W P P2 H v2 T u2) (i:DigI X W H T q r) (hq:q<BB) (hc:q*v2<=r*BB+u2):q<=X / W+1:=by
 refine Ah4 (U:=X) (V:=W) (U3:=T*BB+u2) (V2:=H*BB+v2) (P:=P2) h.hV2 h.hU1 ?_ hq ?_ h.hP2 h.hq2
 ·rw[Nat.mul_add,<-Nat.mul_assoc,<-i.e,Nat.add_mul]
  omega
 ·have h1:=h.hW1
  have hH:1<=H:=by have:=h.hH;unfold BB at this;omega
  have:=Nat.mul_le_mul_right P hH;rw[h.hP] at *
  omega
end
theorem Ik (l:List Nat) (j:Nat) (h:j<=l.length):val l=val (l.take j)+BB ^ j*val (l.drop j):=by
 have:=I8 (l.take j) (l.drop j)
 rwa [List.take_append_drop,List.length_take,Nat.min_eq_left h] at this
theorem I7 (l:List Nat) (j:Nat):val (l.drop j)=l.getD j 0+BB*val (l.drop (j+1)):=by
 rcases Nat.lt_or_ge j l.length with h|h
 ·rw[List.drop_eq_getElem_cons h,val,List.getD,List.getElem?_eq_getElem h];rfl
 ·rw[List.drop_eq_nil_of_le h,List.drop_eq_nil_of_le (by omega),List.getD,List.getElem?_eq_none h];simp[val]
theorem tz {l:List Nat} (h:∀j,l.getD j 0=0):val l=0:=by
 induction l with
 | nil=>rfl
 | cons x l ih =>
   have h0:=h 0;simp at h0;rw[val,h0,ih (fun j=>by have:=h (j+1);simpa using this)]
   rfl
theorem drop_zero {l:List Nat} {m:Nat} (h:∀j,m<=j->l.getD j 0=0):val (l.drop m)=0 :=
 tz fun j=>by
  have:=h (m+j) (by omega)
  rw[List.getD,List.getElem?_drop]
  rwa [List.getD] at this
theorem Uu {l:List Nat} {j:Nat} (hl:∀x∈l,x<BB) (h:∀k,j<k->l.getD k 0=0) (hj:j<l.length):l.getD j 0*BB ^ j<=val l/\val l<(l.getD j 0+1)*BB ^ j:=by
 have e:=Ik l j (by omega)
 rw[I7,drop_zero (fun k hk=>h k hk),Nat.mul_zero,Nat.add_zero,Nat.mul_comm] at e
 have:=Lg hl (k:=j) (by omega)
 rw[Nat.add_mul,Nat.one_mul];omega
theorem fp {l:List Nat} {j:Nat} (hl:∀x∈l,x<BB) (h:∀k,j+1<k->l.getD k 0=0) (hj:j+1<l.length):(l.getD (j+1) 0*BB+l.getD j 0)*BB ^ j<=val l/\val l<(l.getD (j+1) 0*BB+l.getD j 0+1)*BB ^ j:=by
 have e:=Ik l j (by omega)
 rw[I7,I7,drop_zero (fun k hk=>h k hk),Nat.mul_zero,Nat.add_zero,Nat.mul_comm] at e
 have:=Lg hl (k:=j) (by omega)
 rw[Nat.add_mul _ 1,Nat.one_mul,Nat.mul_comm (l.getD (j+1) 0),Nat.add_comm (BB*_)];omega
theorem fq {l:List Nat} {j:Nat} (hl:∀x∈l,x<BB) (h:∀k,j+2<k->l.getD k 0=0) (hj:j+2<l.length):((l.getD (j+2) 0*BB+l.getD (j+1) 0)*BB+l.getD j 0)*BB ^ j<=val l/\val l<((l.getD (j+2) 0*BB+l.getD (j+1) 0)*BB+l.getD j 0+1)*BB ^ j:=by
 have e:=Ik l j (by omega)
 rw[I7,I7,I7,drop_zero (fun k hk=>h k hk),Nat.mul_comm (BB ^ j)] at e
 have z:BB*0=0:=rfl;rw[z,show l.getD (j+1+1) 0+0=l.getD (j+2) 0 from rfl] at e
 have:=Lg hl (k:=j) (by omega)
 have e2:(l.getD (j+2) 0*BB+l.getD (j+1) 0)*BB+l.getD j 0=l.getD j 0+BB*(l.getD (j+1) 0+BB*l.getD (j+2) 0):=by
  rw[Nat.mul_comm _ BB,Nat.mul_comm _ BB,Nat.add_comm (BB*_),Nat.add_comm (BB*l.getD (j+2) 0)]
 rw[e2,Nat.add_mul _ 1,Nat.one_mul];omega
theorem Al1 {L vl:List Nat} {i n:Nat} (hL:∀x∈L,x<BB) (hv:∀x∈vl,x<BB) (hn:vl.length=n) (h2:2<=n) (hN:i+n<L.length) (hz:∀k,i+n<k->L.getD k 0=0) (hH:BB<=2*vl.getD (n-1) 0) (hlt:val L<val vl*BB ^ i*BB) :
 DigC (val L) (val vl*BB ^ i) (BB ^ (i+n-1)) (BB ^ (i+n-2)) (vl.getD (n-1) 0) (vl.getD (n-2) 0) (L.getD (i+n) 0*BB+L.getD (i+n-1) 0) (L.getD (i+n-2) 0):=by
 obtain⟨m,rfl⟩:∃m,n=m+2:=⟨n-2,by omega⟩
 have hz':∀k,m+2<=k->vl.getD k 0=0:=fun k hk=>by rw[List.getD,List.getElem?_eq_none (by omega)];rfl
 obtain⟨a1,a2⟩:=Uu (j:=m+1) hv (fun k hk=>hz' k (by omega)) (by omega)
 obtain⟨b1,b2⟩:=fp (j:=m) hv (fun k hk=>hz' k (by omega)) (by omega)
 obtain⟨c1,c2⟩:=fp (j:=i+m+1) hL (fun k hk=>hz k (by omega)) (by omega)
 obtain⟨d1,d2⟩:=fq (j:=i+m) hL (fun k hk=>hz k (by omega)) (by omega)
 have p1:BB ^ (i+(m+2)-1)=BB ^ (m+1)*BB ^ i:=by rw[<-Nat.pow_add];congr 1;omega
 have p2:BB ^ (i+(m+2)-2)=BB ^ m*BB ^ i:=by rw[<-Nat.pow_add];congr 1;omega
 have hI:0<BB ^ i:=Nat.pow_pos (by decide)
 simp only[show m+2-1=m+1 from rfl,show m+2-2=m from rfl,show i+(m+2)=i+m+1+1 by omega,show i+m+1+1-1=i+m+1 from rfl,show i+m+1+1-2=i+m from rfl] at *
 rw[p1] at c1 c2;rw[p2] at d1 d2;rw[p1,p2];refine⟨?_,Nat.mul_pos (Nat.pow_pos (by decide)) hI,?_,?_,c1,c2,?_,?_,d1,d2,hH,El hv _,El hv _,El hL _,hlt⟩
 ·rw[Nat.pow_succ,Nat.mul_comm _ BB,Nat.mul_assoc]
 ·rw[<-Nat.mul_assoc];exact Nat.mul_le_mul_right _ a1
 ·rw[<-Nat.mul_assoc];exact Nat.mul_lt_mul_of_pos_right a2 hI
 ·rw[<-Nat.mul_assoc];exact Nat.mul_le_mul_right _ b1
 ·rw[<-Nat.mul_assoc];exact Nat.mul_lt_mul_of_pos_right b2 hI
end Limb
end
namespace Limb
theorem Vv {l:List Nat} (hl:∀x∈l,x<BB):∀k,l.getD k 0=val l / BB ^ k % BB:=by
 induction l with
 | nil=>intro k;simp[val]
 | cons x l ih =>
   intro k;have hx:=hl x (by simp)
   have ih:=ih (fun y hy=>hl y (by simp[hy]))
   cases k with
   | zero=>rw[val,Nat.pow_zero,Nat.div_one,Nat.add_mul_mod_self_left,Nat.mod_eq_of_lt hx];rfl
   | succ k=>rw[List.getD_cons_succ,ih,val,Nat.pow_succ,Nat.mul_comm _ BB,<-Nat.div_div_eq_div_mul,Nat.add_mul_div_left _ _ (by decide),Nat.div_eq_of_lt hx,Nat.zero_add]
theorem Qu {s:Nat} (hs:s<=32):BB=2 ^ s*2 ^ (32-s):=by
 rw[<-Nat.pow_add,show s+(32-s)=32 by omega];rfl
theorem Agw {a k s low hi:Nat} {r:List Nat} (hk:k+1<r.length) (hz:r.getD (k+1) 0=0) (e:lim a k*2 ^ s=low+BB*hi) (h:val r=(a % BB ^ k)*2 ^ s) :
 val ((r.set k (r.getD k 0+low)).set (k+1) hi)=(a % BB ^ (k+1))*2 ^ s:=by
 have h1:=Fo (l:=r) (k:=k) (x:=r.getD k 0+low) (by omega)
 have h2:=Fo (l:=r.set k (r.getD k 0+low)) (k:=k+1) (x:=hi) (by rw[List.length_set];exact hk)
 rw[Ek (by omega),if_neg (by omega),hz,Nat.mul_zero,Nat.add_zero] at h2
 rw[Nat.mul_add] at h1;rw[h2,Cd,Nat.add_mul,<-h,Nat.mul_assoc,e,Nat.mul_add,<-Nat.mul_assoc,Nat.pow_succ];omega
theorem Agt {x s:Nat} (hx:x<BB) (hs:s<=31):x*2 ^ s % BB % 2 ^ s=0/\x*2 ^ s / BB<2 ^ s/\x*2 ^ s % BB+2 ^ s<=BB:=by
 have hp:0<2 ^ s:=Nat.pow_pos (by decide)
 have e1:x*2 ^ s % BB % 2 ^ s=0:=by
  have:=Qu (s:=s) (by omega)
  rw[this,Nat.mod_mul_right_mod,Nat.mul_mod_left]
 refine⟨e1,?_,?_⟩
 ·rw[Nat.div_lt_iff_lt_mul (by decide),Nat.mul_comm];exact Nat.mul_lt_mul_of_pos_left hx hp
 ·have h1:x*2 ^ s % BB<BB:=Nat.mod_lt _ (by decide)
  obtain⟨c,hc⟩:=Nat.dvd_of_mod_eq_zero e1;have hB:=Qu (s:=s) (by omega)
  rw[hc] at h1 ⊢;rw[hB] at h1 ⊢;have:=Nat.lt_of_mul_lt_mul_left h1;have:=Nat.mul_le_mul_left (2 ^ s) (show c+1<=2 ^ (32-s) from this)
  rw[Nat.mul_add,Nat.mul_one] at this;exact this
theorem Acv {l:List Nat} (hl:∀x∈l,x<BB) {k s:Nat} (hs:s<=31) {r:List Nat} (hk:k<r.length) (hz:r.getD k 0=0) (h:val r=(val l / 2 ^ s) % BB ^ k) :
 val (r.set k ((l.getD k 0+BB*l.getD (k+1) 0) / 2 ^ s % BB))=(val l / 2 ^ s) % BB ^ (k+1):=by
 have h1:=Fo (l:=r) (k:=k) (x:=(l.getD k 0+BB*l.getD (k+1) 0) / 2 ^ s % BB) hk;rw[hz,Nat.mul_zero,Nat.add_zero] at h1;rw[h1,h,Nat.pow_succ,Nat.mod_mul]
 congr 2
 have hp:0<2 ^ s:=Nat.pow_pos (by decide)
 rw[Nat.div_div_eq_div_mul,Nat.mul_comm (2 ^ s),<-Nat.div_div_eq_div_mul];have g0:=Vv hl k;have g1:=Vv hl (k+1);rw[Nat.pow_succ,<-Nat.div_div_eq_div_mul] at g1;generalize val l / BB ^ k=A at *
 have e1:=Nat.mod_add_div A BB;have e2:=Nat.mod_add_div (A / BB) BB;rw[<-g0] at e1;rw[<-g1] at e2;have hB:=Qu (s:=s) (by omega)
 have e3:A=(l.getD k 0+BB*l.getD (k+1) 0)+2 ^ s*(BB*(2 ^ (32-s)*(A / BB / BB))):=by
  have:2 ^ s*(BB*(2 ^ (32-s)*(A / BB / BB)))=BB*(BB*(A / BB / BB)):=by
   rw[Nat.mul_left_comm,<-Nat.mul_assoc (2 ^ s),<-hB]
  rw[this];have:=congrArg (BB*·) e2
  simp only[Nat.mul_add] at this;omega
 obtain⟨M,hM⟩:∃M,A=(l.getD k 0+BB*l.getD (k+1) 0)+2 ^ s*(BB*M):=⟨_,e3⟩
 rw[hM,Nat.add_mul_div_left _ _ hp,Nat.add_mul_mod_self_left]
theorem Aid {l:List Nat} (hl:∀x∈l,x<BB) {m:Nat} (h:val l<BB ^ m) (k:Nat) (hk:m<=k):l.getD k 0=0:=by
 rw[Vv hl,Nat.div_eq_of_lt (Nat.lt_of_lt_of_le h (Nat.pow_le_pow_right (by decide) hk))];rfl
structure DivI (A V i:Nat) (q L:List Nat):Prop where
 e:val q*V+val L=A
 lt:val L<V*BB ^ i
 z:∀k,k<i->q.getD k 0=0
theorem DivI.step {A V i d:Nat} {q L L':List Nat} (h:DivI A V (i+1) q L) (hq:i<q.length) (hV:0<V) (hd:d=val L / (V*BB ^ i)) (hL:val L'=val L % (V*BB ^ i)):DivI A V i (q.set i d) L'/\d<BB:=by
 have h1:=Fo (l:=q) (k:=i) (x:=d) hq;rw[h.z i (by omega),Nat.mul_zero,Nat.add_zero] at h1
 have hp:0<V*BB ^ i:=Nat.mul_pos hV (Nat.pow_pos (by decide))
 have h2:=Nat.mod_add_div (val L) (V*BB ^ i);refine⟨⟨?_,?_,?_⟩,?_⟩
 ·rw[h1,hL,Nat.add_mul,<-h.e,hd,Nat.mul_right_comm,Nat.mul_comm (BB ^ i) V]
  omega
 ·rw[hL];exact Nat.mod_lt _ hp
 ·intro k hk
  rw[Ek hq,if_neg (by omega)]
  exact h.z k (by omega)
 ·rw[hd,Nat.div_lt_iff_lt_mul hp,Nat.mul_comm,Nat.mul_assoc,<-Nat.pow_succ]
  exact h.lt
theorem po {a b s n na:Nat} (hb:(lmb b).length=n) (ha:(lmb a).length=na) (hn:0<n) (hna:n<=na) (hs:s<=31) (hH:BB<=2*(lim b (n-1)*2 ^ s)) {L:List Nat} (hL:val L=a*2 ^ s) (m:Nat):DivI (a*2 ^ s) (b*2 ^ s) (na+1-n) (List.replicate m 0) L:=by
 refine⟨by rw[G5,Nat.zero_mul,Nat.zero_add,hL],?_,fun k _=>Gi m k⟩
 have h0:b≠0:=by intro e;rw[e,Cs] at hb;simp at hb;omega
 have h1:=Tk a;rw[ha] at h1;have hp:0<2 ^ s:=Nat.pow_pos (by decide)
 obtain⟨m,rfl⟩:∃m,n=m+1:=⟨n-1,by omega⟩
 have t:=(Uu (l:=lmb b) (j:=m) (Jo b) (fun k hk=>by rw[List.getD,List.getElem?_eq_none (by omega)];rfl) (by omega)).1
 rw[Ew] at t
 have e2:2 ^ s*2<=BB:=by
  rw[<-Nat.pow_succ];exact Nat.pow_le_pow_right (by decide) (by omega:s+1<=32)
 have t2:BB*BB ^ m<=2*(b*2 ^ s):=by
  have:=Nat.mul_le_mul_right (BB ^ m) hH
  have e3:2*(lim b (m+1-1)*2 ^ s)*BB ^ m=2*(lim b m*BB ^ m*2 ^ s):=by
   rw[Nat.add_sub_cancel,Nat.mul_assoc,Nat.mul_right_comm]
  rw[e3] at this;exact Nat.le_trans this (Nat.mul_le_mul_left 2 (Nat.mul_le_mul_right _ t))
 have e4:BB ^ na*BB=BB*BB ^ m*BB ^ (na+1-(m+1)):=by
  rw[Nat.mul_assoc,<-Nat.pow_add,Nat.mul_comm,show m+(na+1-(m+1))=na by omega]
 rw[hL]
 have a1:a*2 ^ s*2<BB ^ na*BB:=by
  rw[Nat.mul_assoc];exact Nat.lt_of_le_of_lt (Nat.mul_le_mul_left a e2) (Nat.mul_lt_mul_of_pos_right h1 (by decide))
 rw[e4] at a1;have a2:=Nat.mul_le_mul_right (BB ^ (na+1-(m+1))) t2;rw[Nat.mul_assoc 2] at a2;omega
theorem DivI.fin {a b s:Nat} {q L:List Nat} (h:DivI (a*2 ^ s) (b*2 ^ s) 0 q L) (hb:0<b):val q=a / b/\val L / 2 ^ s=a % b/\val L<b*2 ^ s:=by
 have hp:0<2 ^ s:=Nat.pow_pos (by decide)
 have hl:=h.lt;rw[Nat.pow_zero,Nat.mul_one] at hl;have e:=h.e
 have q1:val q=a*2 ^ s / (b*2 ^ s):=by
  rw[<-e,Nat.mul_comm,Nat.mul_add_div (Nat.mul_pos hb hp),Nat.div_eq_of_lt hl,Nat.add_zero]
 rw[Nat.mul_div_mul_right _ _ hp] at q1
 have q2:val L=a % b*2 ^ s:=by
  rw[<-Nat.mul_mod_mul_right,<-e,Nat.mul_comm,Nat.mul_add_mod,Nat.mod_eq_of_lt hl]
 exact⟨q1,by rw[q2,Nat.mul_div_cancel _ hp],hl⟩
end Limb
namespace Limb
structure AddI (a b k c:Nat) (l:List Nat):Prop where
 len:l.length=k
 lt:∀x∈l,x<BB
 cle:c<=1
 e:val l+BB ^ k*c=a % BB ^ k+b % BB ^ k
theorem AddI.zero (a b:Nat):AddI a b 0 0 []:=⟨rfl,by simp,by omega,by simp[val,Nat.mod_one]⟩
theorem AddI.step {a b k c s:Nat} {l:List Nat} (h:AddI a b k c l) (hs:s=c+lim a k+lim b k):AddI a b (k+1) (s / BB) (l++[s % BB]):=by
 have h1:=Dh a k;have h2:=Dh b k;have h3:=h.cle;refine⟨by simp[h.len],ig h.lt (Nat.mod_lt _ (by decide)),?_,by rw[hs];exact Aj6 h.len h.e⟩
 unfold BB at *;omega
theorem AddI.fin {a b k c:Nat} {l:List Nat} (h:AddI a b k c l) (ha:(lmb a).length<=k) (hb:(lmb b).length<=k):val (l++[c])=a+b/\∀x∈l++[c],x<BB:=by
 have e:=h.e;rw[Ga ha,Ga hb] at e;exact⟨by rw[Wr,h.len,e],ig h.lt (by have:=h.cle;unfold BB;omega)⟩
structure SubI (a b k o n:Nat) (l:List Nat):Prop where
 len:l.length=n
 lt:∀x∈l,x<BB
 ole:o<=1
 z:∀j,k<=j->l.getD j 0=0
 e:val l+b % BB ^ k=a % BB ^ k+BB ^ k*o
theorem SubI.zero (a b n:Nat):SubI a b 0 0 n (List.replicate n 0):=⟨by simp,Hn n,by omega,fun j _=>Gi n j,by rw[G5];simp[Nat.mod_one]⟩
theorem SubI.step {a b k o n v o':Nat} {l:List Nat} (h:SubI a b k o n l) (hk:k<n) (hv:v<BB) (ho:o'<=1) (e:v+lim b k+o=lim a k+BB*o'):SubI a b (k+1) o' n (l.set k v):=by
 have hl:=h.len;refine⟨by rw[List.length_set];exact hl,Hy h.lt hv,ho,fun j hj=>?_,Ai9 (by omega) (h.z k (by omega)) h.e e⟩
 rw[Ek (by omega),if_neg (by omega)]
 exact h.z j (by omega)
theorem SubI.fin {a b o n:Nat} {l:List Nat} (h:SubI a b n o n l) (ha:(lmb a).length<=n) (hb:(lmb b).length<=n) (hle:b<=a):val l=a-b:=by
 have e:=h.e;rw[Ga ha,Ga hb] at e;have h1:=Sc h.lt;rw[h.len] at h1
 have ho:o=0:=by
  rcases Nat.eq_zero_or_pos o with g|g
  ·exact g
  ·have:=Nat.mul_le_mul_left (BB ^ n) g
   omega
 rw[ho,Nat.mul_zero] at e;omega
structure MulO (a b i na nb:Nat) (l:List Nat):Prop where
 len:l.length=na+nb
 lt:∀x∈l,x<BB
 z:∀j,i+nb<=j->l.getD j 0=0
 e:val l=(a % BB ^ i)*b
structure MulN (a b i k c na nb:Nat) (l:List Nat):Prop where
 len:l.length=na+nb
 lt:∀x∈l,x<BB
 cl:c<BB
 z:∀j,i+nb<=j->l.getD j 0=0
 e:val l+BB ^ (i+k)*c=(a % BB ^ i)*b+BB ^ i*lim a i*(b % BB ^ k)
theorem MulO.zero (a b na nb:Nat):MulO a b 0 na nb (List.replicate (na+nb) 0):=⟨by simp,Hn _,fun j _=>Gi _ j,by rw[G5];simp[Nat.mod_one]⟩
theorem MulO.inner {a b i na nb:Nat} {l:List Nat} (h:MulO a b i na nb l):MulN a b i 0 0 na nb l:=⟨h.len,h.lt,by decide,h.z,by rw[h.e];simp[Nat.mod_one]⟩
theorem MulN.step {a b i k c na nb s:Nat} {l:List Nat} (h:MulN a b i k c na nb l) (hi:i<na) (hk:k<nb) (hs:s=c+(lim a i*lim b k+l.getD (i+k) 0)):MulN a b i (k+1) (s / BB) na nb (l.set (i+k) (s % BB))/\s<18446744073709551616:=by
 have hl:=h.len;have h1:=Dh a i;have h2:=Dh b k;have h3:=h.cl;have h4:=El h.lt (i+k);have h5:lim a i*lim b k<=(BB-1)*(BB-1):=Nat.mul_le_mul (by omega) (by omega)
 have hsb:s<18446744073709551616:=by unfold BB at *;omega
 refine⟨⟨by rw[List.length_set];exact hl,Hy h.lt (Nat.mod_lt _ (by decide)),?_,fun j hj=>?_,?_⟩,hsb⟩
 ·rw[Nat.div_lt_iff_lt_mul (by decide)];exact hsb
 ·rw[Ek (by omega),if_neg (by omega)];exact h.z j hj
 ·have:=Aic (r:=l) (j:=i+k) (c:=c) (z:=lim a i*lim b k) (s:=s) (by omega) (by omega)
  rw[<-Nat.add_assoc,this,h.e,Cd,Nat.mul_add,Nat.add_assoc]
  congr 2
  rw[Nat.pow_add,Nat.mul_assoc,Nat.mul_assoc,Nat.mul_left_comm (lim a i)]
theorem MulN.fin {a b i c na nb:Nat} {l:List Nat} (h:MulN a b i nb c na nb l) (hi:i<na) (hb:(lmb b).length=nb):MulO a b (i+1) na nb (l.set (i+nb) c):=by
 have hl:=h.len;have h1:=Fo (l:=l) (k:=i+nb) (x:=c) (by omega)
 rw[h.z (i+nb) (by omega),Nat.mul_zero,Nat.add_zero,h.e,Ga (a:=b) (k:=nb) (by omega)] at h1
 refine⟨by rw[List.length_set];exact hl,Hy h.lt h.cl,fun j hj=>?_,?_⟩
 ·rw[Ek (by omega),if_neg (by omega)];exact h.z j (by omega)
 ·rw[h1,Cd,Nat.add_mul]
theorem MulO.fin {a b na nb:Nat} {l:List Nat} (h:MulO a b na na nb l) (ha:(lmb a).length=na):val l=a*b:=by
 rw[h.e,Ga (by omega)]
structure ShoI (a d k r n:Nat) (q:List Nat):Prop where
 len:q.length=n
 lt:∀x∈q,x<BB
 rl:r<d
 z:∀j,j<k->q.getD j 0=0
 e:val q*d+BB ^ k*r+a % BB ^ k=a
theorem ShoI.zero {a d n:Nat} (hd:0<d) (ha:(lmb a).length=n):ShoI a d n 0 n (List.replicate n 0):=⟨by simp,Hn n,hd,fun j _=>Gi n j,by rw[G5,Ga (by omega)];simp⟩
theorem ShoI.step {a d k r n s:Nat} {q:List Nat} (h:ShoI a d (k+1) r n q) (hd:d<BB) (hk:k<n) (hs:s=r*BB+lim a k):ShoI a d k (s % d) n (q.set k (s / d))/\s<18446744073709551616/\s / d<BB:=by
 have hl:=h.len;have hr:=h.rl;have h1:=Dh a k
 have hsb:s<d*BB:=by
  have:=Nat.mul_le_mul_right BB (show r+1<=d from hr)
  rw[Nat.add_mul] at this;omega
 have hq:s / d<BB:=Nat.div_lt_of_lt_mul hsb;refine⟨⟨by rw[List.length_set];exact hl,Hy h.lt hq,Nat.mod_lt _ (by omega),fun j hj=>?_,by rw[hs];exact Ack (by omega) (h.z k (by omega)) h.e⟩,?_,hq⟩
 ·rw[Ek (by omega),if_neg (by omega)];exact h.z j (by omega)
 ·have:=Nat.mul_le_mul_right BB (show d<=BB from Nat.le_of_lt hd)
  unfold BB at *;omega
theorem ShoI.fin {a d r n:Nat} {q:List Nat} (h:ShoI a d 0 r n q):val q=a / d/\r=a % d:=by
 have e:=h.e;have hr:=h.rl;rw[Nat.pow_zero,Nat.mod_one,Nat.one_mul,Nat.add_zero,Nat.mul_comm] at e;rw[<-e];exact⟨by rw[Nat.mul_add_div (by omega),Nat.div_eq_of_lt hr,Nat.add_zero],by rw[Nat.mul_add_mod,Nat.mod_eq_of_lt hr]⟩
end Limb
section
open Go.RowKit Limb
theorem OwU.u32s {w:World} {base:Nat} {v:Value} {l:List Nat} (h:OwU w base v l):∃A cap,v=.slice A l.length cap/\l.length<=cap/\cap<=maxLen/\G3 w A l.length l/\(A=none->cap=0)/\∀p,A=some p->base<=p.block:=by
 rcases OwG.form h with ⟨rfl,rfl⟩|⟨g,cap,rfl,h1,h2,h3,h4⟩
 ·exact⟨none,0,rfl,Nat.le_refl _,Nat.zero_le _,⟨rfl,.inl rfl⟩,fun _=>rfl,fun p hp=>by cases hp⟩
 ·refine⟨_,cap,rfl,h3,h4,⟨rfl,.inr ⟨g,0,rfl,fun k hk=>?_⟩⟩,(fun h=>by cases h),fun p hp=>by injection hp with hp;subst hp;exact h1⟩
  have c0:=OwG.cells h (k*1) (by omega)
  have f0:=Bp J4 l k 0 _ (Lr hk) (by omega)
  rw[Nat.add_zero] at f0;rw[f0,Nat.mul_one] at c0;rw[Nat.zero_add];exact c0
theorem Adi (A B:Option Addr) (ca cb na nb a b:Nat) (w:World) (ha:(lmb a).length=na) (hb:(lmb b).length=nb) (hna:na<=100000) (hnb:nb<=na) (hca:na<=ca) (hcb:nb<=cb) (hA:G3 w A na (lmb a)) (hB:G3 w B nb (lmb b)) :
 Calls Tryz.prog 178 #[.slice A na ca,.slice B nb cb] w fun e w'=>∃v,e=.returned v/\Cq w' w.heap.size v (a+b)/\Below w.heap.size w w':=by
 have ta:trl (lmb a) na=na:=by rw[<-ha];exact Ex a
 have tb:trl (lmb b) nb=nb:=by rw[<-hb];exact Ex b
 have HTA:=Lib.hid ta;have HTB:=Lib.hid tb;have HLA:=Lib.hid ha;have HLB:=Lib.hid hb;clear ta tb ha hb;obtain⟨i,hi,hz0,hz1,hz2⟩:=info_parts Q9;go_enter Tryz.func178,Tryz.ntmps178
 go_upto_region 4 with (first
  | (go_at_call 172;refine(Bv B cb nb (lmb b) _ (by omega) hcb (hB.keep hb1)).mono ?_;rintro e w2 ⟨rfl,hb2⟩;rw[HTB.out])
  | (go_at_call 172;refine(Bv A ca na (lmb a) _ (by omega) hca hA).mono ?_;rintro e w1 ⟨rfl,hb1⟩;rw[HTA.out]))
 have hb12:=Ao hb1 hb2;clear hb1
 go_upto_region 7 with (at_make;refine wpList_make_own _ rfl _ _ 157 rfl w2.heap.size 270 i (.int .u32 0) 1 Tryz.underlying157 hi hz0 hz1 _ _ _ (na+1) rfl rfl (by first|rfl|omega|simp) (by rw[hz2];omega) (by unfold maxLen;omega) (Nat.le_refl _) ?_;intro w3 ho3 hg3)
 have ho3':OwU w3 w2.heap.size (.slice (some ⟨w2.heap.size,0,none⟩) 0 (na+1)) []:=ho3;have hb3:Below w2.heap.size w2 w3:=Below.grown (Below.refl _ _) hg3 (Nat.le_refl _) (fun j hj=>by cases hj)
 clear ho3 hg3 hz0 hz1 hz2 hi;go_loopw [5,6,7,8,26] (fun r c _ _ i wr=>∃(k cy:Nat) (l:List Nat),k<=na/\i=.int .i64 k/\c=.int .u64 (cy:Int)/\Hid (AddI a b k cy l)/\OwU wr w2.heap.size r l/\Below w2.heap.size w2 wr) (fun _ _ _ _ i _=>na-(intOf i).toNat)
 case atStart=>exact⟨0,0,[],Nat.zero_le _,rfl,rfl,Lib.hid (AddI.zero a b),ho3',hb3⟩
 case round =>
  obtain⟨k,cy,l,hk,rfl,rfl,HI,hor,hbr⟩:=hrel;have hbw:=Ao hb12 hbr;have hcy:=HI.out.cle;have hll:=HI.out.len;by_cases hlt:k<na
  ·obtain⟨b1,o1,rfl,h1⟩:=(hA.keep hbw).at_ hlt
   have HX:=Dh a k;obtain⟨x,hx⟩:∃x,lim a k=x:=⟨_,rfl⟩
   have hx':gu (lmb a) k=x:=hx;rw[hx'] at h1;rw[hx] at HX;unfold BB at HX;have W1:=Eb (z:=(x:Int)) (by omega) (by omega)
   have W2:=Eb (z:=(cy:Int)+(x:Int)) (by omega) (by omega)
   by_cases hkb:k<nb
   ·obtain⟨b2,o2,rfl,h2⟩:=(hB.keep hbw).at_ hkb
    have HY:=Dh b k;obtain⟨y,hy⟩:∃y,lim b k=y:=⟨_,rfl⟩
    have hy':gu (lmb b) k=y:=hy;rw[hy'] at h2;rw[hy] at HY;unfold BB at HY;have W3:=Eb (z:=(y:Int)) (by omega) (by omega)
    have W4:=Eb (z:=(cy:Int)+(x:Int)+(y:Int)) (by omega) (by omega)
    have HS:=Lib.hid (HI.out.step (s:=cy+x+y) (by rw[hx,hy]))
    clear hx hx' hy hy';obtain⟨lo,hlo⟩:∃lo:Nat,(cy+x+y) % BB=lo:=⟨_,rfl⟩
    obtain⟨hi,hhi⟩:∃hi:Nat,(cy+x+y) / BB=hi:=⟨_,rfl⟩
    have HS2:Hid (AddI a b (k+1) hi (l++[lo])):=Lib.hid (by rw[<-hlo,<-hhi];exact HS.out)
    unfold BB at hlo hhi;have E1:((cy:Int)+(x:Int)+(y:Int)) % 4294967296=(lo:Int):=by omega
    have E2:((cy:Int)+(x:Int)+(y:Int)) / 4294967296=(hi:Int):=by omega
    clear hlo hhi HS HI
    go_wp2_with (at_builtin;refine Cr rfl _ _ 157 rfl enU w2.heap.size 270 (.int .u32 0) 1 4 Tryz.underlying157 Q9 rfl (by omega) J4 Lu _ l rfl (hor.alloc _) wr.heap.size 1 lo 270 rfl (Bb.new _ _ _) (by unfold maxLen;omega) (by omega) (An hbr _).size ?_;intro v' w' ho' hg' hat')
    exact⟨⟨k+1,hi,l++[lo],by omega,by go_num,rfl,HS2,ho',Bm (An hbr _) (hor.alloc _) hg'⟩,by simp[intOf];omega⟩
   ·have hy:lim b k=0:=Vi (by rw[HLB.out];omega)
    have HS:=Lib.hid (HI.out.step (s:=cy+x) (by rw[hx,hy,Nat.add_zero]))
    clear hx hx' hy;obtain⟨lo,hlo⟩:∃lo:Nat,(cy+x) % BB=lo:=⟨_,rfl⟩
    obtain⟨hi,hhi⟩:∃hi:Nat,(cy+x) / BB=hi:=⟨_,rfl⟩
    have HS2:Hid (AddI a b (k+1) hi (l++[lo])):=Lib.hid (by rw[<-hlo,<-hhi];exact HS.out)
    unfold BB at hlo hhi;have E1:((cy:Int)+(x:Int)) % 4294967296=(lo:Int):=by omega
    have E2:((cy:Int)+(x:Int)) / 4294967296=(hi:Int):=by omega
    clear hlo hhi HS HI
    go_wp2_with (at_builtin;refine Cr rfl _ _ 157 rfl enU w2.heap.size 270 (.int .u32 0) 1 4 Tryz.underlying157 Q9 rfl (by omega) J4 Lu _ l rfl (hor.alloc _) wr.heap.size 1 lo 270 rfl (Bb.new _ _ _) (by unfold maxLen;omega) (by omega) (An hbr _).size ?_;intro v' w' ho' hg' hat')
    exact⟨⟨k+1,hi,l++[lo],by omega,by go_num,rfl,HS2,ho',Bm (An hbr _) (hor.alloc _) hg'⟩,by simp[intOf];omega⟩
  ·obtain rfl:k=na:=by omega
   obtain⟨F1,F2⟩:=HI.out.fin (by rw[HLA.out];exact Nat.le_refl _) (by rw[HLB.out];exact hnb)
   have HF1:=Lib.hid F1;have HF2:=Lib.hid F2;have E3:(cy:Int) % 4294967296=(cy:Int):=by omega
   have hll2:(l++[cy]).length=k+1:=by simp[hll]
   clear F1 F2 HI
   go_wp2_with (first|(go_at_call 172;obtain⟨A',c',rfl,q1,q2,q3,q4,q5⟩:=OwU.u32s ho';refine(Bv A' c' _ (l++[cy]) _ (by omega) q1 q3).mono ?_;rintro e w5 ⟨rfl,hb5⟩)|(at_builtin;refine Cr rfl _ _ 157 rfl enU w2.heap.size 270 (.int .u32 0) 1 4 Tryz.underlying157 Q9 rfl (by omega) J4 Lu _ l rfl (hor.alloc _) wr.heap.size 1 cy 270 rfl (Bb.new _ _ _) (by unfold maxLen;omega) (by omega) (An hbr _).size ?_;intro v' w' ho' hg' hat'))
   go_ret;have hb4:=Bm (An hbr _) (hor.alloc _) hg';have hN:=Kj (q3.keep hb5) HF2.out q1 q2 q4 q5;rw[HF1.out,hll2] at hN;refine⟨_,rfl,hN.lower hb12.size,Ao (Ao hb12 hb4) hb5⟩
theorem Adh (A B:Option Addr) (ca cb na nb a b:Nat) (w:World) (ha:(lmb a).length=na) (hb:(lmb b).length=nb) (hna:na<=100000) (hnb:nb<na) (hca:na<=ca) (hcb:nb<=cb) (hA:G3 w A na (lmb a)) (hB:G3 w B nb (lmb b)) :
 Calls Tryz.prog 178 #[.slice B nb cb,.slice A na ca] w fun e w'=>∃v,e=.returned v/\Cq w' w.heap.size v (b+a)/\Below w.heap.size w w':=by
 have ta:trl (lmb a) na=na:=by rw[<-ha];exact Ex a
 have tb:trl (lmb b) nb=nb:=by rw[<-hb];exact Ex b
 have HTA:=Lib.hid ta;have HTB:=Lib.hid tb;have HLA:=Lib.hid ha;have HLB:=Lib.hid hb;clear ta tb ha hb;obtain⟨i,hi,hz0,hz1,hz2⟩:=info_parts Q9;go_enter Tryz.func178,Tryz.ntmps178
 go_upto_region 4 with (first
  | (go_at_call 172;refine(Bv A ca na (lmb a) _ (by omega) hca (hA.keep hb1)).mono ?_;rintro e w2 ⟨rfl,hb2⟩;rw[HTA.out])
  | (go_at_call 172;refine(Bv B cb nb (lmb b) _ (by omega) hcb hB).mono ?_;rintro e w1 ⟨rfl,hb1⟩;rw[HTB.out]))
 have hb12:=Ao hb1 hb2;clear hb1
 go_upto_region 7 with (at_make;refine wpList_make_own _ rfl _ _ 157 rfl w2.heap.size 270 i (.int .u32 0) 1 Tryz.underlying157 hi hz0 hz1 _ _ _ (na+1) rfl rfl (by first|rfl|omega|simp) (by rw[hz2];omega) (by unfold maxLen;omega) (Nat.le_refl _) ?_;intro w3 ho3 hg3)
 have ho3':OwU w3 w2.heap.size (.slice (some ⟨w2.heap.size,0,none⟩) 0 (na+1)) []:=ho3;have hb3:Below w2.heap.size w2 w3:=Below.grown (Below.refl _ _) hg3 (Nat.le_refl _) (fun j hj=>by cases hj)
 clear ho3 hg3 hz0 hz1 hz2 hi;go_loopw [5,6,7,8,26] (fun r c _ _ i wr=>∃(k cy:Nat) (l:List Nat),k<=na/\i=.int .i64 k/\c=.int .u64 (cy:Int)/\Hid (AddI a b k cy l)/\OwU wr w2.heap.size r l/\Below w2.heap.size w2 wr) (fun _ _ _ _ i _=>na-(intOf i).toNat)
 case atStart=>exact⟨0,0,[],Nat.zero_le _,rfl,rfl,Lib.hid (AddI.zero a b),ho3',hb3⟩
 case round =>
  obtain⟨k,cy,l,hk,rfl,rfl,HI,hor,hbr⟩:=hrel;have hbw:=Ao hb12 hbr;have hcy:=HI.out.cle;have hll:=HI.out.len;by_cases hlt:k<na
  ·obtain⟨b1,o1,rfl,h1⟩:=(hA.keep hbw).at_ hlt
   have HX:=Dh a k;obtain⟨x,hx⟩:∃x,lim a k=x:=⟨_,rfl⟩
   have hx':gu (lmb a) k=x:=hx;rw[hx'] at h1;rw[hx] at HX;unfold BB at HX;have W1:=Eb (z:=(x:Int)) (by omega) (by omega)
   have W2:=Eb (z:=(cy:Int)+(x:Int)) (by omega) (by omega)
   by_cases hkb:k<nb
   ·obtain⟨b2,o2,rfl,h2⟩:=(hB.keep hbw).at_ hkb
    have HY:=Dh b k;obtain⟨y,hy⟩:∃y,lim b k=y:=⟨_,rfl⟩
    have hy':gu (lmb b) k=y:=hy;rw[hy'] at h2;rw[hy] at HY;unfold BB at HY;have W3:=Eb (z:=(y:Int)) (by omega) (by omega)
    have W4:=Eb (z:=(cy:Int)+(x:Int)+(y:Int)) (by omega) (by omega)
    have HS:=Lib.hid (HI.out.step (s:=cy+x+y) (by rw[hx,hy]))
    clear hx hx' hy hy';obtain⟨lo,hlo⟩:∃lo:Nat,(cy+x+y) % BB=lo:=⟨_,rfl⟩
    obtain⟨hi,hhi⟩:∃hi:Nat,(cy+x+y) / BB=hi:=⟨_,rfl⟩
    have HS2:Hid (AddI a b (k+1) hi (l++[lo])):=Lib.hid (by rw[<-hlo,<-hhi];exact HS.out)
    unfold BB at hlo hhi;have E1:((cy:Int)+(x:Int)+(y:Int)) % 4294967296=(lo:Int):=by omega
    have E2:((cy:Int)+(x:Int)+(y:Int)) / 4294967296=(hi:Int):=by omega
    clear hlo hhi HS HI
    go_wp2_with (at_builtin;refine Cr rfl _ _ 157 rfl enU w2.heap.size 270 (.int .u32 0) 1 4 Tryz.underlying157 Q9 rfl (by omega) J4 Lu _ l rfl (hor.alloc _) wr.heap.size 1 lo 270 rfl (Bb.new _ _ _) (by unfold maxLen;omega) (by omega) (An hbr _).size ?_;intro v' w' ho' hg' hat')
    exact⟨⟨k+1,hi,l++[lo],by omega,by go_num,rfl,HS2,ho',Bm (An hbr _) (hor.alloc _) hg'⟩,by simp[intOf];omega⟩
   ·have hy:lim b k=0:=Vi (by rw[HLB.out];omega)
    have HS:=Lib.hid (HI.out.step (s:=cy+x) (by rw[hx,hy,Nat.add_zero]))
    clear hx hx' hy;obtain⟨lo,hlo⟩:∃lo:Nat,(cy+x) % BB=lo:=⟨_,rfl⟩
    obtain⟨hi,hhi⟩:∃hi:Nat,(cy+x) / BB=hi:=⟨_,rfl⟩
    have HS2:Hid (AddI a b (k+1) hi (l++[lo])):=Lib.hid (by rw[<-hlo,<-hhi];exact HS.out)
    unfold BB at hlo hhi;have E1:((cy:Int)+(x:Int)) % 4294967296=(lo:Int):=by omega
    have E2:((cy:Int)+(x:Int)) / 4294967296=(hi:Int):=by omega
    clear hlo hhi HS HI
    go_wp2_with (at_builtin;refine Cr rfl _ _ 157 rfl enU w2.heap.size 270 (.int .u32 0) 1 4 Tryz.underlying157 Q9 rfl (by omega) J4 Lu _ l rfl (hor.alloc _) wr.heap.size 1 lo 270 rfl (Bb.new _ _ _) (by unfold maxLen;omega) (by omega) (An hbr _).size ?_;intro v' w' ho' hg' hat')
    exact⟨⟨k+1,hi,l++[lo],by omega,by go_num,rfl,HS2,ho',Bm (An hbr _) (hor.alloc _) hg'⟩,by simp[intOf];omega⟩
  ·obtain rfl:k=na:=by omega
   obtain⟨F1,F2⟩:=HI.out.fin (by rw[HLA.out];exact Nat.le_refl _) (by rw[HLB.out];omega)
   have HF1:=Lib.hid F1;have HF2:=Lib.hid F2;have E3:(cy:Int) % 4294967296=(cy:Int):=by omega
   have hll2:(l++[cy]).length=k+1:=by simp[hll]
   clear F1 F2 HI
   go_wp2_with (first|(go_at_call 172;obtain⟨A',c',rfl,q1,q2,q3,q4,q5⟩:=OwU.u32s ho';refine(Bv A' c' _ (l++[cy]) _ (by omega) q1 q3).mono ?_;rintro e w5 ⟨rfl,hb5⟩)|(at_builtin;refine Cr rfl _ _ 157 rfl enU w2.heap.size 270 (.int .u32 0) 1 4 Tryz.underlying157 Q9 rfl (by omega) J4 Lu _ l rfl (hor.alloc _) wr.heap.size 1 cy 270 rfl (Bb.new _ _ _) (by unfold maxLen;omega) (by omega) (An hbr _).size ?_;intro v' w' ho' hg' hat'))
   go_ret;have hb4:=Bm (An hbr _) (hor.alloc _) hg';have hN:=Kj (q3.keep hb5) HF2.out q1 q2 q4 q5;rw[HF1.out,hll2,Nat.add_comm a b] at hN;refine⟨_,rfl,hN.lower hb12.size,Ao (Ao hb12 hb4) hb5⟩
end
section
open Go.RowKit Limb
theorem xv (A B:Option Addr) (ca cb na nb a b:Nat) (w:World) (ha:(lmb a).length=na) (hb:(lmb b).length=nb) (hna:na<=100000) (hnb:nb<=100000) (hca:na<=ca) (hcb:nb<=cb) (hA:G3 w A na (lmb a)) (hB:G3 w B nb (lmb b)) :
 Calls Tryz.prog 143 #[.slice A na ca,.slice B nb cb] w fun e w'=>∃v,e=.returned v/\Cq w' w.heap.size v (a*b)/\Below w.heap.size w w':=by
 have ta:trl (lmb a) na=na:=by rw[<-ha];exact Ex a
 have tb:trl (lmb b) nb=nb:=by rw[<-hb];exact Ex b
 have HTA:=Lib.hid ta;have HTB:=Lib.hid tb;have HLA:=Lib.hid ha;have HLB:=Lib.hid hb;clear ta tb ha hb;obtain⟨Z,hmk0,hZ⟩:=Gc (na+nb) (by omega)
 have hmk:∀w,(Instr.makeSlice 157 (.int .i64 ((na:Int)+(nb:Int))) (.int .i64 ((na:Int)+(nb:Int)))).run Tryz.prog w=.ok (.slice (some ⟨w.heap.size,0,none⟩) (na+nb) (na+nb)) (w.alloc (.cells Z 270)):=fun w=>by have:=hmk0 w;rwa [Int.natCast_add] at this
 clear hmk0;go_enter Tryz.func143,Tryz.ntmps143
 go_upto_region 4 with (first
  | (go_at_call 172;refine(Bv B cb nb (lmb b) _ (by omega) hcb (hB.keep hb1)).mono ?_;rintro e w2 ⟨rfl,hb2⟩;rw[HTB.out])
  | (go_at_call 172;refine(Bv A ca na (lmb a) _ (by omega) hca hA).mono ?_;rintro e w1 ⟨rfl,hb1⟩;rw[HTA.out]))
 have hb12:=Ao hb1 hb2;clear hb1 hb2;go_loopw [6,7,8,9,10,23,28,29,30] (fun _ _ _ _ _ i _ _ _ wr=>∃(k:Nat) (l:List Nat),k<=na/\i=.int .i64 k/\Hid (MulO a b k na nb l)/\Mb wr w2.heap.size l/\Below w2.heap.size w2 wr) (fun _ _ _ _ _ i _ _ _ _=>na-(intOf i).toNat)
 case atStart=>exact⟨0,_,Nat.zero_le _,rfl,Lib.hid (MulO.zero a b na nb),hZ w2,An (Below.refl _ _) _⟩
 case round =>
  clear hmk hZ;obtain⟨k,l,hk,rfl,HI,hor,hbr⟩:=hrel;have hbw:=Ao hb12 hbr;have hll:=HI.out.len;have hgl:=hor.lt;by_cases hlt:k<na
  ·obtain⟨b1,o1,rfl,h1⟩:=(hA.keep hbw).at_ hlt
   have HX:=Dh a k;obtain⟨x,hx⟩:∃x,lim a k=x:=⟨_,rfl⟩
   have hx':gu (lmb a) k=x:=hx;rw[hx'] at h1;rw[hx] at HX;have W1:=Eb (z:=(x:Int)) (by omega) (by unfold BB at HX;omega)
   have HI1:=Lib.hid HI.out.inner;have Hx:=Lib.hid hx;have HXX:=Lib.hid HX;clear hx hx' HX HI hll;go_wp2_with fail;obtain⟨wa,rfl⟩:∃wa:World,wa=wr:=⟨_,rfl⟩
   go_loopw [8,9,10,30] (fun c _ _ i wr=>∃(j c0:Nat) (l:List Nat),j<=nb/\i=.int .i64 j/\c=.int .u64 (c0:Int)/\Hid (MulN a b k j c0 na nb l)/\Mb wr w2.heap.size l/\Below w2.heap.size w2 wr) (fun _ _ _ i _=>nb-(intOf i).toNat)
   case atStart=>exact⟨0,0,l,Nat.zero_le _,rfl,rfl,HI1,hor,hbr⟩
   case round =>
    clear HI1 hor hbr hbw hgl;obtain⟨j,c0,l,hj,rfl,rfl,HI,hor,hbr⟩:=hrel;have hbw:=Ao hb12 hbr;have hll:=HI.out.len;have hgl:=hor.lt;have hc0:=HI.out.cl;by_cases hlj:j<nb
    ·obtain⟨b2,o2,rfl,h2⟩:=(hB.keep hbw).at_ hlj
     obtain⟨z1,f1⟩:=hor.cell (k:=k+j) (by omega)
     have HY:=Dh b j;obtain⟨s,hs⟩:∃s,s=c0+(lim a k*lim b j+l.getD (k+j) 0):=⟨_,rfl⟩
     obtain⟨HI2,hsb⟩:=HI.out.step hlt hlj hs;have HZ:=El HI.out.lt (k+j);obtain⟨y,hy⟩:∃y,lim b j=y:=⟨_,rfl⟩
     have hy':gu (lmb b) j=y:=hy;obtain⟨z,hz⟩:∃z,l.getD (k+j) 0=z:=⟨_,rfl⟩
     have hz':gu l (k+j)=z:=hz;rw[hy'] at h2;rw[hz'] at z1;rw[hy] at HY;rw[hz] at HZ;rw[hy,hz,Hx.out] at hs;obtain⟨m,hm⟩:∃m,x*y=m:=⟨_,rfl⟩
     rw[hm] at hs;have hm':(x:Int)*(y:Int)=(m:Int):=by rw[<-Int.natCast_mul,hm]
     have W3:=Eb (z:=(y:Int)) (by omega) (by unfold BB at HY;omega)
     have W4:=Eb (z:=(x:Int)*(y:Int)) (by omega) (by omega)
     have W5:=Eb (z:=(z:Int)) (by omega) (by unfold BB at HZ;omega)
     have W6:=Eb (z:=(x:Int)*(y:Int)+(z:Int)) (by omega) (by omega)
     have W7:IntKind.u64.wrap ((c0:Int)+((x:Int)*(y:Int)+(z:Int)))=(s:Int):=by rw[Eb (by omega) (by omega)];omega
     obtain⟨lo,hlo⟩:∃lo:Nat,s % BB=lo:=⟨_,rfl⟩
     obtain⟨hi,hhi⟩:∃hi:Nat,s / BB=hi:=⟨_,rfl⟩
     rw[hlo,hhi] at HI2;have HS2:=Lib.hid HI2;unfold BB at hlo hhi;have E1:(s:Int) % 4294967296=(lo:Int):=by omega
     have E2:(s:Int) / 4294967296=(hi:Int):=by omega
     have B1:((k:Int)+(j:Int))<((na+nb:Nat):Int):=by omega
     clear hlo hhi HI HI2 hs hsb hm hm' hy hy' hz hz' HY HZ hc0 hll;go_wp2_with fail;exact⟨⟨j+1,hi,l.set (k+j) lo,by omega,by go_num,rfl,HS2,hor.store (k+j) lo,Bc hbr (p:=⟨w2.heap.size,k+j,none⟩) (Nat.le_refl _) _⟩,by simp[intOf];omega⟩
    ·obtain rfl:j=nb:=by omega
     obtain⟨z1,f1⟩:=hor.cell (k:=k+j) (by omega)
     have HF:=Lib.hid (HI.out.fin hlt HLB.out);have E1:(c0:Int) % 4294967296=(c0:Int):=by unfold BB at hc0;omega
     have B1:((k:Int)+(j:Int))<((na+j:Nat):Int):=by omega
     clear HI hll hc0;go_wp2_with fail;exact⟨⟨k+1,l.set (k+j) c0,by omega,by go_num,HF,hor.store (k+j) c0,Bc hbr (p:=⟨w2.heap.size,k+j,none⟩) (Nat.le_refl _) _⟩,by simp[intOf];omega⟩
  ·obtain rfl:k=na:=by omega
   have HF:=Lib.hid (HI.out.fin HLA.out);have HLT:=Lib.hid HI.out.lt;have hU:=hor.u32s;rw[hll] at hU;clear HI
   go_wp2_with (go_at_call 172;refine(Bv _ (k+nb) (k+nb) l _ (by omega) (Nat.le_refl _) hU).mono ?_;rintro e w5 ⟨rfl,hb5⟩)
   go_ret;have hN:=(hor.keep hb5).natV (base:=w.heap.size) HLT.out hll (by omega) hb12.size HF.out
   exact⟨_,rfl,hN,Ao hbw hb5⟩
theorem Aip {h l:Nat} (hh:h<BB) (hl:l<BB):bits .or .u64 ((h:Int)*4294967296) (l:Int)=((h*BB+l:Nat):Int):=by
 unfold BB at *
 rw[bits_join .u64 64 (by decide) wraps_u64 32 _ _ (by omega) (by omega) (by omega) (by omega) (by omega) (by omega)]
 omega
theorem ae (A:Option Addr) (ca na a d:Nat) (w:World) (ha:(lmb a).length=na) (hna:na<=100000) (hca:na<=ca) (hA:G3 w A na (lmb a)) (hd:0<d) (hdb:d<BB) :
 Calls Tryz.prog 209 #[.slice A na ca,.int .u32 (d:Int)] w fun e w'=>∃v,e=.returned (.tuple #[v,.int .u32 ((a % d:Nat):Int)])/\Cq w' w.heap.size v (a / d)/\Below w.heap.size w w':=by
 obtain⟨Z,hmk,hZ⟩:=Gc na (by omega)
 have HLA:=Lib.hid ha;have HDB:=Lib.hid hdb;have WD:=Eb (z:=(d:Int)) (by omega) (by unfold BB at hdb;omega)
 clear ha hdb;go_enter Tryz.func209,Tryz.ntmps209;go_upto_region 4 with fail;go_loopw [7,8] (fun r i wr=>∃(k r0:Nat) (z:Int) (l:List Nat),k<=na/\z=(k:Int)-1/\i=.int .i64 z/\r=.int .u64 (r0:Int)/\Hid (ShoI a d k r0 na l)/\Mb wr w.heap.size l/\Below w.heap.size w wr) (fun _ i _=>(intOf i+1).toNat)
 case atStart=>exact⟨na,0,_,_,Nat.le_refl _,rfl,rfl,rfl,Lib.hid (ShoI.zero hd HLA.out),hZ w,An (Below.refl _ _) _⟩
 case round =>
  clear hmk hZ;obtain⟨k,r0,z,l,hk,hz,rfl,rfl,HI,hor,hbr⟩:=hrel;have hll:=HI.out.len;have hgl:=hor.lt;cases k with
  | zero =>
    obtain rfl:z = -1:=by omega
    clear hz;obtain⟨F1,F2⟩:=HI.out.fin;have HF:=Lib.hid F1;have HF2:=Lib.hid F2;have HLT:=Lib.hid HI.out.lt;have hrl:=HI.out.rl;have hU:=hor.u32s;rw[hll] at hU;have E1:(r0:Int) % 4294967296=(r0:Int):=by have:=HDB.out;unfold BB at this;omega
    clear HI F1 F2 hrl
    go_wp2_with (go_at_call 172;refine(Bv _ na na l _ (by omega) (Nat.le_refl _) hU).mono ?_;rintro e w5 ⟨rfl,hb5⟩)
    go_ret2
    have hN:=(hor.keep hb5).natV (base:=w.heap.size) HLT.out hll (by omega) (Nat.le_refl _) HF.out
    exact⟨_,by rw[<-HF2.out];rfl,hN,Ao hbr hb5⟩
  | succ k =>
    obtain rfl:z=(k:Int):=by omega
    clear hz;obtain⟨b1,o1,rfl,h1⟩:=(hA.keep hbr).at_ (show k<na by omega)
    obtain⟨c1,f1⟩:=hor.cell (k:=k) (by omega)
    have HX:=Dh a k;obtain⟨s,hs⟩:∃s,s=r0*BB+lim a k:=⟨_,rfl⟩
    obtain⟨HI2,hsb,hqb⟩:=HI.out.step HDB.out (by omega) hs
    have hrl:=HI.out.rl;obtain⟨x,hx⟩:∃x,lim a k=x:=⟨_,rfl⟩
    have hx':gu (lmb a) k=x:=hx;rw[hx'] at h1;rw[hx] at HX hs;have hr0:r0<BB:=Nat.lt_trans hrl HDB.out;have W1:=Eb (z:=(x:Int)) (by omega) (by unfold BB at HX;omega)
    have W2:=Eb (z:=(r0:Int)*4294967296) (by omega) (by unfold BB at hr0;omega)
    have W3:=Aip hr0 HX;rw[<-hs] at W3;obtain⟨q,hq⟩:∃q,s / d=q:=⟨_,rfl⟩
    obtain⟨r,hr⟩:∃r,s % d=r:=⟨_,rfl⟩
    rw[hq] at hqb;rw[hq,hr] at HI2;have HS2:=Lib.hid HI2;have z1:(0:Int)<=(k:Int):=by omega
    have z2:(k:Int)<(na:Int):=by omega
    have E1:(q:Int) % 4294967296=(q:Int):=by unfold BB at hqb;omega
    have E2:(s:Int) / (d:Int)=(q:Int):=by rw[<-hq];rfl
    have E3:(s:Int) % (d:Int)=(r:Int):=by rw[<-hr];rfl
    have E4:Int.tdiv (s:Int) (d:Int)=(q:Int):=by rw[Int.tdiv_eq_ediv_of_nonneg (by omega)];exact E2
    have E5:Int.tmod (s:Int) (d:Int)=(r:Int):=by rw[Int.tmod_eq_emod_of_nonneg (by omega)];exact E3
    have W4:=Eb (z:=(q:Int)) (by omega) (by unfold BB at hqb;omega)
    have hd0:(d:Int)≠0:=by omega
    clear hx hx' HX HI HI2 hs hsb hqb hrl hr0 hq hr hll;go_wp2_with fail
    trace_state
    exact⟨⟨k,r,(k:Int)-1,l.set k q,by omega,rfl,by go_num,rfl,HS2,hor.store k q,Bc hbr (p:=⟨w.heap.size,k,none⟩) (Nat.le_refl _) _⟩,by simp[intOf]⟩
end
end Go.Proofs.YtpbchbcdgikonaaGreat

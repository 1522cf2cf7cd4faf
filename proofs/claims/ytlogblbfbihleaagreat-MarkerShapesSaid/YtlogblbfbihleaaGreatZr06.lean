/- Lean texts of the claim. -/
import Derived.Test.YtlogblbfbihleaaGreatZr05
import Derived.Lib.EndianBits
namespace Go.Proofs.YtlogblbfbihleaaGreat
set_option linter.all false
set_option maxRecDepth 100000
set_option maxHeartbeats 0
open Go.RowKit
variable{a j:List Nat}{b f g h i k:Nat}{e:World}{l:Addr}
section
open Go.RowKit Limb
def vU (l:List Nat):Array Value:=(l.map λx:Nat=>(.int .u32 (x:Int):Value)).toArray
def Ka (w:World) (g:Nat) (l:List Nat):Prop:=Bf w g 280 (vU l)
theorem Ka.keep{w:World}   (h:Ka w b a) (c:Be w e):Ka e b a:=Bf.keep h c
theorem Ka.lt{w:World}   (h:Ka w b a):b<w.heap.size:=Bf.lt h
theorem Ka.cell{w:World}   (h:Ka w b a) {k:Nat} (c:k<a.length):Cq w b k (.int .u32 (gu a k:Int))/\w.frozen? ⟨b,k,none⟩=false:=by
 refine⟨(Bf.cell h k).trans ?_,Bf.frozen h k⟩;unfold vU;rw[List.getElem?_toArray,List.getElem?_map,Mj c];rfl
theorem Ka.store{w:World}   (h:Ka w b a) (k x:Nat):Ka (w.setCell ⟨b,k,none⟩ (.int .u32 (x:Int))) b (a.set k x):=by
 have:=Bf.set_ h k (.int .u32 (x:Int));unfold Ka;rw[show vU (a.set k x)=(vU a).setIfInBounds k (.int .u32 (x:Int)) by unfold vU;rw[List.setIfInBounds_toArray,List.map_set]];exact this
theorem Ka.u32s{w:World}   (h:Ka w b a):Hn w (some ⟨b,0,none⟩) a.length a :=
 ⟨rfl,.inr ⟨b,0,rfl,λk c=>by rw[Nat.zero_add];exact(h.cell c).1⟩⟩
theorem Fb(n:Nat) (l:n<=1000000):∃Z:Array Value,(∀w,(Instr.makeSlice 167 (.int .i64 (n:Int)) (.int .i64 (n:Int))).run Tryz.prog w=.ok (.slice (some ⟨w.heap.size,0,none⟩) n n) (w.alloc (.cells Z 280)))/\∀w:World,Ka (w.alloc (.cells Z 280)) w.heap.size (List.replicate n 0):=by
 let⟨i,g,a,b,c⟩:=info_parts Pd
 have f:madeCells (Value.int IntKind.u32 0).cells (n*1)=vU (List.replicate n 0):=by
  unfold vU madeCells;apply Array.ext';have e:(Value.int IntKind.u32 0).cells=#[.int .u32 0]:=by kernel_rfl
  rw[e];simp;apply List.ext_getElem
  .simp
  intro j h k;simp[Nat.mod_one]
 refine⟨madeCells (Value.int IntKind.u32 0).cells (n*1),λw=>?_,λw=>?_⟩
 .have d:=run_make (P:=Tryz.prog) w 167 280 i (.int .u32 0) Tryz.underlying167 g a .i64 .i64 n n (by omega) (by omega) (by rw[c];omega) (by omega);rw[b]at d;simpa using d
 rw[f];exact Bf.new w _ _
theorem Ka.natV{w:World} {base n v:Nat}  (h:Ka w b a) (f:∀x∈a,x<BB) (g:a.length=n) (e:n<=1000000) (d:base<=b) (i:val a=v):Ce w base (.slice (some ⟨b,0,none⟩) (trl a n) n) v:=by
 subst g;subst i;exact Oz h.u32s f (Nat.le_refl _) (by unfold maxLen;omega) (λh=>by cases h) λp c=>by injection c with c;subst c;exact d
end
section
namespace Limb
structure DigC (X W P P2 H v2 T u2:Nat):Prop where
 hP:P=BB*P2
 hP2:0<P2
 hW1:H*P<=W
 hW2:W<(H+1)*P
 hX1:T*P<=X
 hX2:X<(T+1)*P
 hV1:(H*BB+v2)*P2<=W
 hV2:W<(H*BB+v2+1)*P2
 hU1:(T*BB+u2)*P2<=X
 hU2:X<(T*BB+u2+1)*P2
 hH:BB<=2*H
 hHb:H<BB
 hv2:v2<BB
 hu2:u2<BB
 hXW:X<W*BB
structure DigI (X W H T q r:Nat):Prop where
 e:q*H+r=T
 ge:X / W<=q
 le:q<=BB+1
 or:q<=BB\/r<BB
section
variable {X W P P2 H v2 T u2 q r : Nat}
theorem DigC.pW (h:DigC X W P P2 H v2 T u2):0<W:=by
 have h1:=h.hV1;rcases Nat.eq_zero_or_pos W with e|e
 ·have:=h.hXW;rw[e] at this;omega
 ·exact e
theorem DigC.hq (h:DigC X W P P2 H v2 T u2):X / W*W<=X:=Nat.div_mul_le_self X W
theorem DigC.hq2 (h:DigC X W P P2 H v2 T u2):X<(X / W+1)*W:=by
 have:=Nat.lt_mul_div_succ X h.pW;rw[Nat.mul_comm] at this;exact this
theorem DigC.lt (h:DigC X W P P2 H v2 T u2):X / W<BB:=Nat.div_lt_of_lt_mul h.hXW
theorem DigC.start (h:DigC X W P P2 H v2 T u2):DigI X W H T (T / H) (T % H):=by
 have hH:0<H:=by have:=h.hH;unfold BB at this;omega
 have hP:0<P:=by rw[h.hP];exact Nat.mul_pos (by decide) h.hP2
 refine⟨by rw[Nat.mul_comm];exact Nat.div_add_mod T H,Akw hP h.hW1 h.hX2 hH h.hq,?_,.inr (Nat.lt_trans (Nat.mod_lt _ hH) h.hHb)⟩
 have h1:T*P<(H+1)*BB*P:=by
  have a:=Nat.mul_lt_mul_of_pos_right h.hW2 (show 0<BB by decide)
  have b:(H+1)*P*BB=(H+1)*BB*P:=by rw[Nat.mul_assoc,Nat.mul_assoc,Nat.mul_comm P]
  rw[b] at a;exact Nat.lt_of_le_of_lt h.hX1 (Nat.lt_trans h.hXW a)
 have h2:=Nat.lt_of_mul_lt_mul_right h1;rw[Nat.add_mul,Nat.one_mul] at h2
 have h3:T<(BB+1+1)*H:=by
  have:=h.hH;rw[Nat.add_mul,Nat.add_mul,Nat.one_mul,Nat.mul_comm BB];omega
 have:=(Nat.div_lt_iff_lt_mul hH).2 h3;omega
theorem DigC.step (h:DigC X W P P2 H v2 T u2) (i:DigI X W H T q r) (hr:r<BB) (hc:BB<=q\/r*BB+u2<q*v2):DigI X W H T (q-1) (r+H)/\1<=q:=by
 have hlt:X / W<q:=by
  rcases hc with hc|hc
  ·exact Nat.lt_of_lt_of_le h.lt hc
  ·refine Agu h.hV1 h.hU2 ?_ h.hq
   rw[Nat.mul_add,<-Nat.mul_assoc,<-i.e,Nat.add_mul];omega
 have e:=i.e;have h0:1<=q:=Nat.lt_of_le_of_lt (Nat.zero_le _) hlt;obtain⟨p,rfl⟩:∃p,q=p+1:=⟨q-1,by omega⟩
 rw[Nat.add_mul,Nat.one_mul] at e;have:=i.le;exact⟨⟨by rw[Nat.add_sub_cancel];omega,Nat.le_of_lt_succ hlt,by omega,.inl (by omega)⟩,h0⟩
theorem DigC.end1 (h:DigC X W P P2 H v2 T u2) (i:DigI X W H T q r) (hr:BB<=r):q=X / W:=by
 have hq:q<=BB:=by rcases i.or with g|g;exact g;omega
 refine Nat.le_antisymm ?_ i.ge;rw[Nat.le_div_iff_mul_le h.pW];have h1:q*W<=q*((H+1)*P):=Nat.mul_le_mul_left q (Nat.le_of_lt h.hW2);have h2:q*((H+1)*P)=(q*H+q)*P:=by rw[<-Nat.mul_assoc,Nat.mul_add,Nat.mul_one]
 have h3:(q*H+q)*P<=T*P:=Nat.mul_le_mul_right P (by rw[<-i.e];omega)
 have:=h.hX1;omega
theorem DigC.end2 (h:DigC X W P P2 H v2 T u2) (i:DigI X W H T q r) (hq:q<BB) (hc:q*v2<=r*BB+u2):q<=X / W+1:=by
 refine Akv (U:=X) (V:=W) (U3:=T*BB+u2) (V2:=H*BB+v2) (P:=P2) h.hV2 h.hU1 ?_ hq ?_ h.hP2 h.hq2
 ·rw[Nat.mul_add,<-Nat.mul_assoc,<-i.e,Nat.add_mul]
  omega
 ·have h1:=h.hW1
  have hH:1<=H:=by have:=h.hH;unfold BB at this;omega
  have:=Nat.mul_le_mul_right P hH;rw[h.hP] at *
  omega
end
theorem I3(l:List Nat) (j:Nat) (h:j<=l.length):val l=val (l.take j)+BB ^ j*val (l.drop j):=by
 have:=Ho (l.take j) (l.drop j)
 rwa [List.take_append_drop,List.length_take,Nat.min_eq_left h] at this
theorem Jl(l:List Nat) (j:Nat):val (l.drop j)=l.getD j 0+BB*val (l.drop (j+1)):=by
 rcases Nat.lt_or_ge j l.length with h|h
 .rw[List.drop_eq_getElem_cons h,val,List.getD,List.getElem?_eq_getElem h];rfl
 rw[List.drop_eq_nil_of_le h,List.drop_eq_nil_of_le (by omega),List.getD,List.getElem?_eq_none h];simp[val]
theorem xm(h:∀j,a.getD j 0=0):val a=0:=by
 induction a with
 | nil=>rfl
 | cons x a ih =>
   have b:=h 0;simp at b;rw[val,b,ih λj=>by have:=h (j+1);simpa using this];rfl
theorem drop_zero(h:∀j,b<=j->a.getD j 0=0):val (a.drop b)=0 :=
 xm λj=>by
  have:=h (b+j) (by omega);rw[List.getD,List.getElem?_drop]
  rwa [List.getD] at this
theorem Vt{l:List Nat} {j:Nat} (b:∀x∈l,x<BB) (h:∀k,j<k->l.getD k 0=0) (c:j<l.length):l.getD j 0*BB ^ j<=val l/\val l<(l.getD j 0+1)*BB ^ j:=by
 have e:=I3 l j (by omega);rw[Jl,drop_zero λk a=>h k a,Nat.mul_zero,Nat.add_zero,Nat.mul_comm]at e;have:=Lu b (k:=j) (by omega);rw[Nat.add_mul,Nat.one_mul];omega
theorem je{j:Nat} (c:∀x∈a,x<BB) (h:∀k,j+1<k->a.getD k 0=0) (d:j+1<a.length):(a.getD (j+1) 0*BB+a.getD j 0)*BB ^ j<=val a/\val a<(a.getD (j+1) 0*BB+a.getD j 0+1)*BB ^ j:=by
 have e:=I3 a j (by omega);rw[Jl,Jl,drop_zero λk b=>h k b,Nat.mul_zero,Nat.add_zero,Nat.mul_comm]at e;have:=Lu c (k:=j) (by omega);rw[Nat.add_mul _ 1,Nat.one_mul,Nat.mul_comm (a.getD (j+1) 0),Nat.add_comm (BB*_)];omega
theorem jf{j:Nat} (d:∀x∈a,x<BB) (h:∀k,j+2<k->a.getD k 0=0) (f:j+2<a.length):((a.getD (j+2) 0*BB+a.getD (j+1) 0)*BB+a.getD j 0)*BB ^ j<=val a/\val a<((a.getD (j+2) 0*BB+a.getD (j+1) 0)*BB+a.getD j 0+1)*BB ^ j:=by
 have e:=I3 a j (by omega);rw[Jl,Jl,Jl,drop_zero λk c=>h k c,Nat.mul_comm (BB ^ j)]at e;have z:BB*0=0:=rfl;rw[z,show a.getD (j+1+1) 0+0=a.getD (j+2) 0 from rfl]at e;have:=Lu d (k:=j) (by omega)
 have b:(a.getD (j+2) 0*BB+a.getD (j+1) 0)*BB+a.getD j 0=a.getD j 0+BB*(a.getD (j+1) 0+BB*a.getD (j+2) 0):=by
  rw[Nat.mul_comm _ BB,Nat.mul_comm _ BB,Nat.add_comm (BB*_),Nat.add_comm (BB*a.getD (j+2) 0)]
 rw[b,Nat.add_mul _ 1,Nat.one_mul];omega
theorem Ap9{c:List Nat}  (i:∀x∈a,x<BB) (g:∀x∈c,x<BB) (C:c.length=f) (A:2<=f) (B:b+f<a.length) (r:∀k,b+f<k->a.getD k 0=0) (z:BB<=2*c.getD (f-1) 0) (l:val a<val c*BB ^ b*BB) :
 DigC (val a) (val c*BB ^ b) (BB ^ (b+f-1)) (BB ^ (b+f-2)) (c.getD (f-1) 0) (c.getD (f-2) 0) (a.getD (b+f) 0*BB+a.getD (b+f-1) 0) (a.getD (b+f-2) 0):=by
 obtain⟨m,rfl⟩:∃m,f=m+2:=⟨f-2,by omega⟩
 have d:∀k,m+2<=k->c.getD k 0=0:=λk e=>by rw[List.getD,List.getElem?_eq_none (by omega)];rfl
 let⟨u,v⟩:=Vt (j:=m+1) g (λk e=>d k (by omega)) (by omega);let⟨w,y⟩:=je (j:=m) g (λk e=>d k (by omega)) (by omega);let⟨n,o⟩:=je (j:=b+m+1) i (λk e=>r k (by omega)) (by omega);let⟨p,q⟩:=jf (j:=b+m) i (λk e=>r k (by omega)) (by omega);have s:BB ^ (b+(m+2)-1)=BB ^ (m+1)*BB ^ b:=by rw[<-Nat.pow_add];congr 1;omega
 have t:BB ^ (b+(m+2)-2)=BB ^ m*BB ^ b:=by rw[<-Nat.pow_add];congr 1;omega
 have h:0<BB ^ b:=Nat.pow_pos (by decide);simp only[show m+2-1=m+1 from rfl,show m+2-2=m from rfl,show b+(m+2)=b+m+1+1 by omega,show b+m+1+1-1=b+m+1 from rfl,show b+m+1+1-2=b+m from rfl]at *
 rw[s]at n o;rw[t]at p q;rw[s,t];refine⟨?_,Nat.mul_pos (Nat.pow_pos (by decide)) h,?_,?_,n,o,?_,?_,p,q,z,Ex g _,Ex g _,Ex i _,l⟩
 .rw[Nat.pow_succ,Nat.mul_comm _ BB,Nat.mul_assoc]
 .rw[<-Nat.mul_assoc];exact Nat.mul_le_mul_right _ u
 .rw[<-Nat.mul_assoc];exact Nat.mul_lt_mul_of_pos_right v h
 .rw[<-Nat.mul_assoc];exact Nat.mul_le_mul_right _ w
 rw[<-Nat.mul_assoc];exact Nat.mul_lt_mul_of_pos_right y h
end Limb
end
namespace Limb
theorem Sl(b:∀x∈a,x<BB):∀k,a.getD k 0=val a / BB ^ k % BB:=by
 induction a with
 | nil=>intro k;simp[val]
 | cons x a ih =>
   intro k;have c:=b x (by simp);have ih:=ih (λy d=>b y (by simp[d]));cases k with
   | zero=>rw[val,Nat.pow_zero,Nat.div_one,Nat.add_mul_mod_self_left,Nat.mod_eq_of_lt c];rfl
   | succ k=>rw[List.getD_cons_succ,ih,val,Nat.pow_succ,Nat.mul_comm _ BB,<-Nat.div_div_eq_div_mul,Nat.add_mul_div_left _ _ (by decide),Nat.div_eq_of_lt c,Nat.zero_add]
theorem On{s:Nat} (a:s<=32):BB=2 ^ s*2 ^ (32-s):=by
 rw[<-Nat.pow_add,show s+(32-s)=32 by omega];rfl
theorem Ajp{a k:Nat} {r:List Nat} (i:k+1<r.length) (j:r.getD (k+1) 0=0) (e:lim a k*2 ^ b=f+BB*g) (h:val r=(a % BB ^ k)*2 ^ b) :
 val ((r.set k (r.getD k 0+f)).set (k+1) g)=(a % BB ^ (k+1))*2 ^ b:=by
 have d:=Fp (l:=r) (k:=k) (x:=r.getD k 0+f) (by omega);have c:=Fp (l:=r.set k (r.getD k 0+f)) (k:=k+1) (x:=g) (by rw[List.length_set];exact i);rw[Fc (by omega),if_neg (by omega),j,Nat.mul_zero,Nat.add_zero]at c;rw[Nat.mul_add]at d;rw[c,Bt,Nat.add_mul,<-h,Nat.mul_assoc,e,Nat.mul_add,<-Nat.mul_assoc,Nat.pow_succ];omega
theorem Ajm{x:Nat} (h:x<BB) (i:b<=31):x*2 ^ b % BB % 2 ^ b=0/\x*2 ^ b / BB<2 ^ b/\x*2 ^ b % BB+2 ^ b<=BB:=by
 have g:0<2 ^ b:=Nat.pow_pos (by decide)
 have d:x*2 ^ b % BB % 2 ^ b=0:=by
  have:=On (s:=b) (by omega);rw[this,Nat.mod_mul_right_mod,Nat.mul_mod_left]
 refine⟨d,?_,?_⟩
 .rw[Nat.div_lt_iff_lt_mul (by decide),Nat.mul_comm];exact Nat.mul_lt_mul_of_pos_left h g
 have a:x*2 ^ b % BB<BB:=Nat.mod_lt _ (by decide);let⟨c,f⟩:=Nat.dvd_of_mod_eq_zero d;have e:=On (s:=b) (by omega);rw[f]at a ⊢;rw[e]at a ⊢;have:=Nat.lt_of_mul_lt_mul_left a;have:=Nat.mul_le_mul_left (2 ^ b) (show c+1<=2 ^ (32-b) from this);rw[Nat.mul_add,Nat.mul_one]at this;exact this
theorem Afb(f:∀x∈a,x<BB) {k:Nat} (q:b<=31) {r:List Nat} (n:k<r.length) (p:r.getD k 0=0) (h:val r=(val a / 2 ^ b) % BB ^ k) :
 val (r.set k ((a.getD k 0+BB*a.getD (k+1) 0) / 2 ^ b % BB))=(val a / 2 ^ b) % BB ^ (k+1):=by
 have e:=Fp (l:=r) (k:=k) (x:=(a.getD k 0+BB*a.getD (k+1) 0) / 2 ^ b % BB) n;rw[p,Nat.mul_zero,Nat.add_zero]at e;rw[e,h,Nat.pow_succ,Nat.mod_mul]
 congr 2
 have o:0<2 ^ b:=Nat.pow_pos (by decide);rw[Nat.div_div_eq_div_mul,Nat.mul_comm (2 ^ b),<-Nat.div_div_eq_div_mul];have j:=Sl f k;have d:=Sl f (k+1);rw[Nat.pow_succ,<-Nat.div_div_eq_div_mul]at d;generalize val a / BB ^ k=A at *
 have g:=Nat.mod_add_div A BB;have c:=Nat.mod_add_div (A / BB) BB;rw[<-j]at g;rw[<-d]at c;have l:=On (s:=b) (by omega)
 have i:A=(a.getD k 0+BB*a.getD (k+1) 0)+2 ^ b*(BB*(2 ^ (32-b)*(A / BB / BB))):=by
  have:2 ^ b*(BB*(2 ^ (32-b)*(A / BB / BB)))=BB*(BB*(A / BB / BB)):=by
   rw[Nat.mul_left_comm,<-Nat.mul_assoc (2 ^ b),<-l]
  rw[this];have:=congrArg (BB*·) c;simp only[Nat.mul_add]at this;omega
 let⟨M,m⟩:∃M,A=(a.getD k 0+BB*a.getD (k+1) 0)+2 ^ b*(BB*M):=⟨_,i⟩
 rw[m,Nat.add_mul_div_left _ _ o,Nat.add_mul_mod_self_left]
theorem Ak1(c:∀x∈a,x<BB) {m:Nat} (h:val a<BB ^ m) (k:Nat) (b:m<=k):a.getD k 0=0:=by
 rw[Sl c,Nat.div_eq_of_lt (Nat.lt_of_lt_of_le h (Nat.pow_le_pow_right (by decide) b))];rfl
structure DivI (A V i:Nat) (q L:List Nat):Prop where
 e:val q*V+val L=A
 lt:val L<V*BB ^ i
 z:∀k,k<i->q.getD k 0=0
theorem DivI.step{d:Nat} {q:List Nat} (h:DivI b f (g+1) q a) (hq:g<q.length) (n:0<f) (i:d=val a / (f*BB ^ g)) (e:val j=val a % (f*BB ^ g)):DivI b f g (q.set g d) j/\d<BB:=by
 have c:=Fp (l:=q) (k:=g) (x:=d) hq;rw[h.z g (by omega),Nat.mul_zero,Nat.add_zero]at c;have m:0<f*BB ^ g:=Nat.mul_pos n (Nat.pow_pos (by decide));have o:=Nat.mod_add_div (val a) (f*BB ^ g);refine⟨⟨?_,?_,?_⟩,?_⟩
 .rw[c,e,Nat.add_mul,<-h.e,i,Nat.mul_right_comm,Nat.mul_comm (BB ^ g) f];omega
 .rw[e];exact Nat.mod_lt _ m
 .intro k p;rw[Fc hq,if_neg (by omega)];exact h.z k (by omega)
 rw[i,Nat.div_lt_iff_lt_mul m,Nat.mul_comm,Nat.mul_assoc,<-Nat.pow_succ];exact h.lt
theorem tt{d b s n c:Nat} (h:(lmb b).length=n) (v:(lmb d).length=c) (A:0<n) (w:n<=c) (C:s<=31) (u:BB<=2*(lim b (n-1)*2 ^ s))  (g:val a=d*2 ^ s) (m:Nat):DivI (d*2 ^ s) (b*2 ^ s) (c+1-n) (List.replicate m 0) a:=by
 refine⟨by rw[E7,Nat.zero_mul,Nat.zero_add,g],?_,λk _=>G4 m k⟩;have y:b≠0:=by intro e;rw[e,Cb]at h;simp at h;omega
 have f:=Mx d;rw[v]at f;have B:0<2 ^ s:=Nat.pow_pos (by decide);obtain⟨m,rfl⟩:∃m,n=m+1:=⟨n-1,by omega⟩
 have t:=(Vt (l:=lmb b) (j:=m) (Dj b) (λk z=>by rw[List.getD,List.getElem?_eq_none (by omega)];rfl) (by omega)).1;rw[Ep]at t
 have p:2 ^ s*2<=BB:=by
  rw[<-Nat.pow_succ];exact Nat.pow_le_pow_right (by decide) (by omega:s+1<=32)
 have x:BB*BB ^ m<=2*(b*2 ^ s):=by
  have:=Nat.mul_le_mul_right (BB ^ m) u
  have q:2*(lim b (m+1-1)*2 ^ s)*BB ^ m=2*(lim b m*BB ^ m*2 ^ s):=by
   rw[Nat.add_sub_cancel,Nat.mul_assoc,Nat.mul_right_comm]
  rw[q]at this;exact Nat.le_trans this (Nat.mul_le_mul_left 2 (Nat.mul_le_mul_right _ t))
 have r:BB ^ c*BB=BB*BB ^ m*BB ^ (c+1-(m+1)):=by
  rw[Nat.mul_assoc,<-Nat.pow_add,Nat.mul_comm,show m+(c+1-(m+1))=c by omega]
 rw[g]
 have i:d*2 ^ s*2<BB ^ c*BB:=by
  rw[Nat.mul_assoc];exact Nat.lt_of_le_of_lt (Nat.mul_le_mul_left d p) (Nat.mul_lt_mul_of_pos_right f (by decide))
 rw[r]at i;have o:=Nat.mul_le_mul_right (BB ^ (c+1-(m+1))) x;rw[Nat.mul_assoc 2]at o;omega
theorem DivI.fin(h:DivI (b*2 ^ g) (f*2 ^ g) 0 a j) (k:0<f):val a=b / f/\val j / 2 ^ g=b % f/\val j<f*2 ^ g:=by
 have d:0<2 ^ g:=Nat.pow_pos (by decide);have c:=h.lt;rw[Nat.pow_zero,Nat.mul_one]at c;have e:=h.e
 have i:val a=b*2 ^ g / (f*2 ^ g):=by
  rw[<-e,Nat.mul_comm,Nat.mul_add_div (Nat.mul_pos k d),Nat.div_eq_of_lt c,Nat.add_zero]
 rw[Nat.mul_div_mul_right _ _ d]at i
 have l:val j=b % f*2 ^ g:=by
  rw[<-Nat.mul_mod_mul_right,<-e,Nat.mul_comm,Nat.mul_add_mod,Nat.mod_eq_of_lt c]
 exact⟨i,by rw[l,Nat.mul_div_cancel _ d],c⟩
end Limb
namespace Limb
structure AddI (a b k c:Nat) (l:List Nat):Prop where
 len:l.length=k
 lt:∀x∈l,x<BB
 cle:c<=1
 e:val l+BB ^ k*c=a % BB ^ k+b % BB ^ k
theorem AddI.zero(a b:Nat):AddI a b 0 0 []:=⟨rfl,by simp,by omega,by simp[val,Nat.mod_one]⟩
theorem AddI.step{d b k c s:Nat}  (h:AddI d b k c a) (e:s=c+lim d k+lim b k):AddI d b (k+1) (s / BB) (a++[s % BB]):=by
 have f:=Cv d k;have g:=Cv b k;have i:=h.cle;refine⟨by simp[h.len],Od h.lt (Nat.mod_lt _ (by decide)),?_,by rw[e];exact Anf h.len h.e⟩;unfold BB at *;omega
theorem AddI.fin{c:Nat}  (h:AddI b f g c a) (d:(lmb b).length<=g) (i:(lmb f).length<=g):val (a++[c])=b+f/\∀x∈a++[c],x<BB:=by
 have e:=h.e;rw[Di d,Di i]at e;exact⟨by rw[Ku,h.len,e],Od h.lt (by have:=h.cle;unfold BB;omega)⟩
structure SubI (a b k o n:Nat) (l:List Nat):Prop where
 len:l.length=n
 lt:∀x∈l,x<BB
 ole:o<=1
 z:∀j,k<=j->l.getD j 0=0
 e:val l+b % BB ^ k=a % BB ^ k+BB ^ k*o
theorem SubI.zero(a b n:Nat):SubI a b 0 0 n (List.replicate n 0):=⟨by simp,Gh n,by omega,λj _=>G4 n j,by rw[E7];simp[Nat.mod_one]⟩
theorem SubI.step{c b k o n v d:Nat}  (h:SubI c b k o n a) (m:k<n) (i:v<BB) (g:d<=1) (e:v+lim b k+o=lim c k+BB*d):SubI c b (k+1) d n (a.set k v):=by
 have f:=h.len;refine⟨by rw[List.length_set];exact f,Hq h.lt i,g,λj l=>?_,Aly (by omega) (h.z k (by omega)) h.e e⟩;rw[Fc (by omega),if_neg (by omega)];exact h.z j (by omega)
theorem SubI.fin(d:SubI b f h g h a) (j:(lmb b).length<=h) (k:(lmb f).length<=h) (l:f<=b):val a=b-f:=by
 have e:=d.e;rw[Di j,Di k]at e;have i:=Ql d.lt;rw[d.len]at i
 have m:g=0:=by
  rcases Nat.eq_zero_or_pos g with c|c
  .exact c
  have:=Nat.mul_le_mul_left (BB ^ h) c;omega
 rw[m,Nat.mul_zero]at e;omega
structure MulO (a b i na nb:Nat) (l:List Nat):Prop where
 len:l.length=na+nb
 lt:∀x∈l,x<BB
 z:∀j,i+nb<=j->l.getD j 0=0
 e:val l=(a % BB ^ i)*b
structure MulN (a b i k c na nb:Nat) (l:List Nat):Prop where
 len:l.length=na+nb
 lt:∀x∈l,x<BB
 cl:c<BB
 z:∀j,i+nb<=j->l.getD j 0=0
 e:val l+BB ^ (i+k)*c=(a % BB ^ i)*b+BB ^ i*lim a i*(b % BB ^ k)
theorem MulO.zero(a b c d:Nat):MulO a b 0 c d (List.replicate (c+d) 0):=⟨by simp,Gh _,λj _=>G4 _ j,by rw[E7];simp[Nat.mod_one]⟩
theorem MulO.inner(c:MulO b f g h i a):MulN b f g 0 0 h i a:=⟨c.len,c.lt,by decide,c.z,by rw[c.e];simp[Nat.mod_one]⟩
theorem MulN.step{d b i k c f g s:Nat}  (h:MulN d b i k c f g a) (u:i<f) (v:k<g) (w:s=c+(lim d i*lim b k+a.getD (i+k) 0)):MulN d b i (k+1) (s / BB) f g (a.set (i+k) (s % BB))/\s<18446744073709551616:=by
 have m:=h.len;have n:=Cv d i;have o:=Cv b k;have p:=h.cl;have q:=Ex h.lt (i+k);have t:lim d i*lim b k<=(BB-1)*(BB-1):=Nat.mul_le_mul (by omega) (by omega);have e:s<18446744073709551616:=by unfold BB at *;omega
 refine⟨⟨by rw[List.length_set];exact m,Hq h.lt (Nat.mod_lt _ (by decide)),?_,λj l=>?_,?_⟩,e⟩
 .rw[Nat.div_lt_iff_lt_mul (by decide)];exact e
 .rw[Fc (by omega),if_neg (by omega)];exact h.z j l
 have:=Ak0 (r:=a) (j:=i+k) (c:=c) (z:=lim d i*lim b k) (s:=s) (by omega) (by omega);rw[<-Nat.add_assoc,this,h.e,Bt,Nat.mul_add,Nat.add_assoc]
 congr 2
 rw[Nat.pow_add,Nat.mul_assoc,Nat.mul_assoc,Nat.mul_left_comm (lim d i)]
theorem MulN.fin{c:Nat}  (d:MulN b f g i c h i a) (n:g<h) (m:(lmb f).length=i):MulO b f (g+1) h i (a.set (g+i) c):=by
 have l:=d.len;have e:=Fp (l:=a) (k:=g+i) (x:=c) (by omega);rw[d.z (g+i) (by omega),Nat.mul_zero,Nat.add_zero,d.e,Di (a:=f) (k:=i) (by omega)]at e;refine⟨by rw[List.length_set];exact l,Hq d.lt d.cl,λj o=>?_,?_⟩
 .rw[Fc (by omega),if_neg (by omega)];exact d.z j (by omega)
 rw[e,Bt,Nat.add_mul]
theorem MulO.fin(c:MulO b f g g h a) (d:(lmb b).length=g):val a=b*f:=by
 rw[c.e,Di (by omega)]
structure ShoI (a d k r n:Nat) (q:List Nat):Prop where
 len:q.length=n
 lt:∀x∈q,x<BB
 rl:r<d
 z:∀j,j<k->q.getD j 0=0
 e:val q*d+BB ^ k*r+a % BB ^ k=a
theorem ShoI.zero{d:Nat} (a:0<d) (c:(lmb b).length=f):ShoI b d f 0 f (List.replicate f 0):=⟨by simp,Gh f,a,λj _=>G4 f j,by rw[E7,Di (by omega)];simp⟩
theorem ShoI.step{d s:Nat} {q:List Nat} (a:ShoI b d (f+1) g h q) (e:d<BB) (o:f<h) (l:s=g*BB+lim b f):ShoI b d f (s % d) h (q.set f (s / d))/\s<18446744073709551616/\s / d<BB:=by
 have i:=a.len;have k:=a.rl;have m:=Cv b f
 have c:s<d*BB:=by
  have:=Nat.mul_le_mul_right BB (show g+1<=d from k);rw[Nat.add_mul]at this;omega
 have hq:s / d<BB:=Nat.div_lt_of_lt_mul c;refine⟨⟨by rw[List.length_set];exact i,Hq a.lt hq,Nat.mod_lt _ (by omega),λj n=>?_,by rw[l];exact Ae2 (by omega) (a.z f (by omega)) a.e⟩,?_,hq⟩
 .rw[Fc (by omega),if_neg (by omega)];exact a.z j (by omega)
 have:=Nat.mul_le_mul_right BB (show d<=BB from Nat.le_of_lt e);unfold BB at *;omega
theorem ShoI.fin{d:Nat}  (h:ShoI b d 0 f g a):val a=b / d/\f=b % d:=by
 have e:=h.e;have c:=h.rl;rw[Nat.pow_zero,Nat.mod_one,Nat.one_mul,Nat.add_zero,Nat.mul_comm]at e;rw[<-e];exact⟨by rw[Nat.mul_add_div (by omega),Nat.div_eq_of_lt c,Nat.add_zero],by rw[Nat.mul_add_mod,Nat.mod_eq_of_lt c]⟩
end Limb
section
open Go.RowKit Limb
theorem OwU.u32s{w:World}  {v:Value}  (h:OwU w b v a):∃A c,v=.slice A a.length c/\a.length<=c/\c<=maxLen/\Hn w A a.length a/\(A=none->c=0)/\∀p,A=some p->b<=p.block:=by
 rcases OwG.form h with⟨rfl,rfl⟩|⟨g,c,rfl,f,m,i,j⟩
 .exact⟨none,0,rfl,Nat.le_refl _,Nat.zero_le _,⟨rfl,.inl rfl⟩,λ_=>rfl,λp d=>by cases d⟩
 refine⟨_,c,rfl,i,j,⟨rfl,.inr ⟨g,0,rfl,λk l=>?_⟩⟩,(λh=>by cases h),λp d=>by injection d with d;subst d;exact f⟩;have c0:=OwG.cells h (k*1) (by omega);have e:=Bu Hj a k 0 _ (Mj l) (by omega);rw[Nat.add_zero]at e;rw[e,Nat.mul_one]at c0;rw[Nat.zero_add];exact c0
theorem Acv (A B:Option Addr) (P Q f t a b:Nat) (w:World) (S:Array Value) (s:Nat) (hS:S=#[.slice A f P,.slice B t Q]\/t<f/\S=#[.slice B t Q,.slice A f P]) (hs:a+b=s) (ha:(lmb a).length=f) (hb:(lmb b).length=t) (ch:f<=100000) (bb:t<=f) (V:f<=P) (W:t<=Q) (hA:Hn w A f (lmb a)) (hB:Hn w B t (lmb b)) :
 Calls Tryz.prog 314 S w λe w'=>∃v,e=.returned v/\Ce w' w.heap.size v s/\Be w w':=by
 have b0:=Ar hs;clear hs;have ta:trl (lmb a) f=f:=by rw[<-ha];exact Gv a
 have tb:trl (lmb b) t=t:=by rw[<-hb];exact Gv b
 have N:=Ar ta;have O:=Ar tb;have aw:=Ar ha;have L:=Ar hb;clear ta tb ha hb;let⟨i,o,a8,ad,ai⟩:=info_parts Pd;rcases hS with rfl|⟨Z,rfl⟩
 all_goals
  go_in
  go_upto_region 4 with (first
   | (go_at_call 308;have hz:=g;(with_reducible refine(Ci B Q t (lmb b) _ (by omega) W (hB.keep g)).mono ?_);rintro e E ⟨rfl,R⟩;rw[O.out])
   | (go_at_call 308;have hz:=g;(with_reducible refine(Ci A P f (lmb a) _ (by omega) V (hA.keep g)).mono ?_);rintro e E ⟨rfl,R⟩;rw[N.out])
   | (go_at_call 308;(with_reducible refine(Ci A P f (lmb a) _ (by omega) V hA).mono ?_);rintro e w1 ⟨rfl,g⟩;rw[N.out])
   | (go_at_call 308;(with_reducible refine(Ci B Q t (lmb b) _ (by omega) W hB).mono ?_);rintro e w1 ⟨rfl,g⟩;rw[O.out]))
  have u:=An g R;clear g
  go_upto_region 7 with (at_make;refine wpList_make_own _ rfl _ _ 167 rfl E.heap.size 280 i (.int .u32 0) 1 Tryz.underlying167 o a8 ad _ _ _ (f+1) rfl rfl (by first|rfl|omega|simp) (by rw[ai];omega) (by unfold maxLen;omega) (Nat.le_refl _) ?_;intro w3 a1 X)
  have a6:OwU w3 E.heap.size (.slice (some ⟨E.heap.size,0,none⟩) 0 (f+1)) []:=a1;have b7:Be E w3:=Below.grown bl0 X (Nat.le_refl _) (λj hj=>by cases hj);clear a1 X a8 ad ai o;go_loopw [5,6,7,8,26] (λr c _ _ i wr=>∃(k d:Nat) (l:List Nat),k<=f/\i=.int .i64 k/\c=.int .u64 (d:Int)/\Hid (AddI a b k d l)/\OwU wr E.heap.size r l/\Be E wr) λ_ _ _ _ i _=>f-(intOf i).toNat
  case atStart=>exact⟨0,0,[],Nat.zero_le _,rfl,rfl,Ar (AddI.zero a b),a6,b7⟩
  obtain⟨k,d,l,hk,rfl,rfl,F,p,h⟩:=hrel;have U:=An u h;have cf:=F.out.cle;have ba:=F.out.len;by_cases Z:k<f
  .obtain⟨b1,o1,rfl,h1⟩:=(hA.keep U).at_ Z;have HX:=Cv a k;let⟨x,K⟩:=gN (lim a k)
   have I:gu (lmb a) k=x:=K;rw[I]at h1;rw[K]at HX;unfold BB at HX;have W1:=Ds (z:=(x:Int)) (by omega) (by omega);have W2:=Ds (z:=(d:Int)+(x:Int)) (by omega) (by omega);by_cases b9:k<t
   .obtain⟨b2,o2,rfl,h2⟩:=(hB.keep U).at_ b9;have HY:=Cv b k;let⟨y,J⟩:=gN (lim b k)
    have a7:gu (lmb b) k=y:=J;rw[a7]at h2;rw[J]at HY;unfold BB at HY;have W3:=Ds (z:=(y:Int)) (by omega) (by omega);have W4:=Ds (z:=(d:Int)+(x:Int)+(y:Int)) (by omega) (by omega);have M:=Ar (F.out.step (s:=d+x+y) (by rw[K,J]));clear K I J a7;let⟨q,n⟩:=gN ((d+x+y) % BB:Nat)
    let⟨o,m⟩:=gN ((d+x+y) / BB:Nat)
    have H:Hid (AddI a b (k+1) o (l++[q])):=Ar (by rw[<-n,<-m];exact M.out);unfold BB at n m;have E1:((d:Int)+(x:Int)+(y:Int)) % 4294967296=(q:Int):=by omega
    have E2:((d:Int)+(x:Int)+(y:Int)) / 4294967296=(o:Int):=by omega
    clear n m M F
    go_wp2_with (at_builtin;refine Co rfl _ _ 167 rfl enU E.heap.size 280 (.int .u32 0) 1 4 Tryz.underlying167 Pd rfl (by omega) Hj Im _ l rfl (p.alloc _) wr.heap.size 1 q 280 rfl (Bf.new _ _ _) (by unfold maxLen;omega) (by omega) (Ao h _).size ?_;intro v' w' D C G)
    exact⟨⟨k+1,o,l++[q],by omega,by go_num,rfl,H,D,Bk (Ao h _) (p.alloc _) C⟩,by simp[intOf];omega⟩
   have J:lim b k=0:=Sd (by rw[L.out];omega);have M:=Ar (F.out.step (s:=d+x) (by rw[K,J,Nat.add_zero]));clear K I J;let⟨q,n⟩:=gN ((d+x) % BB:Nat)
   let⟨o,m⟩:=gN ((d+x) / BB:Nat)
   have H:Hid (AddI a b (k+1) o (l++[q])):=Ar (by rw[<-n,<-m];exact M.out);unfold BB at n m;have E1:((d:Int)+(x:Int)) % 4294967296=(q:Int):=by omega
   have E2:((d:Int)+(x:Int)) / 4294967296=(o:Int):=by omega
   clear n m M F
   go_wp2_with (at_builtin;refine Co rfl _ _ 167 rfl enU E.heap.size 280 (.int .u32 0) 1 4 Tryz.underlying167 Pd rfl (by omega) Hj Im _ l rfl (p.alloc _) wr.heap.size 1 q 280 rfl (Bf.new _ _ _) (by unfold maxLen;omega) (by omega) (Ao h _).size ?_;intro v' w' D C G)
   exact⟨⟨k+1,o,l++[q],by omega,by go_num,rfl,H,D,Bk (Ao h _) (p.alloc _) C⟩,by simp[intOf];omega⟩
  obtain rfl:k=f:=by omega
  let⟨F1,F2⟩:=F.out.fin (by rw[aw.out];exact Nat.le_refl _) (by rw[L.out];exact bb);have ar:=Ar F1;have au:=Ar F2;have E3:(d:Int) % 4294967296=(d:Int):=by omega
  have Y:(l++[d]).length=k+1:=by simp[ba]
  clear F1 F2 F
  go_wp2_with (first|(go_at_call 308;obtain⟨A',c',rfl,q1,q2,q3,q4,q5⟩:=OwU.u32s D;refine rR (Ci A' c' _ (l++[d]) _ (by omega) q1 q3) λw5 T=>?_)|(at_builtin;refine Co rfl _ _ 167 rfl enU E.heap.size 280 (.int .u32 0) 1 4 Tryz.underlying167 Pd rfl (by omega) Hj Im _ l rfl (p.alloc _) wr.heap.size 1 d 280 rfl (Bf.new _ _ _) (by unfold maxLen;omega) (by omega) (Ao h _).size ?_;intro v' w' D C G))
  go_ret;have b8:=Bk (Ao h _) (p.alloc _) C;have hN:=Oz (q3.keep T) au.out q1 q2 q4 q5;rw[ar.out,Y,b0.out]at hN;refine⟨_,rfl,hN.lower u.size,An (An u b8) T⟩
def Afv:=λ(A B:Option Addr) (c d e f a b:Nat) (w:World)=>@Acv A B c d e f a b w _ _ (.inl rfl) rfl
def Afu:=λ(A B:Option Addr) (g h e f a b:Nat) (w:World) i j d (c:f<e)=>@Acv A B g h e f a b w _ _ (.inr ⟨c,rfl⟩) (Nat.add_comm a b) i j d (Nat.le_of_lt c)
end
section
open Go.RowKit Limb
theorem Aad(A B:Option Addr) (ca cb g f a b:Nat) (w:World) (ha:(lmb a).length=g) (hb:(lmb b).length=f) (bx:g<=100000) (c3:f<=100000) (ak:g<=ca) (ar:f<=cb) (hA:Hn w A g (lmb a)) (hB:Hn w B f (lmb b)) :
 Calls Tryz.prog 256 #[.slice A g ca,.slice B f cb] w λe w'=>∃v,e=.returned v/\Ce w' w.heap.size v (a*b)/\Be w w':=by
 have ta:trl (lmb a) g=g:=by rw[<-ha];exact Gv a
 have tb:trl (lmb b) f=f:=by rw[<-hb];exact Gv b
 have a1:=Ar ta;have a6:=Ar tb;have V:=Ar ha;have W:=Ar hb;let⟨Z,M,hZ⟩:=Fb (g+f) (by omega);have aw:∀w,(Instr.makeSlice 167 (.int .i64 ((g:Int)+(f:Int))) (.int .i64 ((g:Int)+(f:Int)))).run Tryz.prog w=.ok (.slice (some ⟨w.heap.size,0,none⟩) (g+f) (g+f)) (w.alloc (.cells Z 280)):=λw=>by have:=M w;rwa [Int.natCast_add] at this
 go_in
 go_upto_region 4 with (first
  | (go_at_call 308;refine(Ci B cb f (lmb b) _ (by omega) ar (hB.keep u)).mono ?_;rintro e F ⟨rfl,H⟩;rw[a6.out])
  | (go_at_call 308;refine(Ci A ca g (lmb a) _ (by omega) ak hA).mono ?_;rintro e w1 ⟨rfl,u⟩;rw[a1.out]))
 have o:=An u H;clear u H;go_loopw [6,7,8,9,10,23,28,29,30] (λ_ _ _ _ _ i _ _ _ wr=>∃(k:Nat) (l:List Nat),k<=g/\i=.int .i64 k/\Hid (MulO a b k g f l)/\Ka wr F.heap.size l/\Be F wr) λ_ _ _ _ _ i _ _ _ _=>g-(intOf i).toNat
 case atStart=>exact⟨0,_,Nat.zero_le _,rfl,Ar (MulO.zero a b g f),hZ F,blA⟩
 clear aw hZ;obtain⟨k,l,hk,rfl,n,d,h⟩:=hrel;have q:=An o h;have r:=n.out.len;have K:=d.lt;by_cases E:k<g
 .obtain⟨b1,o1,rfl,h1⟩:=(hA.keep q).at_ E;have HX:=Cv a k;let⟨x,hx⟩:=gN (lim a k)
  have b4:gu (lmb a) k=x:=hx;rw[b4]at h1;rw[hx]at HX;have W1:=Ds (z:=(x:Int)) (by omega) (by unfold BB at HX;omega);have G:=Ar n.out.inner;have Hx:=Ar hx;go_wp2;obtain⟨wa,rfl⟩:∃wa:World,wa=wr:=⟨_,rfl⟩
  go_loopw [8,9,10,30] (λc _ _ i wr=>∃(j c0:Nat) (l:List Nat),j<=f/\i=.int .i64 j/\c=.int .u64 (c0:Int)/\Hid (MulN a b k j c0 g f l)/\Ka wr F.heap.size l/\Be F wr) λ_ _ _ i _=>f-(intOf i).toNat
  case atStart=>exact⟨0,0,l,Nat.zero_le _,rfl,rfl,G,d,h⟩
  clear G d h q K;obtain⟨j,c0,l,hj,rfl,rfl,n,d,h⟩:=hrel;have q:=An o h;have r:=n.out.len;have K:=d.lt;have J:=n.out.cl;by_cases L:j<f
  .obtain⟨b2,o2,rfl,h2⟩:=(hB.keep q).at_ L;let⟨z1,f1⟩:=d.cell (k:=k+j) (by omega);have HY:=Cv b j;let⟨s,R⟩:∃s,s=c0+(lim a k*lim b j+l.getD (k+j) 0):=⟨_,rfl⟩
   let⟨t,b0⟩:=n.out.step E L R;have HZ:=Ex n.out.lt (k+j);let⟨y,S⟩:=gN (lim b j)
   have N:gu (lmb b) j=y:=S;let⟨z,T⟩:=gN (l.getD (k+j) 0)
   have O:gu l (k+j)=z:=T;rw[N]at h2;rw[O]at z1;rw[S]at HY;rw[T]at HZ;rw[S,T,Hx.out]at R;generalize hm:x*y=m at R;have au:(x:Int)*(y:Int)=(m:Int):=by rw[<-Int.natCast_mul,hm]
   have W3:=Ds (z:=(y:Int)) (by omega) (by unfold BB at HY;omega);have W4:=Ds (z:=(x:Int)*(y:Int)) (by omega) (by omega);have W5:=Ds (z:=(z:Int)) (by omega) (by unfold BB at HZ;omega);have W6:=Ds (z:=(x:Int)*(y:Int)+(z:Int)) (by omega) (by omega);have W7:IntKind.u64.wrap ((c0:Int)+((x:Int)*(y:Int)+(z:Int)))=(s:Int):=by rw[Ds (by omega) (by omega)];omega
   let⟨P,D⟩:=gN (s % BB:Nat)
   let⟨Q,C⟩:=gN (s / BB:Nat)
   rw[D,C]at t;have Y:=Ar t;unfold BB at D C;have E1:(s:Int) % 4294967296=(P:Int):=by omega
   have E2:(s:Int) / 4294967296=(Q:Int):=by omega
   have B1:((k:Int)+(j:Int))<((g+f:Nat):Int):=by omega
   clear D C n t R b0 hm au S N T O HY HZ J r;go_wp2;exact⟨⟨j+1,Q,l.set (k+j) P,by omega,by go_num,rfl,Y,d.store (k+j) P,Ba h (p:=⟨F.heap.size,k+j,none⟩) (Nat.le_refl _) _⟩,by simp[intOf];omega⟩
  obtain rfl:j=f:=by omega
  let⟨z1,f1⟩:=d.cell (k:=k+j) (by omega);have U:=Ar (n.out.fin E W.out);have E1:(c0:Int) % 4294967296=(c0:Int):=by unfold BB at J;omega
  go_wp2;exact⟨⟨k+1,l.set (k+j) c0,by omega,by go_num,U,d.store (k+j) c0,Ba h (p:=⟨F.heap.size,k+j,none⟩) (Nat.le_refl _) _⟩,by simp[intOf];omega⟩
 obtain rfl:k=g:=by omega
 have U:=Ar (n.out.fin V.out);have X:=Ar n.out.lt;have hU:=d.u32s;rw[r]at hU
 go_wp2_with (go_at_call 308;refine rR (Ci _ (k+f) (k+f) l _ (by omega) (Nat.le_refl _) hU) λw5 I=>?_)
 go_ret;have hN:=(d.keep I).natV (base:=w.heap.size) X.out r (by omega) o.size U.out;exact⟨_,rfl,hN,An q I⟩
theorem Alk(a:b<BB) (c:f<BB):bits .or .u64 ((b:Int)*4294967296) (f:Int)=((b*BB+f:Nat):Int):=by
 unfold BB at *
 rw[bits_join .u64 64 (by decide) wraps_u64 32 _ _ (by omega) (by omega) (by omega) (by omega) (by omega) (by omega)];omega
theorem dv(A:Option Addr) (O b a d:Nat) (w:World) (Q:(lmb a).length=b) (ar:b<=100000) (a8:b<=O) (hA:Hn w A b (lmb a)) (hd:0<d) (t:d<BB) :
 Calls Tryz.prog 328 #[.slice A b O,.int .u32 (d:Int)] w λe S=>∃v,e=.returned (.tuple #[v,.int .u32 ((a % d:Nat):Int)])/\Ce S w.heap.size v (a / d)/\Be w S:=by
 let⟨Z,ak,hZ⟩:=Fb b (by omega);have G:=Ar Q;have m:=Ar t;have WD:=Ds (z:=(d:Int)) (by omega) (by unfold BB at t;omega);clear Q t;go_in;go_upto_region 4 with fail;go_loopw [7,8] (λr i wr=>∃(k j:Nat) (z:Int) (l:List Nat),k<=b/\z=(k:Int)-1/\i=.int .i64 z/\r=.int .u64 (j:Int)/\Hid (ShoI a d k j b l)/\Ka wr w.heap.size l/\Be w wr) λ_ i _=>(intOf i+1).toNat
 case atStart=>exact⟨b,0,_,_,Nat.le_refl _,rfl,rfl,rfl,Ar (ShoI.zero hd G.out),hZ w,blA⟩
 obtain⟨k,j,z,l,hk,R,rfl,rfl,h,c,o⟩:=hrel;have u:=h.out.len;cases k with
 | zero =>
   obtain rfl:z = -1:=by omega
   clear R;let⟨M,N⟩:=h.out.fin;have W:=Ar M;have F:=Ar N;have H:=Ar h.out.lt;have g:=h.out.rl;have P:=c.u32s;rw[u]at P;have T:(j:Int) % 4294967296=(j:Int):=by have:=m.out;unfold BB at this;omega
   clear h M N g
   go_wp2_with (go_at_call 308;refine rR (Ci _ b b l _ (by omega) (Nat.le_refl _) P) λw5 B=>?_)
   go_ret2
   have hN:=(c.keep B).natV (base:=w.heap.size) H.out u (by omega) (Nat.le_refl _) W.out;exact⟨_,by rw[<-F.out];rfl,hN,An o B⟩
 | succ k =>
   obtain rfl:z=(k:Int):=by omega
   clear R;obtain⟨b1,o1,rfl,Y⟩:=(hA.keep o).at_ (show k<b by omega);let⟨c1,f1⟩:=c.cell (k:=k) (by omega);have D:=Cv a k;let⟨s,E⟩:∃s,s=j*BB+lim a k:=⟨_,rfl⟩
   let⟨n,K,f⟩:=h.out.step m.out (by omega) E;have g:=h.out.rl;let⟨x,L⟩:=gN (lim a k)
   have C:gu (lmb a) k=x:=L;rw[C]at Y;rw[L]at D E;have y:j<BB:=Nat.lt_trans g m.out;have W1:=Ds (z:=(x:Int)) (by omega) (by unfold BB at D;omega);have W2:=Ds (z:=(j:Int)*4294967296) (by omega) (by unfold BB at y;omega);have X:=Alk y D;rw[<-E]at X;let⟨q,hq⟩:=gN (s / d)
   let⟨r,J⟩:=gN (s % d)
   rw[hq]at f;rw[hq,J]at n;have I:=Ar n;have z1:(0:Int)<=(k:Int):=by omega
   have z2:(k:Int)<(b:Int):=by omega
   have T:(q:Int) % 4294967296=(q:Int):=by unfold BB at f;omega
   have U:(s:Int) / (d:Int)=(q:Int):=by rw[<-hq];rfl
   have V:(s:Int) % (d:Int)=(r:Int):=by rw[<-J];rfl
   have E4:Int.tdiv (s:Int) (d:Int)=(q:Int):=by rw[Int.tdiv_eq_ediv_of_nonneg (by omega)];exact U
   have E5:Int.tmod (s:Int) (d:Int)=(r:Int):=by rw[Int.tmod_eq_emod_of_nonneg (by omega)];exact V
   have W4:=Ds (z:=(q:Int)) (by omega) (by unfold BB at f;omega);have ai:(d:Int)≠0:=by omega
   clear L C D h n E K f g y hq J u;go_wp2
   trace_state
   exact⟨⟨k,r,(k:Int)-1,l.set k q,by omega,rfl,by go_num,rfl,I,c.store k q,Ba o (p:=⟨w.heap.size,k,none⟩) (Nat.le_refl _) _⟩,by simp[intOf]⟩
end
section
open Go.RowKit Limb
theorem Aiq:(Tryz.prog.info? 280).map (·.size)=some 1:=by kernel_rfl
theorem Hn.some_addr{w:World}    (h:Hn w (some l) b a):∀j v,(a.map λx:Nat=>(.int .u32 (x:Int):Value))[j]? = some v->w.cell? (l.add j)=some v:=by
 intro j v c;rw[List.getElem?_map]at c
 have f:j<a.length:=by
  rcases Nat.lt_or_ge j a.length with g|g
  .exact g
  rw[List.getElem?_eq_none g]at c;cases c
 rw[Mj f]at c;injection c with c
 subst c;let⟨i,d,e,m⟩:=h.at_ (k:=j) (by rw[<-h.1];exact f);injection e with e
 subst e
 show w.cell? (Addr.add ⟨i,d,none⟩ j)=some (.int .u32 ((gu a j:Nat):Int))
 have e:Addr.add ⟨i,d,none⟩ j=⟨i,d+j,none⟩:=by simp only[Addr.add];split<;>simp_all
 rw[e,m]
theorem Anc{w:World} {c:Nat}   (i:Ka w b (List.replicate f 0)) (j:Hn w (some l) f a) (n:Be e w) (p:e.heap.size<=b):∃h,(∀g,(Builtin.copy_ #[167,167] g #[.slice (some ⟨b,0,none⟩) f f,.slice (some l) f c]).run Tryz.prog w=.ok (goInt f) h)/\Ka h b a/\Be e h:=by
 have d:=j.1;refine⟨w.setRow b (vU a),λg=>?_,setRow_heap w b _ _ _ _ i,n.trans ⟨rfl,rfl,rfl,by simp[World.setRow],λk q=>setRow_other w b k _ (by omega)⟩⟩;have o:=run_copy_row (P:=Tryz.prog) w 167 167 g 280 b 0 f f l f c (vU (List.replicate f 0)) 280 (a.map λx:Nat=>(.int .u32 (x:Int):Value)) Tryz.underlying167 Aiq i (by simp[d]) j.some_addr (by simp[vU,d]) (by intro u m;simp at m;obtain⟨x,-,rfl⟩:=m;rfl);rw[o]
 congr 1
 .rw[List.length_map,d]
 congr 1
 simp[vU,d]
theorem Ui(A:Option Addr) (i d a:Nat) (w:World) (o:(lmb a).length=d) (E:d<=100000) (r:d<=i) (B:A=none->i=0) (u:Hn w A d (lmb a)) :
 Calls Tryz.prog 310 #[.slice A d i] w λe s=>∃v,e=.returned v/\Ce s w.heap.size v a/\Be w s:=by
 have y:trl (lmb a) d=d:=by rw[<-o];exact Gv a
 have h:=Ar y;have g:=Ar o;let⟨Z,k,D⟩:=Fb d (by omega);clear y o;go_in
 go_upto_region 3 with (go_at_call 308;refine rR (Ci A i d (lmb a) _ (by omega) r u) λt b=>?_;rw[h.out])
 have x:=D t;have j:=Ao b (.cells Z 280);have l:=(u.keep b).keep (Below.alloc bl0 (Nat.le_refl _) (.cells Z 280));cases A with
 | none =>
   have z:=B rfl;obtain rfl:d=0:=by omega
   subst z;have f:=λF=>run_copy_nil (P:=Tryz.prog) (t.alloc (.cells Z 280)) 167 167 F 280 ⟨t.heap.size,0,none⟩ 0 0 Tryz.underlying167 (by rw[Aiq];rfl)
   clear k
   go_wp2_with (at_builtin;refine I2 rfl _ _ 167 167 rfl rfl rfl f ?_)
   go_ret;refine⟨_,rfl,?_,j⟩
   obtain rfl:a=0:=by
    have:=Ep a;rw[List.eq_nil_of_length_eq_zero g.out]at this;exact this.symm
   have:=x.natV (base:=w.heap.size) (n:=0) (v:=0) (Gh 0) rfl (by omega) b.size rfl;exact this
 | some p =>
   let⟨s,f,m,q⟩:=Anc (c:=i) x l j b.size;clear k
   go_wp2_with (at_builtin;refine I2 rfl _ _ 167 167 rfl rfl rfl f ?_)
   go_ret;refine⟨_,rfl,?_,q⟩;have C:=m.natV (base:=w.heap.size) (Dj a) g.out (by omega) b.size (Ep a)
   rwa [h.out] at C
theorem Uj(A:Option Addr) (X b a s:Nat) (w:World) (ha:(lmb a).length=b) (au:b<=100000) (ar:b<=X) (hA:Hn w A b (lmb a)) (hs:s<=31) :
 Calls Tryz.prog 330 #[.slice A b X,(s:Int)] w λe U=>∃g l,e=.returned (.slice (some ⟨g,0,none⟩) (b+1) (b+1))/\w.heap.size<=g/\g<U.heap.size/\Ka U g l/\l.length=b+1/\(∀x∈l,x<BB)/\val l=a*2 ^ s/\Be w U:=by
 let⟨Z,t,Y⟩:=Fb (b+1) (by omega);have Q:∀w,(Instr.makeSlice 167 (.int .i64 ((b:Int)+1)) (.int .i64 ((b:Int)+1))).run Tryz.prog w=.ok (.slice (some ⟨w.heap.size,0,none⟩) (b+1) (b+1)) (w.alloc (.cells Z 280)):=λw=>by have:=t w;rwa [Int.natCast_add] at this
 have K:=Ar ha;clear t ha;go_in;go_upto_region 3 with fail;go_loopw [6,7,8,15] (λ_ _ _ i wr=>∃(k:Nat) (l:List Nat),k<=b/\i=.int .i64 k/\Hid (l.length=b+1/\(∀x∈l,x<BB)/\val l=(a % BB ^ k)*2 ^ s/\l.getD k 0<2 ^ s/\∀j,k<j->l.getD j 0=0)/\Ka wr w.heap.size l/\Be w wr) λ_ _ _ i _=>b-(intOf i).toNat
 case atStart=>exact⟨0,_,Nat.zero_le _,rfl,Ar ⟨List.length_replicate,Gh _,by rw[E7,Nat.pow_zero,Nat.mod_one,Nat.zero_mul],by rw[G4];exact Nat.pow_pos (by decide),λj _=>G4 _ _⟩,Y w,blA⟩
 clear Q Y;obtain⟨k,l,hk,rfl,V,o,v⟩:=hrel;let⟨B,n,R,hg,T⟩:=V.out;have M:=o.lt;by_cases N:k<b
 .obtain⟨b1,o1,rfl,h1⟩:=(hA.keep v).at_ N;let⟨c1,f1⟩:=o.cell (k:=k) (by omega);let⟨c2,f2⟩:=o.cell (k:=k+1) (by omega);have F:=Cv a k;let⟨x,J⟩:=gN (lim a k)
  have H:gu (lmb a) k=x:=J;rw[H]at h1;rw[J]at F;let⟨I,D,E⟩:=Ajm F hs;have q:=Nat.mod_add_div (x*2 ^ s) BB;let⟨d,h⟩:=gN (x*2 ^ s % BB:Nat)
  let⟨c,f⟩:=gN (x*2 ^ s / BB:Nat)
  let⟨m,O⟩:=gN (x*2 ^ s:Nat)
  rw[h]at I E;rw[f]at D;rw[h,f]at q;have G:2 ^ s<=2147483648:=Nat.pow_le_pow_right (by decide) hs;have W:=Ar (Ajp (r:=l) (k:=k) (a:=a) (by omega) (T (k+1) (by omega)) (by rw[J];exact q.symm) R);rw[O]at h f q;let⟨y,S⟩:=gN (gu l k)
  have C:l.getD k 0=y:=S;rw[S]at c1;rw[C]at hg;have L:Hid ((((l.set k (y+d)).set (k+1) c).length=b+1)/\(∀x∈(l.set k (y+d)).set (k+1) c,x<BB)/\val ((l.set k (y+d)).set (k+1) c)=(a % BB ^ (k+1))*2 ^ s/\((l.set k (y+d)).set (k+1) c).getD (k+1) 0<2 ^ s/\∀j,k+1<j->((l.set k (y+d)).set (k+1) c).getD j 0=0):=Ar ⟨by simp[B],Hq (Hq n (by omega)) (by unfold BB;omega),by rw[<-C];exact W.out,by rw[Fc (by rw[List.length_set];omega),if_pos rfl];exact D,λj hj=>by rw[Fc (by rw[List.length_set];omega),if_neg (by omega),Fc (by omega),if_neg (by omega)];exact T j (by omega)⟩
  have P:m<18446744073709551616:=by
   have:x*2 ^ s<=4294967295*2147483648:=Nat.mul_le_mul (by unfold BB at F;omega) G;omega
  have W1:=Ds (z:=(x:Int)) (by omega) (by unfold BB at F;omega);have P1:(x:Int)*2 ^ s=(m:Int):=by rw[<-O];simp
  have W2:IntKind.u64.wrap ((x:Int)*2 ^ s)=(m:Int):=by rw[P1];exact Ds (by omega) (by omega)
  have E1:(m:Int) % 4294967296=(d:Int):=by rw[<-h];unfold BB;omega
  have E2:(m:Int) / 4294967296=(c:Int):=by rw[<-f];unfold BB;omega
  have E3:bits .or .u32 (y:Int) (d:Int)=((y+d:Nat):Int):=by
   have e:(2:Int) ^ s=((2 ^ s:Nat):Int):=by simp
   rw[bits_join_low .u32 32 (by decide) wraps_u32 s _ _ (by omega) (by rw[e];omega) (by omega) (by omega) (by rw[e];omega) (by unfold BB at E;omega)];omega
  have E4:(c:Int) % 4294967296=(c:Int):=by omega
  have z1:(0:Int)<=(s:Int):=by omega
  have z2:((s:Int)).toNat=s:=by omega
  clear J H F I D E q h f O W V B n R hg T S C P;go_wp2;have u:=(o.store k (y+d)).store (k+1) c;rw[Int.natCast_add]at u;exact⟨⟨k+1,(l.set k (y+d)).set (k+1) c,by omega,by go_num,L,u,Ba (Ba v (p:=⟨w.heap.size,k,none⟩) (Nat.le_refl _) _) (p:=⟨w.heap.size,k+1,none⟩) (Nat.le_refl _) _⟩,by simp[intOf];omega⟩
 obtain rfl:k=b:=by omega
 go_wp2;go_ret;exact⟨w.heap.size,l,rfl,Nat.le_refl _,M,o,B,n,by rw[R,Di (Nat.le_of_eq K.out)],v⟩
theorem dw(A:Option Addr) (ca c s:Nat) (l:List Nat) (w:World) (b0:c<=100000) (V:Hn w A c l) (Y:∀x∈l,x<BB) (hs:s<=31) :
 Calls Tryz.prog 332 #[.slice A c ca,(s:Int)] w λe w'=>∃v,e=.returned v/\Ce w' w.heap.size v (val l / 2 ^ s)/\Be w w':=by
 let⟨Z,U,X⟩:=Fb c (by omega);have O:=Ar Y;have C:=Ar V.1;clear Y;go_in;go_upto_region 3 with fail;go_loopw [6,7,8,14] (λ_ _ _ i wr=>∃(k:Nat) (r:List Nat),k<=c/\i=.int .i64 k/\Hid (r.length=c/\(∀x∈r,x<BB)/\val r=(val l / 2 ^ s) % BB ^ k/\∀j,k<=j->r.getD j 0=0)/\Ka wr w.heap.size r/\Be w wr) λ_ _ _ i _=>c-(intOf i).toNat
 case atStart=>exact⟨0,_,Nat.zero_le _,rfl,Ar ⟨List.length_replicate,Gh _,by rw[E7,Nat.pow_zero,Nat.mod_one],λj _=>G4 _ _⟩,X w,blA⟩
 clear U X;obtain⟨k,r,hk,rfl,N,b,m⟩:=hrel;let⟨f,a,J,M⟩:=N.out;have aw:=b.lt;by_cases T:k<c
 .have H:=V.keep m;obtain⟨b1,o1,rfl,Q⟩:=H.at_ T;let⟨c1,f1⟩:=b.cell (k:=k) (by omega);have P:=Ex O.out k;have F:=Ex O.out (k+1);have D:=Ar (Afb O.out hs (r:=r) (k:=k) (by omega) (M k (Nat.le_refl _)) J);let⟨x,K⟩:=gN (l.getD k 0)
  have o:gu l k=x:=K;rw[o]at Q;rw[K]at P;let⟨y,B⟩:=gN (l.getD (k+1) 0)
  have u:gu l (k+1)=y:=B;rw[B]at F;rw[K,B]at D;let⟨q,hq⟩:=gN ((x+BB*y) / 2 ^ s:Nat)
  let⟨d,g⟩:=gN (q % BB:Nat)
  rw[hq,g]at D;have h:d<BB:=by rw[<-g];exact Nat.mod_lt _ (by decide)
  have E:Hid ((r.set k d).length=c/\(∀x∈r.set k d,x<BB)/\val (r.set k d)=(val l / 2 ^ s) % BB ^ (k+1)/\∀j,k+1<=j->(r.set k d).getD j 0=0):=Ar ⟨by simp[f],Hq a h,D.out,λj hj=>by rw[Fc (by omega),if_neg (by omega)];exact M j (by omega)⟩;have W1:=Ds (z:=(x:Int)) (by omega) (by unfold BB at P;omega);have W3:=Ds (z:=(y:Int)) (by omega) (by unfold BB at F;omega);have n:(2:Int) ^ s=((2 ^ s:Nat):Int):=by simp
  have E1:(q:Int) % 4294967296=(d:Int):=by rw[<-g];unfold BB;omega
  have z1:(0:Int)<=(s:Int):=by omega
  by_cases S:k+1<c
  .obtain⟨b2,o2,G,h2⟩:=H.at_ S;injection G with G
   injection G with G e3
   subst G e3;rw[u]at h2;have W4:=Ds (z:=(y:Int)*4294967296) (by omega) (by unfold BB at F;omega)
   have E3:bits .or .u64 (x:Int) ((y:Int)*4294967296)=((x+BB*y:Nat):Int):=by
    unfold BB at *
    rw[bits_join_low .u64 64 (by decide) wraps_u64 32 _ _ (by omega) (by omega) (by omega) (by omega) (by omega) (by omega)];omega
   let⟨t,ht⟩:=gN (x+BB*y:Nat)
   rw[ht]at E3 hq;have E4:Int.fdiv (t:Int) (2 ^ s)=(q:Int):=by rw[Int.fdiv_eq_ediv_of_nonneg _ (by rw[n];exact Int.natCast_nonneg _),n,<-hq];rfl
   have E5:(t:Int) / (2 ^ s)=(q:Int):=by rw[n,<-hq];rfl
   have B1:((k:Int)+1)<(c:Int):=by omega
   have W5:IntKind.u64.wrap (t:Int)=(t:Int):=Ds (by omega) (by rw[<-ht];unfold BB at *;omega);clear K o P B u F hq g h D N f a J M ht n;go_wp2;exact⟨⟨k+1,r.set k d,by omega,by go_num,E,b.store k d,Ba m (p:=⟨w.heap.size,k,none⟩) (Nat.le_refl _) _⟩,by simp[intOf];omega⟩
  have L:y=0:=by rw[<-B,List.getD,List.getElem?_eq_none (by rw[C.out];omega)];rfl
  rw[L,Nat.mul_zero,Nat.add_zero]at hq;have E4:Int.fdiv (x:Int) (2 ^ s)=(q:Int):=by rw[Int.fdiv_eq_ediv_of_nonneg _ (by rw[n];exact Int.natCast_nonneg _),n,<-hq];rfl
  have E5:(x:Int) / (2 ^ s)=(q:Int):=by rw[n,<-hq];rfl
  have B1:¬((k:Int)+1)<(c:Int):=by omega
  clear K o P B u F hq g h D N f a J M L n;go_wp2;exact⟨⟨k+1,r.set k d,by omega,by go_num,E,b.store k d,Ba m (p:=⟨w.heap.size,k,none⟩) (Nat.le_refl _) _⟩,by simp[intOf];omega⟩
 obtain rfl:k=c:=by omega
 have W:=b.u32s;rw[f]at W;have R:=Ar a
 have HV:Hid (val r=val l / 2 ^ s):=Ar (by
  rw[J];have Q:=Ql O.out;rw[C.out]at Q;exact Nat.mod_eq_of_lt (Nat.lt_of_le_of_lt (Nat.div_le_self _ _) Q))
 clear N a J M
 go_wp2_with (go_at_call 308;refine rR (Ci _ k k r _ (by omega) (Nat.le_refl _) W) λw5 I=>?_)
 go_ret;have hN:=(b.keep I).natV (base:=w.heap.size) R.out f (by omega) (Nat.le_refl _) HV.out;exact⟨_,rfl,hN,An m I⟩
end
namespace Limb
theorem qe(b:∀x∈a,x<BB) {m:Nat} (h:∀j,m<=j->a.getD j 0=0):val a<BB ^ m:=by
 rcases Nat.lt_or_ge m a.length with g|g
 .have e:=I3 a m (by omega);rw[drop_zero h,Nat.mul_zero,Nat.add_zero]at e;rw[e];exact Lu b (by omega)
 exact Nat.lt_of_lt_of_le (Ql b) (Nat.pow_le_pow_right (by decide) g)
structure DgI (L0:List Nat) (V q i k c o:Nat) (L:List Nat):Prop where
 len:L.length=L0.length
 lt:∀x∈L,x<BB
 cl:c<BB
 ol:o<=1
 hi:∀j,i+k<=j->L.getD j 0=L0.getD j 0
 e:val L+BB ^ i*q*(V % BB ^ k)=val L0+BB ^ (i+k)*(c+o)
theorem DgI.zero(b:∀x∈a,x<BB) (V q i:Nat):DgI a V q i 0 0 0 a :=
 ⟨rfl,b,by decide,by omega,λ_ _=>rfl,by simp[Nat.mod_one]⟩
theorem DgI.step{q c:Nat} (l:DgI a b q f g c h j) (hq:q<BB) (y:f+g<a.length) (r:i<BB) (p:k<=1) (e:i+(c+q*lim b g) % BB+h=a.getD (f+g) 0+BB*k) :
 DgI a b q f (g+1) ((c+q*lim b g) / BB) k (j.set (f+g) i):=by
 have o:=l.len;have w:=l.cl;have t:=Cv b g;have v:q*lim b g<=(BB-1)*(BB-1):=Nat.mul_le_mul (by omega) (by omega);refine⟨by rw[List.length_set];exact o,Hq l.lt r,?_,p,λm x=>?_,?_⟩
 .rw[Nat.div_lt_iff_lt_mul (by decide)];unfold BB at *;omega
 .rw[Fc (by omega),if_neg (by omega)];exact l.hi m (by omega)
 rw[<-l.hi (f+g) (Nat.le_refl _)]at e;have d:=Am9 (u:=j) (j:=f+g) (c:=c) (z:=q*lim b g) (o:=h) (o':=k) (v:=i) (by omega) e;have s:=l.e
 have n:BB ^ f*q*(BB ^ g*lim b g)=BB ^ (f+g)*(q*lim b g):=by
  rw[Nat.pow_add,Nat.mul_assoc,Nat.mul_assoc,Nat.mul_left_comm q]
 rw[Bt,Nat.mul_add,n,<-Nat.add_assoc f g 1];omega
theorem DgI.small{c:Nat} (d:DgI a b f g h c i j) (hq:f<BB):c+f*lim b h<18446744073709551616:=by
 have l:=d.cl;have e:=Cv b h;have k:f*lim b h<=(BB-1)*(BB-1):=Nat.mul_le_mul (by omega) (by omega);unfold BB at *;omega
theorem DgI.top{d L:List Nat} {c v n:Nat} (j:DgI d b f g h c i L) (r:(lmb b).length=h) (s:g+h<d.length) (u:v<BB) (e:v+c+i=d.getD (g+h) 0+BB*n) :
 val (L.set (g+h) v)+f*(b*BB ^ g)=val d+BB ^ (g+h+1)*n:=by
 have t:=j.len;have m:=j.e;rw[Di (a:=b) (k:=h) (by omega)]at m;have q:=Fp (l:=L) (k:=g+h) (x:=v) (by omega);rw[j.hi (g+h) (Nat.le_refl _)]at q;have o:=congrArg (BB ^ (g+h)*·) e;simp only[Nat.mul_add,<-Nat.mul_assoc]at o m;rw[Nat.pow_succ];have p:f*(b*BB ^ g)=BB ^ g*f*b:=by rw[Nat.mul_comm b,<-Nat.mul_assoc,Nat.mul_comm f]
 rw[p];omega
theorem Agv(l:∀x∈j,x<BB) (n:∀c,g+h<c->j.getD c 0=0) (e:val j+f*(b*BB ^ g)=val a+BB ^ (g+h+1)*i) (q:val a / (b*BB ^ g)<=f) (hq2:f<=val a / (b*BB ^ g)+1) (o:0<b*BB ^ g) (u:i<=1) :
 (i=0->f=val a / (b*BB ^ g)/\val j=val a % (b*BB ^ g))/\(i=1->f=val a / (b*BB ^ g)+1/\val j+b*BB ^ g=val a % (b*BB ^ g)+BB ^ (g+h+1)):=by
 have p:=Nat.div_add_mod (val a) (b*BB ^ g);have t:=Nat.mod_lt (val a) o;have r:=qe l (m:=g+h+1) (λc s=>n c (by omega));generalize b*BB ^ g=W at *
 generalize val a / W=Q at *
 generalize val a % W=R at *
 generalize BB ^ (g+h+1)=B at *
 rw[Nat.mul_comm]at p;constructor
 .intro k;rw[k,Nat.mul_zero,Nat.add_zero]at e
  have:f=Q:=by
   rcases Nat.lt_or_ge Q f with d|d
   .obtain rfl:f=Q+1:=by omega
    rw[Nat.add_mul,Nat.one_mul]at e;omega
   omega
  subst this;exact⟨rfl,by omega⟩
 intro k;rw[k,Nat.mul_one]at e
 have:f=Q+1:=by
  rcases Nat.lt_or_ge Q f with d|d
  .omega
  obtain rfl:f=Q:=by omega
  omega
 subst this;rw[Nat.add_mul,Nat.one_mul]at e;exact⟨rfl,by omega⟩
structure AbI (L1:List Nat) (V i k c:Nat) (L:List Nat):Prop where
 len:L.length=L1.length
 lt:∀x∈L,x<BB
 cl:c<=1
 hi:∀j,i+k<=j->L.getD j 0=L1.getD j 0
 e:val L+BB ^ (i+k)*c=val L1+BB ^ i*(V % BB ^ k)
theorem AbI.zero(b:∀x∈a,x<BB) (V i:Nat):AbI a V i 0 0 a :=
 ⟨rfl,b,by omega,λ_ _=>rfl,by simp[Nat.mod_one]⟩
theorem AbI.step{c s:Nat} (h:AbI a b f g c j) (q:f+g<a.length) (k:s=c+(a.getD (f+g) 0+lim b g)) :
 AbI a b f (g+1) (s / BB) (j.set (f+g) (s % BB)):=by
 have i:=h.len;have o:=h.cl;have m:=Cv b g;rw[<-h.hi (f+g) (Nat.le_refl _)]at k;have n:=Ex h.lt (f+g);refine⟨by rw[List.length_set];exact i,Hq h.lt (Nat.mod_lt _ (by decide)),by unfold BB at *;omega,λe p=>?_,?_⟩
 .rw[Fc (by omega),if_neg (by omega)];exact h.hi e (by omega)
 have d:=Ak0 (r:=j) (j:=f+g) (c:=c) (z:=lim b g) (s:=s) (by omega) (by omega);have l:=h.e;rw[Bt,Nat.mul_add,<-Nat.mul_assoc,<-Nat.pow_add,<-Nat.add_assoc f g 1];omega
theorem Ang{c x W a B:Nat} (j:b+g*c=a+W) (m:f+g*x=b+g*h) (e:g*h+g*B*i=g*x+g*c) (l:a+W=k+g*B) (o:f<g*B) (n:i<=1):f=k:=by
 rcases Nat.eq_zero_or_pos i with d|d
 .subst d;rw[Nat.mul_zero]at e;omega
 obtain rfl:i=1:=by omega
 rw[Nat.mul_one]at e;omega
theorem AbI.fin{d L:List Nat} {c:Nat} (e:AbI d b f g c L) (m:∀x∈d,x<BB) (w:(lmb b).length=g) (z:f+g<d.length) (n:∀j,f+g<j->d.getD j 0=0) (p:val d+b*BB ^ f=h+BB ^ (f+g+1)) :
 val (L.set (f+g) ((d.getD (f+g) 0+c) % BB))=h/\∀x∈L.set (f+g) ((d.getD (f+g) 0+c) % BB),x<BB:=by
 have A:=e.len;have i:=Hq (k:=f+g) (x:=(d.getD (f+g) 0+c) % BB) e.lt (Nat.mod_lt _ (by decide));refine⟨?_,i⟩;have o:=e.e;rw[Di (a:=b) (k:=g) (by omega),Nat.mul_comm (BB ^ f) b]at o;have q:=Fp (l:=L) (k:=f+g) (x:=(d.getD (f+g) 0+c) % BB) (by omega);rw[e.hi (f+g) (Nat.le_refl _)]at q
 have u:∀j,f+g+1<=j->(L.set (f+g) ((d.getD (f+g) 0+c) % BB)).getD j 0=0:=λj y=>by
  rw[Fc (by omega),if_neg (by omega),e.hi j (by omega)];exact n j (by omega)
 have s:=qe i u;have r:=Lh (BB ^ (f+g)) (d.getD (f+g) 0+c);have v:=Ex m (f+g);have t:(d.getD (f+g) 0+c) / BB<=1:=by have:=e.cl;unfold BB at *;omega
 rw[Nat.mul_add (BB ^ (f+g)) (d.getD (f+g) 0)]at r;rw[Nat.pow_succ]at p s;exact Ang o q r p s t
end Limb
end Go.Proofs.YtlogblbfbihleaaGreat

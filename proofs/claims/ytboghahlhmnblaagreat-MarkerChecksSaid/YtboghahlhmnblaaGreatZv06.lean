/- Lean texts of the claim. -/
import Derived.Test.YtboghahlhmnblaaGreatZv04
import Derived.Maps.RangeWalk
import Derived.Maps.OwnOps
import Derived.Maps.Views
import Derived.DeepKeys5
namespace Go.Proofs.YtboghahlhmnblaaGreat
set_option linter.all false
set_option maxRecDepth 100000
set_option maxHeartbeats 0
open Go.RowKit Go.Proofs.Tryz
variable{a e j k l m n o:Int}{b r:Nat}{c:Exit->Act->World->Prop}{f y:Rat}{g:World}{h u v:Prop}{i:Operand}{p:Act}{q:List Value}{s:TypeId}{t:Value}{A1 A2 B1 B2 hp hq hs ht x:Int}{cnt d:Nat}{it:Operand}{row:Option Nat}{w':World}
namespace Ears
abbrev P:=Int×Int
def cr(a b c:P):Int:=(b.1-a.1)*(c.2-a.2)-(b.2-a.2)*(c.1-a.1)
def On(a b p:P):Prop:=cr a b p=0/\((a.2<=p.2/\p.2<=b.2)\/(b.2<=p.2/\p.2<=a.2))
def opp(x y:Int):Prop:=(x<0/\0<y)\/(0<x/\y<0)
def Crs(p q s t:P):Prop:=opp (cr p q s) (cr p q t)/\opp (cr s t p) (cr s t q)
def ray(s p q:P):Bool:=decide ((p.2<s.2/\s.2<q.2/\0<cr p q s)\/(q.2<s.2/\s.2<p.2/\cr p q s<0))
def gg(s t p:P):Bool:=decide ((s.2<p.2/\p.2<t.2/\cr s t p<0)\/(t.2<p.2/\p.2<s.2/\0<cr s t p))
def loc(u b w:P):Bool:=decide ((u.2<b.2/\b.2<w.2)\/(¬(w.2<b.2/\b.2<u.2)/\0<cr u b w))
theorem Aqs(a b c:P):cr b c a=cr a b c:=by unfold cr;grind
theorem Aqw(a b c:P):cr b a c = - cr a b c:=by unfold cr;grind
theorem Aqr(a b:P):cr a b a=0:=by unfold cr;grind
theorem Aqu(a b:P):cr a b b=0:=by unfold cr;grind
theorem Ayd(p q s t:P):cr s t q-cr s t p+cr p q t-cr p q s=0:=by unfold cr;grind
theorem Ay6(p q s t:P):cr s t q*p.2-cr s t p*q.2+cr p q t*s.2-cr p q s*t.2=0:=by unfold cr;grind
theorem idp(b:k*l-j*hq+e*m-a*n=0)(c:k-j+e-a=0):j*(hq-l)=e*(m-l)-a*(n-l):=aU
theorem idq(b:k*l-j*hq+e*m-a*n=0)(c:k-j+e-a=0):k*(hq-l)=e*(m-hq)-a*(n-hq):=aU
theorem ids(b:k*l-j*hq+e*m-a*n=0)(c:k-j+e-a=0):a*(n-m)=k*(l-m)-j*(hq-m):=aU
theorem L3{a b:Int}(c:0<a)(d:0<b):0<a*b:=Int.mul_pos c d
theorem neg_mul(b:a<0)(c:0<e):a*e<0:=Int.mul_neg_of_neg_of_pos b c
theorem Aqv{a b:Int}(c:0<a)(d:b<0):a*b<0:=Int.mul_neg_of_pos_of_neg c d
theorem Aqx(b:a<0)(c:e<0):0<a*e:=Int.mul_pos_of_neg_of_neg b c
theorem sgE{a b:Int}(d:0<b)(h:0<a*b:=by omega):0<a:=by
 rcases Int.lt_trichotomy a 0 with c|c|c
 .have:=neg_mul c d;omega
 .subst c;omega
 exact c
theorem sl{a b:Int}(d:0<b)(h:a*b<0:=by omega):a<0:=by
 rcases Int.lt_trichotomy a 0 with c|c|c
 .exact c
 .subst c;omega
 have:=L3 c d;omega
theorem Aza(c:e<0)(h:0<a*e):a<0:=by
 rcases Int.lt_trichotomy a 0 with b|b|b
 .exact b
 .subst b;omega
 have:=Aqv b c;omega
theorem sln(c:e<0)(h:a*e<0:=by omega):0<a:=by
 rcases Int.lt_trichotomy a 0 with b|b|b
 .have:=Aqx b c;omega
 .subst b;omega
 exact b
-- p below s below t below q: s and t lie on one side of pq
theorem Av3(e:B2*hp-B1*hq+A2*hs-A1*ht=0)(f:B2-B1+A2-A1=0)
 (l:hp<hs) (m:hs<ht) (o:ht<hq) (q:¬A1=0) (r:¬A2=0) (n:¬(opp A1 A2/\opp B1 B2)):(0<A1↔0<A2):=by
 have p:=idp e f;have iq:=idq e f;have c:0<hq-hp:=by omega
 have d:opp A1 A2->opp B1 B2:=by
  rintro(⟨a,b⟩|⟨a,b⟩)
  .have g:=L3 b (show 0<hs-hp by omega);have i:=neg_mul a (show 0<ht-hp by omega);have j:=Aqv b (show hs-hq<0 by omega);have k:=Aqx a (show ht-hq<0 by omega);exact .inr ⟨sgE c,sl c⟩
  have g:=neg_mul b (show 0<hs-hp by omega);have i:=L3 a (show 0<ht-hp by omega);have j:=Aqx b (show hs-hq<0 by omega);have k:=Aqv a (show ht-hq<0 by omega);exact .inl ⟨sl c,sgE c⟩
 have:¬opp A1 A2:=λh=>n ⟨h,d h⟩
 unfold opp at this;omega
-- p below s below q below t
theorem Axg(i:B2*hp-B1*hq+A2*hs-A1*ht=0)(j:B2-B1+A2-A1=0)
 (p:hp<hs) (q:hs<hq) (r:hq<ht) (v:¬A1=0) (w:¬B2=0) (n:¬(opp A1 A2/\opp B1 B2)):(0<A1↔B2<0):=by
 have s:=ids i j;have iq:=idq i j;have c:0<ht-hs:=by omega
 have d:0<hq-hs:=by omega
 have e:hp-hs<0:=by omega
 have f:0<hq-hp:=by omega
 have g:hs-hq<0:=by omega
 have h:0<ht-hq:=by omega
 have t:¬(0<A1/\0<B2):=by
  rintro⟨a,b⟩;have k:=L3 a c;have l:=Aqv b e;have m:=L3 b f;have o:=L3 a h;exact n ⟨.inr ⟨a,Aza g (by omega)⟩,.inl ⟨sl d,b⟩⟩
 have u:¬(A1<0/\B2<0):=by
  rintro⟨a,b⟩;have k:=neg_mul a c;have l:=Aqx b e;have m:=neg_mul b f;have o:=neg_mul a h;exact n ⟨.inl ⟨a,sln g⟩,.inr ⟨sgE d,b⟩⟩
 omega
theorem Ax2(o:k*l-j*hq+e*m-a*n=0)(p:k-j+e-a=0)
 (b:m<l) (c:l<n) (d:n<hq) (g:¬e=0) (i:¬j=0) (f:¬(opp a e/\opp j k)):(0<e↔j<0):=by
 have:=Axg (A1:=j) (A2:=k) (B1:=a) (B2:=e) (hp:=m) (hq:=n) (hs:=l) (ht:=hq) (by omega) (by omega) b c d i g λh=>f ⟨h.2,h.1⟩;omega
theorem Aw0(o:k*l-j*hq+e*m-a*n=0)(p:k-j+e-a=0)
 (b:m<l) (c:l<hq) (d:hq<n) (g:¬j=0) (i:¬k=0) (f:¬(opp a e/\opp j k)):(0<j↔0<k) :=
 Av3 (A1:=j) (A2:=k) (B1:=a) (B2:=e) (hp:=m) (hq:=n) (hs:=l) (ht:=hq) (by omega) (by omega) b c d g i λh=>f ⟨h.2,h.1⟩
structure NM (p q s t:P):Prop where
 ns:¬On p q s
 nt:¬On p q t
 np:¬On s t p
 nq:¬On s t q
 nx:¬Crs p q s t
theorem On.symm{a b p:P}(h:On a b p):On b a p:=by
 obtain⟨c,d⟩:=h;exact⟨by rw[Aqw,c];rfl,d.symm⟩
theorem opp.symm(h:opp x a):opp a x:=by unfold opp at *;omega
theorem opp.neg(h:opp x a):opp (-x) (-a):=by unfold opp at *;omega
theorem Crs.swap{p q s t:P}(h:Crs p q s t):Crs s t p q:=⟨h.2,h.1⟩
theorem Crs.flip{p q s t:P}(h:Crs p q s t):Crs q p s t:=by
 obtain⟨a,b⟩:=h;exact⟨by rw[Aqw p q s,Aqw p q t];exact a.neg,b.symm⟩
theorem NM.swap{p q s t:P}(h:NM p q s t):NM s t p q:=⟨h.np,h.nq,h.ns,h.nt,λx=>h.nx x.swap⟩
theorem NM.flip{p q s t:P}(h:NM p q s t):NM q p s t:=⟨λx=>h.ns x.symm,λx=>h.nt x.symm,h.nq,h.np,λx=>h.nx x.flip⟩
theorem NM.flip2{p q s t:P}(h:NM p q s t):NM p q t s:=h.swap.flip.swap
theorem Ars(s p q:P):ray s q p=ray s p q:=by
 unfold ray;rw[Aqw p q s];rw[decide_eq_decide];omega
theorem Ar2(s t p:P):gg t s p=gg s t p:=by
 unfold gg;rw[Aqw s t p];rw[decide_eq_decide];omega
theorem Axh{d:Prop}[Decidable h][Decidable u][Decidable v][Decidable d](a:(h↔u)↔(v↔d)):(decide h ^^ decide u)=(decide v ^^ decide d):=by
 by_cases h<;>by_cases u<;>by_cases v<;>by_cases d<;>simp_all
theorem As9{p q s t:P}(h:NM p q s t)(e:p.2<q.2)(f:s.2<t.2)(v:p.2≠s.2)(w:p.2≠t.2)(x:q.2≠s.2)(y:q.2≠t.2):
 (ray s p q ^^ ray t p q)=(gg s t p ^^ gg s t q):=by
 have a:=Ay6 p q s t;have b:=Ayd p q s t;obtain⟨j,k,l,n4,n⟩:=h;unfold On at j k l n4;unfold Crs at n;unfold ray gg;generalize cr p q s=A1 at *
 generalize cr p q t=A2 at *
 generalize cr s t p=B1 at *
 generalize cr s t q=B2 at *
 generalize p.2=hp at *
 generalize q.2=hq at *
 generalize s.2=hs at *
 generalize t.2=ht at *
 have g:(((hp<hs/\hs<hq/\0<A1)↔(hp<ht/\ht<hq/\0<A2))↔((hs<hp/\hp<ht/\B1<0)↔(hs<hq/\hq<ht/\B2<0))):=by
  by_cases i:hp<hs
  .by_cases c:ht<hq
   .have:=Av3 a b i f c (by omega) (by omega) n;omega
   by_cases d:hs<hq
   .have:=Axg a b i d (by omega) (by omega) (by omega) n;omega
   omega
  by_cases c:ht<hq
  .by_cases d:hp<ht
   .have:=Ax2 a b (by omega) d c (by omega) (by omega) n;omega
   omega
  have:=Aw0 a b (by omega) e (by omega) (by omega) (by omega) n;omega
 have m:¬(hq<hs/\hs<hp/\A1<0):=by omega
 have o:¬(hq<ht/\ht<hp/\A2<0):=by omega
 have r:¬(ht<hp/\hp<hs/\0<B1):=by omega
 have u:¬(ht<hq/\hq<hs/\0<B2):=by omega
 simp only[m,o,r,u,or_false];exact Axh g
theorem Ay4{p q s t:P}(h:NM p q s t)(g:p.2≠q.2)(i:s.2≠t.2)(a:p.2≠s.2)(b:p.2≠t.2)(d:q.2≠s.2)(f:q.2≠t.2):
 (ray s p q ^^ ray t p q)=(gg s t p ^^ gg s t q):=by
 rcases Int.lt_or_gt_of_ne g with c|c<;>rcases Int.lt_or_gt_of_ne i with e|e
 .exact As9 h c e a b d f
 .have:=As9 h.flip2 c e b a f d;rw[Ar2 s t p,Ar2 s t q,Bool.xor_comm]at this;exact this
 .have:=As9 h.flip c e d f a b;rw[Ars s p q,Ars t p q,Bool.xor_comm (gg s t q)]at this;exact this
 have:=As9 h.flip.flip2 c e f d b a;rw[Ar2 s t p,Ar2 s t q,Ars s p q,Ars t p q,Bool.xor_comm,Bool.xor_comm (gg s t q)]at this;exact this
theorem Ay8{d:Prop}[Decidable h][Decidable u][Decidable v][Decidable d](a:(h↔(u↔v))↔d:=by omega):(decide h ^^ decide u ^^ decide v)=decide d:=by
 by_cases h<;>by_cases u<;>by_cases v<;>by_cases d<;>simp_all
theorem Axt{u b w:P}(d:u.2≠b.2)(e:b.2≠w.2)(f:u.2≠w.2)(a:¬On b w u)(c:¬On u b w):
 (gg b w u ^^ ray w u b ^^ loc u b w)=decide (b.2<w.2):=by
 unfold gg ray loc;unfold On at a c;rw[Aqs u b w]at *
 generalize cr u b w=D at *
 generalize u.2=hu at *
 generalize b.2=hb at *
 generalize w.2=hw at *
 exact Ay8
theorem Cr{b w x:P}(d:b.2≠w.2)(e:w.2≠x.2)(f:b.2≠x.2)(a:¬On b w x)(c:¬On w x b):
 (gg b w x ^^ ray b w x ^^ loc b w x)=decide (b.2<w.2):=by
 unfold gg ray loc;unfold On at a c;rw[Aqs b w x]at *
 generalize cr b w x=D at *
 generalize b.2=hu at *
 generalize w.2=hb at *
 generalize x.2=hw at *
 exact Ay8
end Ears
namespace Ears
def ch(x:P):List P->List (P×P)
 | []=>[]
 | y::l=>(x,y)::ch y l
def E:List P->List (P×P)
 | []=>[]
 | x::l=>ch x (l++[x])
def fin(x:P):List P->P
 | []=>x
 | y::l=>fin y l
def par(f:P×P->Bool):List (P×P)->Bool
 | []=>false
 | e::l=>f e ^^ par f l
theorem Aq5(f:P×P->Bool)(a b:List (P×P)):par f (a++b)=(par f a ^^ par f b):=by
 induction a with
 | nil=>simp[par]
 | cons e a ih=>simp[par,ih]
theorem Axu(f g:P×P->Bool)(a:List (P×P)):par (λe=>f e ^^ g e) a=(par f a ^^ par g a):=by
 induction a with
 | nil=>rfl
 | cons e a ih =>
   simp only[par,ih];cases f e<;>cases g e<;>cases par f a<;>cases par g a<;>rfl
theorem Avk{f g:P×P->Bool}{a:List (P×P)}(h:∀e∈a,f e=g e):par f a=par g a:=by
 induction a with
 | nil=>rfl
 | cons e a ih =>
   simp only[par];rw[h e aL,ih λx b=>h x (by simp[b])]
theorem Avj{f:P×P->Bool}{a:List (P×P)}(h:∀e∈a,f e=false):par f a=false:=by
 rw[Avk h];induction a with
 | nil=>rfl
 | cons e a ih=>simp only[par];rw[ih λx b=>h x (by simp[b])];rfl
theorem Asi(x:P)(l:List P)(y:P)(m:List P):ch x (l++y::m)=ch x (l++[y])++ch y m:=by
 induction l generalizing x with
 | nil=>simp[ch]
 | cons z l ih=>simp only[cV,ch,ih z]
theorem Are(x:P)(l:List P)(y:P):ch x (l++[y])=ch x l++[(fin x l,y)]:=by
 induction l generalizing x with
 | nil=>simp[ch,fin]
 | cons z l ih=>simp only[cV,ch,fin,ih z]
theorem wq(x:P)(l:List P)(y:P):fin x (l++[y])=y:=by
 induction l generalizing x with
 | nil=>rfl
 | cons z l ih=>exact ih z
theorem As7(x:P)(l:List P):fin x l∈x::l:=by
 induction l generalizing x with
 | nil=>simp[fin]
 | cons z l ih=>have:=ih z;simp only[fin];exact List.mem_cons_of_mem _ this
theorem Axv{f:P×P->Bool}{a:P->Bool}{x:P}{l:List P}(h:∀e∈ch x l,f e=(a e.1 ^^ a e.2)):par f (ch x l)=(a x ^^ a (fin x l)):=by
 induction l generalizing x with
 | nil=>simp[ch,par,fin]
 | cons y l ih =>
   simp only[ch,par,fin];rw[h (x,y) (by simp[ch]),ih λe b=>h e (by simp[ch,b])];cases a x<;>cases a y<;>cases a (fin y l)<;>rfl
theorem Aq8{x:P}{l:List P}{e:P×P}(h:e∈ch x l):e.1∈x::l/\e.2∈l:=by
 induction l generalizing x with
 | nil=>simp[ch]at h
 | cons y l ih =>
   simp only[ch,bO]at h;rcases h with rfl|h
   .simp
   have:=ih h;exact⟨List.mem_cons_of_mem _ this.1,List.mem_cons_of_mem _ this.2⟩
theorem Arc{l:List P}{e:P×P}(h:e∈E l):e.1∈l/\e.2∈l:=by
 cases l with
 | nil=>simp[E]at h
 | cons x l =>
   have:=Aq8 h;simp only[bO,bD,List.not_mem_nil,or_false]at this ⊢;exact⟨aU,aU⟩
theorem Ax8(A B:List P):∃X Y,E (A++B)=X++Y/\E (B++A)=Y++X:=by
 cases A with
 | nil=>exact⟨[],E B,aL,aL⟩
 | cons x a =>
   cases B with
   | nil=>exact⟨E (x::a),[],aL,aL⟩
   | cons y b =>
     refine⟨ch x (a++[y]),ch y (b++[x]),?_,?_⟩
     .simp only[E,cV,List.append_assoc];rw[Asi]
     simp only[E,cV,List.append_assoc];rw[Asi]
theorem Aqt{A B:List P}{e:P×P}(h:e∈E (A++B)):e∈E (B++A):=by
 let⟨X,Y,a,b⟩:=Ax8 A B;rw[a]at h;rw[b];simp only[bD]at h ⊢;exact h.symm
theorem Axw(f:P×P->Bool)(A B:List P):par f (E (A++B))=par f (E (B++A)):=by
 let⟨X,Y,a,b⟩:=Ax8 A B;rw[a,b,Aq5,Aq5,Bool.xor_comm]
structure Sim (l:List P):Prop where
 nd:l.Nodup
 ht:∀p∈l,∀q∈l,p.2=q.2->p=q
 on:∀e∈E l,∀r∈l,On e.1 e.2 r->r=e.1\/r=e.2
 cx:∀e∈E l,∀f∈E l,¬Crs e.1 e.2 f.1 f.2
theorem Ard{A B:List P}{r:P}(h:r∈A++B):r∈B++A:=by
 simp only[bD]at h ⊢;exact h.symm
theorem Sim.rot{A B:List P}(h:Sim (A++B)):Sim (B++A):=by
 refine⟨?_,λp j q hq=>h.ht p (Ard j) q (Ard hq),λe c r k=>h.on e (Aqt c) r (Ard k),λe c f i=>h.cx e (Aqt c) f (Aqt i)⟩;have:=h.nd;rw[List.nodup_append]at this ⊢;exact⟨this.2.1,this.1,λa d b g=>λe=>this.2.2 b g a d e.symm⟩
theorem Sim.ne{l:List P}(h:Sim l){p q:P}(a:p∈l)(hq:q∈l)(n:p≠q):p.2≠q.2:=λe=>n (h.ht p a q hq e)
theorem Sim.nm{l:List P}(h:Sim l){e f:P×P}(a:e∈E l)(b:f∈E l)(g:e.1≠f.1)(i:e.1≠f.2)(j:e.2≠f.1)(n4:e.2≠f.2):NM e.1 e.2 f.1 f.2:=by
 have c:=Arc a;have d:=Arc b;refine⟨λx=>?_,λx=>?_,λx=>?_,λx=>?_,h.cx e a f b⟩
 .rcases h.on e a _ d.1 x with y|y
  .exact g y.symm
  exact j y.symm
 .rcases h.on e a _ d.2 x with y|y
  .exact i y.symm
  exact n4 y.symm
 .rcases h.on f b _ c.1 x with y|y
  .exact g y
  exact i y
 rcases h.on f b _ c.2 x with y|y
 .exact j y
 exact n4 y
def Arm(s:P)(e:P×P):Bool:=ray s e.1 e.2
theorem Ar0{x:P}{l:List P}{s t:P}(h:∀e∈ch x l,NM e.1 e.2 s t)(f:∀r∈x::l,r.2≠s.2/\r.2≠t.2)(g:∀e∈ch x l,e.1.2≠e.2.2)(d:s.2≠t.2):
 (par (Arm s) (ch x l) ^^ par (Arm t) (ch x l))=(gg s t x ^^ gg s t (fin x l)):=by
 rw[<-Axu];refine Axv λe c=>?_
 have m:=Aq8 c;have a:=f e.1 m.1;have b:=f e.2 (List.mem_cons_of_mem _ m.2);exact Ay4 (h e c) (g e c) d a.1 a.2 b.1 b.2
def lam:List P->Bool
 | b::w::r=>par (Arm b) (ch w r) ^^ loc (fin w r) b w
 | _=>false
theorem Au5{x:P}{l:List P}(h:(x::l).Nodup){e:P×P}(a:e∈ch x l):e.1≠e.2:=by
 induction l generalizing x with
 | nil=>simp[ch]at a
 | cons y l ih =>
   simp only[ch,bO]at a;rcases a with rfl|a
   .intro e;simp only at e;subst e;simp at h
   exact ih (List.nodup_cons.1 h).2 a
theorem Aws{b w x:P}{k:List P}(h:Sim (b::w::x::k)):lam (b::w::x::k)=lam (w::x::(k++[b])):=by
 have j:E (b::w::x::k)=(b,w)::(w,x)::(ch x k++[(fin x k,b)]):=by
  simp only[E,cV,ch];rw[Are]
 have D:=h.nd;simp only[List.nodup_cons,bO,not_or]at D;obtain⟨⟨i,c,n⟩,⟨n4,p⟩,I,J⟩:=D;have fm:=As7 x k
 have B:fin x k≠b:=by
  intro e;rw[e]at fm;simp only[bO]at fm;rcases fm with fm|fm
  .exact c fm
  exact n fm
 have fw:fin x k≠w:=by
  intro e;rw[e]at fm;simp only[bO]at fm;rcases fm with fm|fm
  .exact n4 fm
  exact p fm
 have mb:b∈b::w::x::k:=aL
 have mw:w∈b::w::x::k:=aL
 have A:x∈b::w::x::k:=aL
 have mu:fin x k∈b::w::x::k:=List.mem_cons_of_mem _ (List.mem_cons_of_mem _ fm);have a:(b,w)∈E (b::w::x::k):=by rw[j];simp
 have y:(w,x)∈E (b::w::x::k):=by rw[j];simp
 have v:(fin x k,b)∈E (b::w::x::k):=by rw[j];simp
 have H:=Ar0 (x:=x) (l:=k) (s:=b) (t:=w) (λe d=>by
  have m:=Aq8 d;refine(h.nm (e:=e) (f:=(b,w)) (by rw[j];simp[d]) a ?_ ?_ ?_ ?_)
  .intro z;rw[z]at m;simp only[bO]at m;rcases m.1 with q|q
   .exact c q
   exact n q
  .intro z;rw[z]at m;simp only[bO]at m;rcases m.1 with q|q
   .exact n4 q
   exact p q
  .intro z;rw[z]at m;exact n m.2
  .intro z;rw[z]at m;exact p m.2)
  (λr g=>by
   have C:r∈b::w::x::k:=List.mem_cons_of_mem _ (List.mem_cons_of_mem _ g);refine⟨h.ne C mb ?_,h.ne C mw ?_⟩
   .intro z;subst z;simp only[bO]at g;rcases g with q|q
    .exact c q
    exact n q
   intro z;subst z;simp only[bO]at g;rcases g with q|q
   .exact n4 q
   exact p q)
  (λe d=>by
   have m:=Aq8 d;refine h.ne (List.mem_cons_of_mem _ (List.mem_cons_of_mem _ m.1)) (List.mem_cons_of_mem _ (List.mem_cons_of_mem _ (List.mem_cons_of_mem _ m.2))) (Au5 (by simp[I,J]) d))
  (h.ne mb mw i)
 have F:=Axt (u:=fin x k) (b:=b) (w:=w) (h.ne mu mb B) (h.ne mb mw i) (h.ne mu mw fw)
  (λo=>by rcases h.on _ a _ mu o with q|q;exact B q;exact fw q)
  (λo=>by rcases h.on _ v _ mw o with q|q;exact fw q.symm;exact i q.symm)
 have G:=Cr (b:=b) (w:=w) (x:=x) (h.ne mb mw i) (h.ne mw A n4) (h.ne mb A c)
  (λo=>by rcases h.on _ a _ A o with q|q;exact c q.symm;exact n4 q.symm)
  (λo=>by rcases h.on _ y _ mb o with q|q;exact i q;exact c q)
 simp only[lam,ch,par,fin,wq];rw[Are,Aq5];simp only[par];rw[show Arm b (w,x)=ray b w x from rfl,show Arm w (fin x k,b)=ray w (fin x k) b from rfl];rw[<-G]at F;revert H F;generalize par (Arm b) (ch x k)=X1;generalize par (Arm w) (ch x k)=X2;generalize gg b w x=X3;generalize gg b w (fin x k)=X4;generalize ray b w x=X5;generalize ray w (fin x k) b=X6;generalize loc (fin x k) b w=X7;generalize loc b w x=X8;clear G;cases X1<;>cases X2<;>cases X3<;>cases X4<;>cases X5<;>cases X6<;>cases X7<;>cases X8<;>simp
theorem Aq0:∀(A B:List P),3<=(A++B).length->Sim (A++B)->lam (A++B)=lam (B++A)
 | [],B,_,_=>by simp
 | a::A,B,hl,h=>by
   have b:Sim (A++(B++[a])):=by
    have:=Sim.rot (A:=[a]) (B:=A++B) (by simpa using h);simpa using this
   have ih:=Aq0 A (B++[a]) (by simp at hl ⊢;omega) b
   have:lam (a::(A++B))=lam (A++(B++[a])):=by
    rw[<-List.append_assoc];rw[cV]at h hl;generalize A++B=k at h hl
    match k,hl,h with
    | w::x::k,_,h=>rw[Aws h];rfl
    | [],hl,_=>simp at hl
    | [w],hl,_=>simp at hl
   rw[cV,this,ih];simp
end Ears
namespace Limb
theorem R9{n:Int}(a:d≠0):(mkRat n d).num.natAbs=n.natAbs / Nat.gcd n.natAbs d/\(mkRat n d).den=d / Nat.gcd n.natAbs d/\((mkRat n d).num<0↔n<0):=by
 rw[Rat.num_mkRat,Rat.den_mkRat,if_neg a,if_neg a,Nat.gcd_comm d];let⟨k,c⟩:((Nat.gcd n.natAbs d:Nat):Int) ∣ n:=Int.ofNat_dvd_left.2 (Nat.gcd_dvd_left _ _);have b:0<Nat.gcd n.natAbs d:=Nat.gcd_pos_of_pos_right _ (Nat.pos_of_ne_zero a);generalize Nat.gcd n.natAbs d=g at *
 subst c;rw[Int.mul_ediv_cancel_left _ aK,Int.natAbs_mul,Int.natAbs_natCast,Nat.mul_div_cancel_left _ b];refine⟨rfl,rfl,?_⟩;constructor
 .intro h;exact Int.mul_neg_of_pos_of_neg aK h
 intro h;apply bT;intro e;have:=dT (show (0:Int)<=(g:Int) by omega) (show 0<=k by omega);omega
theorem Yy(e:d≠0):(mkRat a d).num.natAbs<=a.natAbs/\(mkRat a d).den<=d:=by
 obtain⟨b,c,-⟩:=R9 (n:=a) e;rw[b,c];exact⟨Nat.div_le_self _ _,Nat.div_le_self _ _⟩
def RB(m:Nat)(q:Rat):Prop:=q.num.natAbs<2 ^ m/\q.den<2 ^ m
theorem Fv{m n:Nat}(a:b<2 ^ m)(c:r<2 ^ n):b*r<2 ^ (m+n):=by
 rw[dJ];exact Nat.mul_lt_mul_of_lt_of_lt a c
theorem RB.mk(c:d≠0)(e:a.natAbs<2 ^ b)(f:d<2 ^ b):RB b (mkRat a d):=⟨eG (Yy c).1 e,eG (Yy c).2 f⟩
theorem RB.le(h:RB b f)(a:b<=r):RB r f:=⟨aZ h.1 (bJ aM a),aZ h.2 (bJ aM a)⟩
theorem RB.mul{m n:Nat}(a:RB m f)(hq:RB n y):RB (m+n) (f*y):=by
 rw[Rat.mul_def'];exact RB.mk (Nat.mul_ne_zero f.den_nz y.den_nz) (by rw[Int.natAbs_mul];exact Fv a.1 hq.1) (Fv a.2 hq.2)
theorem RB.add{m:Nat}(a:RB m f)(hq:RB b y):RB (m+b+1) (f+y):=by
 rw[Rat.add_def'];have h:=Fv a.1 hq.2;have c:=Fv hq.1 a.2;rw[gU b]at c;have i:=Fv a.2 hq.2
 refine RB.mk (Nat.mul_ne_zero f.den_nz y.den_nz) ?_ aK;have d:(f.num*(y.den:Int)).natAbs=f.num.natAbs*y.den:=by rw[Int.natAbs_mul,Int.natAbs_natCast]
 have g:(y.num*(f.den:Int)).natAbs=y.num.natAbs*f.den:=by rw[Int.natAbs_mul,Int.natAbs_natCast]
 have:=Int.natAbs_add_le (f.num*y.den) (y.num*f.den);omega
theorem RB.neg(h:RB b f):RB b (-f):=⟨by rw[Rat.neg_num,Int.natAbs_neg];exact h.1,h.2⟩
theorem RB.sub{m n:Nat}(a:RB m f)(hq:RB n y):RB (m+n+1) (f-y):=by
 rw[Rat.sub_eq_add_neg];exact a.add hq.neg
theorem ym(h:a≠0):a.sign.natAbs=1:=by rw[Int.natAbs_sign];simp[h]
theorem RB.div{m n:Nat}(b:RB m f)(hq:RB n y)(a:y.num≠0):RB (m+n) (f / y):=by
 rw[Rat.div_def];refine b.mul ⟨?_,?_⟩
 .rw[Rat.num_inv,Int.natAbs_mul,ym a,eF,Int.natAbs_natCast];exact hq.2
 rw[Rat.den_inv,if_neg a];exact hq.1
theorem RB.of{m:Nat}(h:a.natAbs<2 ^ m)(b:0<m):RB m (a:Rat):=⟨h,aZ (by decide:1<2 ^ 1) (bJ aM b)⟩
theorem Aea(p q:Rat)(a:q.num≠0):p / q=mkRat (p.num*q.num.sign*q.den) (p.den*q.num.natAbs):=by
 rw[Rat.div_def,Rat.mul_def',Rat.num_inv,Rat.den_inv,if_neg a,Int.mul_assoc]
def rnd(n:Int)(d:Nat):Int:=if n<0 then -(((2*n.natAbs+d) / (2*d):Nat):Int) else (((2*n.natAbs+d) / (2*d):Nat):Int)
theorem lu{n:Int}{d g:Nat}(a:0<g):rnd (n*g) (d*g)=rnd n d:=by
 unfold rnd
 have e:(2*(n*(g:Int)).natAbs+d*g) / (2*(d*g))=(2*n.natAbs+d) / (2*d):=by
  rw[Int.natAbs_mul,Int.natAbs_natCast,show 2*(n.natAbs*g)+d*g=(2*n.natAbs+d)*g by rw[cN,bM],<-bM,iN _ _ a]
 rw[e]
 have:n*(g:Int)<0↔n<0:=by
  constructor
  .intro h;apply bT;intro b;have:=dT (show (0:Int)<=n by omega) (show (0:Int)<=(g:Int) by omega);omega
  intro h;exact Int.mul_neg_of_neg_of_pos h aK
 simp only[this]
theorem Yd(h:d≠0):rnd (mkRat a d).num (mkRat a d).den=rnd a d:=by
 let⟨m,b,e,f⟩:=Rat.mkRat_num_den (n:=a) (n':=(mkRat a d).num) (d':=(mkRat a d).den) (z':=(mkRat a d).den_nz) (c:=(mkRat a d).reduced) h rfl;have:=lu (n:=(mkRat a d).num) (d:=(mkRat a d).den) (g:=m) (Nat.pos_of_ne_zero b);rw[<-this,<-e,<-f]
theorem Nq(a b vx N D:Int)(h:D≠0):((a:Rat)+((b:Rat)-a)*((N:Rat) / D))-vx=mkRat (((a-vx)*D+(b-a)*N)*D.sign) D.natAbs:=by
 have d:(D:Rat)≠0:=λe=>h (Rat.intCast_eq_zero_iff.1 e)
 have c:mkRat (((a-vx)*D+(b-a)*N)*D.sign) D.natAbs=Rat.divInt ((a-vx)*D+(b-a)*N) D:=by
  generalize (a-vx)*D+(b-a)*N=M;rcases Int.lt_or_gt_of_ne h with g|g
  .rw[Int.sign_eq_neg_one_of_neg g,<-Rat.divInt_ofNat,show ((D.natAbs:Nat):Int) = -D by omega,Rat.divInt_neg']
   congr 1
   omega
  rw[Int.sign_eq_one_of_pos g,<-Rat.divInt_ofNat,show ((D.natAbs:Nat):Int)=D by omega,Int.mul_one]
 rw[c,Rat.divInt_eq_div];simp only[Rat.intCast_add,Rat.intCast_sub,Rat.intCast_mul]
 grind
end Limb
namespace Ears
theorem Arq(a b:Int):a<b\/b<=a:=aK
def InT(u b w q:P):Prop:=0<=cr u b q/\0<=cr b w q/\0<=cr w u q
theorem Aw5(u b w q x y:P):cr u b w*cr x y q=cr b w q*cr x y u+cr w u q*cr x y b+cr u b q*cr x y w:=by unfold cr;grind
theorem Aua(u b w q:P):cr b w q+cr w u q+cr u b q=cr u b w:=by unfold cr;grind
theorem Av6(u b w q:P):cr u b w*q.2=cr b w q*u.2+cr w u q*b.2+cr u b q*w.2:=by unfold cr;grind
theorem Ayp(p q s t x y:P):cr p q t*cr x y s-cr p q s*cr x y t=cr s t p*cr x y q-cr s t q*cr x y p:=by unfold cr;grind
theorem Axb(b q s x y:P):(q.2-b.2)*cr x y s=(q.2-s.2)*cr x y b+(s.2-b.2)*cr x y q+(y.2-x.2)*cr b q s:=by unfold cr;grind
theorem nn(b:0<=a)(c:0<=e):0<=a*e:=dT b c
theorem np{a b:Int}(c:0<=a)(d:b<=0):a*b<=0:=Int.mul_nonpos_of_nonneg_of_nonpos c d
theorem sge(c:0<e)(h:0<=e*a:=by omega):0<=a:=by
 rcases Arq a 0 with b|b
 .have:=neg_mul b c;rw[eW]at this;omega
 exact b
theorem sgt(b:0<e)(h:0<e*a:=by omega):0<a:=sgE b (h:=by rw[eW];exact h)
theorem Aru{p q s t:P}(h:opp (cr p q s) (cr p q t))(f:cr s t q=0):On s t q:=by
 refine⟨f,?_⟩;have g:=Ay6 p q s t;have i:=Ayd p q s t;rw[f]at g i;have e:cr p q t*(s.2-q.2)=cr p q s*(t.2-q.2):=aU
 rcases Int.lt_trichotomy s.2 q.2 with c|c|c
 .left;rcases h with⟨a,b⟩|⟨a,b⟩
  .have:=Aqv b (show s.2-q.2<0 by omega)
   have:0<t.2-q.2:=by
    rcases Int.lt_trichotomy (t.2-q.2) 0 with d|d|d
    .have:=Aqx a d;omega
    .rw[d]at e;omega
    exact d
   omega
  have:=Aqx b (show s.2-q.2<0 by omega)
  have:0<t.2-q.2:=by
   rcases Int.lt_trichotomy (t.2-q.2) 0 with d|d|d
   .have:=Aqv a d;omega
   .rw[d]at e;omega
   exact d
  omega
 .omega
 right;rcases h with⟨a,b⟩|⟨a,b⟩
 .have:=L3 b (show 0<s.2-q.2 by omega)
  have:t.2-q.2<0:=by
   rcases Int.lt_trichotomy (t.2-q.2) 0 with d|d|d
   .exact d
   .rw[d]at e;omega
   have:=neg_mul a d;omega
  omega
 have:=neg_mul b (show 0<s.2-q.2 by omega)
 have:t.2-q.2<0:=by
  rcases Int.lt_trichotomy (t.2-q.2) 0 with d|d|d
  .exact d
  .rw[d]at e;omega
  have:=L3 a d;omega
 omega
theorem Arv{u b w q:P}(D:0<cr u b w)(h:InT u b w q)(a:cr u b q=0):On u b q:=by
 refine⟨a,?_⟩;obtain⟨o,d,e⟩:=h;have f:=Aua u b w q;have g:=Av6 u b w q;rw[a]at f g;have m:cr u b w*(q.2-u.2)=cr w u q*(b.2-u.2):=aU
 have n:cr u b w*(b.2-q.2)=cr b w q*(b.2-u.2):=aU
 rcases Arq b.2 u.2 with c|c
 .right;have i:=np e (show b.2-u.2<=0 by omega);have j:=np d (show b.2-u.2<=0 by omega);have k:0<=u.2-q.2:=sge D (h:=aU);have l:0<=q.2-b.2:=sge D (h:=aU);omega
 left;have i:=nn e (show 0<=b.2-u.2 by omega);have j:=nn d (show 0<=b.2-u.2 by omega);have k:0<=q.2-u.2:=sge D;have l:0<=b.2-q.2:=sge D;omega
theorem Awb{b q s x y:P}(h:On b q s)(l:b.2≠q.2)(a:0<=cr x y b)(f:0<=cr x y q):0<=cr x y s:=by
 have e:=Axb b q s x y;obtain⟨g,i⟩:=h;rw[g]at e;rcases i with⟨c,d⟩|⟨c,d⟩
 .have j:=nn (show 0<=q.2-s.2 by omega) a;have k:=nn (show 0<=s.2-b.2 by omega) f;exact sge (show 0<q.2-b.2 by omega)
 have j:=nn (show 0<=s.2-q.2 by omega) a;have k:=nn (show 0<=b.2-s.2 by omega) f;exact sge (show 0<b.2-q.2 by omega) (h:=aU)
theorem InT.seg{u b w x y s:P}(c:InT u b w x)(d:InT u b w y)(a:x.2≠y.2)(h:On x y s):InT u b w s:=⟨Awb h a c.1 d.1,Awb h a c.2.1 d.2.1,Awb h a c.2.2 d.2.2⟩
theorem InT.tip1{u b w:P}(D:0<cr u b w):InT u b w u:=⟨by rw[Aqr];omega,by rw[Aqs u b w];omega,by rw[Aqu];omega⟩
theorem InT.tip2{u b w:P}(D:0<cr u b w):InT u b w b:=⟨by rw[Aqu];omega,by rw[Aqr];omega,by rw[Aqs b w u,Aqs u b w];omega⟩
theorem InT.tip3{u b w:P}(D:0<cr u b w):InT u b w w:=⟨aK,by rw[Aqu];omega,by rw[Aqr];omega⟩
theorem Ayf{u b w q s t:P}(D:0<cr u b w)(i:0<cr u b q)(j:0<cr b w q)(x:0<=cr w u q)
 (H:¬Crs u b s t) (I:¬Crs b w s t) (A:s=u\/s=w\/¬InT u b w s) (C:t=u\/t=w\/¬InT u b w t)
 (g:0<cr s t b) (p:cr s t q<0) (k:cr b q s<0) (l:0<cr b q t):False:=by
 have ru:cr b q u=cr u b q:=Aqs u b q;have G:cr b q w = - cr b w q:=by unfold cr;grind
 have N:=Aw5 u b w q s t;by_cases fu:cr s t u<0
 .have X:=Ayp b q s t u b;rw[Aqu]at X;have J:=L3 g i
  have a:0<=cr u b t:=by
   rcases Arq (cr u b t) 0 with c|c
   .exfalso;have m:=Aqx k c;by_cases d:0<cr u b s
    .exact H ⟨.inr ⟨d,c⟩,.inl ⟨fu,g⟩⟩
    have:=np (Int.le_of_lt l) (show cr u b s<=0 by omega);omega
   exact c
  have B:=Aw5 u b q t s t;rw[Aqu s t]at B;have m:=Aqv l fu;have y:=np a (Int.le_of_lt p);have r:0<cr q u t:=sgE g;have n:=Aw5 u b q t b w;rw[Aqr b w,Aqs u b w]at n;have z:=L3 l D;have K:=nn a (Int.le_of_lt j);have F:0<=cr b w t:=sge i;have o:=Aw5 u b q t w u;rw[Aqu w u,show cr w u b=cr u b w by rw[Aqs b w u,Aqs u b w]] at o;have L:=L3 r D;have M:=nn a x;have v:0<=cr w u t:=sge i;rcases C with e|e|e
  .subst e;rw[Aqu]at fu;omega
  .subst e;omega
  exact e ⟨a,F,v⟩
 have fw:cr s t w<0:=by
  have m:=nn (Int.le_of_lt j) (show 0<=cr s t u by omega);have y:=nn x (Int.le_of_lt g);have z:=Aqv D p;exact sl i (h:=by rw[eW];omega)
 have X:=Ayp b q s t b w;rw[Aqr]at X;have J:=L3 g j
 have f:0<=cr b w s:=by
  rcases Arq (cr b w s) 0 with c|c
  .exfalso;have m:=Aqv l c;by_cases d:0<cr b w t
   .exact I ⟨.inl ⟨c,d⟩,.inr ⟨g,fw⟩⟩
   have:=eN (Int.le_of_lt k) (show cr b w t<=0 by omega);omega
  exact c
 have B:=Aw5 b w q s s t;rw[Aqr s t,Aqw b q s]at B;have m:=Aqx k fw;have y:=np f (Int.le_of_lt p);have O : -cr b q s*cr s t w = - (cr b q s*cr s t w):=by grind
 have r:0<cr w q s:=sgE g;have n:=Aw5 b w q s u b;rw[Aqu u b,Aqw b q s]at n;have z:=neg_mul k D;have K:=nn f (Int.le_of_lt i);have Q : -cr b q s*cr u b w = - (cr b q s*cr u b w):=by grind
 have E:0<=cr u b s:=sge j;have o:=Aw5 b w q s w u;rw[Aqr w u,show cr w u b=cr u b w by rw[Aqs b w u,Aqs u b w]] at o;have L:=L3 r D;have M:=nn f x;have v:0<=cr w u s:=sge j;rcases A with e|e|e
 .subst e;omega
 .subst e;rw[Aqr]at fw;omega
 exact e ⟨E,f,v⟩
theorem Crs.flip2{p q s t:P}(h:Crs p q s t):Crs p q t s:=h.swap.flip.swap
theorem Awe{u b w q s t:P}(D:0<cr u b w)(p:0<cr u b q)(r:0<cr b w q)(v:0<=cr w u q)
 (k:¬Crs u b s t) (l:¬Crs b w s t) (i:s=u\/s=w\/¬InT u b w s) (j:t=u\/t=w\/¬InT u b w t):¬Crs b q s t:=by
 intro h
 have g:∀s t:P,¬Crs u b s t->¬Crs b w s t->(s=u\/s=w\/¬InT u b w s)->(t=u\/t=w\/¬InT u b w t)->Crs b q s t->0<cr s t b->False:=by
  intro s t k l i j h m;obtain⟨n,o⟩:=h;have d:=Ayd b q s t;rcases o with⟨a,c⟩|⟨a,c⟩
  .omega
  rcases n with⟨e,f⟩|⟨e,f⟩
  .exact Ayf D p r v k l i j m c e f
  omega
 by_cases c:0<cr s t b
 .exact g s t k l i j h c
 refine g t s (λh=>k h.flip2) (λh=>l h.flip2) j i h.flip2 ?_;have:=h.2;unfold opp at this;rw[Aqw s t b];omega
theorem Aw2{u b w s t:P}(D:0<cr u b w)
 (o:¬Crs u b s t) (q:¬Crs b w s t) (n:t=u\/t=w\/¬InT u b w t) (nb:¬On s t b)
 (f:0<cr s t w) (g:cr s t u<0) (k:cr w u s<0) (h:0<cr w u t):False:=by
 have l:=Ayp w u s t u b;rw[Aqr]at l;have v:=neg_mul g D;have m:=Ayp w u s t b w;rw[Aqu,Aqs u b w]at m;have x:=L3 f D;have B:=Aw5 u b w t s t;rw[Aqu s t]at B
 have fin:0<=cr u b t->0<=cr b w t->False:=by
  intro a j;rcases n with e|e|e
  .subst e;rw[Aqu]at g;omega
  .subst e;rw[Aqu]at f;omega
  exact e ⟨a,j,Int.le_of_lt h⟩
 rcases Int.lt_trichotomy (cr s t b) 0 with c|c|c
 .have j:0<=cr b w t:=by
   rcases Arq (cr b w t) 0 with d|d
   .exfalso;have i:=Aqx k d;by_cases e:0<cr b w s
    .exact q ⟨.inr ⟨e,d⟩,.inl ⟨c,f⟩⟩
    have:=np (Int.le_of_lt h) (show cr b w s<=0 by omega);omega
   exact d
  have i:=np j (Int.le_of_lt g);have r:=Aqv h c;exact fin (Int.le_of_lt (sgE f)) j
 .rw[c]at B
  have a:0<=cr u b t:=by
   rcases Arq (cr u b t) 0 with d|d
   .exfalso;have i:=Aqx k d;by_cases e:0<cr u b s
    .exact nb (Aru (p:=u) (.inr ⟨e,d⟩) c)
    have:=np (Int.le_of_lt h) (show cr u b s<=0 by omega);omega
   exact d
  have i:=nn a (Int.le_of_lt f);refine fin a ?_;rcases Arq (cr b w t) 0 with d|d
  .have:=Aqx d g;omega
  exact d
 have a:0<=cr u b t:=by
  rcases Arq (cr u b t) 0 with d|d
  .exfalso;have i:=Aqx k d;by_cases e:0<cr u b s
   .exact o ⟨.inr ⟨e,d⟩,.inl ⟨g,c⟩⟩
   have:=np (Int.le_of_lt h) (show cr u b s<=0 by omega);omega
  exact d
 have i:=nn a (Int.le_of_lt f);have r:=L3 h c;refine fin a ?_;rcases Arq (cr b w t) 0 with d|d
 .have:=Aqx d g;omega
 exact d
theorem Au4{u b w s t:P}(D:0<cr u b w)
 (i:¬Crs u b s t) (j:¬Crs b w s t) (o:s=u\/s=w\/¬InT u b w s) (k:t=u\/t=w\/¬InT u b w t) (nb:¬On s t b):¬Crs u w s t:=by
 intro h
 have g:∀s t:P,¬Crs u b s t->¬Crs b w s t->(t=u\/t=w\/¬InT u b w t)->¬On s t b->Crs w u s t->0<cr s t w->False:=by
  intro s t i j k nb h l;obtain⟨m,n⟩:=h;have d:=Ayd w u s t;rcases n with⟨a,c⟩|⟨a,c⟩
  .omega
  rcases m with⟨e,f⟩|⟨e,f⟩
  .exact Aw2 D i j k nb l c e f
  omega
 by_cases c:0<cr s t w
 .exact g s t i j k nb h.flip c
 refine g t s (λh=>i h.flip2) (λh=>j h.flip2) o (λh=>nb h.symm) h.flip.flip2 ?_;have:=h.2;unfold opp at this;rw[Aqw s t w];omega
end Ears
namespace Ears
theorem tp1(q:0<k)(r:a+e+j=k)(s:a*(n-o)+e*(l-o)+j*(m-o)=0)
 (h:m<o) (i:o<l) (p:o<n) (t:¬(0<=a/\0<=e/\0<=j):=by omega) :(a<0↔0<e):=by
 constructor
 .intro c;rcases Arq 0 e with b|b
  .exact b
  exfalso;have f:=neg_mul c (show 0<n-o by omega);have d:=np (a:=l-o) (by omega) b;have g:=Aqv (a:=j) (by omega) (show m-o<0 by omega);rw[eW]at d;omega
 intro b;rcases Arq a 0 with c|c
 .exact c
 exfalso;have f:=nn c (show 0<=n-o by omega);have d:=L3 b (show 0<l-o by omega);have g:0<j:=sln (show m-o<0 by omega);omega
theorem tp2(q:0<k)(r:a+e+j=k)(s:a*(n-o)+e*(l-o)+j*(m-o)=0)
 (h:o<m) (i:l<o) (p:n<o) (t:¬(0<=a/\0<=e/\0<=j):=by omega) :(0<a↔e<0):=by
 constructor
 .intro c;rcases Arq e 0 with b|b
  .exact b
  exfalso;have d:=Aqv c (show n-o<0 by omega);have f:=np b (show l-o<=0 by omega);have g:0<j:=sgE (show 0<m-o by omega);omega
 intro b;rcases Arq 0 a with c|c
 .exact c
 exfalso;have d:=eN c (show n-o<=0 by omega);have f:=Aqx b (show l-o<0 by omega);have g:=L3 (a:=j) (by omega) (show 0<m-o by omega);omega
theorem Aye[Decidable h][Decidable u][Decidable v](a:h↔¬(u↔v)):(decide h ^^ decide u ^^ decide v)=false:=by
 by_cases h<;>by_cases u<;>by_cases v<;>simp_all
theorem Axi{u b w y:P}(D:0<cr u b w)(n:¬InT u b w y)(h:u.2≠y.2)(i:b.2≠y.2)(j:w.2≠y.2):
 (ray y u b ^^ ray y b w ^^ ray y w u)=false:=by
 have l:=Aua u b w y;have k:=Av6 u b w y;unfold InT at n;unfold ray;generalize cr u b w=D' at *
 generalize cr u b y=A at *
 generalize cr b w y=B at *
 generalize cr w u y=C at *
 generalize u.2=hu at *
 generalize b.2=hb at *
 generalize w.2=hw at *
 generalize y.2=hy at *
 have e:A*(hw-hy)+B*(hu-hy)+C*(hb-hy)=0:=by grind
 have c:B*(hu-hy)+C*(hb-hy)+A*(hw-hy)=0:=by grind
 have a:C*(hb-hy)+A*(hw-hy)+B*(hu-hy)=0:=by grind
 apply Aye;clear k;rcases Int.lt_or_gt_of_ne h with d|d<;>rcases Int.lt_or_gt_of_ne i with f|f<;>rcases Int.lt_or_gt_of_ne j with g|g
 .clear e c a;omega
 .have:=tp2 D (show B+C+A=D' by omega) c g f d;clear e c a;omega
 .have:=tp2 D (show A+B+C=D' by omega) e f d g;clear e c a;omega
 .have:=tp1 D (show C+A+B=D' by omega) a d g f;clear e c a;omega
 .have:=tp2 D (show C+A+B=D' by omega) a d g f;clear e c a;omega
 .have:=tp1 D (show A+B+C=D' by omega) e f d g;clear e c a;omega
 .have:=tp1 D (show B+C+A=D' by omega) c g f d;clear e c a;omega
 clear e c a;omega
theorem Arf{A C p q:Int}(h:A*p+C*q=0)(b:0<p:=by omega)(hq:0<q:=by omega):(0<A↔C<0)/\(A<0↔0<C):=by
 refine⟨⟨λa=>?_,λc=>?_⟩,⟨λa=>?_,λc=>?_⟩⟩
 .have:=L3 a b;exact sl hq
 .have:=neg_mul c hq;exact sgE b
 .have:=neg_mul a b;exact sgE hq
 have:=L3 c hq;exact sl b
theorem Awv{u b w y:P}(D:cr u b w=0)(a:(u.2<b.2/\b.2<w.2)\/(w.2<b.2/\b.2<u.2))(i:u.2≠y.2)(j:b.2≠y.2)(k:w.2≠y.2):
 (ray y u b ^^ ray y b w ^^ ray y w u)=false:=by
 have h:=Aua u b w y;have e:=Av6 u b w y;unfold ray;rw[D]at h e;generalize cr u b y=A at *
 generalize cr b w y=B at *
 generalize cr w u y=C at *
 generalize u.2=hu at *
 generalize b.2=a at *
 generalize w.2=hw at *
 generalize y.2=hy at *
 apply Aye;rcases a with⟨c,d⟩|⟨c,d⟩
 .have f:=Arf (A:=A) (C:=C) (p:=hw-hu) (q:=a-hu) (by grind);have g:=Arf (A:=B) (C:=C) (p:=hw-hu) (q:=hw-a) (by grind);clear e;omega
 have f:=Arf (A:=A) (C:=C) (p:=hu-hw) (q:=hu-a) (by grind);have g:=Arf (A:=B) (C:=C) (p:=hu-hw) (q:=a-hw) (by grind);clear e;omega
theorem Ay7[Decidable h][Decidable u][Decidable v](a:h↔¬(u↔¬v) ):decide h=(true ^^ decide u ^^ decide v):=by
 by_cases h<;>by_cases u<;>by_cases v<;>simp_all
theorem Avq{u b w q:P}(D:0<cr u b w)(d:0<cr u b q)(f:0<cr b w q)(j:u.2≠b.2)(k:w.2≠b.2)(l:q.2≠b.2):
 loc u b w=(true ^^ loc u b q ^^ loc q b w):=by
 have m:=Aua u b w q;have g:=Av6 u b w q;unfold loc;rw[show cr q b w=cr b w q from (Aqs q b w).symm];generalize cr u b w=D' at *
 generalize cr u b q=A at *
 generalize cr b w q=B at *
 generalize cr w u q=C at *
 generalize u.2=hu at *
 generalize b.2=hb at *
 generalize w.2=hw at *
 generalize q.2=hq at *
 have e:(hq-hb)*D'=B*(hu-hb)+A*(hw-hb):=by grind
 have n:hb<hu->hb<hw->hb<hq:=by
  intro a c;have h:=L3 f (show 0<hu-hb by omega);have i:=L3 d (show 0<hw-hb by omega);have:=sgE D (a:=hq-hb);omega
 have o:hu<hb->hw<hb->hq<hb:=by
  intro a c;have h:=Aqv f (show hu-hb<0 by omega);have i:=Aqv d (show hw-hb<0 by omega);have:=sl D (a:=hq-hb);omega
 apply Ay7;omega
theorem Auo{h1s h1t h2s h2t fs ft Fa Fv Fc:Int}(f:h1s<0)(d:0<a)(b:0<e)(g:0<Fv)
 (r:¬(opp h1s h1t/\opp Fa Fv)) (p:opp h1s h1t->Fa≠0) (v:0<Fa->Fc<0) (s:¬(opp h2s h2t/\opp Fv Fc))
 (A:(h1t*h2s-h1s*h2t)*Fa+(h1t*fs-h1s*ft)*Fv=0) (w:0<fs:=by omega) (m:0<a*h1s+e*h1t:=by omega) (z:0<a*h2s+e*h2t:=by omega) (n:0<a*fs+e*ft:=by omega) :False:=by
 have D:=Aqv d f;have l:0<h1t:=sgt b;have j:opp h1s h1t:=.inl ⟨f,l⟩;have q:=p j
 have i:0<Fa:=by
  rcases Int.lt_trichotomy Fa 0 with c|c|c
  .exact absurd ⟨j,.inl ⟨c,g⟩⟩ r
  .exact absurd c q
  exact c
 have t:=v i;have k:¬opp h2s h2t:=λo=>s ⟨o,.inr ⟨g,t⟩⟩
 have s2:0<=h2s:=by
  rcases Arq h2s 0 with c|c
  .have:=Aqv d c;exact absurd (.inl ⟨c,sgt b⟩) k
  exact c
 have x:0<=h2t:=by
  rcases Arq h2t 0 with c|c
  .have:=Aqv b c;exact absurd (.inr ⟨sgt d,c⟩) k
  exact c
 have E:=nn (Int.le_of_lt l) s2;have y:=np x (Int.le_of_lt f);rw[eW]at y;have F:=nn (show 0<=h1t*h2s-h1s*h2t by omega) (Int.le_of_lt i)
 have u:0<h1t*fs-h1s*ft:=by
  have B:=L3 m w;have C:=L3 n (show 0 < -h1s by omega);exact sgt b (h:=by grind)
 have G:=L3 u g;omega
theorem Awz(a v c s t:P):(cr a v t*cr v c s-cr a v s*cr v c t)*cr s t a+(cr a v t*cr c a s-cr a v s*cr c a t)*cr s t v=0:=by unfold cr;grind
theorem Awy(a v c s t:P):(cr v c t*cr a v s-cr v c s*cr a v t)*cr s t c+(cr v c t*cr c a s-cr v c s*cr c a t)*cr s t v=0:=by unfold cr;grind
theorem Aun{b v c z s t:P}(D:0<cr b v c)(n:0<cr b v z)(q:0<cr v c z)(A:0<=cr c b z)
 (u:¬Crs b v s t) (w:¬Crs v c s t) (I:s=b\/t=b\/¬On s t b) (J:s=c\/t=c\/¬On s t c)
  (g:0<a) (i:0<e) (d:Int) (m:d=1\/d = -1) (f:0<d*cr s t v) (fz:d*cr s t z<0)
 (X:∀x y:P,a*cr x y s+e*cr x y t=(d*cr s t v)*cr x y z-(d*cr s t z)*cr x y v)
 (H:¬InT b v c s) (T:cr c b z<cr c b s):False:=by
 have B:=X b v;rw[Aqu]at B;have U:=L3 f n;have C:=X v c;rw[Aqr]at C;have V:=L3 f q;have E:=X c b;rw[show cr c b v=cr b v c by rw[Aqs v c b,Aqs b v c]] at E;have W:=nn (Int.le_of_lt f) A;have Y:=neg_mul fz D;have M:=Aw5 b v c z s t
 have K:opp (cr b v s) (cr b v t)->cr s t b≠0:=by
  intro o k;rcases I with r|r|r
  .subst r;rw[Aqr]at o;unfold opp at o;omega
  .subst r;rw[Aqr]at o;unfold opp at o;omega
  refine r (Aru (p:=v) ?_ k);rw[Aqw b v s,Aqw b v t];exact o.neg
 have L:opp (cr v c s) (cr v c t)->cr s t c≠0:=by
  intro o k;rcases J with r|r|r
  .subst r;rw[Aqu]at o;unfold opp at o;omega
  .subst r;rw[Aqu]at o;unfold opp at o;omega
  exact r (Aru (p:=v) o k)
 have R:=Awz b v c s t;have S:=Awy b v c s t
 have j:∀x y:Int,opp (d*x) (d*y)->opp x y:=by
  intro x y o;rcases m with rfl|rfl<;>(unfold opp at *;omega)
 have O:(d*cr s t z)*cr b v c=cr v c z*(d*cr s t b)+cr c b z*(d*cr s t v)+cr b v z*(d*cr s t c):=by grind
 have Q:(d*cr s t z)*cr b v c<0:=neg_mul fz D;have N:=nn A (Int.le_of_lt f);by_cases F:cr b v s<0
 .refine Auo (h1s:=cr b v s) (h1t:=cr b v t) (h2s:=cr v c s) (h2t:=cr v c t) (fs:=cr c b s) (ft:=cr c b t) (Fa:=d*cr s t b) (Fv:=d*cr s t v) (Fc:=d*cr s t c) F g i f (λh=>u ⟨h.1,j _ _ h.2⟩) (λo=>?_) (λl=>?_) (λh=>w ⟨h.1,j _ _ h.2⟩) (by grind)
  .have:=K o;rcases m with rfl|rfl<;>omega
  have:=L3 q l;exact sl n (h:=by rw[eW];omega)
 have G:cr v c s<0:=by
  unfold InT at H;omega
 refine Auo (h1s:=cr v c s) (h1t:=cr v c t) (h2s:=cr b v s) (h2t:=cr b v t) (fs:=cr c b s) (ft:=cr c b t) (Fa:=d*cr s t c) (Fv:=d*cr s t v) (Fc:=d*cr s t b) G g i f (λh=>w ⟨h.1,(j _ _ h.2).symm⟩) (λo=>?_) (λl=>?_) (λh=>u ⟨h.1,(j _ _ h.2).symm⟩) (by grind)
 .have:=L o;rcases m with rfl|rfl<;>omega
 have:=L3 n l;exact sl q (h:=by rw[eW];omega)
theorem Azf{ft fz Fv Fz:Int}(h:a*j+e*ft=Fv*fz-Fz*k)(f:a+e=Fv-Fz)(c:0<=a*(fz-j))(d:0<=e*(fz-ft))(g:Fz*(k-fz)<0):False:=by
 have b:(a+e)*fz=(Fv-Fz)*fz:=by rw[f]
 rw[gJ,Int.sub_mul]at b;rw[Int.mul_sub]at c d g;omega
theorem Avz{a v c z s t:P}(D:0<cr a v c)(k:0<cr a v z)(l:0<cr v c z)(m:0<=cr c a z)
 (i:¬Crs a v s t) (j:¬Crs v c s t) (f:s=a\/t=a\/¬On s t a) (g:s=c\/t=c\/¬On s t c)
 (A:InT a v c s->cr c a s<=cr c a z) (B:InT a v c t->cr c a t<=cr c a z)
 (C:0<cr s t v) (p:cr s t z<0) (E:cr v z s<0) (b:0<cr v z t):False:=by
 have X:∀x y:P,cr v z t*cr x y s+(- cr v z s)*cr x y t=(1*cr s t v)*cr x y z-(1*cr s t z)*cr x y v:=by
  intro x y;have:=Ayp v z s t x y;grind
 by_cases o:cr c a z<cr c a s
 .exact Aun D k l m i j f g b (show 0 < - cr v z s by omega) 1 (.inl rfl) (by omega) (by omega) X (λh=>by have:=A h;omega) o
 have n:cr c a z<cr c a t:=by
  rcases Arq (cr c a z) (cr c a t) with d|d
  .exact d
  exfalso;have e:=X c a;rw[show cr c a v=cr a v c by rw[Aqs v c a,Aqs a v c]] at e;have q:=nn (Int.le_of_lt b) (show 0<=cr c a z-cr c a s by omega);have u:=nn (show 0 <=-cr v z s by omega) (show 0<=cr c a z-cr c a t by omega);have F:=Aua a v c z;have G:=Ayd v z s t;have w:=neg_mul p (show 0<cr a v c-cr c a z by omega);exact Azf (by rw[e,fZ,fZ]) (by omega) q u w
 refine Aun (s:=t) (t:=s) D k l m (λh=>i h.flip2) (λh=>j h.flip2) ?_ ?_ (show 0 < - cr v z s by omega) b (-1) (.inr rfl) (by rw[Aqw s t v];omega) (by rw[Aqw s t z];omega) (λx y=>by have:=X x y;rw[Aqw s t v,Aqw s t z];grind) (λh=>by have:=B h;omega) n
 .rcases f with r|r|r
  .exact .inr (.inl r)
  .exact .inl r
  exact .inr (.inr λh=>r h.symm)
 rcases g with r|r|r
 .exact .inr (.inl r)
 .exact .inl r
 exact .inr (.inr λh=>r h.symm)
theorem Av0{a v c z s t:P}(D:0<cr a v c)(p:0<cr a v z)(q:0<cr v c z)(u:0<=cr c a z)
 (n:¬Crs a v s t) (o:¬Crs v c s t) (l:s=a\/t=a\/¬On s t a) (m:s=c\/t=c\/¬On s t c)
 (j:InT a v c s->cr c a s<=cr c a z) (k:InT a v c t->cr c a t<=cr c a z):¬Crs v z s t:=by
 intro h;have d:=Ayd v z s t;by_cases w:0<cr s t v
 .obtain⟨g,i⟩:=h;rcases i with⟨b,c⟩|⟨b,c⟩
  .omega
  rcases g with⟨e,f⟩|⟨e,f⟩
  .exact Avz D p q u n o l m j k b c e f
  omega
 obtain⟨g,i⟩:=h;rcases i with⟨b,c⟩|⟨b,c⟩
 .rcases g with⟨e,f⟩|⟨e,f⟩
  .omega
  refine Avz (s:=t) (t:=s) D p q u (λh=>n h.flip2) (λh=>o h.flip2) ?_ ?_ k j (by rw[Aqw s t v];omega) (by rw[Aqw s t z];omega) f e
  .rcases l with r|r|r
   .exact .inr (.inl r)
   .exact .inl r
   exact .inr (.inr λh=>r h.symm)
  rcases m with r|r|r
  .exact .inr (.inl r)
  .exact .inl r
  exact .inr (.inr λh=>r h.symm)
 omega
end Ears
section
namespace Ears
theorem Aw8(b w:P)(r:List P):E (b::w::r)=(b,w)::(ch w r++[(fin w r,b)]):=by
 simp only[E,cV,ch];rw[Are]
theorem Ar9(b w u:P)(m:List P):E (b::w::(m++[u]))=(b,w)::(ch w (m++[u])++[(u,b)]):=by
 rw[Aw8,wq]
theorem Ata(w u:P)(m:List P):E (w::(m++[u]))=ch w (m++[u])++[(u,w)]:=by
 simp only[E];rw[Are,wq]
theorem Aw9{l:List P}{b:P}(h:b∈l):∃A B,l=A++b::B:=List.append_of_mem h
theorem Att{l:List P}(h:l≠[]:=by simp):∃m u,l=m++[u]:=by
 rcases List.eq_nil_or_concat l with e|⟨m,u,e⟩
 .exact absurd e h
 exact⟨m,u,by rw[e];simp⟩
theorem As3{l:List P}{b:P}(h:b∈l)(a:3<=l.length):∃A B w m u,l=A++B/\B++A=b::w::(m++[u]):=by
 obtain⟨A,B,rfl⟩:=Aw9 h;have:2<=(B++A).length:=by simp at a ⊢;omega
 generalize c:B++A=k at this
 match k,this with
 | w::x::k,_ =>
   let⟨m,u,e⟩:=Att (l:=x::k);exact⟨A,b::B,w,m,u,rfl,by rw[cV,c,e]⟩
theorem Aq4{b w u:P}{m:List P}(h:(b::w::(m++[u])).Nodup):b≠w/\b≠u/\w≠u/\b ∉ m/\w ∉ m/\u ∉ m/\(w::(m++[u])).Nodup/\m.Nodup:=by
 have i:=h;rw[List.nodup_cons]at h;obtain⟨a,e⟩:=h;have f:=e;rw[List.nodup_cons]at f;obtain⟨c,d⟩:=f;rw[List.nodup_append]at d;simp only[bO,bD,List.not_mem_nil,or_false,not_or]at a c;exact⟨a.1,a.2.2,c.2,a.2.1,c.1,λg=>d.2.2 u g u aL rfl,e,d.1⟩
theorem Aq3{b w u:P}{m:List P}(h:(b::w::(m++[u])).Nodup){x:P}:
 ((b,x)∈E (b::w::(m++[u]))->x=w)/\((x,b)∈E (b::w::(m++[u]))->x=u):=by
 let⟨d,c,f,n4,g,i,j,k⟩:=Aq4 h;rw[Ar9];constructor
 .intro a;simp only[bO,bD,List.not_mem_nil,or_false,Prod.mk.injEq]at a;rcases a with⟨_,e⟩|a|⟨e,_⟩
  .exact e
  .have:=(Aq8 a).1;simp only[bO,bD,List.not_mem_nil,or_false]at this;rcases this with e|e|e
   .exact absurd e d
   .exact absurd e n4
   exact absurd e c
  exact absurd e c
 intro a;simp only[bO,bD,List.not_mem_nil,or_false,Prod.mk.injEq]at a;rcases a with⟨_,e⟩|a|⟨e,_⟩
 .exact absurd e d
 .have:=(Aq8 a).2;simp only[bD,bO,List.not_mem_nil,or_false]at this;rcases this with e|e
  .exact absurd e n4
  exact absurd e c
 exact e
theorem Atn{A B:List P}(h:(A++B).Nodup):(B++A).Nodup:=by
 rw[List.nodup_append]at h ⊢;exact⟨h.2.1,h.1,λa c b d=>λe=>h.2.2 b d a c e.symm⟩
theorem Atf{l:List P}(n:l.Nodup)(k:3<=l.length){u b w:P}(j:(u,b)∈E l)(f:(b,w)∈E l):∃A B m,l=A++B/\B++A=b::w::(m++[u]):=by
 let⟨A,B,p,m,o,i,e⟩:=As3 (Arc f).1 k;subst i;have d:=Atn n;have g:=Aqt j;have h:=Aqt f;rw[e]at d g h;have a:=(Aq3 d).1 h;have c:=(Aq3 d).2 g;subst a;subst c;exact⟨A,B,m,rfl,e⟩
theorem Av1{b w u:P}{m:List P}(h:Sim (b::w::(m++[u])))(i:∀r∈w::(m++[u]),On u w r->r=u\/r=w)(d:∀e∈ch w (m++[u]),¬Crs u w e.1 e.2):Sim (w::(m++[u])):=by
 have sub:∀e∈ch w (m++[u]),e∈E (b::w::(m++[u])):=λe a=>by rw[Ar9];simp[a]
 refine⟨(Aq4 h.nd).2.2.2.2.2.2.1,λp j q hq=>h.ht p (List.mem_cons_of_mem _ j) q (List.mem_cons_of_mem _ hq),?_,?_⟩
 .intro e a r g o;rw[Ata,bD]at a;rcases a with a|a
  .exact h.on e (sub e a) r (List.mem_cons_of_mem _ g) o
  simp only[bO,List.not_mem_nil,or_false]at a;subst a;exact i r g o
 intro e a f c x;rw[Ata,bD]at a c;simp only[bO,List.not_mem_nil,or_false]at a c;rcases a with a|a<;>rcases c with c|c
 .exact h.cx e (sub e a) f (sub f c) x
 .subst c;exact d e a x.swap
 .subst a;exact d f c x
 subst a;subst c;have:=x.1;rw[Aqr]at this;unfold opp at this;omega
theorem Av2{b w u y:P}{m:List P}(h:Sim (b::w::(y::m++[u])))(d:Sim (w::(y::m++[u])))(tp:(ray y u b ^^ ray y b w ^^ ray y w u)=false):
 lam (w::(y::m++[u]))=lam (b::w::(y::m++[u])):=by
 have a:=Aq0 [b,w] (y::m++[u]) (by simp) h;have c:=Aq0 [w] (y::m++[u]) (by simp) d;simp only[cV,dQ]at a c ⊢;rw[a,c]
 have:∃x k,m++[u]=x::k:=by
  cases m with
  | nil=>exact⟨u,[],rfl⟩
  | cons x m=>exact⟨x,m++[u],rfl⟩
 obtain⟨x,k,e⟩:=this
 have fk:fin x k=u:=by
  have:=wq y m u;rw[e]at this;exact this
 rw[e];simp only[cV,lam,wq];rw[show k++[b,w]=(k++[b])++[w] by simp,wq,Are x (k++[b]),wq,Are x k b,Are x k w,fk];simp only[Aq5,par];revert tp;rw[show Arm y (u,w)=ray y u w from rfl,show Arm y (u,b)=ray y u b from rfl,show Arm y (b,w)=ray y b w from rfl,Ars y u w];generalize par (Arm y) (ch x k)=X1;generalize ray y u w=X2;generalize ray y u b=X3;generalize ray y b w=X4;generalize loc w y x=X5;cases X1<;>cases X2<;>cases X3<;>cases X4<;>cases X5<;>simp
theorem Ari{w u r:P}{m:List P}(h:r∈w::(m++[u])):r=w\/r=u\/r∈m:=by
 simp only[bO,bD,List.not_mem_nil,or_false]at h;rcases h with h|h|h
 .exact .inl h
 .exact .inr (.inr h)
 exact .inr (.inl h)
section
variable {b w u : P} {m : List P}
theorem T.bw:(b,w)∈E (b::w::(m++[u])):=by rw[Ar9];simp
theorem T.ub:(u,b)∈E (b::w::(m++[u])):=by rw[Ar9];simp
theorem T.che{e:P×P}(he:e∈ch w (m++[u])):e∈E (b::w::(m++[u])):=by rw[Ar9];simp[he]
theorem T.mb:b∈b::w::(m++[u]):=aL
theorem T.mw:w∈b::w::(m++[u]):=aL
theorem T.mu:u∈b::w::(m++[u]):=aL
theorem T.nb{e:P×P}(nd:(b::w::(m++[u])).Nodup)(he:e∈ch w (m++[u])):e.1≠b/\e.2≠b:=by
 obtain⟨n1,n2,n3,n4,n5,n6,n7,n8⟩:=Aq4 nd;have hh:=Aq8 he;constructor
 ·intro z;rw[z] at hh
  rcases Ari hh.1 with q|q|q
  ·exact n1 q
  ·exact n2 q
  ·exact n4 q
 ·intro z;rw[z] at hh
  rcases Ari (List.mem_cons_of_mem w hh.2) with q|q|q
  ·exact n1 q
  ·exact n2 q
  ·exact n4 q
end
theorem Avy{b w u:P}{m:List P}(h:Sim (b::w::(m++[u])))(D:0<cr u b w)(c:∀r∈m,¬InT u b w r):
 (∀r∈w::(m++[u]),On u w r->r=u\/r=w)/\(∀e∈ch w (m++[u]),¬Crs u w e.1 e.2):=by
 let⟨j,k,i,n4,l,n,p,s⟩:=Aq4 h.nd
 have d:∀r,r∈w::(m++[u])->r=u\/r=w\/¬InT u b w r:=by
  intro r f;rcases Ari f with q|q|q
  .exact .inr (.inl q)
  .exact .inl q
  exact .inr (.inr (c r q))
 refine⟨λr f o=>?_,λe a=>?_⟩
 .rcases d r f with q|q|q
  .exact .inl q
  .exact .inr q
  exact absurd (InT.seg (InT.tip1 D) (InT.tip3 D) (h.ne T.mu T.mw i.symm) o) q
 have g:=Aq8 a;have nb:=T.nb h.nd a
 exact Au4 D (h.cx _ T.ub _ (T.che a)) (h.cx _ T.bw _ (T.che a)) (d _ g.1) (d _ (List.mem_cons_of_mem w g.2))
  (λo=>by rcases h.on _ (T.che a) b T.mb o with q|q;exact nb.1 q.symm;exact nb.2 q.symm)
theorem Arx{b w u:P}{m:List P}(h:Sim (b::w::(m++[u])))(D:cr u b w=0):(u.2<b.2/\b.2<w.2)\/(w.2<b.2/\b.2<u.2):=by
 let⟨c,d,a,n4,k,l,n,p⟩:=Aq4 h.nd;have g:=h.ne T.mb T.mw c;have i:=h.ne T.mb T.mu d;have j:=h.ne T.mw T.mu a;have e:¬On b w u:=λo=>by rcases h.on _ T.bw u T.mu o with q|q;exact d q.symm;exact a q.symm
 have f:¬On u b w:=λo=>by rcases h.on _ T.ub w T.mw o with q|q;exact a q;exact c q.symm
 unfold On at e f;rw[Aqs u b w]at e;omega
theorem Au0{b w u:P}{m:List P}(h:Sim (b::w::(m++[u])))(D:cr u b w=0):
 (∀r∈w::(m++[u]),On u w r->r=u\/r=w)/\(∀e∈ch w (m++[u]),¬Crs u w e.1 e.2):=by
 let⟨G,H,O,n4,Q,R,S,U⟩:=Aq4 h.nd;have d:=Arx h D
 have l:∀r:P,(w.2-u.2)*cr u b r=(b.2-u.2)*cr u w r:=by
  intro r;have:(w.2-u.2)*cr u b r=(b.2-u.2)*cr u w r+(r.2-u.2)*cr u b w:=by unfold cr;grind
  rw[this,D];omega
 have n:∀r:P,(w.2-u.2)*cr b w r=(w.2-b.2)*cr u w r:=by
  intro r;have:(w.2-u.2)*cr b w r=(w.2-b.2)*cr u w r+(w.2-r.2)*cr u b w:=by unfold cr;grind
  rw[this,D];omega
 refine⟨λr k o=>?_,λe j x=>?_⟩
 .have K:=l r;have L:=n r;rw[o.1]at K L
  have I:cr u b r=0:=by
   rcases Int.mul_eq_zero.1 (show (w.2-u.2)*cr u b r=0 by omega) with q|q<;>omega
  have J:cr b w r=0:=by
   rcases Int.mul_eq_zero.1 (show (w.2-u.2)*cr b w r=0 by omega) with q|q<;>omega
  have rb:r≠b:=by
   rintro rfl;rcases Ari k with q|q|q
   .exact G q
   .exact H q
   exact n4 q
  have W:=o.2;by_cases c:(u.2<=r.2/\r.2<=b.2)\/(b.2<=r.2/\r.2<=u.2)
  .rcases h.on _ T.ub r (List.mem_cons_of_mem _ k) ⟨I,c⟩ with q|q
   .exact .inl q
   exact absurd q rb
  rcases h.on _ T.bw r (List.mem_cons_of_mem _ k) ⟨J,by simp only;omega⟩ with q|q
  .exact absurd q rb
  exact .inr q
 have nb:=T.nb h.nd j;have E:=h.cx _ T.ub _ (T.che j);have F:=h.cx _ T.bw _ (T.che j);have B:¬On e.1 e.2 b:=λo=>by rcases h.on _ (T.che j) b T.mb o with q|q;exact nb.1 q.symm;exact nb.2 q.symm
 obtain⟨s,t⟩:=e;simp only at E F B x;obtain⟨g,f⟩:=x
 have i:opp (cr u b s) (cr u b t):=by
  have a:=l s;have c:=l t;rcases d with⟨p,q⟩|⟨p,q⟩
  .have y:=Arf (A:=cr u b s) (C := - cr u w s) (p:=w.2-u.2) (q:=b.2-u.2) (by grind);have s2:=Arf (A:=cr u b t) (C := - cr u w t) (p:=w.2-u.2) (q:=b.2-u.2) (by grind);unfold opp at *;omega
  have y:=Arf (A:=cr u b s) (C := - cr u w s) (p:=u.2-w.2) (q:=u.2-b.2) (by grind);have s2:=Arf (A:=cr u b t) (C := - cr u w t) (p:=u.2-w.2) (q:=u.2-b.2) (by grind);unfold opp at *;omega
 have v:opp (cr b w s) (cr b w t):=by
  have a:=n s;have c:=n t;rcases d with⟨p,q⟩|⟨p,q⟩
  .have y:=Arf (A:=cr b w s) (C := - cr u w s) (p:=w.2-u.2) (q:=w.2-b.2) (by grind);have s2:=Arf (A:=cr b w t) (C := - cr u w t) (p:=w.2-u.2) (q:=w.2-b.2) (by grind);unfold opp at *;omega
  have y:=Arf (A:=cr b w s) (C := - cr u w s) (p:=u.2-w.2) (q:=b.2-w.2) (by grind);have s2:=Arf (A:=cr b w t) (C := - cr u w t) (p:=u.2-w.2) (q:=b.2-w.2) (by grind);unfold opp at *;omega
 have V:cr s t b≠0:=λz=>B (Aru i z)
 have M:¬opp (cr s t u) (cr s t b):=λo=>E ⟨i,o⟩
 have N:¬opp (cr s t b) (cr s t w):=λo=>F ⟨v,o⟩
 unfold opp at *
 omega
theorem At7{b w u:P}{m:List P}(h:Sim (b::w::(m++[u])))(D:0<cr u b w)(a:∀r∈m,¬InT u b w r)(f:m≠[]):
 Sim (w::(m++[u]))/\lam (w::(m++[u]))=lam (b::w::(m++[u])):=by
 have c:=Avy h D a;have e:=Av1 h c.1 c.2;let⟨j,k,l,n4,g,i,n,o⟩:=Aq4 h.nd;cases m with
 | nil=>exact absurd rfl f
 | cons y m =>
   refine⟨e,Av2 h e ?_⟩;have d:y∈b::w::(y::m++[u]):=by simp
   refine Axi D (a y (by simp)) (h.ne T.mu d ?_) (h.ne T.mb d ?_) (h.ne T.mw d ?_)
   .rintro rfl;simp at i
   .rintro rfl;simp at n4
   rintro rfl;simp at g
theorem Auk{b w u:P}{m:List P}(h:Sim (b::w::(m++[u])))(D:cr u b w=0)(e:m≠[]):
 Sim (w::(m++[u]))/\lam (w::(m++[u]))=lam (b::w::(m++[u])):=by
 have c:=Au0 h D;have d:=Av1 h c.1 c.2;let⟨i,j,k,n4,f,g,l,n⟩:=Aq4 h.nd;cases m with
 | nil=>exact absurd rfl e
 | cons y m =>
   refine⟨d,Av2 h d ?_⟩;have a:y∈b::w::(y::m++[u]):=by simp
   refine Awv D (Arx h D) (h.ne T.mu a ?_) (h.ne T.mb a ?_) (h.ne T.mw a ?_)
   .rintro rfl;simp at g
   .rintro rfl;simp at n4
   rintro rfl;simp at f
end Ears
end
namespace Ears
def Ear(l:List P)(u b w:P):Prop:=(u,b)∈E l/\(b,w)∈E l/\0<cr u b w/\∀q∈l,q≠u->q≠b->q≠w->¬InT u b w q
theorem Ear.rot{A B:List P}{u b w:P}(h:Ear (A++B) u b w):Ear (B++A) u b w:=⟨Aqt h.1,Aqt h.2.1,h.2.2.1,λq hq=>h.2.2.2 q (Ard hq)⟩
theorem Sim.ed{Q:List P}(h:Sim Q)(d:2<=Q.length){e:P×P}(a:e∈E Q):e.1≠e.2:=by
 match Q,d with
 | b::w::r,_ =>
   rw[Aw8]at a;have c:=h.nd;rw[List.nodup_cons]at c;simp only[bO,bD,List.not_mem_nil,or_false]at a;rcases a with rfl|a|rfl
   .intro e;simp only at e;subst e;simp at c
   .exact Au5 c.2 a
   intro e;simp only at e;have:=As7 w r;rw[e]at this;exact c.1 this
theorem Au3{Q:List P}{s t:P}(d:∀e∈E Q,NM e.1 e.2 s t)(c:∀r∈Q,r.2≠s.2/\r.2≠t.2)(b:∀e∈E Q,e.1.2≠e.2.2)(a:s.2≠t.2):par (Arm s) (E Q)=par (Arm t) (E Q):=by
 cases Q with
 | nil=>rfl
 | cons x k =>
   have:=Ar0 (x:=x) (l:=k++[x]) d (λr f=>c r (by simp at f ⊢;grind)) b a;rw[wq]at this;simp only[E];revert this;generalize par (Arm s) (ch x (k++[x]))=X1;generalize par (Arm t) (ch x (k++[x]))=X2;generalize gg s t x=X3;cases X1<;>cases X2<;>cases X3<;>simp
theorem At8{g:P->Bool}{x:P}{k:List P}(h:∀e∈ch x k,g e.1=g e.2):∀q∈x::k,g q=g x:=by
 induction k generalizing x with
 | nil=>intro q hq;simp at hq;rw[hq]
 | cons y k ih =>
   intro q hq;have a:=h (x,y) (by simp[ch]);rcases bO.1 hq with e|e
   .rw[e]
   rw[ih (λe b=>h e (by simp[ch,b])) q e];exact a.symm
theorem Avo{v y:P}{r:List P}(c:∀z∈y::r,v.2<z.2):par (Arm v) (ch y r)=false:=by
 refine Avj λe d=>?_
 have m:=Aq8 d;have a:=c _ m.1;have b:=c _ (List.mem_cons_of_mem _ m.2);unfold Arm ray;rw[decide_eq_false_iff_not];omega
theorem Asf{v w:P}{r:List P}(c:∀z∈w::r,v.2<z.2):lam (v::w::r)=decide (0<cr (fin w r) v w):=by
 have a:=c w aL;have b:=c _ (As7 w r);simp only[lam,Avo c,Bool.false_xor];unfold loc;rw[decide_eq_decide];omega
theorem Ay3{v y o:P}{r:List P}(a:∀z∈y::r,v.2<z.2)(A:v.2<o.2)(q:∀e∈ch y r,NM e.1 e.2 v o)(c:∀z∈y::r,z.2≠o.2)(p:∀e∈ch y r,e.1.2≠e.2.2)
 (j:¬On v o (fin y r)) (k:¬On (fin y r) v o) (m:¬On o v y) (n:¬On v y o) :
 par (Arm o) (E (v::y::r))=(true ^^ loc (fin y r) v o ^^ loc o v y):=by
 have f:=Ar0 (x:=y) (l:=r) (s:=v) (t:=o) q (λz h=>⟨by have:=a z h;omega,c z h⟩) p (by omega);have g:=As7 y r;have i:=Axt (u:=fin y r) (b:=v) (w:=o) (by have:=a _ g;omega) (by omega) (c _ g) j k;have B:=a y (by simp);have d:=Cr (b:=o) (w:=v) (x:=y) (by omega) (by omega) (by have:=c y (by simp);omega) m n;rw[Avo a]at f;rw[Aw8];simp only[par,Aq5];rw[show Arm o (v,y)=ray o v y from rfl,show Arm o (fin y r,v)=ray o (fin y r) v from rfl];rw[Ar2 v o y]at d;rw[show decide (v.2<o.2)=true from bV A]at i;rw[show decide (o.2<v.2)=false from decide_eq_false (by omega)]at d;revert f i d;generalize par (Arm o) (ch y r)=X1;generalize gg v o y=X2;generalize gg v o (fin y r)=X3;generalize ray o (fin y r) v=X4;generalize ray o v y=X5;generalize loc (fin y r) v o=X6;generalize loc o v y=X7;cases X1<;>cases X2<;>cases X3<;>cases X4<;>cases X5<;>cases X6<;>cases X7<;>simp
theorem Axf(b q w:P):cr b q w = - cr b w q:=by unfold cr;grind
theorem Ax0{b w u q:P}{m:List P}(h:Sim (b::w::(m++[u])))(hl:lam (b::w::(m++[u]))=true)(D:0<cr u b w)(emp:∀r∈m,¬InT u b w r)
 (hq:InT u b w q) (q1:0<cr u b q) (q2:0<cr b w q) (hqh:∀r∈b::w::(m++[u]),r.2≠q.2) (hqe:∀e∈E (b::w::(m++[u])),¬On e.1 e.2 q) :
 par (Arm q) (E (b::w::(m++[u])))=true:=by
 obtain⟨n1,n2,n3,n4,n5,n6,n7,n8⟩:=Aq4 h.nd;have dbq:=hqh b T.mb
 have hT:∀r,r∈w::(m++[u])->r=u\/r=w\/¬InT u b w r:=by
  intro r hr;rcases Ari hr with q|q|q
  ·exact .inr (.inl q)
  ·exact .inl q
  ·exact .inr (.inr (emp r q))
 have seg:∀r,r∈w::(m++[u])->¬On b q r:=by
  intro r hr o;rcases hT r hr with e|e|e
  ·subst e;have:=o.1;rw[Aqs r b q] at this;omega
  ·subst e;have:=o.1;rw[Axf] at this;omega
  ·exact e (InT.seg (InT.tip2 D) hq dbq o)
 have hc:=Ar0 (x:=w) (l:=m++[u]) (s:=b) (t:=q) (fun e he=>by
  have hh:=Aq8 he;have nb:=T.nb h.nd he;have hE:=T.che (b:=b) he;refine⟨fun o=>?_,hqe e hE,seg _ hh.1,seg _ (List.mem_cons_of_mem w hh.2),fun x=>?_⟩
  ·rcases h.on _ hE b T.mb o with e|e
   ·exact nb.1 e.symm
   ·exact nb.2 e.symm
  ·exact Awe D q1 q2 hq.2.2 (h.cx _ T.ub _ hE) (h.cx _ T.bw _ hE) (hT _ hh.1) (hT _ (List.mem_cons_of_mem w hh.2)) x.swap)
  (fun r hr=>⟨h.ne (List.mem_cons_of_mem _ hr) T.mb (by rintro rfl;exact(List.nodup_cons.1 h.nd).1 hr),hqh r (List.mem_cons_of_mem _ hr)⟩)
  (fun e he=>h.ne (List.mem_cons_of_mem _ (Aq8 he).1) (List.mem_cons_of_mem _ (List.mem_cons_of_mem _ (Aq8 he).2)) (Au5 n7 he))
  dbq
 rw[wq] at hc;have pA:=Axt (u:=u) (b:=b) (w:=q) (h.ne T.mu T.mb n2.symm) dbq (hqh u T.mu) (seg u (by simp)) (hqe (u,b) T.ub)
 have pB:=Cr (b:=q) (w:=b) (x:=w) (Ne.symm dbq) (h.ne T.mb T.mw n1) (Ne.symm (hqh w T.mw)) (fun o=>seg w (by simp) o.symm) (hqe (b,w) T.bw)
 have L:=Avq D q1 q2 (h.ne T.mu T.mb n2.symm) (h.ne T.mw T.mb n1.symm) (Ne.symm dbq);rw[Ar2 b q w] at pB;simp only[lam,wq] at hl;rw[Ar9];simp only[par,Aq5];rw[show Arm q (b,w)=ray q b w from rfl,show Arm q (u,b)=ray q u b from rfl]
 have hx:(decide (b.2<q.2) ^^ decide (q.2<b.2))=true:=by
  rcases Int.lt_or_gt_of_ne dbq with c|c
  ·rw[bV c,decide_eq_false (by omega)];rfl
  ·rw[decide_eq_false (by omega),bV (by omega)];rfl
 revert hc pA pB hl L hx;generalize par (Arm b) (ch w (m++[u]))=X1;generalize par (Arm q) (ch w (m++[u]))=X2;generalize gg b q w=X3;generalize gg b q u=X4;generalize ray q u b=X5;generalize ray q b w=X6;generalize loc u b w=X7;generalize loc u b q=X8;generalize loc q b w=X9;generalize decide (b.2<q.2)=Y1;generalize decide (q.2<b.2)=Y2;clear n1 n2 n3 n4 n5 n6 n7 n8 seg hT;cases X1<;>cases X3<;>cases X4<;>cases X5<;>cases X6<;>cases X7<;>cases X8<;>simp<;>grind
theorem Avc{l Q:List P}{p q:P}(h:Sim l)(n:Q.Nodup)(sub:∀r∈Q,r∈l)(b:∀e∈E Q,e∈E l\/e=(p,q))
 (g:∀r∈l,On p q r->r=p\/r=q) (c:∀f∈E l,¬Crs p q f.1 f.2):Sim Q:=by
 refine⟨n,λp m q hq=>h.ht p (sub p m) q (sub q hq),λe a r d o=>?_,λe a f i x=>?_⟩
 .rcases b e a with k|k
  .exact h.on e k r (sub r d) o
  subst k;exact g r (sub r d) o
 rcases b e a with k|k<;>rcases b f i with j|j
 .exact h.cx e k f j x
 .subst j;exact c e k x.swap
 .subst k;exact c f j x
 subst k;subst j;have:=x.1;rw[Aqr]at this;unfold opp at this;omega
theorem Aum{l Q:List P}{p q:P}(h:Sim l)(hQ:Sim Q)(lamQ:lam Q=true)(sub:∀r∈Q,r∈l)(he:∀e∈E Q,e∈E l\/e=(p,q))
 (c1:∀r∈l,On p q r->r=p\/r=q) (c2:∀f∈E l,¬Crs p q f.1 f.2)   {x:P} {k:List P} (out:∀r∈x::k,r∈l/\r ∉ Q) (hk:∀e∈ch x k,e∈E l) (nk:(x::k).Nodup)
 (cover:∀r∈l,r∈Q\/r∈x::k) {o:P} (ho:o∈x::k) (even:par (Arm o) (E Q)=false) {u b w:P} (ear:Ear Q u b w) (n1:b≠p) (n2:b≠q) (h3:3<=Q.length:=by simp) (mp:p∈Q:=by simp) (mq:q∈Q:=by simp) :Ear l u b w:=by
 obtain⟨e1,e2,D,emp⟩:=ear
 have f1:(u,b)∈E l:=by
  rcases he _ e1 with j|j
  ·exact j
  ·injection j with _ j;exact absurd j n2
 have f2:(b,w)∈E l:=by
  rcases he _ e2 with j|j
  ·exact j
  ·injection j with j _;exact absurd j n1
 refine⟨f1,f2,D,fun r hr r1 r2 r3 hT=>?_⟩
 rcases cover r hr with hrQ|hrk
 ·exact emp r hrQ r1 r2 r3 hT
 ·have hrQ:=(out r hrk).2
  -- the parity of r with respect to Q is even
  have cst:∀e∈ch x k,par (Arm e.1) (E Q)=par (Arm e.2) (E Q):=by
   intro e hE;have m:=Aq8 hE;have o1:=out _ m.1;have o2:=out _ (List.mem_cons_of_mem _ m.2);refine Au3 (fun f hF=>?_) (fun r hr=>⟨h.ne (sub r hr) o1.1 (by rintro rfl;exact o1.2 hr),h.ne (sub r hr) o2.1 (by rintro rfl;exact o2.2 hr)⟩) (fun f hF=>hQ.ne (Arc hF).1 (Arc hF).2 (hQ.ed (by omega) hF)) (h.ne o1.1 o2.1 (Au5 nk hE))
   have mf:=Arc hF;have d1:f.1≠e.1:=by intro z;exact o1.2 (z ▸ mf.1)
   have d2:f.1≠e.2:=by intro z;exact o2.2 (z ▸ mf.1)
   have d3:f.2≠e.1:=by intro z;exact o1.2 (z ▸ mf.2)
   have d4:f.2≠e.2:=by intro z;exact o2.2 (z ▸ mf.2)
   rcases he f hF with j|j
   ·exact h.nm j (hk e hE) d1 d2 d3 d4
   ·subst j
    refine⟨fun o=>?_,fun o=>?_,fun o=>?_,fun o=>?_,c2 e (hk e hE)⟩
    ·rcases c1 _ o1.1 o with z|z
     ·exact d1 z.symm
     ·exact d3 z.symm
    ·rcases c1 _ o2.1 o with z|z
     ·exact d2 z.symm
     ·exact d4 z.symm
    ·rcases h.on e (hk e hE) _ (sub _ mp) o with z|z
     ·exact d1 z
     ·exact d2 z
    ·rcases h.on e (hk e hE) _ (sub _ mq) o with z|z
     ·exact d3 z
     ·exact d4 z
  have all:=At8 (g:=fun q=>par (Arm q) (E Q)) cst
  have ev:par (Arm r) (E Q)=false:=by
   have a:=all r hrk;have c:=all o ho;rw[a,<-c,even]
  have hqe:∀e∈E Q,¬On e.1 e.2 r:=by
   intro e hE o;have mf:=Arc hE;rcases he e hE with j|j
   ·rcases h.on e j r hr o with z|z
    ·exact hrQ (z ▸ mf.1)
    ·exact hrQ (z ▸ mf.2)
   ·subst j
    rcases c1 r hr o with z|z
    ·exact hrQ (z ▸ mp)
    ·exact hrQ (z ▸ mq)
  have q1:0<cr u b r:=by
   rcases Int.lt_or_eq_of_le hT.1 with z|z
   ·exact z
   ·exact absurd (Arv D hT z.symm) (hqe _ e1)
  have q2:0<cr b w r:=by
   rcases Int.lt_or_eq_of_le hT.2.1 with z|z
   ·exact z
   ·exact absurd (Arv (u:=b) (b:=w) (w:=u) (by rw[Aqs u b w];exact D) ⟨hT.2.1,hT.2.2,hT.1⟩ z.symm) (hqe _ e2)
  obtain⟨A,B,m,j1,j2⟩:=Atf hQ.nd h3 e1 e2;subst j1;have sR:=hQ.rot;have lR:=Aq0 A B h3 hQ;have pR:=Axw (Arm r) A B;rw[j2] at sR lR pR;rw[lamQ] at lR;rw[ev] at pR
  have mem:∀r,r∈b::w::(m++[u])->r∈A++B:=by
   intro r hr;rw[<-j2] at hr;exact Ard hr
  have:=Ax0 sR lR.symm D (fun r' hr'=>by
   obtain⟨k1,k2,k3,k4,k5,k6,k7,k8⟩:=Aq4 sR.nd;exact emp r' (mem r' (by simp[hr'])) (by rintro rfl;exact k6 hr') (by rintro rfl;exact k4 hr') (by rintro rfl;exact k5 hr')) hT q1 q2
   (fun r' hr'=>h.ne (sub r' (mem r' hr')) hr (by rintro rfl;exact hrQ (mem _ hr')))
   (fun e hE=>hqe e (by rw[<-j2] at hE;exact Aqt hE))
  rw[this] at pR;simp at pR
end Ears
namespace Ears
theorem Ar3{l:List P}(f:P->Int)(h:l≠[]):∃v∈l,∀q∈l,f v<=f q:=by
 induction l with
 | nil=>exact absurd rfl h
 | cons x l ih =>
   by_cases b:l=[]
   .subst b;exact⟨x,aL,λq hq=>by simp at hq;rw[hq];omega⟩
   let⟨v,d,a⟩:=ih b;by_cases c:f x<=f v
   .refine⟨x,aL,λq hq=>?_⟩;rcases bO.1 hq with e|e
    .rw[e];omega
    have:=a q e;omega
   refine⟨v,by simp[d],λq hq=>?_⟩;rcases bO.1 hq with e|e
   .rw[e];omega
   exact a q e
theorem Avp{u b w v:P}(D:0<cr u b w)(h:v.2<u.2)(i:v.2<b.2)(j:v.2<w.2):¬InT u b w v:=by
 intro ⟨a,c,d⟩;have e:=Aua u b w v;have f:=Av6 u b w v
 have g:cr b w v*(u.2-v.2)+cr w u v*(b.2-v.2)+cr u b v*(w.2-v.2)=0:=by
  have:(cr b w v+cr w u v+cr u b v)*v.2=cr u b w*v.2:=by rw[e]
  rw[gJ,gJ]at this;rw[Int.mul_sub,Int.mul_sub,Int.mul_sub];omega
 have k:=nn c (show 0<=u.2-v.2 by omega);have l:=nn d (show 0<=b.2-v.2 by omega);have m:=nn a (show 0<=w.2-v.2 by omega);rcases Int.lt_or_eq_of_le a with p|p
 .have:=L3 p (show 0<w.2-v.2 by omega);omega
 rcases Int.lt_or_eq_of_le c with q|q
 .have:=L3 q (show 0<u.2-v.2 by omega);omega
 rcases Int.lt_or_eq_of_le d with r|r
 .have:=L3 r (show 0<b.2-v.2 by omega);omega
 omega
theorem Au1{v c a z:P}{m:List P}(h:Sim (v::c::(m++[a])))(J:∀q∈c::(m++[a]),v.2<q.2)(D:0<cr a v c)(n:z∈m)(d:InT a v c z)(zm:∀r∈m,InT a v c r->cr c a r<=cr c a z):
 0<cr a v z/\0<cr v c z/\(∀r∈v::c::(m++[a]),On v z r->r=v\/r=z)/\(∀f∈E (v::c::(m++[a])),¬Crs v z f.1 f.2):=by
 let⟨S,U,V,n4,K,L,W,X⟩:=Aq4 h.nd;have y:z∈v::c::(m++[a]):=by simp[n]
 have O:z≠a:=by rintro rfl;exact L n
 have zv:z≠v:=by rintro rfl;exact n4 n
 have zc:z≠c:=by rintro rfl;exact K n
 have C:0<cr a v z:=by
  rcases Int.lt_or_eq_of_le d.1 with q|q
  .exact q
  rcases h.on _ T.ub z y (Arv D d q.symm) with e|e
  .exact absurd e O
  exact absurd e zv
 have F:0<cr v c z:=by
  rcases Int.lt_or_eq_of_le d.2.1 with q|q
  .exact q
  rcases h.on _ T.bw z y (Arv (u:=v) (b:=c) (w:=a) (by rw[Aqs a v c];exact D) ⟨d.2.1,d.2.2,d.1⟩ q.symm) with e|e
  .exact absurd e zv
  exact absurd e zc
 have Z:=J z (by simp[n]);have Q:=Aua a v c z;have I:cr c a v=cr a v c:=by rw[Aqs v c a,Aqs a v c]
 refine⟨C,F,λr p o=>?_,λf l x=>?_⟩
 .by_cases g:r=v
  .exact .inl g
  by_cases i:r=z
  .exact .inr i
  exfalso;have k:=InT.seg (InT.tip2 D) d (by omega) o
  have j:r∈c::(m++[a]):=by
   rcases bO.1 p with q|q
   .exact absurd q g
   exact q
  rcases Ari j with q|q|q
  .subst q;have:=o.1;rw[Axf]at this;omega
  .subst q;have:=o.1;rw[Aqs r v z]at this;omega
  have le:=zm r q k;have s:=Axb v z r c a;rw[o.1,I]at s;have R:=h.ne p y i;have Y:=o.2;have M:=L3 (show 0<z.2-r.2 by omega) (show 0<cr a v c-cr c a z by omega);have N:=nn (show 0<=z.2-v.2 by omega) (show 0<=cr c a z-cr c a r by omega);have:(z.2-v.2)*cr c a z=(z.2-r.2)*cr c a z+(r.2-v.2)*cr c a z:=by rw[<-gJ];congr 1;omega
  rw[Int.mul_sub]at M N;omega
 have B:=Arc l
 have A:∀r,r∈v::c::(m++[a])->r≠v->InT a v c r->cr c a r<=cr c a z:=by
  intro r p t k
  have j:r∈c::(m++[a]):=by
   rcases bO.1 p with q|q
   .exact absurd q t
   exact q
  rcases Ari j with q|q|q
  .subst q;rw[Aqr];exact d.2.2
  .subst q;rw[Aqu];exact d.2.2
  exact zm r q k
 have G:f.1≠v:=by intro e;have:=x.1;rw[e,Aqr]at this;unfold opp at this;omega
 have H:f.2≠v:=by intro e;have:=x.1;rw[e,Aqr]at this;unfold opp at this;omega
 refine Av0 D C F d.2.2 (h.cx _ T.ub _ l) (h.cx _ T.bw _ l) ?_ ?_ (A _ B.1 G) (A _ B.2 H) x
 .by_cases g:f.1=a
  .exact .inl g
  by_cases i:f.2=a
  .exact .inr (.inl i)
  refine .inr (.inr λo=>?_);rcases h.on f l a T.mu o with e|e
  .exact g e.symm
  exact i e.symm
 by_cases g:f.1=c
 .exact .inl g
 by_cases i:f.2=c
 .exact .inr (.inl i)
 refine .inr (.inr λo=>?_);rcases h.on f l c T.mw o with e|e
 .exact g e.symm
 exact i e.symm
theorem As4{u v w:P}(a:v.2<u.2)(b:v.2<w.2):loc u v w=decide (0<cr u v w):=by
 unfold loc;rw[decide_eq_decide];omega
theorem As8{m:List P}{Q:P->Prop}(f:P->Int)(h:∃r∈m,Q r):∃z∈m,Q z/\∀r∈m,Q r->f r<=f z:=by
 classical
 obtain⟨r,d,c⟩:=h
 let⟨z,a,b⟩:=Ar3 (l:=m.filter λq=>decide (Q q)) (λq => - f q) (by
  intro e;have:r∈m.filter (λq=>decide (Q q)):=by simp[d,c]
  rw[e]at this;simp at this)
 simp only[List.mem_filter,decide_eq_true_eq]at a b;exact⟨z,a.1,a.2,λq hq hq2=>by have:=b q ⟨hq,hq2⟩;omega⟩
theorem Ay5:∀(n:Nat) (l:List P),l.length<=n->3<=l.length->Sim l->lam l=true->∀x y,(x,y)∈E l->∃u b w,Ear l u b w/\b≠x/\b≠y:=by
 intro n;induction n with
 | zero=>intro l h1 h2;omega
 | succ n ih =>
   intro l0 hn h3 hs0 hl0 x y hxy0;obtain⟨v,hvl,hv0⟩:=Ar3 (l:=l0) (fun q=>q.2) (by intro e;rw[e] at h3;simp at h3)
   obtain⟨A,B,c,m,a,e1,e2⟩:=As3 hvl h3;subst e1;have h:=hs0.rot;have hl:=Aq0 A B h3 hs0;rw[hl0] at hl;have hxy:=Aqt hxy0;have hlen:(B++A).length=(A++B).length:=aO
   suffices H:∃u b w,Ear (B++A) u b w/\b≠x/\b≠y by
    obtain⟨u,b,w,q1,q2⟩:=H;exact⟨u,b,w,q1.rot,q2⟩
   have hv1:∀q∈B++A,v.2<=q.2:=fun q hq=>hv0 q (Ard hq)
   rw[<-hlen] at hn h3;clear hs0 hl0 hxy0 hvl hv0 hlen;rw[e2] at h hl hxy hv1 hn h3 ⊢;clear e2;obtain⟨n1,n2,n3,n4,n5,n6,n7,n8⟩:=Aq4 h.nd
   have hv:∀q∈c::(m++[a]),v.2<q.2:=by
    intro q hq;have a1:=hv1 q (List.mem_cons_of_mem _ hq);have a2:=h.ne T.mb (List.mem_cons_of_mem v hq) (by rintro rfl;exact(List.nodup_cons.1 h.nd).1 hq)
    omega
   have va:=hv a aL
   have vc:=hv c aL
   have D:0<cr a v c:=by
    rw[Asf hv,wq] at hl;exact of_decide_eq_true hl.symm
   by_cases hm:m=[]
   ·subst hm
    simp only[dQ] at *
    have hE:E [v,c,a]=[(v,c),(c,a),(a,v)]:=rfl
    have key:∀u b w:P,(u,b)∈E [v,c,a]->(b,w)∈E [v,c,a]->0<cr u b w->(∀q∈[v,c,a],q=u\/q=b\/q=w)->Ear [v,c,a] u b w:=by
     intro u b w k1 k2 k3 k4;exact⟨k1,k2,k3,fun q hq q1 q2 q3=>by rcases k4 q hq with e|e|e;exact absurd e q1;exact absurd e q2;exact absurd e q3⟩
    have D1:0<cr c a v:=by rw[Aqs v c a,Aqs a v c];exact D
    have D2:0<cr v c a:=by rw[Aqs a v c];exact D
    rw[hE] at hxy;simp only[bO,List.not_mem_nil,or_false,Prod.mk.injEq] at hxy;rcases hxy with ⟨rfl,rfl⟩|⟨rfl,rfl⟩|⟨rfl,rfl⟩
    ·exact⟨y,a,x,key _ _ _ (by rw[hE];simp) (by rw[hE];simp) D1 (by intro q hq;simp at hq;grind),n2.symm,n3.symm⟩
    ·exact⟨y,v,x,key _ _ _ (by rw[hE];simp) (by rw[hE];simp) D (by intro q hq;simp at hq;grind),n1,n2⟩
    ·exact⟨y,c,x,key _ _ _ (by rw[hE];simp) (by rw[hE];simp) D2 (by intro q hq;simp at hq;grind),n3,n1.symm⟩
   ·by_cases emp:∀r∈m,¬InT a v c r
    ·obtain⟨h',hl'⟩:=At7 h D emp hm
     by_cases hvx:v=x\/v=y
     ·obtain⟨u,b,w,⟨k1,k2,k3,k4⟩,b1,b2⟩:=ih (c::(m++[a])) (by simp at hn ⊢;omega) (by cases m with|nil=>exact absurd rfl hm|cons y m=>simp) h' (by rw[hl',<-hl]) a c (by rw[Ata];simp)
      have mb:b∈c::(m++[a]):=(Arc k2).1
      have up:∀e∈E (c::(m++[a])),e≠(a,c)->e∈E (v::c::(m++[a])):=by
       intro e he ne;rw[Ata] at he;simp only[bD,bO,List.not_mem_nil,or_false] at he;rcases he with he|he
       ·exact T.che he
       ·exact absurd he ne
      refine⟨u,b,w,⟨up _ k1 (by intro e;injection e with _ e;exact b2 e),up _ k2 (by intro e;injection e with e _;exact b1 e),k3,fun q hq q1 q2 q3=>?_⟩,?_,?_⟩
      ·rcases bO.1 hq with e|e
       ·subst e
        exact Avp k3 (hv _ (Arc k1).1) (hv _ mb) (hv _ (Arc k2).2)
       ·exact k4 q e q1 q2 q3
      ·rintro rfl
       rcases hvx with e|e
       ·subst e;exact(List.nodup_cons.1 h.nd).1 mb
       ·subst e;exact b1 ((Aq3 h.nd).2 hxy)
      ·rintro rfl
       rcases hvx with e|e
       ·subst e;exact b2 ((Aq3 h.nd).1 hxy)
       ·subst e;exact(List.nodup_cons.1 h.nd).1 mb
     ·refine⟨a,v,c,⟨T.ub,T.bw,D,fun q hq q1 q2 q3=>?_⟩,fun e=>hvx (.inl e),fun e=>hvx (.inr e)⟩
      have:q∈c::(m++[a]):=by
       rcases bO.1 hq with e|e
       ·exact absurd e q2
       ·exact e
      rcases Ari this with e|e|e
      ·exact absurd e q3
      ·exact absurd e q1
      ·exact emp q e
    ·have:∃r∈m,InT a v c r:=by
      apply bT;intro hc;exact emp fun r hr hT=>hc ⟨r,hr,hT⟩
     obtain⟨z,hz,zT,zm⟩:=As8 (cr c a) this;obtain⟨z1,z2,c1,c2⟩:=Au1 h hv D hz zT zm;obtain⟨m1,m2,rfl⟩:=List.append_of_mem hz;have c1':∀r∈v::c::(m1++z::m2++[a]),On z v r->r=z\/r=v:=fun r hr o=>(c1 r hr o.symm).symm
     have c2':∀f∈E (v::c::(m1++z::m2++[a])),¬Crs z v f.1 f.2:=fun f hf x=>c2 f hf x.flip
     have vz:=hv z aL
     have hch:ch c (m1++z::m2++[a])=ch c (m1++[z])++ch z (m2++[a]):=by
      rw[List.append_assoc,cV,Asi]
     have hE:E (v::c::(m1++z::m2++[a]))=(v,c)::(ch c (m1++[z])++ch z (m2++[a])++[(a,v)]):=by
      rw[Ar9,hch]
     have hE1:E (v::c::(m1++[z]))=(v,c)::(ch c (m1++[z])++[(z,v)]):=Ar9 _ _ _ _;have hE2:E (v::z::(m2++[a]))=(v,z)::(ch z (m2++[a])++[(a,v)]):=Ar9 _ _ _ _;have nd:=h.nd;have nd':((v::c::m1)++(z::(m2++[a]))).Nodup:=by simpa using nd
     have ndA:=(List.nodup_append.1 nd').1;have ndB:=(List.nodup_append.1 nd').2.1;have dis:=(List.nodup_append.1 nd').2.2
     have ndP1:(v::c::(m1++[z])).Nodup:=by
      rw[show v::c::(m1++[z])=(v::c::m1)++[z] by simp,List.nodup_append]
      exact⟨ndA,aL,fun p hp q hq=>dis p hp q (by simp at hq;simp[hq])⟩
     have ndP2:(v::z::(m2++[a])).Nodup:=by
      rw[List.nodup_cons];exact⟨fun q=>dis v aL v q rfl,ndB⟩
     have sub1:∀r∈v::c::(m1++[z]),r∈v::c::(m1++z::m2++[a]):=by intro r hr;simp at hr ⊢;grind
     have sub2:∀r∈v::z::(m2++[a]),r∈v::c::(m1++z::m2++[a]):=by intro r hr;simp at hr ⊢;grind
     have he1:∀e∈E (v::c::(m1++[z])),e∈E (v::c::(m1++z::m2++[a]))\/e=(z,v):=by
      intro e he;rw[hE1] at he;rw[hE];simp only[bO,bD,List.not_mem_nil,or_false] at he ⊢;grind
     have he2:∀e∈E (v::z::(m2++[a])),e∈E (v::c::(m1++z::m2++[a]))\/e=(v,z):=by
      intro e he;rw[hE2] at he;rw[hE];simp only[bO,bD,List.not_mem_nil,or_false] at he ⊢;grind
     have s1:=Avc h ndP1 sub1 he1 c1' c2';have s2:=Avc h ndP2 sub2 he2 c1 c2;have lo1:∀q∈c::(m1++[z]),v.2<q.2:=fun q hq=>hv q (by simp at hq ⊢;grind)
     have lo2:∀q∈z::(m2++[a]),v.2<q.2:=fun q hq=>hv q (by simp at hq ⊢;grind)
     have l1:lam (v::c::(m1++[z]))=true:=by
      rw[Asf lo1,wq,<-Aqs z v c];exact bV z2
     have l2:lam (v::z::(m2++[a]))=true:=by
      rw[Asf lo2,wq];exact bV z1
     have zv:z≠v:=by rintro rfl;omega
     have mz:z∈v::c::(m1++z::m2++[a]):=aL
     have mem1:(x∈v::c::(m1++[z])/\y∈v::c::(m1++[z]))\/(x∈v::z::(m2++[a])/\y∈v::z::(m2++[a])):=by
      rw[hE] at hxy;simp only[bO,bD,List.not_mem_nil,or_false,Prod.mk.injEq] at hxy;rcases hxy with ⟨rfl,rfl⟩|(hxy|hxy)|⟨rfl,rfl⟩
      ·left;simp
      ·have:=Arc (l:=v::c::(m1++[z])) (e:=(x,y)) (by rw[hE1];simp[hxy]);exact .inl this
      ·have:=Arc (l:=v::z::(m2++[a])) (e:=(x,y)) (by rw[hE2];simp[hxy]);exact .inr this
      ·right;simp
     have evc:(v,c)∈E (v::c::(m1++z::m2++[a])):=T.bw;have eav:(a,v)∈E (v::c::(m1++z::m2++[a])):=T.ub;have sE1:∀e∈ch c (m1++[z]),e∈E (v::c::(m1++z::m2++[a])):=fun e he=>by rw[hE];simp[he]
     have sE2:∀e∈ch z (m2++[a]),e∈E (v::c::(m1++z::m2++[a])):=fun e he=>by rw[hE];simp[he]
     rcases mem1 with ⟨mx,my⟩|⟨mx,my⟩
     ·-- the ear lies in the second part
      obtain⟨u,b,w,ear,b1,b2⟩:=ih (v::z::(m2++[a])) (by simp at hn ⊢;omega) aL s2 l2 v z (by rw[hE2];simp)
      have mb:=(Arc ear.1).2
      have nbP:b ∉ v::c::(m1++[z]):=by
       intro hb
       have k1:b∈z::(m2++[a]):=by
        rcases bO.1 mb with e|e
        ·exact absurd e b1
        ·exact e
       have k2:b∈v::c::m1:=by
        rw[show v::c::(m1++[z])=(v::c::m1)++[z] by simp,bD] at hb
        rcases hb with e|e
        ·exact e
        ·simp at e;exact absurd e b2
       exact dis b k2 b k1 rfl
      refine⟨u,b,w,?_,fun e=>nbP (e ▸ mx),fun e=>nbP (e ▸ my)⟩
      have ev:par (Arm c) (E (v::z::(m2++[a])))=false:=by
       have:=Ay3 (v:=v) (y:=z) (o:=c) (r:=m2++[a]) lo2 vc (fun e he=>by
        have mm:=Aq8 he;refine h.nm (f:=(v,c)) (sE2 e he) evc ?_ ?_ ?_ ?_
        ·intro q;rw[q] at mm;have:=lo2 _ mm.1;simp only at this;omega
        ·intro q;rw[q] at mm;exact dis c aL c mm.1 rfl
        ·intro q;rw[q] at mm;have:=lo2 _ (List.mem_cons_of_mem z mm.2);simp only at this;omega
        ·intro q;rw[q] at mm;exact dis c aL c (List.mem_cons_of_mem z mm.2) rfl)
        (fun q hq=>h.ne (sub2 q (List.mem_cons_of_mem v hq)) T.mw (by rintro rfl;exact dis q aL q hq rfl))
        (fun e he=>h.ne (Arc (sE2 e he)).1 (Arc (sE2 e he)).2 (Au5 ndB he))
        (by rw[wq];intro o;rcases h.on _ evc a T.mu o with e|e;exact n2 e.symm;exact n3 e.symm)
        (by rw[wq];intro o;rcases h.on _ eav c T.mw o with e|e;exact n3 e;exact n1 e.symm)
        (by intro o;rcases h.on _ evc z mz o.symm with e|e;exact zv e;simp only at e;subst e;simp at n5)
        (by intro o;rcases c1 c T.mw o with e|e;exact n1 e.symm;subst e;simp at n5)
       rw[this,wq,As4 va vc,As4 vc vz,bV D,decide_eq_false (by rw[Aqw v c z];omega)];rfl
      refine Aum h s2 l2 sub2 he2 c1 c2 (x:=c) (k:=m1) (fun r hr=>?_) (fun e he=>?_) ?_ (fun r hr=>?_) (o:=c) aL ev ear b1 b2
      ·refine⟨by simp at hr ⊢;grind,fun hq=>?_⟩
       rcases bO.1 hq with e|e
       ·subst e;exact(List.nodup_cons.1 ndA).1 hr
       ·exact dis r (List.mem_cons_of_mem v hr) r e rfl
      ·exact sE1 e (by rw[Are];simp[he])
      ·exact(List.nodup_cons.1 ndA).2
      ·simp at hr ⊢;grind
     ·-- the ear lies in the first part
      obtain⟨u,b,w,ear,b1,b2⟩:=ih (v::c::(m1++[z])) (by simp at hn ⊢;omega) aL s1 l1 z v (by rw[hE1];simp)
      have mb:=(Arc ear.1).2
      have nbP:b ∉ v::z::(m2++[a]):=by
       intro hb
       have k1:b∈v::c::m1:=by
        rw[show v::c::(m1++[z])=(v::c::m1)++[z] by simp,bD] at mb
        rcases mb with e|e
        ·exact e
        ·simp at e;exact absurd e b1
       rcases bO.1 hb with e|e
       ·exact b2 e
       ·exact dis b k1 b e rfl
      refine⟨u,b,w,?_,fun e=>nbP (e ▸ mx),fun e=>nbP (e ▸ my)⟩
      have ev:par (Arm a) (E (v::c::(m1++[z])))=false:=by
       have:=Ay3 (v:=v) (y:=c) (o:=a) (r:=m1++[z]) lo1 va (fun e he=>by
        have mm:=Aq8 he;have k:=h.nm (f:=(a,v)) (sE1 e he) eav ?_ ?_ ?_ ?_
        ·exact k.flip2
        ·intro q;rw[q] at mm;have:=mm.1
         rw[show c::(m1++[z])=(c::m1)++[z] by simp,bD] at this
         rcases this with e|e
         ·exact dis a (List.mem_cons_of_mem v e) a aL rfl
         ·simp at e;subst e;simp at n6
        ·intro q;rw[q] at mm;have:=lo1 _ mm.1;simp only at this;omega
        ·intro q;rw[q] at mm;have:=mm.2
         rw[bD] at this;rcases this with e|e
         ·exact dis a (by simp[e]) a aL rfl
         ·simp at e;subst e;simp at n6
        ·intro q;rw[q] at mm;have:=lo1 _ (List.mem_cons_of_mem c mm.2);simp only at this;omega)
        (fun q hq=>h.ne (sub1 q (List.mem_cons_of_mem v hq)) T.mu (by
         rintro rfl;rw[show c::(m1++[z])=(c::m1)++[z] by simp,bD] at hq
         rcases hq with e|e
         ·exact dis q (List.mem_cons_of_mem v e) q aL rfl
         ·simp at e;subst e;simp at n6))
        (fun e he=>h.ne (Arc (sE1 e he)).1 (Arc (sE1 e he)).2 (Au5 (List.nodup_cons.1 ndP1).2 he))
        (by rw[wq];intro o;rcases h.on _ eav z mz o.symm with e|e;simp only at e;subst e;simp at n6;exact zv e)
        (by rw[wq];intro o;rcases c1' a T.mu o with e|e;subst e;simp at n6;exact n2 e.symm)
        (by intro o;rcases h.on _ eav c T.mw o with e|e;exact n3 e;exact n1 e.symm)
        (by intro o;rcases h.on _ evc a T.mu o with e|e;exact n2 e.symm;exact n3 e.symm)
       rw[this,wq,As4 vz va,As4 va vc,bV D,decide_eq_false (by rw[show cr z v a = - cr a v z by unfold cr;grind];omega)];rfl
      obtain⟨x',k',hk⟩:∃x' k',m2++[a]=x'::k':=by
       cases m2 with
       | nil=>exact⟨a,[],rfl⟩
       | cons x' m2=>exact⟨x',m2++[a],rfl⟩
      refine Aum h s1 l1 sub1 he1 c1' c2' (x:=x') (k:=k') (fun r hr=>?_) (fun e he=>?_) ?_ (fun r hr=>?_) (o:=a) (by rw[<-hk];simp) ev ear b1 b2
      ·rw[<-hk] at hr
       refine⟨by simp at hr ⊢;grind,fun hq=>?_⟩
       rw[show v::c::(m1++[z])=(v::c::m1)++[z] by simp,bD] at hq
       rcases hq with e|e
       ·exact dis r e r (List.mem_cons_of_mem z hr) rfl
       ·simp at e;subst e;exact(List.nodup_cons.1 ndB).1 hr
      ·exact sE2 e (by rw[hk];simp[ch,he])
      ·rw[<-hk];exact(List.nodup_cons.1 ndB).2
      ·rw[<-hk];simp at hr ⊢;grind
end Ears
namespace Ears
def vx(e:P×P):Int:=e.1.1*e.2.2-e.1.2*e.2.1
def sm(L:List (P×P)):Int:=(L.map vx).sum
def ar(l:List P):Int:=sm (E l)
theorem Atb:sm []=0:=rfl
theorem Aq6(e:P×P)(L:List (P×P)):sm (e::L)=vx e+sm L:=by simp[sm]
theorem Aq7(A B:List (P×P)):sm (A++B)=sm A+sm B:=by simp[sm]
theorem Aur(A B:List P):ar (A++B)=ar (B++A):=by
 let⟨X,Y,a,b⟩:=Ax8 A B;unfold ar;rw[a,b,Aq7,Aq7];omega
theorem Av9(b w u:P)(m:List P):ar (b::w::(m++[u]))=ar (w::(m++[u]))+cr u b w:=by
 unfold ar;rw[Ar9,Ata,Aq6,Aq7,Aq7,Aq6,Aq6,Atb];have:vx (b,w)+vx (u,b)=vx (u,w)+cr u b w:=by unfold vx cr;grind
 omega
theorem Av8:∀(n:Nat) (l:List P),l.length<=n->3<=l.length->Sim l->lam l=true->0<ar l:=by
 intro n;induction n with
 | zero=>intro l L M;omega
 | succ n ih =>
   intro l C e f p
   let⟨x,y,j⟩:∃x y,(x,y)∈E l:=by
    match l,e with
    | x::y::l,_=>exact⟨x,y,by rw[Aw8];simp⟩
   let⟨u,b,w,⟨t,v,D,g⟩,_⟩:=Ay5 l.length l aA e f p x y j;let⟨A,B,m,G,H⟩:=Atf f.nd e t v;subst G;have q:=Aq0 A B e f;have k:=f.rot;have o:=Aur A B;have c:(B++A).length=(A++B).length:=aO
   have d:∀r,r∈B++A->r∈A++B:=λr F=>Ard F
   rw[H]at q k o c d;rw[o,Av9];by_cases i:m=[]
   .subst i
    have:ar (w::([]++[u]))=0:=by
     unfold ar;rw[Ata];simp only[dQ,ch];rw[Aq7,Aq6,Aq6,Atb];unfold vx;grind
    omega
   let⟨N,O,Q,I,J,K,k7,k8⟩:=Aq4 k.nd;let⟨z,h⟩:=At7 k D (λs a=>g s (d s (by simp[a])) (by rintro rfl;exact K a) (by rintro rfl;exact I a) (by rintro rfl;exact J a)) i;have:=ih (w::(m++[u])) (by simp at c C ⊢;omega) (by cases m with|nil=>exact absurd rfl i|cons y m=>simp) z (by rw[h,<-q,p]);omega
def swE(e:P×P):P×P:=(e.2,e.1)
theorem Ayq(x y:P)(k:List P):ch y (k.reverse++[x])=((ch x (k++[y])).reverse).map swE:=by
 induction k generalizing x with
 | nil=>simp[ch,swE]
 | cons z k ih =>
   rw[List.reverse_cons,Are y (k.reverse++[z]) x,wq,ih z];simp[ch,swE]
theorem Ayw(x:P)(k:List P):E (x::k.reverse)=((E (x::k)).reverse).map swE:=by
 simp only[E];exact Ayq x x k
theorem Asj{x:P}{k:List P}{e:P×P}(h:e∈E (x::k.reverse)):swE e∈E (x::k):=by
 rw[Ayw]at h;simp only[List.mem_map,List.mem_reverse]at h;obtain⟨f,a,rfl⟩:=h;exact a
theorem Ayh(L:List (P×P)):sm (L.reverse.map swE) = - sm L:=by
 induction L with
 | nil=>rfl
 | cons e L ih =>
   rw[List.reverse_cons,List.map_append,Aq7,ih,eV,fO,Aq6,Atb,Aq6];have:vx (swE e) = - vx e:=by unfold vx swE;grind
   omega
theorem Crs.flip4{p q s t:P}(h:Crs p q s t):Crs q p t s:=h.flip.flip2
theorem Sim.rev0{x:P}{k:List P}(h:Sim (x::k)):Sim (x::k.reverse):=by
 have a:∀r,r∈x::k.reverse->r∈x::k:=by intro r b;simp at b ⊢;exact b
 refine⟨?_,λp g q hq=>h.ht p (a p g) q (a q hq),λe c r b o=>?_,λe c f d z=>h.cx _ (Asj c) _ (Asj d) z.flip4⟩
 .have:=h.nd;rw[List.nodup_cons]at this ⊢;exact⟨by simpa using this.1,List.pairwise_reverse.2 (this.2.imp Ne.symm)⟩
 exact(h.on _ (Asj c) r (a r b) o.symm).symm
theorem Axo{A B:List P}{v:P}{k:List P}(e:B++A=v::k):(A++B).reverse=B.reverse++A.reverse/\A.reverse++B.reverse=k.reverse++[v]:=by
 refine⟨aL,?_⟩;rw[<-List.reverse_append,e];simp
theorem Sim.rev{l:List P}(h:Sim l):Sim l.reverse:=by
 cases l with
 | nil=>simpa using h
 | cons x k =>
   have:=h.rev0;rw[List.reverse_cons];exact Sim.rot (A:=[x]) (B:=k.reverse) (by simpa using this)
theorem Ayu(l:List P):ar l.reverse = - ar l:=by
 cases l with
 | nil=>rfl
 | cons x k =>
   rw[List.reverse_cons,Aur];simp only[cV,dQ];unfold ar;rw[Ayw,Ayh]
theorem Avs{l:List P}(h:Sim l)(h3:3<=l.length):lam l.reverse=!lam l:=by
 obtain⟨v,hvl,hv0⟩:=Ar3 (l:=l) (fun q=>q.2) (by intro e;rw[e] at h3;simp at h3)
 obtain⟨A,B,w,m,u,e1,e2⟩:=As3 hvl h3;subst e1;obtain⟨r1,r2⟩:=Axo e2;have s1:=h.rev;rw[r1] at s1;have s2:=s1.rot;rw[r2] at s2;have l1:=Aq0 _ _ (by simp at h3 ⊢;omega) s1
 have e3:(A.reverse++B.reverse).length=(A++B).length:=aL
 have l2:=Aq0 _ _ (by rw[<-r2];omega) s2
 have l3:=Aq0 A B h3 h;have sR:=h.rot;have hv1:∀q∈B++A,v.2<=q.2:=fun q hq=>hv0 q (Ard hq)
 rw[e2] at l3 sR hv1;rw[r1,l1,r2,l2,l3]
 have hv:∀q∈w::(m++[u]),v.2<q.2:=by
  intro q hq;have a1:=hv1 q (List.mem_cons_of_mem _ hq);have a2:=sR.ne T.mb (List.mem_cons_of_mem v hq) (by rintro rfl;exact(List.nodup_cons.1 sR.nd).1 hq)
  omega
 have c0:cr u v w≠0:=by
  intro z;have:=Arx sR z;have:=hv w aL
  have:=hv u aL
  omega
 have e:[v]++(w::(m++[u])).reverse=v::u::(m.reverse++[w]):=aL
 rw[e,Asf hv,Asf (by intro q hq;exact hv q (by simp at hq ⊢;grind)),wq,wq]
 have:cr w v u = - cr u v w:=by unfold cr;grind
 rw[this];rw[<-decide_not,decide_eq_decide];omega
theorem Ayl{l:List P}(h:Sim l)(a:3<=l.length):(lam l=true->0<ar l)/\(lam l=false->ar l<0):=by
 refine⟨λe=>Av8 _ l aA a h e,λe=>?_⟩;have:=Av8 _ l.reverse aA (by simpa using a) h.rev (by rw[Avs h a,e];rfl);rw[Ayu]at this;omega
end Ears
section
open Go.RowKit Go.Maps
section
variable {P : Program} {α : Type}
structure KeyRep (P:Program) (k:TypeId) (key:α->Value) (ok:α->Prop) (kl:α->Lit):Prop where
 law:Keyed P k
 of:∀x,ok x->keyOf P k (key x)=some (kl x)
 inj:∀x y,key x=key y->x=y
theorem KeyRep.one{k:TypeId}{key:α->Value}{ok:α->Prop}{kl:α->Lit}(K:KeyRep P k key ok kl){x y:α}(hx:ok x)(hy:ok y)(h:kl x=kl y):x=y:=K.inj x y (K.law.inj (K.of x hx) (by rw[h];exact K.of y hy))
def Dd(P:Program)(k e:TypeId)(ok:α->Prop)(kl:α->Lit)(w:World)(b n:Nat)(S:List α):Prop :=
 ∃D:DataW Unit,w.ownsMap P k (plainElem P e) b n D/\(∀x∈S,ok x)/\(∀x,ok x->(x∈S->∀z,D.atKey (kl x) z=.lit (.bool true))/\(¬x∈S->Maps.has D (kl x)=false))
variable {k e t : TypeId} {key : α -> Value} {ok : α -> Prop} {kl : α -> Lit} {w : World} {b n : Nat} {S : List α}
theorem Dd.made(w:World):Dd P k e ok kl (w.alloc (.map #[] 0)) w 0 ([]:List α):=⟨.map [],World.ownsMap_made w P k _,aL,fun x _=>⟨aL,fun _=>rfl⟩⟩
theorem Dd.kept(h:Dd P k e ok kl w b n S)(hg:w.grownBy w' row)(hne:some b≠row):Dd P k e ok kl w' b n S:=by
 obtain⟨D,h1,h2⟩:=h;exact⟨D,h1.kept hg hne,h2⟩
theorem Dd.alloc(h:Dd P k e ok kl w b n S)(o:Obj):Dd P k e ok kl (w.alloc o) b n S:=h.kept (World.grownBy_alloc w o none) aL
theorem Dd.keep(h:Dd P k e ok kl w b n S)(hb:Be w w'):Dd P k e ok kl w' b n S:=h.kept (row:=none) ⟨hb.os,hb.tape,hb.output,hb.size,fun k hk _=>hb.block k hk⟩ aL
theorem Dd.mono{m:Nat}(h:Dd P k e ok kl w b n S)(hm:n<=m):Dd P k e ok kl w b m S:=by
 obtain⟨D,h1,h2⟩:=h;exact⟨D,h1.mono hm,h2⟩
theorem Dd.lt(h:Dd P k e ok kl w b n S):b<w.heap.size:=by obtain⟨D,h1,_⟩:=h;exact h1.lt
theorem Dd.isMap(h:Dd P k e ok kl w b n S):∃es c,w.heap[b]? = some (.map es c):=by
 obtain⟨D,⟨es,c,h1,_⟩,_⟩:=h;exact⟨es,c,h1⟩
theorem Dd.congr{T:List α}(h:Dd P k e ok kl w b n S)(hT:∀x,x∈S↔x∈T):Dd P k e ok kl w b n T:=by
 obtain⟨D,h1,h2,h3⟩:=h;exact⟨D,h1,fun x hx=>h2 x ((hT x).2 hx),fun x hx=>⟨fun h=>(h3 x hx).1 ((hT x).2 h),fun h=>(h3 x hx).2 (fun h'=>h ((hT x).1 h'))⟩⟩
theorem Fa{e:TypeId}(he:P.underlying e=some .bool){v:Value}{z:DataW Unit×List MemPlace}(h:plainElem P e v=some z):∃c,v=.bool c/\z=(.lit (.bool c),[]):=by
 unfold plainElem at h;rw[he] at h;cases v<;>simp at h
 exact⟨_,rfl,h.symm⟩
theorem Dd.get[DecidableEq α](K:KeyRep P k key ok kl)(ht:P.underlying t=some (.map k e))(he:P.underlying e=some .bool)(hz:(zeroValue e).run P w=.ok (.bool false) w)(h:Dd P k e ok kl w b n S){x:α}(hx:ok x):
 (Instr.lookup t (.map (some b)) (key x) false).run P w=.ok (.bool (decide (x∈S))) w:=by
 obtain⟨D,h1,h2,h3⟩:=h;obtain⟨v,ps,hrun,hR⟩:=h1.lookup K.law ht hz (plainElem_bool he false) (K.of x hx);obtain⟨c,rfl,hc⟩:=Fa he hR;injection hc with hc _
 by_cases hxS:x∈S
 ·rw[(h3 x hx).1 hxS] at hc
  injection hc with hc;injection hc with hc
  rw[hrun,<-hc,bV hxS]
 ·rw[Maps.atKey_of_not_has ((h3 x hx).2 hxS)] at hc
  injection hc with hc;injection hc with hc
  rw[hrun,<-hc,decide_eq_false hxS]
theorem Dd.put(K:KeyRep P k key ok kl)(ht:P.underlying t=some (.map k e))(he:P.underlying e=some .bool)(h:Dd P k e ok kl w b n S)(hn:n<maxLen){x:α}(hx:ok x):
 ∃w',(Instr.mapUpdate t (.map (some b)) (key x) (.bool true)).run P w=.ok () w'/\Dd P k e ok kl w' b (n+1) (S++[x])/\w.grownBy w' (some b):=by
 obtain⟨D,h1,h2,h3⟩:=h;obtain⟨w',hrun,r1,r2⟩:=h1.update K.law ht hn (K.of x hx) (plainElem_bool he true);have hM:IsMap D:=by obtain⟨es,c,_,_,_,rfl⟩:=h1;exact⟨_,rfl⟩
 refine⟨w',hrun,⟨_,r1,fun y hy=>?_,fun y hy=>⟨fun hyS z=>?_,fun hyS=>?_⟩⟩,r2⟩
 ·rcases bD.1 hy with h|h
  ·exact h2 y h
  ·simp at h;subst h;exact hx
 ·by_cases e1:y=x
  ·subst e1;exact Maps.atKey_put_same hM (K.law.key (K.of y hx)) _ _
  ·rw[Maps.atKey_put_other (fun h=>e1 (K.one hy hx h))]
   rcases bD.1 hyS with h|h
   ·exact(h3 y hy).1 h z
   ·simp at h;exact absurd h e1
 ·have e1:y≠x:=fun h=>hyS (by rw[h];simp)
  rw[Maps.has_put_other (fun h=>e1 (K.one hy hx h))]
  exact(h3 y hy).2 (fun h=>hyS (List.mem_append_left _ h))
theorem D8{ops:Array Oper}{rest:List Oper}{o:Oper}{a:Act}{Q:Exit->Act->World->Prop}{m x v:Operand}(t:TypeId)
 (K:KeyRep P k key ok kl) (ht:P.underlying t=some (.map k e)) (he:P.underlying e=some .bool)  (h:Dd P k e ok kl w b n S)  (p:α) (hp:ok p)  
 (hK:∀w',Dd P k e ok kl w' b (n+1) (S++[p])->w.grownBy w' (some b)->wpList P ops Q rest (a.put o.dst undef) w') (hg:o.guard=none:=by rfl) (hop:o.op=Op.mapUpdate t m x v:=by rfl) (hm:a.eval m=.map (some b):=by rfl) (hn:n<maxLen:=by unfold maxLen;omega) (hx:a.eval x=key p:=by rfl) (hv:a.eval v=.bool true:=by rfl) :wpList P ops Q (o::rest) a w:=by
 refine gT hg fun K' hK'=>?_
 obtain⟨w',hrun,r1,r2⟩:=h.put K ht he hn hp;unfold Oper.wp;simp[execOp,hop,hm,hx,hv,hrun,Result.andThen];exact hK' _ _ (hK w' r1 r2)
def Py(P:Program)(k e:TypeId)(ok:α->Prop)(kl:α->Lit)(w:World)(b r n:Nat)(S L:List α)(cnt:Nat):Prop :=
 ∃(D:DataW Unit) (left:Lit->Bool),w.ranges P k (plainElem P e) b r n D left cnt/\(∀x∈S,ok x)/\L.Nodup/\(∀x∈L,x∈S)/\(∀x,ok x->(left (kl x)=true↔x∈S/\¬x∈L))/\(∀x,ok x->Maps.has D (kl x)=true->x∈S)/\(∀l,left l=true->Maps.has D l=true)
theorem Py.kept{L:List α}(h:Py P k e ok kl w b r n S L cnt)(hg:w.grownBy w' row)(hb':some b≠row)(hr':some r≠row):Py P k e ok kl w' b r n S L cnt:=by
 obtain⟨D,left,h1,h2⟩:=h;exact⟨D,left,h1.kept hg hb' hr',h2⟩
theorem Py.keep{L:List α}(h:Py P k e ok kl w b r n S L cnt)(hb:Be w w'):Py P k e ok kl w' b r n S L cnt:=h.kept (row:=none) ⟨hb.os,hb.tape,hb.output,hb.size,fun k hk _=>hb.block k hk⟩ aL aL
theorem Py.left{L:List α}(h:Py P k e ok kl w b r n S L cnt):w.rangeLeft b r=cnt:=by
 obtain⟨D,left,h1,_⟩:=h;exact h1.left_eq
theorem N0{ops:Array Oper}{rest:List Oper}{o:Oper}{a:Act}{Q:Exit->Act->World->Prop}(hg:o.guard=none){m:Operand}(t:TypeId)(hop:o.op=Op.range t m)
 (K:KeyRep P k key ok kl) (ht:P.underlying t=some (.map k e)) (hm:a.eval m=.map (some b)) (h:Dd P k e ok kl w b n S)
 (hK:∀w' cnt,Py P k e ok kl w' b w n S [] cnt->w.grownBy w' none->w'.heap.size=w.heap.size+1->wpList P ops Q rest (a.put o.dst (.pointer (some ⟨w,0,none⟩))) w'):wpList P ops Q (o::rest) a w:=by
 obtain⟨D,h1,h2,h3⟩:=h;refine wpList_range_own w hg m t hop k e K.law ht (plainElem P e) b n D hm h1 fun w' hr hgr hsz=>?_
 refine hK w' _ ⟨D,_,hr,h2,List.nodup_nil,by simp,fun x hx=>⟨fun hh=>⟨?_,by simp⟩,fun hh=>?_⟩,fun x hx hh=>?_,fun l hl=>hl⟩ hgr hsz
 ·by_cases hS:x∈S
  ·exact hS
  ·rw[(h3 x hx).2 hS] at hh;cases hh
 ·exact Maps.has_true_of_atKey ((h3 x hx).1 hh.1)
 ·by_cases hS:x∈S
  ·exact hS
  ·rw[(h3 x hx).2 hS] at hh;cases hh
structure NextIs (P:Program) (k e:TypeId) (key:α->Value) (ok:α->Prop) (kl:α->Lit) (w:World) (b r n:Nat) (S L:List α) (cnt:Nat) where
 x:α
 c:Bool
 w':World
 cnt':Nat
 inS:x∈S
 new:¬x∈L
 rg:Py P k e ok kl w' b r n S (L++[x]) cnt'
 lt:cnt'<cnt
 gr:w.grownBy w' (some r)
 sz:w'.heap.size=w.heap.size
 en:(Instr.entry (.pointer (some ⟨r,0,none⟩))).run P w'=.ok (.tuple #[key x,.bool c]) w'
theorem Qc{ops:Array Oper}{rest:List Oper}{o:Oper}{a:Act}{Q:Exit->Act->World->Prop}{L:List α}(hg:o.guard=none)(hop:o.op=Op.next it false)
 (K:KeyRep P k key ok kl) (hI:∀v l,keyOf P k v=some l->∃x,v=key x/\ok x) (he:P.underlying e=some .bool) (hit:a.eval it=.pointer (some ⟨r,0,none⟩)) (h:Py P k e ok kl w b r n S L cnt)
 (hDone:Hid (∀x,x∈S↔x∈L)->wpList P ops Q rest (a.put o.dst (.tuple #[.bool false])) w)
 (hMore:∀q:NextIs P k e key ok kl w b r n S L cnt,wpList P ops Q rest (a.put o.dst (.tuple #[.bool true,key q.x,.bool q.c])) q.w'):wpList P ops Q (o::rest) a w:=by
 obtain⟨D,left,h1,h2,h3,h4,h5,h6,h7⟩:=h;refine wpList_next_ranges w hg it hop k K.law (plainElem P e) key Value.bool (fun v l hv=>by obtain⟨x,hx,_⟩:=hI v l hv;exact⟨x,hx⟩) (fun v y hv=>by obtain⟨c,hc,_⟩:=Fa he hv;exact⟨c,hc⟩) b r n D left cnt hit h1 (fun _ hl=>hDone (Ar fun x=>⟨fun hx=>?_,h4 x⟩)) ?_
 ·have:=(h5 x (h2 x hx))
  rw[hl] at this;by_cases hL:x∈L
  ·exact hL
  ·exact absurd (this.2 ⟨hx,hL⟩) (by simp)
 ·intro x c l y w' cnt' hkey hlk hRv hat hrg hlt hgr hsz hen
  obtain⟨x',ex,hox⟩:=hI _ _ hkey;have:=K.inj _ _ ex;subst this
  have hkl:l=kl x:=by
   have:=K.of x hox;rw[hkey] at this;injection this
  subst hkl;obtain⟨hxS,hxL⟩:=(h5 x hox).1 hlk;refine hMore ⟨x,c,w',cnt',hxS,hxL,⟨D,_,hrg,h2,?_,?_,?_,h6,?_⟩,hlt,hgr,hsz,hen⟩
  ·rw[List.nodup_append]
   exact⟨h3,by simp,by simp;intro a ha e;exact hxL (e ▸ ha)⟩
  ·intro z hz
   rcases bD.1 hz with h|h
   ·exact h4 z h
   ·simp at h;subst h;exact hxS
  ·intro z hz
   simp only[Bool.and_eq_true,Bool.not_eq_true'];rw[h5 z hz];constructor
   ·rintro⟨⟨q1,q2⟩,q3⟩
    refine⟨q1,fun q=>?_⟩
    rcases bD.1 q with q|q
    ·exact q2 q
    ·simp at q;subst q
     rw[WideAt.sameKey_self (K.law.key hkey)] at q3;cases q3
   ·rintro⟨q1,q2⟩
    refine⟨⟨q1,fun q=>q2 (List.mem_append_left _ q)⟩,?_⟩
    refine Maps.sameKey_ne fun q=>q2 ?_
    rw[K.one hz hox q];simp
  ·intro l hl
   simp only[Bool.and_eq_true] at hl;exact h7 l hl.1
end
theorem O8:laidOutB prog=true:=aN
def inR(n:Int):Prop := -9223372036854775808<=n/\n<=9223372036854775807
theorem Pe{n:Int}(h:inR n):(Lit.int .i64 n).wf=true:=by
 unfold inR at h;exact WalkArith.wf_i64 h
theorem Acu(h:(Lit.int .i64 a).wf=true):inR a:=by
 unfold inR;have b:IntKind.i64.min = -9223372036854775808:=aM
 have c:IntKind.i64.max=9223372036854775807:=aM
 simp only[Lit.wf,Bool.and_eq_true,decide_eq_true_eq,b,c]at h;exact h
def okS(p:Int×Int):Prop:=inR p.1/\inR p.2
def Af2(p:Int×Int):Value:=.agg #[p.1,p.2]
def klS(p:Int×Int):Lit:=.string (keyBytes [.int .i64 p.1,.int .i64 p.2])
theorem Qm:∃m,prog.types.size+1=m+5:=⟨prog.types.size-4,by have:10<=prog.types.size:=of_decide_eq_true aN;omega⟩
theorem Ahx:(match prog.underlying 65 with|some (.array _ _)|some (.struct _)=>true|_=>false)=true:=by rw[underlying65]
theorem Aos:(65:TypeId)<prog.types.size:=of_decide_eq_true aN
theorem Apc:Keyed prog 65:=Keyed.of_law (deep_law_laid (P:=prog) (k:=65) O8 (m:=3) aK Aos aN Ahx)
theorem cellsI:prog.cellsOf 3=1:=aN
theorem Ps:prog.cellsOf 65=2:=aN
theorem Amu:prog.keyType 65=true:=aN
theorem Af1(p:Int×Int)(h:okS p):keyOf prog 65 (Af2 p)=some (klS p):=by
 obtain⟨m,c⟩:=Qm;have a:=Pe h.1;have b:=Pe h.2;unfold keyOf Af2 klS;rw[c];simp[underlying65,Amu,Value.formed,Ps,Program.keyLits,underlying3,cellsI,Value.cells,a,b]
section
variable {P : Program} {t : TypeId} {d : Nat} {cs : List Value} {L : List Lit}
theorem Uo(hu:P.underlying t=some (.int .i64)){a:Value}(h:P.keyLits (d+1) t [a]=some L):∃n,a=.int .i64 n/\inR n:=by
 unfold Program.keyLits at h;rw[hu] at h;cases a<;>simp at h
 obtain⟨⟨rfl,h1⟩,_⟩:=h;exact⟨_,rfl,Acu h1⟩
theorem qt{f1 f2:Field}(hu:P.underlying t=some (.struct #[f1,f2]))(h:P.keyLits (d+1) t cs=some L):
 cs.length=P.cellsOf t/\(∃L1,P.keyLits d f1.type ((cs.drop f1.offset).take (P.cellsOf f1.type))=some L1)/\∃L2,P.keyLits d f2.type ((cs.drop f2.offset).take (P.cellsOf f2.type))=some L2:=by
 unfold Program.keyLits at h;rw[hu] at h;simp only at h;split at h
 ·rename_i hc
  refine⟨hc.1,?_⟩;cases h1:P.keyLits d f1.type ((cs.drop f1.offset).take (P.cellsOf f1.type)) with
  | none=>simp[h1] at h
  | some L1 =>
    cases h2:P.keyLits d f2.type ((cs.drop f2.offset).take (P.cellsOf f2.type)) with
    | none=>simp[h1,h2] at h
    | some L2=>exact⟨⟨L1,rfl⟩,⟨L2,rfl⟩⟩
 ·cases h
end
theorem Anw(h:q.length=2):∃a b,q=[a,b]:=by
 match q,h with
 | [a,b],_=>exact⟨a,b,rfl⟩
theorem Adx{L:List Lit}(h:prog.keyLits (d+2) 65 q=some L):∃x y,q=[.int .i64 x,.int .i64 y]/\inR x/\inR y:=by
 let⟨f,⟨j,c⟩,⟨k,e⟩⟩:=qt underlying65 h;rw[Ps]at f;rw[cellsI]at c e;obtain⟨a,b,rfl⟩:=Anw f;simp only[List.drop_zero,List.drop_succ_cons,List.take_succ_cons,List.take_zero]at c e;obtain⟨x,rfl,g⟩:=Uo (P:=prog) underlying3 c;obtain⟨y,rfl,i⟩:=Uo (P:=prog) underlying3 e;exact⟨x,y,rfl,g,i⟩
theorem Aan(v:Value)(l:Lit)(h:keyOf prog 65 v=some l):∃p,v=Af2 p/\okS p:=by
 obtain⟨m,e⟩:=Qm;obtain⟨f,L,rfl,b,rfl⟩:=keyOf_top (P:=prog) (k:=65) Ahx h;rw[e]at b;let⟨x,y,a,c,d⟩:=Adx b;refine⟨(x,y),?_,c,d⟩;unfold Af2;rw[show f=#[.int .i64 x,.int .i64 y] by apply Array.ext';simpa using a]
theorem y7:KeyRep prog 65 Af2 okS klS where
 law:=Apc
 of:=Af1
 inj x y h:=by
  unfold Af2 at h;injection h with h
  injection h with h
  simp at h;exact Prod.ext h.1 h.2
end
end Go.Proofs.YtboghahlhmnblaaGreat

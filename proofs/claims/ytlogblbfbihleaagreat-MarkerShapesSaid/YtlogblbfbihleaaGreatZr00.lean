/- Lean texts of the claim. -/
import Derived.Test.YtlogblbfbihleaaGreatRows
import Derived.WalkKit
import Derived.WalkSpells
import Derived.WalkLawsBesides
import Derived.Lib.Hide
import Derived.Deep.QuietTactic
import Derived.BigQuiet
import Derived.IntWalk
import Derived.Laws.StructEq
namespace Go.Proofs.YtlogblbfbihleaaGreat
set_option linter.all false
set_option maxRecDepth 100000
set_option maxHeartbeats 0
open Go.RowKit
variable{a g m:Nat}{b k:World}{e l:Int}{f:Nat->Bool}{h:Option Addr}{i:Value}{j:List (Addr×Value)}{n:Addr}{o:Bool}{p:Act}
theorem gN{α:Type}(a:α):∃x,a=x:=⟨_,rfl⟩
theorem rR{P:Program}{f:FuncId}{a:Array Value}{w:World}{v:Value}{R:World->Prop}{Q:Ending->World->Prop}(h:Calls P f a w λe x=>e=.returned v/\R x)(k:∀x,R x->Q (.returned v) x):Calls P f a w Q:=h.mono λ_ _ ⟨a,b⟩=>a▸k _ b
theorem bR{P:Program}{f:Func}{R:Ending->World->Prop}{a:Act}{w:World}{v:Value}(c:R (.returned v) w)(d:a.defers=[])(b:Sem.run P (results f a.tmps) w=.ok v w):bodyPost P f R .ret a w:=bodyPost_ret b d c
section
namespace Arn
def sm (f:Nat->Int):Nat->Int
 | 0=>0
 | k+1=>sm f k+f k
theorem Dm {f g:Nat->Int}:∀{n},(∀k,k<n->f k=g k)->sm f n=sm g n
 | 0,_=>rfl
 | n+1,h=>by rw[sm,sm,Dm λk a=>h k (by omega),h n (by omega)]
theorem Ms (f g:Nat->Int):∀n,sm (λk=>f k+g k) n=sm f n+sm g n
 | 0=>rfl
 | n+1=>by rw[sm,sm,sm,Ms];omega
theorem I6 (f:Nat->Int) (c:Int):∀n,sm (λk=>c*f k) n=c*sm f n
 | 0=>by simp[sm]
 | n+1=>by rw[sm,sm,I6,Int.mul_add]
theorem X4 (f:Nat->Int):∀n,sm (λk=>f k-f (k+1)) n=f 0-f n
 | 0=>by simp[sm]
 | n+1=>by rw[sm,X4];omega
theorem kh (f:Nat->Nat->Int) (m:Nat):∀n,sm (λk=>sm (f k) m) n=sm (λj=>sm (λk=>f k j) n) m
 | 0=>by simp only[sm];induction m with
   | zero=>rfl
   | succ m ih=>rw[sm,<-ih];rfl
 | n+1=>by
   rw[sm,kh f m n,<-Ms];rfl
theorem Adc {f:Nat->Int} {m:Nat}:∀{n},m<n->(∀j,j<n->j≠m->f j=0)->sm f n=f m
 | n+1,hm,h=>by
   by_cases e:m=n
   .subst e;rw[sm,Dm (g:=λ_=>0*0) λk b=>h k (by omega) (by omega),I6 λ_=>0];omega
   rw[sm,Adc (by omega) λj a=>h j (by omega),h n (by omega) (by omega)];omega
theorem Vv{f:Nat->Int}  (h:∀k,k<a->f k=0):sm f a=0:=by
 rw[Dm (g:=λ_=>0*0) λk b=>h k b,I6 λ_=>0];omega
theorem Aip {f:Nat->Int}:∀{n},(∀k,k<n->f k<=0)->sm f n<=0/\∀k,k<n->sm f n<=f k
 | 0,_=>⟨by simp[sm],λk a=>by omega⟩
 | n+1,h=>by
   let⟨c,b⟩:=Aip (n:=n) λk a=>h k (by omega)
   have d:=h n (by omega);refine⟨by rw[sm];omega,λk a=>?_⟩;rw[sm];by_cases e:k=n
   .rw[e];omega
   have:=b k (by omega);omega
theorem top (p:Nat->Prop) (f:Nat->Int):∀n,(∃j,j<n/\p j)->∃r,r<n/\p r/\∀j,j<n->p j->f j<=f r
 | n+1,⟨j,c,a⟩=>by
   by_cases h:∃j,j<n/\p j
   .obtain⟨r,l,d,b⟩:=top p f n h;by_cases g:p n/\f r<=f n
    .refine⟨n,by omega,g.1,λj c a=>?_⟩;by_cases e:j=n
     .rw[e];omega
     have:=b j (by omega) a;omega
    refine⟨r,by omega,d,λj c a=>?_⟩;by_cases e:j=n
    .subst e;have:¬f r<=f j:=λk=>g ⟨a,k⟩
     omega
    exact b j (by omega) a
   have e:j=n:=by
    refine Classical.byContradiction λe=>h ⟨j,by omega,a⟩
   subst e;refine⟨j,by omega,a,λk m i=>?_⟩;by_cases e:k=j
   .rw[e];omega
   exact absurd ⟨k,by omega,i⟩ h
theorem bnd (f:Nat->Int):∀n,∃B:Nat,∀j,j<n -> -(B:Int)<=f j/\f j<=B
 | 0=>⟨0,λj a=>by omega⟩
 | n+1=>by
   let⟨B,h⟩:=bnd f n;refine⟨B+(f n).natAbs,λj a=>?_⟩;by_cases e:j=n
   .rw[e];omega
   have:=h j (by omega);omega
def opp (x y:Int):Prop:=(x<0/\0<y)\/(0<x/\y<0)
structure Dt where
 n:Nat
 H:Nat->Int
 z:Nat->Int
 s:Nat->Int
namespace Dt
def Y (d:Dt) (i:Nat) (t:Int):Int:=d.z i+d.s i*(t-d.H i)
def In (d:Dt) (i:Nat) (t:Int):Prop:=(d.H i<=t/\t<=d.H (i+1))\/(d.H (i+1)<=t/\t<=d.H i)
def Cr (d:Dt) (i:Nat) (t:Int):Prop:=(d.H i<t/\t<d.H (i+1))\/(d.H (i+1)<t/\t<d.H i)
structure Ok (d:Dt):Prop where
 n3:3<=d.n
 pH:∀k,d.H (k % d.n)=d.H k
 pz:∀k,d.z (k % d.n)=d.z k
 ps:∀k,d.s (k % d.n)=d.s k
 ev:∀k,d.H k % 2=0
 ne:∀i j,d.H i=d.H j->i % d.n=j % d.n
 sl:∀k,d.z (k+1)=d.z k+d.s k*(d.H (k+1)-d.H k)
 on:∀i j,d.In i (d.H j)->d.Y i (d.H j)=d.z j->j % d.n=i % d.n\/j % d.n=(i+1) % d.n
 crs:∀i j,¬(opp (d.Y i (d.H j)-d.z j) (d.Y i (d.H (j+1))-d.z (j+1))/\opp (d.Y j (d.H i)-d.z i) (d.Y j (d.H (i+1))-d.z (i+1)))
variable {d : Dt} (P : d.Ok)
include P
theorem Ok.mm {i j:Nat} (h:i % d.n=j % d.n):d.H i=d.H j/\d.z i=d.z j/\d.s i=d.s j/\(i+1) % d.n=(j+1) % d.n/\d.H (i+1)=d.H (j+1):=by
 have e:(i+1) % d.n=(j+1) % d.n:=by rw[Nat.add_mod,h,<-Nat.add_mod]
 exact⟨by rw[<-P.pH i,h,P.pH],by rw[<-P.pz i,h,P.pz],by rw[<-P.ps i,h,P.ps],e,by rw[<-P.pH (i+1),e,P.pH]⟩
theorem Ok.mY {i j:Nat} (h:i % d.n=j % d.n) (t:Int):d.Y i t=d.Y j t:=by
 obtain⟨h1,h2,h3,-,-⟩:=P.mm h;unfold Y;rw[h1,h2,h3]
theorem Ok.nn (i:Nat):i % d.n≠(i+1) % d.n:=by
 have:=P.n3;intro e;have h1:=Nat.div_add_mod i d.n;have h2:=Nat.div_add_mod (i+1) d.n;rw[<-e] at h2;have h3:d.n*((i+1) / d.n)-d.n*(i / d.n)=1:=by omega
 rw[<-Nat.mul_sub] at h3;have:=Nat.eq_one_of_mul_eq_one_right h3;omega
theorem Ok.nh (i:Nat):d.H i≠d.H (i+1):=fun e=>P.nn i (P.ne _ _ e)
omit P in
theorem Y0 (i:Nat):d.Y i (d.H i)=d.z i:=by unfold Y;simp
theorem Ok.Y1 (i:Nat):d.Y i (d.H (i+1))=d.z (i+1):=by unfold Y;rw[P.sl]
omit P in
theorem dif (i j:Nat) (t u:Int):d.Y j u-d.Y i u=d.Y j t-d.Y i t+(d.s j-d.s i)*(u-t):=by unfold Y;grind
theorem Ok.no {i j:Nat} {t u:Int} (ht:t<u) (i1:d.In i t) (i2:d.In i u) (j1:d.In j t) (j2:d.In j u):¬(d.Y j t<d.Y i t/\d.Y i u<d.Y j u):=by
 rintro⟨h1,h2⟩;have e:=dif (d:=d) i j t u
 have hb:0<d.s j-d.s i:=by
  refine Classical.byContradiction fun g=>?_
  have:=Int.mul_nonneg (show 0 <= -(d.s j-d.s i) by omega) (show 0<=u-t by omega)
  rw[Int.neg_mul] at this;omega
 have lo:∀x,x<=t->d.Y j x<d.Y i x:=fun x hx=>by
  have e:=dif (d:=d) i j t x;have:=Int.mul_nonneg (show 0<=d.s j-d.s i by omega) (show 0<=t-x by omega)
  rw[<-Int.neg_sub x t,Int.mul_neg] at this;omega
 have hi:∀x,u<=x->d.Y i x<d.Y j x:=fun x hx=>by
  have e:=dif (d:=d) i j u x;have:=Int.mul_nonneg (show 0<=d.s j-d.s i by omega) (show 0<=x-u by omega)
  omega
 have a1:=Y0 (d:=d) i;have a2:=P.Y1 i;have a3:=Y0 (d:=d) j;have a4:=P.Y1 j;refine P.crs i j ?_;unfold In at i1 i2 j1 j2;unfold opp;rcases i1 with ⟨x1,x2⟩|⟨x1,x2⟩<;>rcases j1 with ⟨x3,x4⟩|⟨x3,x4⟩
 ·have l1:=lo _ x1;have l2:=hi (d.H (i+1)) (by omega);have l3:=lo _ x3;have l4:=hi (d.H (j+1)) (by omega);omega
 ·have l1:=lo _ x1;have l2:=hi (d.H (i+1)) (by omega);have l3:=lo _ x3;have l4:=hi (d.H j) (by omega);omega
 ·have l1:=lo _ x1;have l2:=hi (d.H i) (by omega);have l3:=lo _ x3;have l4:=hi (d.H (j+1)) (by omega);omega
 ·have l1:=lo _ x1;have l2:=hi (d.H i) (by omega);have l3:=lo _ x3;have l4:=hi (d.H j) (by omega);omega
theorem Ok.keep {i j:Nat} {t u:Int} (ht:t<u) (i1:d.In i t) (i2:d.In i u) (j1:d.In j t) (j2:d.In j u) (n1:d.Y j t≠d.Y i t) (n2:d.Y j u≠d.Y i u):d.Y j t<d.Y i t↔d.Y j u<d.Y i u:=by
 have:=P.no ht i1 i2 j1 j2;have:=P.no ht j1 j2 i1 i2;omega
theorem Ok.crI {i:Nat} {t:Int} (o:t % 2=1) (h:d.Cr i t):d.In i t/\d.In i (t-1)/\d.In i (t+1):=by
 have:=P.ev i;have:=P.ev (i+1);unfold Cr at h;unfold In;omega
theorem Ok.apart {i j:Nat} {t:Int} (o:t % 2=1) (hi:d.Cr i t) (hj:d.Cr j t) (hij:i % d.n≠j % d.n):d.Y j t≠d.Y i t:=by
 intro e;obtain⟨i1,i2,i3⟩:=P.crI o hi;obtain⟨j1,j2,j3⟩:=P.crI o hj;have e1:=dif (d:=d) i j t (t-1);have e2:=dif (d:=d) i j t (t+1);rw[show t-1-t = -1 by omega] at e1
 rw[show t+1-t=1 by omega] at e2
 by_cases hb:d.s j-d.s i=0
 ·have all:∀x,d.Y j x=d.Y i x:=fun x=>by
   have:=dif (d:=d) i j t x;rw[hb] at this;omega
  have on1:∀k,(k=j\/k=j+1)->d.In i (d.H k)->d.H k=d.H i\/d.H k=d.H (i+1):=fun k hk h=>by
   have:d.Y j (d.H k)=d.z k:=by rcases hk with rfl|rfl;exact Y0 _;exact P.Y1 _
   rcases P.on i k h (by rw[<-all,this]) with g|g
   ·exact .inl (P.mm g).1
   ·exact .inr (P.mm g).1
  have on2:∀k,(k=i\/k=i+1)->d.In j (d.H k)->d.H k=d.H j\/d.H k=d.H (j+1):=fun k hk h=>by
   have:d.Y i (d.H k)=d.z k:=by rcases hk with rfl|rfl;exact Y0 _;exact P.Y1 _
   rcases P.on j k h (by rw[all,this]) with g|g
   ·exact .inl (P.mm g).1
   ·exact .inr (P.mm g).1
  have a1:=on1 j (.inl rfl);have a2:=on1 (j+1) (.inr rfl);have a3:=on2 i (.inl rfl);have a4:=on2 (i+1) (.inr rfl)
  have key:(d.H i=d.H j/\d.H (i+1)=d.H (j+1))\/(d.H i=d.H (j+1)/\d.H (i+1)=d.H j):=by
   unfold Cr at hi hj;unfold In at a1 a2 a3 a4;omega
  rcases key with ⟨k1,-⟩|⟨k1,k2⟩
  ·exact hij (P.ne _ _ k1)
  ·have g1:=(P.mm (P.ne _ _ k1)).2.2.2.1
   have g2:=P.ne _ _ k2;rw[g1] at g2;have:=P.n3;have h1:=Nat.div_add_mod j d.n;have h2:=Nat.div_add_mod (j+1+1) d.n;rw[g2] at h2;have h3:d.n*((j+1+1) / d.n)-d.n*(j / d.n)=2:=by omega
   rw[<-Nat.mul_sub] at h3;have:=Nat.le_of_dvd (by omega) ⟨_,h3.symm⟩
   omega
 ·have n1:=P.no (show t-1<t+1 by omega) i2 i3 j2 j3
  have n2:=P.no (show t-1<t+1 by omega) j2 j3 i2 i3
  omega
def c (d:Dt) (j:Nat) (t:Int):Int:=(if t<d.H (j+1) then 1 else 0)-(if t<d.H j then 1 else 0)
def W (d:Dt) (t y:Int):Int:=sm (fun j=>d.c j t*if d.Y j t<y then 1 else 0) d.n
theorem Ok.c0 {j:Nat} {t:Int} (o:t % 2=1) (h:¬d.Cr j t):d.c j t=0:=by
 have:=P.ev j;have:=P.ev (j+1);unfold Cr at h;unfold c
 (repeat' split)<;>omega
theorem Ok.cm {i j:Nat} (h:i % d.n=j % d.n) (t:Int):d.c i t=d.c j t:=by
 obtain⟨h1,-,-,-,h2⟩:=P.mm h;unfold c;rw[h1,h2]
omit P in
theorem Ag8 {t y u:Int} (h:∀j,d.c j t≠0->(d.Y j t<y↔d.Y j t<u)):d.W t y=d.W t u:=by
 refine Dm fun j _=>?_
 by_cases e:d.c j t=0
 ·rw[e,Int.zero_mul,Int.zero_mul]
 ·simp only[h j e]
theorem Ok.cr {j:Nat} {t:Int} (o:t % 2=1) (h:d.c j t≠0):d.Cr j t:=Classical.byContradiction fun g=>h (P.c0 o g)
theorem Ok.step {t x b y:Int} (o:t % 2=1) (hA:∀j,d.Cr j t->d.Cr j (t+2)->(d.Y j t<x↔d.Y j (t+2)<y))
 (hB:∀j k,(k=j\/k=j+1)->d.H k=t+1->d.Cr j t->(d.Y j t<x↔d.z k<b))
 (hC:∀j k,(k=j\/k=j+1)->d.H k=t+1->d.Cr j (t+2)->(d.Y j (t+2)<y↔d.z k<b)):d.W (t+2) y=d.W t x:=by
 have key:d.W (t+2) y=sm (fun j=>d.c j t*(if d.Y j t<x then 1 else 0)+((if d.H j=t+1/\d.z j<b then 1 else 0)-(if d.H (j+1)=t+1/\d.z (j+1)<b then 1 else 0))) d.n:=by
  refine Dm fun j _=>?_
  have a:=hA j;have b1:=hB j j (.inl rfl);have b2:=hB j (j+1) (.inr rfl);have c1:=hC j j (.inl rfl);have c2:=hC j (j+1) (.inr rfl);have v1:=P.ev j;have v2:=P.ev (j+1);have v3:=P.nh j;unfold Cr at *
  unfold c;generalize d.Y j t=p1 at *
  generalize d.Y j (t+2)=p2 at *
  generalize d.z j=z1 at *
  generalize d.z (j+1)=z2 at *
  generalize d.H j=h1 at *
  generalize d.H (j+1)=h2 at *
  clear hA hB hC;by_cases q1:p1<x<;>by_cases q2:p2<y<;>simp only[q1,q2,if_true,if_false,Int.mul_one,Int.mul_zero]<;>(repeat' split)<;>omega
 rw[key,Ms,X4 (fun k=>if d.H k=t+1/\d.z k<b then (1:Int) else 0)]
 have:=P.mm (i:=d.n) (j:=0) (by simp)
 rw[this.1,this.2.1]
 show d.W t x+_=_
 omega
theorem Ok.keep2 {i j:Nat} {t u:Int} (ht:t≠u) (i1:d.In i t) (i2:d.In i u) (j1:d.In j t) (j2:d.In j u) (n1:d.Y j t≠d.Y i t) (n2:d.Y j u≠d.Y i u):d.Y j t<d.Y i t↔d.Y j u<d.Y i u:=by
 rcases Int.lt_or_gt_of_ne ht with g|g
 ·exact P.keep g i1 i2 j1 j2 n1 n2
 ·exact(P.keep g i2 i1 j2 j1 n2 n1).symm
theorem Ok.end_ {j k:Nat} (h:k=j\/k=j+1):d.Y j (d.H k)=d.z k:=by
 rcases h with rfl|rfl
 ·exact Y0 _
 ·exact P.Y1 _
theorem Ok.rel {i j:Nat} {t u:Int} (o:t % 2=1) (hu:u=t+1\/u=t-1) (hi:d.Cr i t) (hj:d.Cr j t) (m:i % d.n≠j % d.n) (ne:d.Y j u≠d.Y i u):d.Y j t<d.Y i t↔d.Y j u<d.Y i u:=by
 obtain⟨i1,i2,i3⟩:=P.crI o hi;obtain⟨j1,j2,j3⟩:=P.crI o hj;rcases hu with rfl|rfl
 ·exact P.keep2 (by omega) i1 i3 j1 j3 (P.apart o hi hj m) ne
 ·exact P.keep2 (by omega) i1 i2 j1 j2 (P.apart o hi hj m) ne
theorem Ok.along {i:Nat} {t:Int} (o:t % 2=1) (h1:d.Cr i t) (h2:d.Cr i (t+2)):d.W (t+2) (d.Y i (t+2))=d.W t (d.Y i t):=by
 obtain⟨i1,-,i3⟩:=P.crI o h1;have o2:(t+2) % 2=1:=by omega
 have no:∀j k,(k=j\/k=j+1)->d.H k=t+1->i % d.n≠j % d.n/\d.Y j (t+1)=d.z k/\d.z k≠d.Y i (t+1):=by
  intro j k hk e
  have g:∀q,(q=i\/q=i+1)->k % d.n≠q % d.n:=fun q hq g=>by
   have:=(P.mm g).1;unfold Cr at h1 h2;rcases hq with rfl|rfl<;>omega
  refine⟨fun m=>?_,by rw[<-e];exact P.end_ hk,fun q=>?_⟩
  ·rcases hk with rfl|rfl
   ·exact g i (.inl rfl) m.symm
   ·exact g (i+1) (.inr rfl) (P.mm m).2.2.2.1.symm
  ·rcases P.on i k (by rw[e];exact i3) (by rw[e];exact q.symm) with r|r
   ·exact g i (.inl rfl) r
   ·exact g _ (.inr rfl) r
 refine P.step o (b:=d.Y i (t+1)) (fun j g1 g2=>?_) (fun j k hk e g=>?_) (fun j k hk e g=>?_)
 ·by_cases m:i % d.n=j % d.n
  ·rw[P.mY m,P.mY m]
   exact⟨fun h=>absurd h (Int.lt_irrefl _),fun h=>absurd h (Int.lt_irrefl _)⟩
  ·exact P.keep (by omega) i1 (P.crI o2 h2).1 (P.crI o g1).1 (P.crI o2 g2).1 (P.apart o h1 g1 m) (P.apart o2 h2 g2 m)
 ·obtain⟨m,hz,ne⟩:=no j k hk e
  rw[<-hz] at ne ⊢;exact P.rel o (.inl rfl) h1 g m ne
 ·obtain⟨m,hz,ne⟩:=no j k hk e
  rw[<-hz] at ne ⊢;exact P.rel o2 (.inr (by omega)) h2 g m ne
structure Vx (d:Dt) (v p q:Nat):Prop where
 hp:v=p\/v=p+1
 hq:v=q\/v=q+1
 pq:p % d.n≠q % d.n
 all:∀j,v % d.n=j % d.n\/v % d.n=(j+1) % d.n->p % d.n=j % d.n\/q % d.n=j % d.n
theorem Ok.far {v p q j:Nat} (V:d.Vx v p q) (hp:p % d.n≠j % d.n) (hq:q % d.n≠j % d.n) (hj:d.In j (d.H v)):d.Y j (d.H v)≠d.z v:=fun e=>by
 rcases V.all j (P.on j v hj e) with g|g
 ·exact hp g
 ·exact hq g
theorem Ok.via {v p q:Nat} {t:Int} (V:d.Vx v p q) (o:t % 2=1) (hv:d.H v=t+1) (h1:d.Cr p t) (h2:d.Cr q (t+2)):d.W (t+2) (d.Y q (t+2))=d.W t (d.Y p t):=by
 have o2:(t+2) % 2=1:=by omega
 have n1:¬d.Cr p (t+2):=by
  have:=V.hp;unfold Cr at h1 ⊢;rcases this with rfl|rfl<;>omega
 have n2:¬d.Cr q t:=by
  have:=V.hq;unfold Cr at h2 ⊢;rcases this with rfl|rfl<;>omega
 have cm:∀{a b:Nat} {x:Int},a % d.n=b % d.n->d.Cr b x->d.Cr a x:=fun {a b x} m h=>by
  obtain⟨e1,-,-,-,e2⟩:=P.mm m;unfold Cr at h ⊢;rw[e1,e2];exact h
 have own:∀j k,(k=j\/k=j+1)->d.H k=t+1->(p % d.n=j % d.n\/q % d.n=j % d.n)/\d.z k=d.z v:=fun j k hk e=>by
  have e2:=P.ne v k (by omega)
  refine⟨V.all j ?_,(P.mm e2).2.1.symm⟩;rcases hk with rfl|rfl
  ·exact .inl e2
  ·exact .inr e2
 refine P.step o (b:=d.z v) (fun j g1 g2=>?_) (fun j k hk e g=>?_) (fun j k hk e g=>?_)
 ·have m1:p % d.n≠j % d.n:=fun m=>n1 (cm m g2)
  have m2:q % d.n≠j % d.n:=fun m=>n2 (cm m g1)
  have f:=P.far V m1 m2 (by rw[hv];exact(P.crI o g1).2.2)
  have f1:d.Y j (t+1)≠d.Y p (t+1):=by rw[<-hv,P.end_ V.hp];exact f
  have f2:d.Y j (t+1)≠d.Y q (t+1):=by rw[<-hv,P.end_ V.hq];exact f
  have r1:=P.rel o (.inl rfl) h1 g1 m1 f1;have r2:=P.rel o2 (u:=t+1) (.inr (by omega)) h2 g2 m2 f2
  rw[r1,r2,<-hv,P.end_ V.hp,P.end_ V.hq]
 ·obtain⟨m|m,hz⟩:=own j k hk e
  ·rw[P.mY m,hz]
   exact⟨fun h=>absurd h (Int.lt_irrefl _),fun h=>absurd h (Int.lt_irrefl _)⟩
  ·exact absurd (cm m g) n2
 ·obtain⟨m|m,hz⟩:=own j k hk e
  ·exact absurd (cm m g) n1
  ·rw[P.mY m,hz]
   exact⟨fun h=>absurd h (Int.lt_irrefl _),fun h=>absurd h (Int.lt_irrefl _)⟩
theorem Ok.near {v p q:Nat} {t:Int} (V:d.Vx v p q) (o:t % 2=1) (hv:d.H v=t+1\/d.H v=t-1) (h1:d.Cr p t) (h2:d.Cr q t) (hlt:d.Y p t<d.Y q t):d.W t (d.Y q t)=d.W t (d.Y p t+1):=by
 refine Ag8 fun j hj=>?_
 have hj:=P.cr o hj;by_cases m1:p % d.n=j % d.n
 ·rw[<-P.mY m1];omega
 ·by_cases m2:q % d.n=j % d.n
  ·rw[<-P.mY m2];omega
  ·have f:=P.far V m1 m2 (by rcases hv with e|e<;>rw[e];exact(P.crI o hj).2.2;exact(P.crI o hj).2.1)
   have f1:d.Y j (d.H v)≠d.Y p (d.H v):=by rw[P.end_ V.hp];exact f
   have f2:d.Y j (d.H v)≠d.Y q (d.H v):=by rw[P.end_ V.hq];exact f
   have r1:=P.rel o hv h1 hj m1 f1;have r2:=P.rel o hv h2 hj m2 f2;rw[P.end_ V.hp] at r1;rw[P.end_ V.hq] at r2;have:=P.apart o h1 hj m1;omega
theorem Ok.self {i:Nat} {t:Int} (o:t % 2=1) (h:d.Cr i t):d.W t (d.Y i t+1)=d.W t (d.Y i t)+d.c i t:=by
 have e:d.W t (d.Y i t+1)=d.W t (d.Y i t)+sm (fun j=>d.c j t*if d.Y j t=d.Y i t then 1 else 0) d.n:=by
  unfold W;rw[<-Ms];refine Dm fun j _=>?_
  rw[<-Int.mul_add]
  congr 1
  (repeat' split)<;>omega
 have hn:=P.n3;have hm:=Nat.mod_mod i d.n;rw[e,Adc (Nat.mod_lt i (by omega)) fun j hj ne=>?_,P.cm hm,P.mY hm,if_pos rfl,Int.mul_one]
 by_cases z:d.c j t=0
 ·rw[z,Int.zero_mul]
 ·rw[if_neg (P.apart o h (P.cr o z) fun m=>ne (by rw[m,Nat.mod_eq_of_lt hj])),Int.mul_zero]
theorem Ok.back {i j:Nat} (h:(i+1) % d.n=(j+1) % d.n):i % d.n=j % d.n:=by
 have hn:=P.n3
 have k:∀x,x % d.n=((x+1) % d.n+(d.n-1)) % d.n:=fun x=>by
  rw[Nat.mod_add_mod,show x+1+(d.n-1)=x+d.n by omega,Nat.add_mod_right]
 rw[k i,h,<-k j]
theorem Ok.vx (i:Nat):d.Vx (i+1) i (i+1):=⟨.inr rfl,.inl rfl,P.nn i,fun j h=>by
 rcases h with h|h
 ·exact .inr h
 ·exact .inl (P.back h)⟩
theorem Ok.vy (i:Nat):d.Vx (i+1) (i+1) i:=⟨.inl rfl,.inr rfl,(P.nn i).symm,fun j h=>((P.vx i).all j h).symm⟩
theorem Ok.runs {i:Nat} {t:Int} (o:t % 2=1) (h:d.Cr i t):∀m:Nat,d.Cr i (t+2*m)->d.W (t+2*m) (d.Y i (t+2*m))=d.W t (d.Y i t)
 | 0,_=>by simp
 | m+1,g=>by
   have e:t+2*((m+1:Nat):Int)=t+2*m+2:=by omega
   rw[e] at g ⊢;have k:d.Cr i (t+2*m):=by unfold Cr at *;omega
   rw[P.along (by omega) k g]
   exact Ok.runs o h m k
theorem Ok.same {i:Nat} {t u:Int} (o:t % 2=1) (p:u % 2=1) (h:d.Cr i t) (g:d.Cr i u):d.W u (d.Y i u)=d.W t (d.Y i t):=by
 rcases Int.le_total t u with k|k
 ·have e:u=t+2*(((u-t) / 2).toNat:Int):=by omega
  rw[e] at g ⊢;exact P.runs o h _ g
 ·have e:t=u+2*(((t-u) / 2).toNat:Int):=by omega
  rw[e] at h ⊢;exact(P.runs p g _ h).symm
def dn (d:Dt) (i:Nat):Int:=if d.H (i+1)<d.H i then 1 else 0
theorem Ok.two {i:Nat} {t:Int} (o:t % 2=1) (hv:d.H (i+1)=t+1\/d.H (i+1)=t-1) (h1:d.Cr i t) (h2:d.Cr (i+1) t):d.W t (d.Y (i+1) t)=d.W t (d.Y i t)+d.c i t\/d.W t (d.Y i t)=d.W t (d.Y (i+1) t)+d.c (i+1) t:=by
 rcases Int.lt_or_gt_of_ne (P.apart o h2 h1 (P.nn i).symm) with g|g
 ·left;rw[P.near (P.vx i) o hv h1 h2 g,P.self o h1]
 ·right;rw[P.near (P.vy i) o hv h2 h1 g,P.self o h2]
theorem Ok.next {i:Nat} {t u:Int} (o:t % 2=1) (p:u % 2=1) (h:d.Cr i t) (g:d.Cr (i+1) u):d.W u (d.Y (i+1) u)-d.dn (i+1)=d.W t (d.Y i t)-d.dn i:=by
 have v0:=P.ev i;have v1:=P.ev (i+1);have v2:=P.ev (i+1+1);have k0:=P.nh i;have k1:=P.nh (i+1);obtain⟨x,hx⟩:∃x,d.H (i+1)=x:=⟨_,rfl⟩
 have ox:(x-1) % 2=1:=by omega
 have oy:(x+1) % 2=1:=by omega
 have lo0:d.H i<x->d.Cr i (x-1):=fun q=>by unfold Cr;omega
 have hi0:x<d.H i->d.Cr i (x+1):=fun q=>by unfold Cr;omega
 have lo1:d.H (i+1+1)<x->d.Cr (i+1) (x-1):=fun q=>by unfold Cr;omega
 have hi1:x<d.H (i+1+1)->d.Cr (i+1) (x+1):=fun q=>by unfold Cr;omega
 unfold dn;rw[hx];by_cases a:d.H i<x<;>by_cases b:d.H (i+1+1)<x
 ·have r:=P.two ox (.inl (by omega)) (lo0 a) (lo1 b)
  rw[P.same ox o (lo0 a) h,P.same ox p (lo1 b) g];unfold c at r;rw[hx,if_pos (by omega),if_neg (by omega),if_neg (by omega)] at r
  rw[if_pos b,if_neg (by omega)]
  omega
 ·have e:=P.via (t:=x-1) (P.vx i) ox (by omega) (lo0 a) (by rw[show x-1+2=x+1 by omega];exact hi1 (by omega))
  rw[show x-1+2=x+1 by omega] at e
  rw[P.same ox o (lo0 a) h,P.same oy p (hi1 (by omega)) g,e,if_neg b,if_neg (by omega)]
 ·have e:=P.via (t:=x-1) (P.vy i) ox (by omega) (lo1 b) (by rw[show x-1+2=x+1 by omega];exact hi0 (by omega))
  rw[show x-1+2=x+1 by omega] at e
  rw[P.same oy o (hi0 (by omega)) h,P.same ox p (lo1 b) g,e,if_pos b,if_pos (by omega)]
 ·have r:=P.two oy (.inr (by omega)) (hi0 (by omega)) (hi1 (by omega))
  rw[P.same oy o (hi0 (by omega)) h,P.same oy p (hi1 (by omega)) g]
  unfold c at r;rw[hx,if_neg (by omega),if_pos (by omega),if_pos (by omega)] at r
  rw[if_neg b,if_pos (by omega)]
  omega
theorem Ok.some_ (i:Nat):∃t,t % 2=1/\d.Cr i t:=by
 have v0:=P.ev i;have v1:=P.ev (i+1);have k:=P.nh i;exact⟨min (d.H i) (d.H (i+1))+1,by omega,by unfold Cr;omega⟩
theorem Ok.const:∃J,∀i t,t % 2=1->d.Cr i t->d.W t (d.Y i t)=J+d.dn i:=by
 obtain⟨u,hu,cu⟩:=P.some_ 0;refine⟨d.W u (d.Y 0 u)-d.dn 0,fun i=>?_⟩
 induction i with
 | zero =>
   intro t o h;rw[P.same hu o cu h];omega
 | succ i ih =>
   intro t o h;obtain⟨x,hx,cx⟩:=P.some_ i;have:=P.next hx o cx h;have:=ih x hx cx;omega
def F (d:Dt) (t:Int):Int:=sm (fun j=>d.c j t*d.Y j t) d.n
def K (d:Dt) (t y:Int):Int:=sm (fun j=>d.c j t*if d.Y j t<y then y-d.Y j t else 0) d.n
omit P in
theorem Ak9 (t y:Int):d.K t (y+1)=d.K t y+d.W t (y+1):=by
 unfold K W;rw[<-Ms];refine Dm fun j _=>?_
 rw[<-Int.mul_add]
 congr 1
 (repeat' split)<;>omega
theorem Ok.c_tot (t:Int):sm (fun j=>d.c j t) d.n=0:=by
 rw[Dm (g:=fun j => -1*((if t<d.H j then 1 else 0)-(if t<d.H (j+1) then 1 else 0))) fun j _=>by unfold c;omega,I6,X4 fun j=>if t<d.H j then (1:Int) else 0]
 have:=(P.mm (i:=d.n) (j:=0) (by simp)).1
 rw[this];omega
theorem Ok.sign {J:Int} (hJ:∀i t,t % 2=1->d.Cr i t->d.W t (d.Y i t)=J+d.dn i) {t:Int} (o:t % 2=1) (hx:∃j,j<d.n/\d.c j t≠0):(J=0\/J = -1)/\(1+2*J)*d.F t <= -1:=by
 have dc:∀j,d.Cr j t->d.dn j+d.c j t=0\/(d.dn j+d.c j t=1):=fun j h=>by
  unfold Cr at h;unfold dn c;(repeat' split)<;>omega
 have d01:∀j,d.dn j=0\/d.dn j=1:=fun j=>by unfold dn;split<;>omega
 -- the values of W
 have w0:∀y,(∀j,j<d.n->d.c j t≠0->¬d.Y j t<y)->d.W t y=0:=fun y h=>Vv fun j hj=>by
  by_cases e:d.c j t=0
  ·rw[e,Int.zero_mul]
  ·rw[if_neg (h j hj e),Int.mul_zero]
 -- the leftmost side
 obtain⟨l,hl,cl,ml⟩:=top (fun j=>d.c j t≠0) (fun j => -d.Y j t) d.n hx
 have e0:=hJ l t o (P.cr o cl);rw[w0 _ fun j hj hc=>by have:=ml j hj hc;omega] at e0
 have hj:J=0\/J = -1:=by have:=d01 l;omega
 refine⟨hj,?_⟩
 have wy:∀y,0<=(1+2*J)*d.W t y:=fun y=>by
  by_cases q:∃j,j<d.n/\(d.c j t≠0/\d.Y j t<y)
  ·obtain⟨r,hr,⟨cr,lr⟩,mr⟩:=top (fun j=>d.c j t≠0/\d.Y j t<y) (fun j=>d.Y j t) d.n q
   have e:d.W t y=d.W t (d.Y r t+1):=Dm fun j hj=>by
    by_cases e:d.c j t=0
    ·rw[e,Int.zero_mul,Int.zero_mul]
    ·have:d.Y j t<y↔d.Y j t<d.Y r t+1:=⟨fun g=>by have:=mr j hj ⟨e,g⟩;omega,fun g=>by omega⟩
     simp only[this]
   have h1:=hJ r t o (P.cr o cr);have h2:=P.self o (P.cr o cr);have h3:=dc r (P.cr o cr);rcases hj with rfl|rfl<;>omega
  ·rw[w0 y fun j hj hc g=>q ⟨j,hj,hc,g⟩];simp
 have wl:(1+2*J)*d.W t (d.Y l t+1)=1:=by
  have h1:=hJ l t o (P.cr o cl);have h2:=P.self o (P.cr o cl);have h3:=dc l (P.cr o cl);have h4:=d01 l;have h5:d.c l t=1\/d.c l t = -1:=by have:=P.cr o cl;unfold Cr at this;unfold c;(repeat' split)<;>omega
  rcases hj with rfl|rfl<;>omega
 obtain⟨B,hB⟩:=bnd (fun j=>d.Y j t) d.n
 have kk:∀m:Nat,(0<=(1+2*J)*d.K t (-(B:Int)+m))/\(d.Y l t+1 <= -(B:Int)+m->1<=(1+2*J)*d.K t (-(B:Int)+m)):=fun m=>by
  induction m with
  | zero =>
    have:d.K t (-(B:Int)+(0:Nat))=0:=Vv fun j hj=>by
     rw[if_neg (by have:=hB j hj;omega),Int.mul_zero]
    rw[this];have:=hB l hl;exact⟨by simp,fun h=>by omega⟩
  | succ m ih =>
    have e : -(B:Int)+((m+1:Nat):Int) = -(B:Int)+m+1:=by omega
    rw[e,Ak9,Int.mul_add];have h1:=wy (-(B:Int)+m+1);refine⟨by omega,fun h=>?_⟩
    by_cases q:d.Y l t+1 <= -(B:Int)+m
    ·have:=ih.2 q;omega
    ·have : -(B:Int)+m+1=d.Y l t+1:=by omega
     rw[this] at h1 ⊢;omega
 have hk:=(kk (2*B+1)).2 (by have:=hB l hl;omega)
 have e:d.K t (-(B:Int)+((2*B+1:Nat):Int)) = -d.F t:=by
  have e1:d.K t (-(B:Int)+((2*B+1:Nat):Int))=sm (fun j=>((B:Int)+1)*d.c j t + -1*(d.c j t*d.Y j t)) d.n:=Dm fun j hj=>by
   rw[if_pos (by have:=hB j hj;omega),show -(B:Int)+((2*B+1:Nat):Int)-d.Y j t=(B:Int)+1-d.Y j t by omega]
   grind
  rw[e1,Ms,I6,P.c_tot,I6];unfold F;omega
 rw[e,Int.mul_neg] at hk;omega
def Q (d:Dt) (j:Nat) (t:Int):Int:=(d.Y j t+d.z j)*(t-d.H j)
omit P in
theorem Ak5 (j:Nat) (t:Int):d.Q j (t+1)-d.Q j (t-1)=4*d.Y j t:=by unfold Q Y;grind
omit P in
theorem up (j:Nat) (b h:Int):∀N:Nat,(∃k:Nat,h=b+2*k)->sm (fun m=>(if b+2*m+1<h then 1 else 0)*(4*d.Y j (b+2*m+1))) N=d.Q j (min h (b+2*N))-d.Q j b
 | 0,⟨k,hk⟩=>by rw[sm,show min h (b+2*((0:Nat):Int))=b by omega];omega
 | N+1,⟨k,hk⟩=>by
   rw[sm,up j b h N ⟨k,hk⟩];have e:=Ak5 (d:=d) j (b+2*N+1);by_cases g:b+2*N+1<h
   ·rw[if_pos g,show min h (b+2*N)=b+2*N by omega,show min h (b+2*((N+1:Nat):Int))=b+2*N+1+1 by omega]
    rw[show b+2*(N:Int)+1-1=b+2*N by omega] at e
    omega
   ·rw[if_neg g,show min h (b+2*N)=h by omega,show min h (b+2*((N+1:Nat):Int))=h by omega]
    omega
theorem Ok.area:sm (fun j=>d.z j*d.H (j+1)-d.z (j+1)*d.H j) d.n≠0:=by
 obtain⟨J,hJ⟩:=P.const;obtain⟨B,hB⟩:=bnd d.H (d.n+1)
 have lo:∀j,j<d.n+1->∃k:Nat,d.H j = -2*(B:Int)+2*k/\k<=2*B:=fun j hj=>by
  have:=hB j hj;have:=P.ev j;exact⟨((d.H j+2*B) / 2).toNat,by omega,by omega⟩
 have e:sm (fun m=>4*d.F (-2*(B:Int)+2*(m:Nat)+1)) (2*B)=sm (fun j=>d.z j*d.H (j+1)-d.z (j+1)*d.H j) d.n:=by
  have e1:sm (fun m=>4*d.F (-2*(B:Int)+2*(m:Nat)+1)) (2*B)=sm (fun m=>sm (fun j=>d.c j (-2*(B:Int)+2*(m:Nat)+1)*(4*d.Y j (-2*(B:Int)+2*(m:Nat)+1))) d.n) (2*B):=Dm fun m _=>by
   unfold F;rw[<-I6];exact Dm fun j _=>by grind
  rw[e1,kh (fun m j=>d.c j (-2*(B:Int)+2*(m:Nat)+1)*(4*d.Y j (-2*(B:Int)+2*(m:Nat)+1)))]
  have e2:∀j,j<d.n->sm (fun m=>d.c j (-2*(B:Int)+2*(m:Nat)+1)*(4*d.Y j (-2*(B:Int)+2*(m:Nat)+1))) (2*B)=(d.z j*d.H (j+1)-d.z (j+1)*d.H j) + -1*(d.z j*d.H j-d.z (j+1)*d.H (j+1)):=fun j hj=>by
   obtain⟨k0,a0,b0⟩:=lo j (by omega)
   obtain⟨k1,a1,b1⟩:=lo (j+1) (by omega)
   have u0:=up (d:=d) j (-2*(B:Int)) (d.H j) (2*B) ⟨k0,a0⟩;have u1:=up (d:=d) j (-2*(B:Int)) (d.H (j+1)) (2*B) ⟨k1,a1⟩;rw[show min (d.H j) (-2*(B:Int)+2*((2*B:Nat):Int))=d.H j by omega] at u0
   rw[show min (d.H (j+1)) (-2*(B:Int)+2*((2*B:Nat):Int))=d.H (j+1) by omega] at u1
   have q0:d.Q j (d.H j)=0:=by unfold Q;simp
   have q1:d.Q j (d.H (j+1))=(d.z (j+1)+d.z j)*(d.H (j+1)-d.H j):=by unfold Q;rw[P.Y1]
   rw[Dm (g:=fun m=>(if -2*(B:Int)+2*(m:Nat)+1<d.H (j+1) then 1 else 0)*(4*d.Y j (-2*(B:Int)+2*(m:Nat)+1)) + -1*((if -2*(B:Int)+2*(m:Nat)+1<d.H j then 1 else 0)*(4*d.Y j (-2*(B:Int)+2*(m:Nat)+1)))) fun m _=>by unfold c;grind,Ms,I6,u0,u1,q0,q1]
   grind
  rw[Dm e2,Ms,I6,X4 fun j=>d.z j*d.H j]
  have:=P.mm (i:=d.n) (j:=0) (by simp)
  rw[this.1,this.2.1];omega
 rw[<-e]
 -- every height has the one sign
 have neg:∀m,m<2*B->(1+2*J)*(4*d.F (-2*(B:Int)+2*(m:Nat)+1))<=0:=fun m _=>by
  by_cases q:∃j,j<d.n/\d.c j (-2*(B:Int)+2*(m:Nat)+1)≠0
  ·have:=(P.sign hJ (by omega) q).2
   grind
  ·have:d.F (-2*(B:Int)+2*(m:Nat)+1)=0:=Vv fun j hj=>by
    rw[Classical.byContradiction fun g=>q ⟨j,hj,g⟩,Int.zero_mul]
   rw[this];simp
 obtain⟨t,o,ct⟩:=P.some_ 0;have hn:=P.n3;have c0:d.c 0 t≠0:=by unfold Cr at ct;unfold c;(repeat' split)<;>omega
 have s:=(P.sign hJ o ⟨0,by omega,c0⟩).2
 obtain⟨x,hx⟩:∃m:Nat,t = -2*(B:Int)+2*m+1/\m<2*B:=by
  have:=hB 0 (by omega)
  have:=hB (0+1) (by omega)
  unfold Cr at ct;exact⟨((t+2*B) / 2).toNat,by omega,by omega⟩
 have l:=(Aip neg).2 x hx.2;rw[I6 (fun m=>4*d.F (-2*(B:Int)+2*(m:Nat)+1))] at l
 rw[<-hx.1] at l;intro e0;rw[e0,Int.mul_zero] at l
 grind
end Dt
end Arn
end
section
@[reducible] def sB {w:World} {S:World->Prop} (_:∀x,Below w.heap.size w x->S x):World->Prop:=S
instance:Coe Int Value:=⟨.int .i64⟩
instance:Coe Nat Value:=⟨fun k=>.int .i64 k⟩
@[simp,reducible] def Cq (w:World) (b o:Nat) (v:Value):Prop:=w.cell? ⟨b,o,none⟩=some v
@[simp,reducible] def Be (a w:World):Prop:=Below a.heap.size a w
abbrev LP:=List (Int×Int)
theorem Bn{b:Bool} (h:o=b):Ending.returned (.bool o)=.returned (.bool b):=by rw[h]
theorem Bm{k:IntKind}  (h:e=l):Ending.returned (.int k e)=.returned (.int k l):=by rw[h]
theorem Ao{w:World} (h:Below b.heap.size b w) (o:Obj):Below b.heap.size b (w.alloc o):=Below.alloc h h.size o
theorem Aw{w:World} (h:Below b.heap.size b w):Below b.heap.size b w.drew:=Below.drew h
theorem Bd{w:World} (h:Below b.heap.size b w) (n:Nat):Below b.heap.size b (w.drewN n):=⟨h.os,h.tape,h.output,h.size,h.block⟩
theorem An{w:World} (h:Below b.heap.size b w) (a:Below w.heap.size w k):Below b.heap.size b k:=h.trans (a.mono h.size)
theorem Ba{w:World} (h:Below b.heap.size b w) {p:Addr} (a:b.heap.size<=p.block) (u:Value):Below b.heap.size b (w.setCell p u):=Below.setCell h a u
theorem bl0{w:World}:Below a w w:=Below.refl _ _
theorem blA{w:World} {o:Obj}:Below w.heap.size w (w.alloc o):=Ao bl0 _
theorem blD{w:World}:Below w.heap.size w w.drew:=Aw bl0
theorem Ar{p:Prop} (h:p):Hid p:=Lib.hid h
@[simp,reducible] def Bz (w:World) (v:Value) (e:Ending) (a:World):Prop:=e=.returned v/\Below w.heap.size w a
@[reducible] def sOf {n:Nat} {w:World} {S:World->Prop} (_:∀a,Below n w a->S a):World->Prop:=S
theorem Ag2{W:World} (c:Below W.heap.size W b):(∀a o,a<W.heap.size->b.cell? ⟨a,o,none⟩=W.cell? ⟨a,o,none⟩)/\(∀a o,a<W.heap.size->b.frozen? ⟨a,o,none⟩=W.frozen? ⟨a,o,none⟩) :=
 ⟨λa o h=>c.cell (p:=⟨a,o,none⟩) h,λa o h=>c.frozen (p:=⟨a,o,none⟩) h⟩
section
variable {P : Program} {ops : Array Oper} {C : World -> Prop}
theorem Cx {Q:Act->Prop} {a:Act} {o:Oper} {rest:List Oper} (hg:o.guard=none) {v:Value}
 (h1:∀w,C w->o.quietAt P a C w v) (h2:wpQuiet P ops C Q rest (a.put o.dst v)):wpQuiet P ops C Q (o::rest) a:=by
 show (if Region.wanted o (yielded ops a.tmps) then o.quiet P a C (wpQuiet P ops C Q rest) else wpQuiet P ops C Q rest (a.put o.dst undef))
 have hw:Region.wanted o (yielded ops a.tmps)=true:=by simp[Region.wanted,hg]
 rw[if_pos hw];exact⟨v,h1,h2⟩
def Cls (w0:World) (l:List (Addr×Value)) (w:World):Prop:=Below w0.heap.size w0 w/\∀x∈l,w.cell? x.1=some x.2
theorem Bi {w:World} {p:Addr} {v:Value} (h:w.cell? p=some v):p.block<w.heap.size:=by
 rcases Nat.lt_or_ge p.block w.heap.size with h1|h1
 ·exact h1
 ·simp[World.cell?,Array.getElem?_eq_none h1] at h
theorem Aq {w w2:World} {p:Addr} {v:Value} (hb:Below w.heap.size w w2) (h:w.cell? p=some v):w2.cell? p=some v :=
 (hb.cell (Bi h)).trans h
theorem Cls.call {w0 w w2:World} {l:List (Addr×Value)} (h:Cls w0 l w) (hb:Below w.heap.size w w2):Cls w0 l w2 :=
 ⟨An h.1 hb,fun x hx=>Aq hb (h.2 x hx)⟩
theorem Bh (w0:World) (cl:List (Addr×Value)) {id:Nat} {Q:Exit->Act->World->Prop} {a:Act} {w:World} {l:List Oper} (hm:P.follows .mixedOrders=true) (hB:Region.lexB .any l.toArray=true)
 (hC:Cls w0 cl w) (h:wpQuiet P l.toArray (Cls w0 cl) (fun a'=>∀w',Cls w0 cl w'->Q .normal a' w') l a):(Code.region id l.toArray true).wp P Q a w :=
 wp_region_quiet (C:=Cls w0 cl) hm hB ⟨⟨hC.1.os,hC.1.tape,hC.1.output,hC.1.size,hC.1.block⟩,hC.2⟩ (by simpa using h)
theorem Bw {f:FuncId} {args:Array Value} {w0 w:World} {cl:List (Addr×Value)} {v:Value} (hw:Cls w0 cl w)
 (h:Calls P f args w fun e w'=>e=.returned v/\Below w.heap.size w w'):Calls P f args w fun e w''=>e=.returned v/\Cls w0 cl w'' :=
 h.mono fun _ _ ⟨he,hb⟩=>⟨he,hw.call hb⟩
end
end
def Bs (a b c:Int×Int):Int:=wrap64 (wrap64 (wrap64 (b.1-a.1)*wrap64 (c.2-a.2))-wrap64 (wrap64 (b.2-a.2)*wrap64 (c.1-a.1)))
def Cc (M:Int) (s:Int×Int):Bool:=decide (s.1 < -M) || decide (s.1 > M) || decide (s.2 < -M) || decide (s.2 > M)
def Ey (x y:Int):Int:=if x<y then -1 else if x > y then 1 else 0
def I8 (a b c d:Int×Int):Bool:=decide (IntKind.i64.wrap (Ey (Bs a b c) 0*Ey (Bs a b d) 0)<0)
def onW (a b p:Int×Int):Bool:=(Bs a b p == 0)&&decide (min a.1 b.1<=p.1)&&decide (p.1<=max a.1 b.1)&&decide (min a.2 b.2<=p.2)&&decide (p.2<=max a.2 b.2)
theorem Li(a b d c e f:Int) (w:World) :
 Calls Tryz.prog 188 #[.agg #[a,b],.agg #[d,c],.agg #[e,f]] w (Bz w (Bs (a,b) (d,c) (e,f))):=by
 go_in;go_wp2;go_ret;exact⟨rfl,Ao (Ao blA _) _⟩
theorem We(a b:Int) (w:World) :
 Calls Tryz.prog 92 #[.agg #[a,b]] w (Bz w (.bool (Cc 1048576 (a,b)))):=by
 go_enter Tryz.func92,Tryz.ntmps92;go_wp2;all_goals go_ret
 all_goals exact⟨Bn (by simp[Cc]<;>omega),blA⟩
theorem Up(x:Int) (w:World):Calls Tryz.prog 186 #[x] w λe a=>e=.returned (.bool false)/\w=a:=by
 go_in;go_wp2;go_ret;exact⟨by simp,rfl⟩
theorem Kn(x y:Int) (w:World):Calls Tryz.prog 134 #[x,y] w (Bz w (Ey x y)):=by
 go_enter Tryz.func134,Tryz.ntmps134
 go_wp2_with (go_at_call 186;refine(Up _ _).mono ?_;rintro e a ⟨rfl,rfl⟩)
 all_goals go_ret
 all_goals exact⟨Bm (by unfold Ey;(repeat split)<;>omega),bl0⟩
theorem dr(c d f e g h i j:Int) (w:World) :
 Calls Tryz.prog 190 #[.agg #[c,d],.agg #[f,e],.agg #[g,h],.agg #[i,j]] w (Bz w (.bool (I8 (c,d) (f,e) (g,h) (i,j)))):=by
 go_enter Tryz.func190,Tryz.ntmps190;go_wp2_with fail;refine Bh w [(⟨w.heap.size,0,none⟩,.int .i64 c),(⟨w.heap.size,1,none⟩,.int .i64 d),(⟨w.heap.size+1,0,none⟩,.int .i64 f),(⟨w.heap.size+1,1,none⟩,.int .i64 e),(⟨w.heap.size+1+1,0,none⟩,.int .i64 g),(⟨w.heap.size+1+1,1,none⟩,.int .i64 h),(⟨w.heap.size+1+1+1,0,none⟩,.int .i64 i),(⟨w.heap.size+1+1+1,1,none⟩,.int .i64 j)] (by kernel_rfl) (by kernel_rfl) ⟨(Ao (Ao (Ao (Ao (Below.refl _ _) _) _) _) _),by simp only[List.mem_cons,List.not_mem_nil,forall_eq_or_imp,or_false,forall_eq];go_simp⟩ ?_
 repeat
  apply Cx
  .rfl
  .intro m b;have l:=b.2;simp only[List.mem_cons,List.not_mem_nil,forall_eq_or_imp,or_false,forall_eq]at l
   go_simp
   first|rfl|exact Bw b (Li _ _ _ _ _ _ _)|exact Bw b (Kn _ _ _)
  go_simp
 refine wpQuiet_nil ?_;intro m a;have k:=a.1;clear a;go_wp2;go_ret;exact⟨rfl,k⟩
theorem Aje (ax ay bx bY cx cy:Int) (w:World) :
 Calls Tryz.prog 189 #[.agg #[ax,ay],.agg #[bx,bY],.agg #[cx,cy]] w (Bz w (.bool (onW (ax,ay) (bx,bY) (cx,cy)))):=by
 go_enter Tryz.func189,Tryz.ntmps189
 go_wp2_with (go_at_call 188;refine(Li _ _ _ _ _ _ _).mono ?_;rintro e w1 ⟨rfl,hb⟩;obtain⟨hc,hf⟩:=Ag2 hb)
 all_goals go_ret
 all_goals refine⟨Bn ?_,An (Ao (Ao blA _) _) (by assumption)⟩
 all_goals clear hb hc hf
 all_goals (rw[Bool.eq_iff_iff];simp[onW];try omega)
def Il (a b c:Int×Int):Bool:=(Bs a b c == 0)&&decide (wrap64 (wrap64 (wrap64 (a.1-b.1)*wrap64 (c.1-b.1))+wrap64 (wrap64 (a.2-b.2)*wrap64 (c.2-b.2))) > 0)
def Hs (a b c d:Int×Int):Bool:=onW a b c || onW a b d || onW c d a || onW c d b || (I8 a b c d&&I8 c d a b)
theorem fu(a b d c f g:Int) (w:World) :
 Calls Tryz.prog 137 #[.agg #[a,b],.agg #[d,c],.agg #[f,g]] w (Bz w (.bool (Il (a,b) (d,c) (f,g)))):=by
 go_enter Tryz.func137,Tryz.ntmps137
 go_wp2_with (go_at_call 188;refine rR (Li _ _ _ _ _ _ _) λk h=>?_;let⟨i,j⟩:=Ag2 h)
 all_goals go_ret
 all_goals refine⟨Bn ?_,An (Ao (Ao blA _) _) (by assumption)⟩
 all_goals clear h i j
 all_goals (rw[Bool.eq_iff_iff];simp[Il];try omega)
theorem Aai(c d g f h i j k:Int) (w:World) :
 Calls Tryz.prog 138 #[.agg #[c,d],.agg #[g,f],.agg #[h,i],.agg #[j,k]] w (Bz w (.bool (Hs (c,d) (g,f) (h,i) (j,k)))):=by
 go_enter Tryz.func138,Tryz.ntmps138
 go_wp2_with (first|(go_at_call 189;refine rR (Aje _ _ _ _ _ _ _) λm b=>?_;(first|(have a:=Cls.call a b)|(have a:Cls w [(⟨w.heap.size,0,none⟩,.int .i64 c),(⟨w.heap.size,1,none⟩,.int .i64 d),(⟨w.heap.size+1,0,none⟩,.int .i64 g),(⟨w.heap.size+1,1,none⟩,.int .i64 f),(⟨w.heap.size+1+1,0,none⟩,.int .i64 h),(⟨w.heap.size+1+1,1,none⟩,.int .i64 i),(⟨w.heap.size+1+1+1,0,none⟩,.int .i64 j),(⟨w.heap.size+1+1+1,1,none⟩,.int .i64 k)] m:=Cls.call ⟨(Ao (Ao (Ao (Ao (Below.refl _ _) _) _) _) _),by simp only[List.mem_cons,List.not_mem_nil,forall_eq_or_imp,or_false,forall_eq];go_simp⟩ b));clear b;have l:=a.2;simp only[List.mem_cons,List.not_mem_nil,forall_eq_or_imp,or_false,forall_eq]at l)|(go_at_call 190;refine rR (dr _ _ _ _ _ _ _ _ _) λm b=>?_;(first|(have a:=Cls.call a b)|(have a:Cls w [(⟨w.heap.size,0,none⟩,.int .i64 c),(⟨w.heap.size,1,none⟩,.int .i64 d),(⟨w.heap.size+1,0,none⟩,.int .i64 g),(⟨w.heap.size+1,1,none⟩,.int .i64 f),(⟨w.heap.size+1+1,0,none⟩,.int .i64 h),(⟨w.heap.size+1+1,1,none⟩,.int .i64 i),(⟨w.heap.size+1+1+1,0,none⟩,.int .i64 j),(⟨w.heap.size+1+1+1,1,none⟩,.int .i64 k)] m:=Cls.call ⟨(Ao (Ao (Ao (Ao (Below.refl _ _) _) _) _) _),by simp only[List.mem_cons,List.not_mem_nil,forall_eq_or_imp,or_false,forall_eq];go_simp⟩ b));clear b;have l:=a.2;simp only[List.mem_cons,List.not_mem_nil,forall_eq_or_imp,or_false,forall_eq]at l))
 all_goals go_ret
 all_goals refine⟨Bn ?_,a.1⟩
 all_goals clear l a
 all_goals (rw[Bool.eq_iff_iff];simp[Hs, *])
def gt (l:LP) (k:Nat):Int×Int:=l.getD k (0,0)
def SpS (w:World) (A:Option Addr) (n:Nat) (l:LP):Prop :=
 l.length=n/\(n=0\/∃b a,A=some ⟨b,a,none⟩/\∀k,k<n->Cq w b (a+k*2) (gt l k).1/\Cq w b (a+k*2+1) (gt l k).2)
theorem SpS.at_{w:World}   {l:LP} (d:SpS w h a l) {k:Nat} (e:k<a):∃b c,h=some ⟨b,c,none⟩/\b<w.heap.size/\∀k,k<a->Cq w b (c+k*2) (gt l k).1/\Cq w b (c+k*2+1) (gt l k).2:=by
 obtain⟨f,d⟩:=d;rcases d with rfl|⟨b,c,rfl,d⟩
 .omega
 exact⟨b,c,rfl,Bi (d k e).1,d⟩
theorem SpS.keep{w:World}   {l:LP} (c:SpS w h a l) (e:Be w b):SpS b h a l:=by
 refine⟨c.1,?_⟩;obtain⟨i,c⟩:=c;rcases c with rfl|⟨g,d,rfl,c⟩
 .exact .inl rfl
 exact .inr ⟨g,d,rfl,λk f=>⟨Aq e (c k f).1,Aq e (c k f).2⟩⟩
theorem Ach(h:(List.range a).all f=true) (b:f a=true):(List.range (a+1)).all f=true:=by
 rw[List.range_succ,List.all_append,h];simp[b]
theorem Ag6(c:a<g) (b:f a=false):(List.range g).all f=false:=by
 rw[List.all_eq_false];exact⟨a,by simpa using c,by simp[b]⟩
theorem Ace(h:(List.range a).any f=false) (b:f a=false):(List.range (a+1)).any f=false:=by
 rw[List.range_succ,List.any_append,h];simp[b]
theorem Ag5(c:a<g) (b:f a=true):(List.range g).any f=true:=by
 rw[List.any_eq_true];exact⟨a,by simpa using c,b⟩
def Db (f:Nat->Bool) (n:Nat):Int:=match (List.range n).find? f with|some i=>(i:Int)|none => -1
def Bp (f:Nat->Bool) (n:Nat):Bool:=(List.range n).any f
def Ix (f:Nat->Bool) (n:Nat):Bool:=(List.range n).all f
theorem Ix.zero(f:Nat->Bool):Ix f 0=true:=rfl
theorem Bp.zero(f:Nat->Bool):Bp f 0=false:=rfl
theorem Ix.succ{f:Nat->Bool}  (h:Ix f a=true) (b:f a=true):Ix f (a+1)=true:=Ach h b
theorem Ix.no{f:Nat->Bool}  (c:a<g) (b:f a=false):Ix f g=false:=Ag6 c b
theorem Bp.succ{f:Nat->Bool}  (h:Bp f a=false) (b:f a=false):Bp f (a+1)=false:=Ace h b
theorem Bp.yes{f:Nat->Bool}  (c:a<g) (b:f a=true):Bp f g=true:=Ag5 c b
theorem Fy(h:Bp f a=false):Db f a = -1:=by
 unfold Db
 have:(List.range a).find? f=none:=by
  rw[List.find?_eq_none];intro x c b;have:=(List.any_eq_false.1 h) x c;exact this b
 rw[this]
theorem Hf{f:Nat->Bool}  (k:a<g) (h:Bp f a=false) (b:f a=true):Db f g=a:=by
 unfold Db
 have:(List.range g).find? f=some a:=by
  have e:List.range g=List.range a++(List.range' a (g-a)):=by
   have h:=List.range'_append_1 (s:=0) (m:=a) (n:=g-a);rw[List.range_eq_range',List.range_eq_range',show g=a+(g-a) by omega,<-h];simp
  rw[e,List.find?_append]
  have c:(List.range a).find? f=none:=by
   rw[List.find?_eq_none];intro x j d;exact(List.any_eq_false.1 h) x j d
  rw[c];let⟨m,i⟩:∃m,g-a=m+1:=⟨g-a-1,by omega⟩
  rw[i,List.range'_succ];simp[b]
 rw[this]
theorem Hy(f:Nat->Bool) (n:Nat):decide (0<=Db f n)=Bp f n:=by
 unfold Db Bp;cases h:(List.range n).find? f with
 | none =>
   rw[List.find?_eq_none]at h;have:(List.range n).any f=false:=by rw[List.any_eq_false];intro x c;simpa using h x c
   simp[this]
 | some i =>
   have a:=List.find?_some h;have b:=List.mem_of_find?_eq_some h;have:(List.range n).any f=true:=List.any_eq_true.2 ⟨i,b,a⟩;simp[this]
theorem Ix.mono(h:Ix f a=true) (b:g<=a):Ix f g=true:=by
 unfold Ix at *
 rw[List.all_eq_true]at *
 intro x c;exact h x (by simp at *;omega)
theorem Ix.start(h:∀i,i<a->f i=true):Ix f a=true:=by
 unfold Ix;rw[List.all_eq_true];intro x b;exact h x (by simpa using b)
theorem Ix.iff:Ix f a=true↔∀i,i<a->f i=true:=by
 unfold Ix;rw[List.all_eq_true];simp
theorem Bp.iff:Bp f a=true↔∃i,i<a/\f i=true:=by
 unfold Bp;rw[List.any_eq_true];simp
theorem rj{l:LP}  (h:g<a):gt (l.take a) g=gt l g:=by
 unfold gt;simp[List.getD,List.getElem?_take,h]
theorem SpS.take{w:World}   {l:LP} (c:SpS w h a l) {i:Nat} (g:i<=a):SpS w h i (l.take i):=by
 refine⟨by rw[List.length_take,c.1];omega,?_⟩;obtain⟨f,c⟩:=c;rcases c with rfl|⟨b,d,rfl,c⟩
 .exact .inl (by omega)
 refine .inr ⟨b,d,rfl,λk e=>?_⟩;rw[rj e];exact c k (by omega)
theorem Bp.congr{f g:Nat->Bool} {n:Nat} (h:∀i,i<n->f i=g i):Bp f n=Bp g n:=by
 rw[Bool.eq_iff_iff,Bp.iff,Bp.iff];exact⟨λ⟨i,a,b⟩=>⟨i,a,by rw[<-h i a];exact b⟩,λ⟨i,a,b⟩=>⟨i,a,by rw[h i a];exact b⟩⟩
theorem SpS.cells{w:World}  {l:LP} (h:SpS w (some ⟨a,g,none⟩) m l) {k:Nat} (c:k<m):Cq w a (g+k*2) (gt l k).1/\Cq w a (g+k*2+1) (gt l k).2:=by
 obtain⟨f,h⟩:=h;rcases h with rfl|⟨d,b,e,h⟩
 .omega
 injection e with e
 injection e with e1 e2
 subst e1 e2;exact h k c
theorem Fm(z:Int) (a : -9223372036854775808<=z) (b:z<=9223372036854775807):IntKind.i64.wrap z=z:=IntWalk.i64_in z ⟨a,b⟩
theorem Dx(k c:Nat) (h:k+c<=1000000000000):IntKind.i64.wrap ((k:Int)+(c:Int))=(k:Int)+(c:Int):=Fm _ (by omega) (by omega)
theorem Abi(k n:Nat):((k:Int)+1) % (n:Int)=(((k+1) % n:Nat):Int):=by
 rw[Int.natCast_emod];rfl
theorem Q6(z:Int) (a n:Nat) (b:z=(a:Int)) (c:0<n):z.tmod (n:Int)=z % (n:Int)/\0<=z % (n:Int)/\z % (n:Int)<(n:Int)/\(z % (n:Int)).toNat=a % n:=by
 subst b;refine⟨by rw[<-Int.ofNat_tmod,Int.natCast_emod],Int.emod_nonneg _ (by omega),Int.emod_lt_of_pos _ (by omega),?_⟩;rw[<-Int.natCast_emod,Int.toNat_natCast]
theorem Aca{n:Nat} (h:0<n):((n:Int) == 0)=false:=by
 rw[beq_eq_false_iff_ne];omega
def eqS (p q:Int×Int):Bool:=p.1 == q.1&&p.2 == q.2
theorem Ge(p q:Int×Int):eqS p q=true↔p=q:=by
 obtain⟨a,b⟩:=p;obtain⟨c,d⟩:=q;simp[eqS]
theorem Ea(a b c d:Int) (w:World):(Op.equalIn 10000 60 (.agg #[a,b]) (.agg #[c,d])).run Tryz.prog w=.ok (eqS (a,b) (c,d)) w:=by
 have u3:=Tryz.underlying3;have i:=Tryz.isAgg3;have j:=Tryz.sizeOf3;have g:Tryz.prog.underlying 60=some (.struct (Tryz.prog.fieldsOf 60)):=by kernel_rfl
 have h:Tryz.prog.stoodInHeld 60=false:=by kernel_rfl
 rw[show (10000:Nat)=9999+1 from rfl,run_equalIn_agg w 9999 60 _ _ g h];simp only[Program.fieldsOf,Tryz.underlying60]
 go_simp
 by_cases e:a=c<;>by_cases f:b=d<;>simp[e,f,eqS]
theorem fi(A:Option Addr) (g n:Nat) (l:LP) (w:World) (t:n<=1000000) (o:SpS w A n l) :
 Calls Tryz.prog 135 #[.slice A n g,.func (.func 92) #[] #[]] w (Bz w (Db (λi=>Cc 1048576 (gt l i)) n)):=by
 go_in;go_wp2;go_loopw [8] (λi wr=>∃k:Nat,k<=n/\i=.int .i64 k/\Hid (Bp (λi=>Cc 1048576 (gt l i)) k=false)/\Be w wr) λi _=>n-(intOf i).toNat
 case atStart=>exact⟨0,Nat.zero_le _,rfl,Bp.zero _,bl0⟩
 obtain⟨k,s,rfl,j,f⟩:=hrel;by_cases a:k<n
 .obtain⟨b,p,rfl,m,h⟩:=o.at_ a;have q:=Aq f (h k a).1;have r:=Aq f (h k a).2;clear h
  go_wp2_with (go_at_call 92;refine rR (We _ _ _) λu c=>?_;have d:=An f c;clear c)
  .go_ret;exact⟨Bm (Hf a j.out (by assumption)).symm,d⟩
  go_roundw
  case rel=>exact⟨k+1,by omega,by go_num,Bp.succ j.out (by simpa using ‹_›),d⟩
  case measure=>simp[intOf];omega
 obtain rfl:n=k:=by omega
 go_wp2;go_ret;exact⟨Bm (Fy j.out).symm,f⟩
theorem Pp(A:Option Addr) (a n:Nat) (l:LP) (w:World) (c:n<=1000000) (d:SpS w A n l) :
 Calls Tryz.prog 91 #[.slice A n a,.func (.func 92) #[] #[]] w (Bz w (.bool (Bp (λi=>Cc 1048576 (gt l i)) n))):=by
 go_in
 go_wp2_with (go_at_call 135;refine rR (fi _ _ _ _ _ c d) λf b=>?_)
 go_ret;exact⟨Bn (Hy _ _),b⟩
theorem re(A:Option Addr) (e n:Nat) (l:LP) (x y:Int) (w:World) (t:n<=1000000) (m:SpS w A n l) :
 Calls Tryz.prog 187 #[.slice A n e,.agg #[x,y]] w (Bz w (Db (λi=>eqS (x,y) (gt l i)) n)):=by
 have j:=Ea;go_enter Tryz.func187,Tryz.ntmps187;go_wp2_with fail;go_loopw [8] (λi wr=>∃k:Nat,k<=n/\i=.int .i64 k/\Hid (Bp (λi=>eqS (x,y) (gt l i)) k=false)/\Cls w [(⟨w.heap.size,0,none⟩,.int .i64 x),(⟨w.heap.size,1,none⟩,.int .i64 y)] wr) λi _=>n-(intOf i).toNat
 case atStart=>exact⟨0,Nat.zero_le _,rfl,Bp.zero _,(Ao (Below.refl _ _) _),by simp only[List.mem_cons,List.not_mem_nil,forall_eq_or_imp,or_false,forall_eq];go_simp⟩
 obtain⟨k,s,rfl,g,c⟩:=hrel;by_cases a:k<n
 .obtain⟨b,p,rfl,h,f⟩:=m.at_ a;have q:=Aq c.1 (f k a).1;have r:=Aq c.1 (f k a).2;have o:=c.2;simp only[List.mem_cons,List.not_mem_nil,forall_eq_or_imp,or_false,forall_eq]at o;clear f;go_wp2_with fail;go_quiet (fail);have d:Cls w [(⟨w.heap.size,0,none⟩,.int .i64 x),(⟨w.heap.size,1,none⟩,.int .i64 y)] (wr.drewN nq):=⟨Bd c.1 _,c.2⟩;clear c;go_wp2_with fail
  .go_ret;exact⟨Bm (Hf a g.out (by assumption)).symm,d.1⟩
  go_roundw
  case rel=>exact⟨k+1,by omega,by go_num,Bp.succ g.out (by simpa using ‹_›),d⟩
  case measure=>simp[intOf];omega
 obtain rfl:n=k:=by omega
 go_wp2_with fail;go_ret;exact⟨Bm (Fy g.out).symm,c.1⟩
theorem Uz(A:Option Addr) (a n:Nat) (l:LP) (x y:Int) (w:World) (c:n<=1000000) (d:SpS w A n l) :
 Calls Tryz.prog 136 #[.slice A n a,.agg #[x,y]] w (Bz w (.bool (Bp (λi=>eqS (x,y) (gt l i)) n))):=by
 go_in
 go_wp2_with (go_at_call 187;refine rR (re _ _ _ _ _ _ _ c (d.keep blA)) λf b=>?_)
 go_ret;exact⟨Bn (Hy _ _),An blA b⟩
def tp (l:LP) (i:Nat):Bool:=Bp (λj=>eqS (gt l i) (gt l j)) i
def Pc (l:LP) (n i k:Nat):Bool:=decide (k<i+2) || decide ((k+1) % n=i) || !Hs (gt l i) (gt l ((i+1) % n)) (gt l k) (gt l ((k+1) % n))
def ao (l:LP) (n i:Nat):Bool:=!Il (gt l i) (gt l ((i+1) % n)) (gt l ((i+2) % n))&&Ix (Pc l n i) n
def C8 (l:LP) (n:Nat):Bool:=Ix (λi=>!tp l i) n&&Ix (ao l n) n
theorem Ad9{l:LP}   (h:Bp (λi=>eqS ((gt l a).1,(gt l a).2) (gt (l.take a) i)) a=o):tp l a=o:=by
 rw[<-h];unfold tp;exact Bp.congr λi b=>by rw[rj b]
theorem km{l:LP}  (b:g<a) (h:tp l g=true):C8 l a=false:=by
 unfold C8;rw[Ix.no b (by rw[h];rfl)];rfl
theorem kj{l:LP}  (b:g<a) (h:Il (gt l g) (gt l ((g+1) % a)) (gt l ((g+2) % a))=true):C8 l a=false:=by
 have:ao l a g=false:=by unfold ao;rw[h];rfl
 unfold C8;rw[Ix.no (f:=ao l a) b this,Bool.and_false]
theorem ki{l:LP}  (e:g<a) (d:m<a) (i:g+2<=m) (b:¬(m+1) % a=g) (h:Hs (gt l g) (gt l ((g+1) % a)) (gt l m) (gt l ((m+1) % a))=true):C8 l a=false:=by
 have c:Pc l a g m=false:=by unfold Pc;rw[h];simp[b];omega
 have:ao l a g=false:=by unfold ao;rw[Ix.no d c,Bool.and_false]
 unfold C8;rw[Ix.no (f:=ao l a) e this,Bool.and_false]
theorem Ait{l:LP}  (b:Il (gt l g) (gt l ((g+1) % a)) (gt l ((g+2) % a))=false) (h:Ix (Pc l a g) a=true):ao l a g=true:=by
 unfold ao;rw[b,h];rfl
theorem Za{l:LP}  (h:Ix (Pc l a g) m=true) (b:Hs (gt l g) (gt l ((g+1) % a)) (gt l m) (gt l ((m+1) % a))=false):Ix (Pc l a g) (m+1)=true :=
 Ix.succ h (by unfold Pc;rw[b];simp)
theorem Af8{l:LP}  (h:Ix (Pc l a g) m=true) (i:m<a) (f:g+2<=m) (b:(m+1) % a=g):Ix (Pc l a g) a=true:=by
 have e:m+1=a:=by
  rcases Nat.lt_or_ge (m+1) a with c|c
  .rw[Nat.mod_eq_of_lt c]at b;omega
  omega
 have d:=Ix.succ h (show Pc l a g m=true by unfold Pc;simp[b]);rw[e]at d;exact d
theorem yl{l:LP}  (b:Ix (λi=>!tp l i) a=true) (c:Ix (ao l a) a=true):C8 l a=true:=by
 unfold C8;rw[b,c];rfl
theorem an(b d q n:Nat) (l:LP) (w:World) (hl:n<=1000) (P:3<=n) (R:n<=q) (t:SpS w (some ⟨b,d,none⟩) n l) :
 Calls Tryz.prog 93 #[.slice (some ⟨b,d,none⟩) n q] w (Bz w (.bool (C8 l n))):=by
 go_enter Tryz.func93,Tryz.ntmps93;go_wp2_with fail;go_loopw [14] (λi wr=>∃k:Nat,k<=n/\i=.int .i64 k/\Hid (Ix (λi=>!tp l i) k=true)/\Be w wr) λi _=>n-(intOf i).toNat
 case atStart=>exact⟨0,Nat.zero_le _,rfl,Ix.zero _,bl0⟩
 obtain⟨k,S,rfl,s,m⟩:=hrel;by_cases f:k<n
 .obtain⟨v,y⟩:=(t.keep m).cells f;have X:(k:Int)<=(q:Int):=by omega
  go_wp2_with fail;refine Bh w [(⟨wr.heap.size,0,none⟩,.int .i64 (gt l k).1),(⟨wr.heap.size,1,none⟩,.int .i64 (gt l k).2)] (by kernel_rfl) (by kernel_rfl) ⟨Ao m _,by simp only[List.mem_cons,List.not_mem_nil,forall_eq_or_imp,or_false,forall_eq];go_simp⟩ ?_
  repeat
   apply Cx
   .rfl
   .intro u c;have e:=c.2;simp only[List.mem_cons,List.not_mem_nil,forall_eq_or_imp,or_false,forall_eq]at e
    go_simp
    first|rfl|exact Bw c (Uz _ _ _ (l.take k) _ _ _ (by omega) ((t.keep c.1).take S))
   go_simp
  refine wpQuiet_nil ?_;intro u a;have A:=a.1;clear a v y;go_wp2_with fail
  .go_ret;exact⟨Bn (km f (Ad9 ‹_›)).symm,A⟩
  go_roundw
  case rel=>exact⟨k+1,by omega,by go_num,Ix.succ s.out (by rw[Ad9 (by simpa using ‹_›)];rfl),A⟩
  case measure=>simp[intOf];omega
 obtain rfl:n=k:=by omega
 have M:=s;clear s;obtain⟨T,rfl⟩:∃T:World,T=wr:=⟨_,rfl⟩
 go_wp2_with fail;go_loopw [27] (λi wr=>∃k:Nat,k<=n/\i=.int .i64 k/\Hid (Ix (ao l n) k=true)/\Be w wr) λi _=>n-(intOf i).toNat
 case atStart=>exact⟨0,Nat.zero_le _,rfl,Ix.zero _,m⟩
 clear m;obtain⟨k,S,rfl,s,m⟩:=hrel;by_cases f:k<n
 .obtain⟨v,y⟩:=(t.keep m).cells f;have K:(k+1) % n<n:=Nat.mod_lt _ (by omega);have E:(k+2) % n<n:=Nat.mod_lt _ (by omega);let⟨P,U⟩:=(t.keep m).cells K;let⟨H,I⟩:=(t.keep m).cells E;have J:b<wr.heap.size:=Bi v;have Y:=(Q6 ((k:Int)+1) (k+1) n rfl (by omega)).2
  go_wp2_with fail;have F:IntKind.i64.wrap ((k:Int)+2)=(k:Int)+2:=Dx k 2 (by omega)
  have N:=Q6 ((k:Int)+2) (k+2) n rfl (by omega);have O:¬n=0:=by omega
  refine Bh w [(⟨wr.heap.size,0,none⟩,.int .i64 (gt l k).1),(⟨wr.heap.size,1,none⟩,.int .i64 (gt l k).2),(⟨wr.heap.size+1,0,none⟩,.int .i64 (gt l ((k+1) % n)).1),(⟨wr.heap.size+1,1,none⟩,.int .i64 (gt l ((k+1) % n)).2),(⟨b,d+(k+2) % n*2,none⟩,.int .i64 (gt l ((k+2) % n)).1),(⟨b,d+(k+2) % n*2+1,none⟩,.int .i64 (gt l ((k+2) % n)).2)] (by kernel_rfl) (by kernel_rfl) ⟨Ao (Ao m _) _,by simp only[List.mem_cons,List.not_mem_nil,forall_eq_or_imp,or_false,forall_eq];go_simp⟩ ?_
  repeat
   apply Cx
   .rfl
   .intro u c;have e:=c.2;simp only[List.mem_cons,List.not_mem_nil,forall_eq_or_imp,or_false,forall_eq]at e
    go_simp
    first|rfl|exact Bw c (fu _ _ _ _ _ _ _)
   go_simp
  refine wpQuiet_nil ?_;intro u a;clear F N O v y P U H I E J Y;let⟨B,Q⟩:∃B,B=wr.heap.size:=⟨_,rfl⟩
  rw[<-Q]at a ⊢;have g:Cls w [(⟨B,0,none⟩,.int .i64 (gt l k).1),(⟨B,1,none⟩,.int .i64 (gt l k).2),(⟨B+1,0,none⟩,.int .i64 (gt l ((k+1) % n)).1),(⟨B+1,1,none⟩,.int .i64 (gt l ((k+1) % n)).2)] u:=⟨a.1,λx e=>a.2 x (by simp only[List.mem_cons,List.not_mem_nil,or_false]at e ⊢;rcases e with h|h|h|h<;>simp[h])⟩;clear a Q m;go_wp2_with fail
  .go_ret;exact⟨Bn (kj f ‹_›).symm,g.1⟩
  rename_i o;have C:=Ar o;clear o;go_loopw [9] (λi wr=>∃j:Nat,k+2<=j/\j<=n+2/\i=.int .i64 j/\Hid (Ix (Pc l n k) j=true)/\Cls w [(⟨B,0,none⟩,.int .i64 (gt l k).1),(⟨B,1,none⟩,.int .i64 (gt l k).2),(⟨B+1,0,none⟩,.int .i64 (gt l ((k+1) % n)).1),(⟨B+1,1,none⟩,.int .i64 (gt l ((k+1) % n)).2)] wr) λi _=>n+2-(intOf i).toNat
  case atStart=>exact⟨k+2,by omega,by omega,by go_num,Ix.start λi V=>by unfold Pc;simp[V],g⟩
  clear g;obtain⟨j,D,W,rfl,hq,g⟩:=hrel;have e:=g.2;simp only[List.mem_cons,List.not_mem_nil,forall_eq_or_imp,or_false,forall_eq]at e;by_cases r:j<n
  .have L:(j+1) % n<n:=Nat.mod_lt _ (by omega);by_cases p:(j+1) % n=k
   .have F:(((j:Int)+1) % (n:Int) != (k:Int))=false:=by
     rw[show ((j:Int)+1) % (n:Int)=(((j+1) % n:Nat):Int) from Abi j n,p];simp
    have G:=Ar p;clear p;go_wp2_with fail;exact⟨⟨k+1,by omega,by go_num,Ix.succ s.out (Ait (by simpa using C.out) (Af8 hq.out r D G.out)),g.1⟩,by simp[intOf];omega⟩
   have F:(((j:Int)+1) % (n:Int) != (k:Int))=true:=by
    rw[show ((j:Int)+1) % (n:Int)=(((j+1) % n:Nat):Int) from Abi j n,bne_iff_ne];omega
   have G:=Ar p;clear p;let⟨v,y⟩:=(t.keep g.1).cells r;let⟨H,I⟩:=(t.keep g.1).cells L;go_wp2_with fail;have Z:IntKind.i64.wrap ((j:Int)+1)=(j:Int)+1:=Dx j 1 (by omega);have N:=Q6 ((j:Int)+1) (j+1) n rfl (by omega);have O:¬n=0:=by omega
   refine Bh w [(⟨B,0,none⟩,.int .i64 (gt l k).1),(⟨B,1,none⟩,.int .i64 (gt l k).2),(⟨B+1,0,none⟩,.int .i64 (gt l ((k+1) % n)).1),(⟨B+1,1,none⟩,.int .i64 (gt l ((k+1) % n)).2),(⟨b,d+j*2,none⟩,.int .i64 (gt l j).1),(⟨b,d+j*2+1,none⟩,.int .i64 (gt l j).2),(⟨b,d+(j+1) % n*2,none⟩,.int .i64 (gt l ((j+1) % n)).1),(⟨b,d+(j+1) % n*2+1,none⟩,.int .i64 (gt l ((j+1) % n)).2)] (by kernel_rfl) (by kernel_rfl) ⟨g.1,by simp only[List.mem_cons,List.not_mem_nil,forall_eq_or_imp,or_false,forall_eq];go_simp⟩ ?_
   repeat
    apply Cx
    .rfl
    .intro u c;have e:=c.2;simp only[List.mem_cons,List.not_mem_nil,forall_eq_or_imp,or_false,forall_eq]at e
     go_simp
     first|rfl|exact Bw c (Aai _ _ _ _ _ _ _ _ _)
    go_simp
   refine wpQuiet_nil ?_;intro u a;clear F N O Z v y H I;have z:Cls w [(⟨B,0,none⟩,.int .i64 (gt l k).1),(⟨B,1,none⟩,.int .i64 (gt l k).2),(⟨B+1,0,none⟩,.int .i64 (gt l ((k+1) % n)).1),(⟨B+1,1,none⟩,.int .i64 (gt l ((k+1) % n)).2)] u:=⟨a.1,λx e=>a.2 x (by simp only[List.mem_cons,List.not_mem_nil,or_false]at e ⊢;rcases e with h|h|h|h<;>simp[h])⟩;clear a g e;go_wp2_with fail
   .go_ret;exact⟨Bn (ki f r D G.out ‹_›).symm,z.1⟩
   go_roundw
   case rel=>exact⟨j+1,by omega,by omega,by go_num,Za hq.out (by simpa using ‹_›),z⟩
   case measure=>simp[intOf];omega
  go_wp2_with fail
  exact⟨⟨k+1,by omega,by go_num,Ix.succ s.out (Ait (by simpa using C.out) (Ix.mono hq.out (by omega))),g.1⟩,by simp[intOf];omega⟩
 obtain rfl:n=k:=by omega
 go_wp2_with fail;go_ret;exact⟨Bn (yl M.out s.out).symm,m⟩
def Bg (l:LP) (n:Nat):Int :=
 if n > 40 then 5 else if n<3 then 11 else if Bp (λi=>Cc 1048576 (gt l i)) n then 3 else if C8 l n then 0 else 11
theorem Ir{l:LP}  (h:40<a):Bg l a=5:=by unfold Bg;rw[if_pos (by omega)]
theorem Jf{l:LP}  (h:a<3):Bg l a=11:=by unfold Bg;rw[if_neg (by omega),if_pos (by omega)]
theorem Rh{l:LP}  (h:¬40<a) (c:¬a<3) (b:Bp (λi=>Cc 1048576 (gt l i)) a=true):Bg l a=3:=by unfold Bg;rw[if_neg (by omega),if_neg (by omega),if_pos b]
theorem Ri{l:LP}  (h:¬40<a) (d:¬a<3) (b:Bp (λi=>Cc 1048576 (gt l i)) a=false) (c:C8 l a=false):Bg l a=11:=by unfold Bg;rw[if_neg (by omega),if_neg (by omega),if_neg (by rw[b];simp),if_neg (by rw[c];simp)]
theorem U9{l:LP}  (h:¬40<a) (d:¬a<3) (b:Bp (λi=>Cc 1048576 (gt l i)) a=false) (c:C8 l a=true):Bg l a=0:=by unfold Bg;rw[if_neg (by omega),if_neg (by omega),if_neg (by rw[b];simp),if_pos c]
theorem Dc(A:Option Addr) (c n:Nat) (l:LP) (w:World) (m:n<=9223372036854775807) (f:n<=c) (i:SpS w A n l) :
 Calls Tryz.prog 57 #[.slice A n c] w (Bz w (Bg l n)):=by
 by_cases g:40<n
 .go_in;go_wp2;go_ret;exact⟨Bm (Ir g).symm,bl0⟩
 by_cases h:n<3
 .go_in;go_wp2;go_ret;exact⟨Bm (Jf h).symm,bl0⟩
 obtain⟨b,j,rfl,-,-⟩:=i.at_ (k:=0) (by omega);go_in
 go_wp2_with (first|(go_at_call 91;refine rR (Pp _ _ _ l _ (by omega) i) λo a=>?_)|(go_at_call 93;refine rR (an _ _ _ _ l _ (by omega) (by omega) f (i.keep a)) λp d=>?_))
 .go_ret;exact⟨Bm (Rh g h ‹_›).symm,a⟩
 .go_ret;exact⟨Bm (Ri g h ‹Bp _ _=false› (by simpa using ‹(!C8 l n)=true›)).symm,An a d⟩
 go_ret;exact⟨Bm (U9 g h ‹Bp _ _=false› (by simpa using ‹(!C8 l n)=false›)).symm,An a d⟩
def F4 (l:LP) (n:Nat):Nat->Int
 | 0=>0
 | k+1=>wrap64 (F4 l n k+wrap64 (wrap64 ((gt l k).1*(gt l ((k+1) % n)).2)-wrap64 ((gt l k).2*(gt l ((k+1) % n)).1)))
theorem S4(A:Option Addr) (a n:Nat) (l:LP) (w:World) (t:n<=1000000) (g:n<=a) (f:SpS w A n l) :
 Calls Tryz.prog 81 #[.slice A n a] w (Bz w (F4 l n n)):=by
 go_in;go_wp2;go_loopw [3,9] (λs i wr=>∃k:Nat,k<=n/\i=.int .i64 k/\s=.int .i64 (F4 l n k)/\Be w wr) λ_ i _=>n-(intOf i).toNat
 case atStart=>exact⟨0,Nat.zero_le _,rfl,rfl,bl0⟩
 obtain⟨k,r,rfl,rfl,d⟩:=hrel;by_cases c:k<n
 .have e:(k+1) % n<n:=Nat.mod_lt _ (by omega);have u:=(Q6 ((k:Int)+1) (k+1) n rfl (by omega)).2;obtain⟨b,m,rfl,-,-⟩:=f.at_ c;let⟨h,o⟩:=(f.keep d).cells c;let⟨p,q⟩:=(f.keep d).cells e;have j:b<wr.heap.size:=Bi h;go_wp2;go_roundw
  case rel=>exact⟨k+1,by omega,by go_num,rfl,Ao (Ao d _) _⟩
  case measure=>simp[intOf];omega
 obtain rfl:n=k:=by omega
 go_wp2;go_ret;exact⟨rfl,d⟩
theorem Vg(A:Option Addr) (d n:Nat) (l:LP) (w:World) (i:n<=9223372036854775807) (a:n<=d) (g:SpS w A n l) :
 Calls Tryz.prog 51 #[.slice A n d] w (Bz w (if Bg l n=0 then F4 l n n else 0:Int)):=by
 by_cases c:Bg l n=0
 .have m:n<=40:=by
   rcases Nat.lt_or_ge 40 n with h|h
   .rw[Ir h]at c;omega
   exact h
  rw[if_pos c];have k:=Ar c;have q:(Bg l n != 0)=false:=by rw[c];rfl
  clear c;go_in
  go_wp2_with (first|(go_at_call 57;refine rR (Dc _ _ _ l _ i a g) λj b=>?_)|(go_at_call 81;refine rR (S4 _ _ _ l _ (by omega) a (g.keep b)) λo f=>?_))
  go_ret;exact⟨rfl,An b f⟩
 rw[if_neg c];have q:(Bg l n != 0)=true:=by rw[bne_iff_ne];exact c
 clear c;go_in
 go_wp2_with (go_at_call 57;refine rR (Dc _ _ _ l _ i a g) λj b=>?_)
 go_ret;exact⟨rfl,b⟩
def Vf (l:LP) (n k:Nat):Int:=Bs (gt l ((k+n-1) % n)) (gt l k) (gt l ((k+1) % n))
theorem Z0(b a d n k:Nat) (l:LP) (w:World) (C:n<=1000000) (i:n<=d) (h:SpS w (some ⟨b,a,none⟩) n l) (m:k<n) :
 Calls Tryz.prog 323 #[.slice (some ⟨b,a,none⟩) n d,k] w (Bz w (Vf l n k)):=by
 have f:(k+1) % n<n:=Nat.mod_lt _ (by omega);have g:(k+n-1) % n<n:=Nat.mod_lt _ (by omega);let⟨v,x⟩:=h.cells m;let⟨y,z⟩:=h.cells f;let⟨A,B⟩:=h.cells g;go_enter Tryz.func323,Tryz.ntmps323;go_wp2_with fail;have p:=Q6 ((k:Int)+1) (k+1) n rfl (by omega);have q:=Q6 ((k:Int)+(n:Int)-1) (k+n-1) n (by omega) (by omega);have r:IntKind.i64.wrap ((k:Int)+1)=(k:Int)+1:=Dx k 1 (by omega);have s:IntKind.i64.wrap ((k:Int)+(n:Int))=(k:Int)+(n:Int):=Dx k n (by omega);have t:IntKind.i64.wrap ((k:Int)+(n:Int)-1)=(k:Int)+(n:Int)-1:=Fm _ (by omega) (by omega);have D:¬n=0:=by omega
 refine Bh w [(⟨b,a+k*2,none⟩,.int .i64 (gt l k).1),(⟨b,a+k*2+1,none⟩,.int .i64 (gt l k).2),(⟨b,a+(k+1) % n*2,none⟩,.int .i64 (gt l ((k+1) % n)).1),(⟨b,a+(k+1) % n*2+1,none⟩,.int .i64 (gt l ((k+1) % n)).2),(⟨b,a+(k+n-1) % n*2,none⟩,.int .i64 (gt l ((k+n-1) % n)).1),(⟨b,a+(k+n-1) % n*2+1,none⟩,.int .i64 (gt l ((k+n-1) % n)).2)] (by kernel_rfl) (by kernel_rfl) ⟨bl0,by simp only[List.mem_cons,List.not_mem_nil,forall_eq_or_imp,or_false,forall_eq];go_simp⟩ ?_
 repeat
  apply Cx
  .rfl
  .intro u e;have o:=e.2;simp only[List.mem_cons,List.not_mem_nil,forall_eq_or_imp,or_false,forall_eq]at o
   go_simp
   first|rfl|exact Bw e (Li _ _ _ _ _ _ _)
  go_simp
 refine wpQuiet_nil ?_;intro u c;have j:=c.1;clear c p q r s t;go_wp2_with fail;go_ret;exact⟨rfl,j⟩
end Go.Proofs.YtlogblbfbihleaaGreat

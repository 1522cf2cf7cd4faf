/- Lean texts of the claim. -/
import Derived.Test.YtlogblbfbihleaaGreatZr13
import Derived.Sort.Grow
namespace Go.Proofs.YtlogblbfbihleaaGreat
set_option linter.all false
set_option maxRecDepth 100000
set_option maxHeartbeats 0
open Go.RowKit
variable{a:Nat}{b k:World}{e:LP}{f:Int×Int}{g:List LP}{h:Option Addr}{i:List Int}{j:Int}
section
namespace Arn
theorem btw{H k x y:Int} (i:0<H) (c:0<=k) (m:k<=H) (h:H*x=k*y):(0<=y->0<=x/\x<=y)/\(y<=0->y<=x/\x<=0):=by
 have sg:∀a:Int,a<0->H*a<0:=λa j=>Int.mul_neg_of_pos_of_neg i j
 have e:H*(x-y) = -((H-k)*y):=by grind
 have l:H*(y-x)=(H-k)*y:=by grind
 constructor
 .intro b;have d:=Int.mul_nonneg c b;have f:=Int.mul_nonneg (show 0<=H-k by omega) b;exact⟨Int.not_lt.1 λg=>by have:=sg x g;omega,Int.not_lt.1 λg=>by have:=sg (y-x) (by omega);omega⟩
 intro b;have d:=Int.mul_nonneg c (show 0 <= -y by omega);have f:=Int.mul_nonneg (show 0<=H-k by omega) (show 0 <= -y by omega);rw[Int.mul_neg]at d f
 exact⟨Int.not_lt.1 λg=>by have:=sg (x-y) (by omega);omega,Int.not_lt.1 λg=>by
  have:=sg (-x) (by omega);rw[Int.mul_neg]at this;omega⟩
def ht (p:Int×Int):Int:=2*(4194304*p.2+p.1)
theorem rf{b:Int×Int} (a:Du 1048576 f) (c:Du 1048576 b) (h:ht f=ht b):f=b:=by
 unfold Du at a c;unfold ht at h;exact Prod.ext (by omega) (by omega)
theorem Amd{b c:Int×Int} (i:Du 1048576 f) (j:Du 1048576 b) (o:Du 1048576 c) (d:f≠b) (a:crP f b c=0) (h:(ht f<=ht c/\ht c<=ht b)\/(ht b<=ht c/\ht c<=ht f)):onW f b c=true:=by
 refine(Mc i j o).2 ⟨a,?_⟩;have n:ht f≠ht b:=λe=>d (rf i j e)
 have s:(ht b-ht f)*(c.1-f.1)=(ht c-ht f)*(b.1-f.1):=by unfold ht;unfold crP at a;grind
 have t:(ht b-ht f)*(c.2-f.2)=(ht c-ht f)*(b.2-f.2):=by unfold ht;unfold crP at a;grind
 generalize ht f=p at *
 generalize ht b=q at *
 generalize ht c=r at *
 rcases Int.lt_or_gt_of_ne n with g|g
 .have l:=btw (H:=q-p) (k:=r-p) (by omega) (by omega) (by omega) s;have m:=btw (H:=q-p) (k:=r-p) (by omega) (by omega) (by omega) t;omega
 have l:=btw (H:=p-q) (k:=p-r) (x:=c.1-f.1) (y:=b.1-f.1) (by omega) (by omega) (by omega) (by grind);have m:=btw (H:=p-q) (k:=p-r) (x:=c.2-f.2) (y:=b.2-f.2) (by omega) (by omega) (by omega) (by grind);omega
theorem om{b c d:Int×Int} (g:Du 1048576 f) (i:Du 1048576 b) (j:Du 1048576 c) (k:Du 1048576 d) (h:opp (crP f b c) (crP f b d)):I8 f b c d=true:=by
 unfold I8;rw[Jt g i j,Jt g i k];unfold Ey;rcases h with⟨a,e⟩|⟨a,e⟩
 .rw[if_pos a,if_neg (by omega),if_pos (by omega)];rfl
 rw[if_neg (by omega),if_pos (by omega),if_pos e];rfl
theorem Ue{D e f c d:Int} (k:j≠0) (i:0<D) (l:j*e=D*c) (m:j*f=D*d) (h:opp e f):opp c d:=by
 have s:∀a:Int,(a<0->D*a<0)/\(0<a->0<D*a)/\(a=0->D*a=0):=λa=>⟨λh=>Int.mul_neg_of_pos_of_neg i h,λh=>Int.mul_pos i h,λh=>by rw[h,Int.mul_zero]⟩
 have n:=s c;have o:=s d;unfold opp at *
 rcases Int.lt_or_gt_of_ne k with g|g
 .rcases h with⟨a,b⟩|⟨a,b⟩
  .have:=Int.mul_pos_of_neg_of_neg g a;have:=Int.mul_neg_of_neg_of_pos g b;omega
  have:=Int.mul_neg_of_neg_of_pos g a;have:=Int.mul_pos_of_neg_of_neg g b;omega
 rcases h with⟨a,b⟩|⟨a,b⟩
 .have:=Int.mul_neg_of_pos_of_neg g a;have:=Int.mul_pos g b;omega
 have:=Int.mul_pos g a;have:=Int.mul_neg_of_pos_of_neg g b;omega
theorem Am3(r:∀q∈e,Du 1048576 q) (n:3<=e.length) (d:C8 e e.length=true) :
 (∀i j,i<e.length->j<e.length->i≠j->gt e i≠gt e j) /\
 (∀i,i<e.length->onW (gt e i) (gt e ((i+1) % e.length)) (gt e ((i+2) % e.length))=false/\onW (gt e ((i+1) % e.length)) (gt e ((i+2) % e.length)) (gt e i)=false) /\
 (∀i k,i<e.length->k<e.length->i+2<=k->(k+1) % e.length≠i->Hs (gt e i) (gt e ((i+1) % e.length)) (gt e k) (gt e ((k+1) % e.length))=false):=by
 have b:=lq r n;rw[d]at b;unfold bh at b;rw[Ix.iff]at b;refine⟨?_,λi a=>?_,λi k a p s o=>?_⟩
 .unfold C8 at d;rw[Bool.and_eq_true,Ix.iff]at d
  have m:∀i j,i<e.length->j<i->¬gt e i=gt e j:=λi j a l c=>by
   have:=d.1 i a;rw[Bool.not_eq_true']at this;unfold tp at this;rw[Bp.yes l ((Ge _ _).2 c)]at this;cases this
  intro i j a l f c;rcases Nat.lt_or_gt_of_ne f with h|h
  .exact m j i l h c.symm
  exact m i j a h c
 .have:=b i a;unfold Lz at this;simp only[Bool.and_eq_true,Bool.not_eq_true',Bool.or_eq_false_iff]at this;exact⟨this.1.1.2,this.1.2⟩
 have:=b i a;unfold Lz at this;simp only[Bool.and_eq_true]at this;have:=Ix.iff.1 this.2 k p;unfold Pc at this;simp only[Bool.or_eq_true,decide_eq_true_eq,Bool.not_eq_true']at this;rcases this with (g|g)|g
 .omega
 .exact absurd g o
 exact g
theorem den (A:Nat->Int):∀n,(∀k,k<n->A k≠0)->∃D:Int,0<D/\∀k,k<n->A k ∣ D
 | 0,_=>⟨1,by omega,λk h=>by omega⟩
 | n+1,h=>by
   let⟨D,a,b⟩:=den A n λk c=>h k (by omega)
   have d:=h n (by omega);refine⟨D*(A n).natAbs,Int.mul_pos a (by omega),λk c=>?_⟩;by_cases e:k=n
   .rw[e];exact Int.dvd_trans (Int.dvd_natAbs_self) (Int.dvd_mul_left _ _)
   exact Int.dvd_trans (b k (by omega)) (Int.dvd_mul_right _ _)
theorem Aaf{x y:Int} (a : -1048576<=x) (b:x<=1048576) (c : -1048576<=y) (d:y<=1048576) : -1099511627776<=x*y/\x*y<=1099511627776:=by
 have h:=Nat.mul_le_mul (show x.natAbs<=1048576 by omega) (show y.natAbs<=1048576 by omega);rw[<-Int.natAbs_mul]at h;generalize x*y=z at h ⊢;omega
theorem vi {l:LP} (b:∀q∈l,Du 1048576 q) (c:l.length<=45):∀k,k<=l.length->F4 l l.length k=sm (λk=>(gt l k).1*(gt l ((k+1) % l.length)).2-(gt l k).2*(gt l ((k+1) % l.length)).1) k /\ -(k:Int)*2199023255552<=F4 l l.length k/\F4 l l.length k<=(k:Int)*2199023255552
 | 0,_=>by simp[F4,sm]
 | k+1,hk=>by
   let⟨ih,f,g⟩:=vi b c k (by omega);have d:=b _ (fo (l:=l) (i:=k) (by omega));have e:=b _ (fo (l:=l) (i:=(k+1) % l.length) (Nat.mod_lt _ (by omega)));unfold Du at d e;have j:=Aaf (x:=(gt l k).1) (y:=(gt l ((k+1) % l.length)).2) (by omega) (by omega) (by omega) (by omega);have m:=Aaf (x:=(gt l k).2) (y:=(gt l ((k+1) % l.length)).1) (by omega) (by omega) (by omega) (by omega);rw[F4,sm,<-ih];generalize (gt l k).1*(gt l ((k+1) % l.length)).2=u at *
   generalize (gt l k).2*(gt l ((k+1) % l.length)).1=v at *
   generalize F4 l l.length k=a at *
   have h:(k:Int)<=45:=by omega
   rw[show wrap64 u=u by unfold wrap64;omega,show wrap64 v=v by unfold wrap64;omega,show wrap64 (u-v)=u-v by unfold wrap64;omega,show wrap64 (a+(u-v))=a+(u-v) by unfold wrap64;omega];refine⟨by omega,by omega,by omega⟩
end Arn
open Arn in
theorem Ag3(h:Bg e e.length=0):F4 e e.length e.length≠0:=by
 let⟨B,T,F,X⟩:=Je h
 have G:∀q∈e,Du 1048576 q:=λq hq=>by
  obtain⟨i,V,rfl⟩:=rk hq;have:=F i V;unfold Nd at this;unfold Du;omega
 let⟨J,K,y⟩:=Am3 G B X;rw[(vi G (by omega) _ (Nat.le_refl _)).1];let⟨n,L⟩:∃n,n=e.length:=⟨_,rfl⟩
 rw[<-L]at J K y B ⊢;have p:∀i,i % n<n:=λi=>Nat.mod_lt _ (by omega)
 let⟨q,hq⟩:∃q:Nat->Int×Int,q=λk=>gt e (k % n):=⟨_,rfl⟩
 have l:∀k,q k=gt e (k % n):=λk=>by rw[hq]
 have m:∀k,Du 1048576 (q k):=λk=>by rw[l];exact G _ (fo (by rw[<-L];exact p k))
 have v:∀k,q (k % n)=q k:=λk=>by rw[l,l,Nat.mod_mod]
 have O:∀k,q (k % n+1)=q (k+1):=λk=>by rw[l,l,Nat.mod_add_mod]
 have r:∀i j,q i=q j->i % n=j % n:=λi j f=>by
  refine Classical.byContradiction λg=>J _ _ (p i) (p j) g ?_
  rw[<-l,<-l,f]
 have one:∀i,i % n≠(i+1) % n:=λi f=>by
  rw[<-Nat.mod_add_mod]at f;have:=p i;rcases Nat.lt_or_ge (i % n+1) n with g|g
  .rw[Nat.mod_eq_of_lt g]at f;omega
  rw[show i % n+1=n by omega,Nat.mod_self]at f;omega
 have E:∀k,ht (q (k+1))-ht (q k)≠0:=λk f=>one k (r _ _ (rf (m _) (m _) (by omega)))
 let⟨D,hD,U⟩:=den (λk=>ht (q (k+1))-ht (q k)) n λk _=>E k
 have u:∀k,D / (ht (q (k+1))-ht (q k))*(ht (q (k+1))-ht (q k))=D:=λk=>by
  have:=U (k % n) (p k);rw[v,O]at this;exact Int.ediv_mul_cancel this
 let d:Dt:=⟨n,λk=>ht (q k),λk=>D*(q k).1,λk=>((q (k+1)).1-(q k).1)*(D / (ht (q (k+1))-ht (q k)))⟩
 have cr:∀i j,(ht (q (i+1))-ht (q i))*(d.Y i (ht (q j))-D*(q j).1)=D*8388608*crP (q i) (q (i+1)) (q j):=λi j=>by
  have f:=u i
  show (ht (q (i+1))-ht (q i))*(D*(q i).1+((q (i+1)).1-(q i).1)*(D / (ht (q (i+1))-ht (q i)))*(ht (q j)-ht (q i))-D*(q j).1)=_
  generalize D / (ht (q (i+1))-ht (q i))=x at f;unfold ht at *
  unfold crP
  grind
 -- sides that are not neighbours
 have far:∀i j,i % n≠j % n->(i+1) % n≠j % n->(j+1) % n≠i % n->Hs (q i) (q (i+1)) (q j) (q (j+1))=false\/Hs (q j) (q (j+1)) (q i) (q (i+1))=false:=by
  intro i j S A C;have:=p i;have:=p j;rw[<-Nat.mod_add_mod]at A C;rw[l i,l (i+1),l j,l (j+1),<-Nat.mod_add_mod i,<-Nat.mod_add_mod j];rcases Nat.lt_or_gt_of_ne S with g|g
  .left;refine y _ _ (p i) (p j) ?_ C;refine Classical.byContradiction λx=>A ?_
   rw[Nat.mod_eq_of_lt (show i % n+1<n by omega)];omega
  right;refine y _ _ (p j) (p i) ?_ A;refine Classical.byContradiction λx=>C ?_
  rw[Nat.mod_eq_of_lt (show j % n+1<n by omega)];omega
 have P:d.Ok:=by
  refine⟨B,λk=>by show ht (q (k % n))=_;rw[v],λk=>by show D*(q (k % n)).1=_;rw[v],λk=>by show ((q (k % n+1)).1-(q (k % n)).1)*(D / (ht (q (k % n+1))-ht (q (k % n))))=_;rw[v,O],λk=>by show ht _ % 2=0;unfold ht;omega,λi j f=>r _ _ (rf (m _) (m _) f),λk=>?_,λi j a b=>?_,λi j x=>?_⟩
  .show D*(q (k+1)).1=D*(q k).1+((q (k+1)).1-(q k).1)*(D / (ht (q (k+1))-ht (q k)))*(ht (q (k+1))-ht (q k))
   rw[Int.mul_assoc,u];grind
  .have f:=cr i j;rw[show d.Y i (ht (q j))=D*(q j).1 from b,Int.sub_self,Int.mul_zero]at f
   have z:crP (q i) (q (i+1)) (q j)=0:=by
    rcases Int.mul_eq_zero.1 f.symm with g|g
    .omega
    exact g
   have o:=Amd (m i) (m (i+1)) (m j) (λf=>one i (r _ _ f)) z a;refine Classical.byContradiction λc=>?_
   have Q:i % n≠j % n:=λg=>c (.inl g.symm)
   have R:(i+1) % n≠j % n:=λg=>c (.inr g.symm)
   by_cases I:(j+1) % n=i % n
   .have:=(K (j % n) (p j)).2;rw[Nat.mod_add_mod,Nat.mod_add_mod,show j+2=j+1+1 from rfl,<-Nat.mod_add_mod (j+1),I,Nat.mod_add_mod,<-l,<-l,<-l,o]at this;cases this
   rcases far i j Q R I with g|g
   .unfold Hs at g;rw[o]at g;simp at g
   unfold Hs at g;rw[o]at g;simp at g
  obtain⟨Y,Z⟩:=x;have t:0<D*8388608:=by omega
  have s:=Ue (E i) t (cr i j) (cr i (j+1)) Y;have y2:=Ue (E j) t (cr j i) (cr j (i+1)) Z
  have w:q i≠q j/\q (i+1)≠q j/\q (j+1)≠q i:=by
   refine⟨λf=>?_,λf=>?_,λf=>?_⟩
   .rw[<-f]at s;unfold opp crP at s;grind
   .rw[<-f]at s;unfold opp crP at s;grind
   rw[f]at s;unfold opp crP at s;grind
  have M:=om (m i) (m (i+1)) (m j) (m (j+1)) s;have N:=om (m j) (m (j+1)) (m i) (m (i+1)) y2;have H:∀a b,q a≠q b->a % n≠b % n:=λa b h f=>h (by rw[l,l,f])
  rcases far i j (H _ _ w.1) (H _ _ w.2.1) (H _ _ w.2.2) with g|g
  .unfold Hs at g;rw[M,N]at g;simp at g
  unfold Hs at g;rw[M,N]at g;simp at g
 have a:=P.area;intro z;refine a ?_
 have f:sm (λj=>d.z j*d.H (j+1)-d.z (j+1)*d.H j) n=8388608*D*sm (λk=>(gt e k).1*(gt e ((k+1) % n)).2-(gt e k).2*(gt e ((k+1) % n)).1) n:=by
  rw[<-I6];refine Dm λk W=>?_
  show D*(q k).1*ht (q (k+1))-D*(q (k+1)).1*ht (q k)=_
  rw[l k,l (k+1),Nat.mod_eq_of_lt W];unfold ht;grind
 rw[show d.n=n from rfl,f,z,Int.mul_zero]
end
theorem M5(x y:Int) (w:World):Calls Tryz.prog 134 #[x,y] w λe a=>e=.returned (.int .i64 (Ey x y))/\w=a:=by
 go_enter Tryz.func134,Tryz.ntmps134
 go_wp2_with (go_at_call 186;refine(Up _ _).mono ?_;rintro e a ⟨rfl,rfl⟩)
 all_goals go_ret
 all_goals exact⟨Bm (by unfold Ey;(repeat split)<;>omega),rfl⟩
def orI:List Int->Int
 | []=>0
 | x::l=>if x != 0 then x else orI l
theorem Afl{k:Nat} {x:Int} (h:∀j,j<k->i[j]? = some 0) (b:i[k]? = some x) (d:(x != 0)=true):orI i=x:=by
 induction i generalizing k with
 | nil=>simp at b
 | cons a i ih =>
   cases k with
   | zero=>simp at b;subst b;unfold orI;rw[if_pos d]
   | succ k =>
     have c:=h 0 (by omega);simp at c;subst c;rw[show orI (0::i)=orI i from rfl];exact ih (k:=k) (λj e=>by simpa using h (j+1) (by omega)) (by simpa using b)
theorem zz(h:∀j,j<i.length->i[j]? = some 0):orI i=0:=by
 induction i with
 | nil=>rfl
 | cons a i ih =>
   have b:=h 0 (by simp);simp at b;subst b;rw[show orI (0::i)=orI i from rfl];exact ih λj c=>by simpa using h (j+1) (by simp;omega)
theorem Adq(b h n:Nat) (l:List Int) (w:World) (v:l.length=n) (B:n<=1000) (u:∀(k:Nat) (x:Int),l[k]? = some x->Cq w b k x) :
 Calls Tryz.prog 133 #[.slice (some ⟨b,0,none⟩) n h] w λe y=>e=.returned (.int .i64 (orI l))/\w=y:=by
 have s:=Ar v;have f:=Ar u;clear v u;go_in;go_wp2
 go_loop [8] (λi=>∃k:Nat,k<=n/\i=.int .i64 k/\Hid (∀j,j<k->l[j]? = some 0)) λi=>n-(intOf i).toNat
 case atStart=>exact⟨0,Nat.zero_le _,rfl,λj a=>absurd a (by omega)⟩
 obtain⟨k,A,rfl,q⟩:=hrel;by_cases p:k<n
 .obtain⟨x,r⟩:∃x,l[k]? = some x:=⟨_,List.getElem?_eq_getElem (by rw[s.out];exact p)⟩
  have z:=f.out k x r;have t:=Ar r;clear r;by_cases m:(x != 0)=true
  .go_wp2;go_ret;exact⟨Bm (Afl q.out t.out m).symm,rfl⟩
  have o:(x != 0)=false:=by simpa using m
  have d:x=0:=by simpa using o
  have g:=Ar d;clear m d;go_wp2
  go_round
  case rel =>
   refine⟨k+1,by omega,by go_num,λj a=>?_⟩;rcases Nat.lt_or_ge j k with c|c
   .exact q.out j c
   have:j=k:=by omega
   rw[this,t.out,g.out]
  case measure=>simp[intOf];omega
 obtain rfl:n=k:=by omega
 go_wp2;go_ret;exact⟨Bm (zz λj a=>q.out j (by rw[s.out]at a;exact a)).symm,rfl⟩
def H6 (p q:Int×Int):Int:=orI [Ey p.1 q.1,Ey p.2 q.2]
theorem Agz(a b d c:Int):orI [Ey a d,Ey b c]=H6 (a,b) (d,c):=rfl
def GrW (w:World) (b:World):Prop:=∃q a,b=Sort.grow (w.drewN q) a
theorem GrW.refl(w:World):GrW w w:=⟨0,#[],by rw[Sort.grow_empty];rfl⟩
theorem GrW.alloc{w:World} (h:GrW w b) (o:Obj):GrW w (b.alloc o):=by
 obtain⟨q,a,rfl⟩:=h;exact⟨q,a++#[o],by rw[Sort.alloc_eq_grow,Sort.grow_grow]⟩
theorem GrW.drew{w:World} (h:GrW w b):GrW w b.drew:=by
 obtain⟨q,a,rfl⟩:=h;exact⟨q+1,a,rfl⟩
theorem GrW.below{w:World} (h:GrW w b):Be w b:=by
 obtain⟨q,c,rfl⟩:=h;refine⟨rfl,rfl,rfl,by simp[Sort.grow],λk a=>?_⟩
 show (w.heap++c)[k]? = _
 rw[Array.getElem?_append_left a]
theorem or2(b:Nat) (c:TypeId) (x y:Int) (w:World) (h:Bf w b c #[x,y]) :
 Calls Tryz.prog 133 #[.slice (some ⟨b,0,none⟩) 2 2] w λe d=>e=.returned (.int .i64 (orI [x,y]))/\w=d :=
 Adq b 2 2 [x,y] w rfl (by omega) (λk z a=>by
  match k,a with
  | 0,a=>simp at a;subst a;exact h.cell 0
  | 1,a=>simp at a;subst a;exact h.cell 1)
theorem Ck{P:Program}  {Q:Exit->Act->World->Prop} {b:Act} {w:World} {l:List Oper} (n:Nat) (e:P.follows .mixedOrders=true) (d:Region.lexTailB .any l.toArray n=true)
 (h:wpStill P l.toArray w.drew (λc=>wpList P l.toArray Q (l.drop n) c w.drew) (l.take n) b):(Code.region a l.toArray true).wp P Q b w:=wp_region_still_tail n e d h
theorem Gu(x y:Int) (w:World):Calls Tryz.prog 134 #[x,y] w λe c=>e=.returned (.int .i64 (Ey x y))/\c=w :=
 (M5 x y w).mono λ_ _ ⟨a,b⟩=>⟨a,b.symm⟩
theorem Aet {f:Nat} (g:f=231\/f=335\/f=130) (a b d c:Int) (w:World) :
 Calls Tryz.prog f #[.agg #[a,b],.agg #[d,c]] w λe h=>e=.returned (.int .i64 (H6 (a,b) (d,c)))/\GrW w h:=by
 rcases g with rfl|rfl|rfl
 all_goals
  go_in
  go_wp2_with fail;refine Ck 10 (by kernel_rfl) (by kernel_rfl) ?_
  simp only[List.take_succ_cons,List.take_zero,List.drop_succ_cons,List.drop_zero]
  repeat still_step
  still_call (Gu _ _ _)
  repeat still_step
  still_call (Gu _ _ _)
  refine wpStill_nil ?_
  go_wp2_with (go_at_call 133;refine(or2 _ _ _ _ _ (Bf.drew (Bf.new3 _ _ _ _ _))).mono ?_;rintro e i ⟨rfl,rfl⟩)
  go_ret;exact⟨Bm (Agz _ _ _ _),GrW.drew (GrW.alloc (GrW.alloc (GrW.alloc (GrW.refl _) _) _) _)⟩
def Ox:=@Aet 231 (.inl rfl)
def Ab5:=@Aet 335 (.inr (.inl rfl))
def Aa9:=@Aet 130 (.inr (.inr rfl))
def Yw (p q:Int×Int) (b:LP):Nat->Int
 | 0 => -1
 | k+1=>max (Yw p q b k) (Ey (Bs p q (gt b k)) 0)
def Ki (a b:LP) (c d:Nat):Nat->Int
 | 0=>1
 | k+1=>min (Ki a b c d k) (Yw (gt a k) (gt a ((k+1) % c)) b d)
def ma (a b:LP):Int:=Ki a b a.length b.length a.length
def Nv (a b:LP):Int:=min (ma a b) (ma b a)
theorem T5(A B:Option Addr) (G H c d:Nat) (a b:LP) (w:World) (L:c<=1000000) (M:d<=1000000) (u:SpS w A c a) (v:SpS w B d b) :
 Calls Tryz.prog 306 #[.slice A c G,.slice B d H] w (Bz w (Ki a b c d c)):=by
 go_in;go_wp2;go_loopw [5,15] (fun r i wr=>∃k:Nat,k<=c/\i=.int .i64 k/\r=.int .i64 (Ki a b c d k)/\Be w wr) (fun _ i _=>c-(intOf i).toNat)
 case atStart=>exact⟨0,Nat.zero_le _,rfl,rfl,bl0⟩
 obtain⟨k,S,rfl,rfl,q⟩:=hrel;by_cases p:k<c
 ·obtain⟨P,T,rfl,s,h⟩:=(u.keep q).at_ p;have t:(k+1) % c<c:=Nat.mod_lt _ (by omega);obtain⟨C,D⟩:=h k p;obtain⟨I,J⟩:=h _ t;clear h;have N:=(Q6 ((k:Int)+1) (k+1) c rfl (by omega)).2;go_wp2;clear C D I J N;have g:Cls w [(⟨wr.heap.size,0,none⟩,.int .i64 (gt a k).1),(⟨wr.heap.size,1,none⟩,.int .i64 (gt a k).2),(⟨wr.heap.size+1,0,none⟩,.int .i64 (gt a ((k+1) % c)).1),(⟨wr.heap.size+1,1,none⟩,.int .i64 (gt a ((k+1) % c)).2)] ((wr.alloc (.cells #[(gt a k).1,(gt a k).2] 60)).alloc (.cells #[(gt a ((k+1) % c)).1,(gt a ((k+1) % c)).2] 60)):=⟨Ao (Ao q _) _,by simp only[List.mem_cons,List.not_mem_nil,forall_eq_or_imp,or_false,forall_eq];go_simp⟩;obtain⟨f,m⟩:∃f,f=wr.heap.size:=⟨_,rfl⟩
  rw[<-m]at g ⊢;have l:=Ar g;clear g;go_loopw [9,30] (fun r i O=>∃j:Nat,j<=d/\i=.int .i64 j/\r=.int .i64 (Yw (gt a k) (gt a ((k+1) % c)) b j)/\Cls w [(⟨f,0,none⟩,.int .i64 (gt a k).1),(⟨f,1,none⟩,.int .i64 (gt a k).2),(⟨f+1,0,none⟩,.int .i64 (gt a ((k+1) % c)).1),(⟨f+1,1,none⟩,.int .i64 (gt a ((k+1) % c)).2)] O) (fun _ i _=>d-(intOf i).toNat)
  case atStart=>exact⟨0,Nat.zero_le _,rfl,rfl,l.out⟩
  clear l m q s;obtain⟨j,R,rfl,rfl,n⟩:=hrel;have y:=n.2;simp only[List.mem_cons,List.not_mem_nil,forall_eq_or_imp,or_false,forall_eq]at y;have E:f<wr.heap.size:=Bi y.1;have F:f+1<wr.heap.size:=Bi y.2.2.1;by_cases o:j<d
  ·obtain⟨Q,U,rfl,K,h⟩:=(v.keep n.1).at_ o;obtain⟨C,D⟩:=h j o;clear h
   go_wp2_with (go_at_call 134;refine(M5 _ _ _).mono ?_;rintro e V ⟨rfl,rfl⟩)
   exact⟨⟨j+1,by omega,by go_num,by simp only[Yw,Bs]<;>congr 1<;>omega,Ao n.1 _,fun x z=>(n.call blA).2 x z⟩,by simp[intOf]<;>omega⟩
  obtain rfl:d=j:=by omega
  go_wp2;exact⟨⟨k+1,by omega,by go_num,by simp only[Ki]<;>congr 1<;>omega,n.1⟩,by simp[intOf]<;>omega⟩
 obtain rfl:c=k:=by omega
 go_wp2;go_ret;exact⟨rfl,q⟩
theorem Wz(A B:Option Addr) (l m g h:Nat) (a b:LP) (w:World) (i:g<=1000000) (j:h<=1000000) (d:SpS w A g a) (f:SpS w B h b) :
 Calls Tryz.prog 247 #[.slice A g l,.slice B h m] w (Bz w (Nv a b)):=by
 have n:=Ar (show Nv a b=min (Ki a b g h g) (Ki b a h g h) by unfold Nv ma;rw[d.1,f.1]);go_enter Tryz.func247,Tryz.ntmps247
 go_wp2_with (go_at_call 306;first|(refine rR (T5 _ _ _ _ _ _ b a _ j i (f.keep c) (d.keep c)) λp k=>?_)|(refine rR (T5 _ _ _ _ _ _ a b _ i j d f) λo c=>?_))
 all_goals go_ret
 all_goals exact⟨Bm (by rw[n.out]<;>omega),An c k⟩
def lt_ (a:List LP) (k:Nat):LP:=a.getD k []
theorem O7(h:a<g.length):g[a]? = some (lt_ g a):=by
 unfold lt_;rw[List.getD,List.getElem?_eq_getElem h];rfl
def Aeg (w:World) (A:Option Addr) (n:Nat) (a:List LP):Prop :=
 a.length=n/\(n=0\/∃b c,A=some ⟨b,c,none⟩/\∀k,k<n->∃d e,Cq w b (c+k) (.slice d (lt_ a k).length e)/\(lt_ a k).length<=e/\SpS w d (lt_ a k).length (lt_ a k)/\(d=none->e=0))
theorem Aeg.at_{w:World}    (f:Aeg w h a g) {k:Nat} (n:k<a):∃b c d e,h=some ⟨b,c,none⟩/\b<w.heap.size/\Cq w b (c+k) (.slice d (lt_ g k).length e)/\(lt_ g k).length<=e/\SpS w d (lt_ g k).length (lt_ g k)/\(d=none->e=0):=by
 obtain⟨o,f⟩:=f;rcases f with rfl|⟨b,c,rfl,f⟩
 .omega
 let⟨d,e,i,j,l,m⟩:=f k n;exact⟨b,c,d,e,rfl,Bi i,i,j,l,m⟩
theorem Aeg.keep{w:World}    (c:Aeg w h a g) (e:Be w b):Aeg b h a g:=by
 refine⟨c.1,?_⟩;obtain⟨q,c⟩:=c;rcases c with rfl|⟨i,d,rfl,c⟩
 .exact .inl rfl
 refine .inr ⟨i,d,rfl,λk p=>?_⟩;let⟨f,j,l,m,n,o⟩:=c k p;exact⟨f,j,Aq e l,m,n.keep e,o⟩
theorem Iw.spss{w:World}  {v:Value}  (h:Iw w a v g):∃A c,v=.slice A g.length c/\g.length<=c/\Aeg w A g.length g/\(A=none->c=0):=by
 obtain⟨f,j,b,C,x⟩:=h;rcases OwG.form j with⟨rfl,rfl⟩|⟨s,d,rfl,y,z,t,B⟩
 .have:g=[]:=List.eq_nil_of_length_eq_zero (by rw[<-b];rfl);subst this;exact⟨none,0,rfl,Nat.le_refl _,⟨rfl,.inl rfl⟩,λ_=>rfl⟩
 refine⟨_,d,by rw[<-b],by rw[<-b];exact t,⟨rfl,.inr ⟨s,0,rfl,λk l=>?_⟩⟩,λh=>by cases h⟩;have e:k<f.length:=by rw[b];exact l
 let⟨u,m⟩:∃u,f[k]? = some u:=⟨_,List.getElem?_eq_getElem e⟩
 have c0:=OwG.cells j k (by omega);have i:=Bu Ss f k 0 u m (by omega);rw[Nat.mul_one,Nat.add_zero]at i;rw[i]at c0;obtain⟨n,o,rfl,p,q,r,_⟩:=x k u (lt_ g k) m (O7 l);exact⟨n,o,by rw[Nat.zero_add];exact c0,p,q,r⟩
def U7 (s:LP) (a:List LP) (c0:Int):Nat->Int
 | 0=>c0
 | k+1=>max (U7 s a c0 k) (Nv s (lt_ a k))
def M6 (b a:List LP):Nat->Int
 | 0 => -1
 | k+1=>U7 (lt_ b k) a (M6 b a k) a.length
def Bb (l:LP):Int×List LP :=
 if Bg l l.length=0 then (match De (Ct l l.length).length (Ct l l.length) [] with|none=>(11,[])|some ts=>(0,ts)) else (Bg l l.length,[])
def wg (w:World) (r:Int×List LP) (e:Ending) (a:World):Prop :=
 ∃v,e=.returned (.tuple #[v,r.1])/\Iw a w.heap.size v r.2/\Be w a
theorem Ei(A:Option Addr) (b n:Nat) (l:LP) (w:World) (i:n<=9223372036854775807) (f:n<=b) (c:SpS w A n l) :
 Calls Tryz.prog 246 #[.slice A n b] w (wg w (Bb l)):=by
 refine(ka A b n l w i f c).mono ?_;rintro e k ⟨g,⟨a,rfl⟩|⟨a,d,rfl⟩|⟨a,j,v,d,rfl,h⟩⟩
 .refine⟨.slice none 0 0,?_,?_,g⟩
  .unfold Bb;rw[c.1,if_neg a]
  unfold Bb;rw[c.1,if_neg a];exact Iw.nil
 .refine⟨.slice none 0 0,?_,?_,g⟩
  .unfold Bb;rw[c.1,if_pos a,d]
  unfold Bb;rw[c.1,if_pos a,d];exact Iw.nil
 refine⟨v,?_,?_,g⟩
 .unfold Bb;rw[c.1,if_pos a,d]
 unfold Bb;rw[c.1,if_pos a,d];exact h
theorem Tp:∀(f:Nat) (a:LP) (b r:List LP),a.length<=f+3->(∀t∈b,t.length<=3)->De f a b=some r->r.length<=b.length+f+1/\∀t∈r,t.length<=3:=by
 intro f;induction f with
 | zero =>
   intro a b r l ht h;rw[show De 0 a b=some (b++[a]) from rfl] at h;injection h with h;subst h
   refine⟨by simp,λt h=>?_⟩;rcases List.mem_append.1 h with h|h
   .exact ht t h
   simp at h;subst h;omega
 | succ f ih =>
   intro a b r l ht h;by_cases d:a.length<=3
   .rw[Qq d]at h;injection h with h;subst h
    refine⟨by simp,λt h=>?_⟩;rcases List.mem_append.1 h with h|h
    .exact ht t h
    simp at h;subst h;omega
   rcases Ik (Tl a a.length) a.length with c|⟨i,k,c⟩
   .rcases Ik (Gp a a.length) a.length with j|⟨i,k,j⟩
    .rw[Ob rfl d (by rw[c];omega) (by rw[j];omega)] at h;cases h
    rw[Qr rfl d (by rw[c];omega) j] at h
    let⟨e,g⟩:=ih _ _ _ (by rw[List.length_eraseIdx_of_lt k];omega) (λt h=>by
     rcases List.mem_append.1 h with h|h
     .exact ht t h
     simp at h;subst h;simp[Ac6]) h
    refine⟨by rw[List.length_append]at e;simp at e;omega,g⟩
   rw[Qp rfl d c]at h;let⟨e,g⟩:=ih _ _ _ (by rw[List.length_eraseIdx_of_lt k];omega) ht h;exact⟨by omega,g⟩
theorem Dg(l:LP):(Bb l).2.length<=41/\∀t∈(Bb l).2,t.length<=3:=by
 unfold Bb;by_cases a:Bg l l.length=0
 .rw[if_pos a];cases h:De (Ct l l.length).length (Ct l l.length) [] with
  | none=>simp
  | some ts =>
    have b:=Tp _ _ _ _ (by omega) (by simp) h;have c:=qh l l.length;have d:=El a;refine⟨?_,b.2⟩;have:=b.1;simp at this
    show ts.length<=41
    omega
 rw[if_neg a];simp
theorem I9{ls:List LP} {k:Nat} (h:k<ls.length):lt_ ls k∈ls:=List.mem_of_getElem? (O7 h)
def Ty (a b:LP):Int×Int :=
 if (Bb a).1≠0 then (0,(Bb a).1) else if (Bb b).1≠0 then (0,(Bb b).1) else (M6 (Bb a).2 (Bb b).2 (Bb a).2.length,0)
def Gm (a b:LP):Bool×Int:=((Ty a b).2 == 0&&(Ty a b).1 == 1,(Ty a b).2)
theorem Ai6{b:LP} (h:¬(Bb e).1=0):Ty e b=(0,(Bb e).1):=by unfold Ty;rw[if_pos h]
theorem Ai5{b:LP} (h:(Bb e).1=0) (a:¬(Bb b).1=0):Ty e b=(0,(Bb b).1):=by unfold Ty;rw[if_neg (by simpa using h),if_pos a]
theorem Ai4{b:LP} (h:(Bb e).1=0) (a:(Bb b).1=0):Ty e b=(M6 (Bb e).2 (Bb b).2 (Bb e).2.length,0):=by unfold Ty;rw[if_neg (by simpa using h),if_neg (by simpa using a)]
theorem Mt(A B:Option Addr) (ca cb N O:Nat) (a b:LP) (w:World) (q:N<=9223372036854775807) (J:O<=9223372036854775807) (p:N<=ca) (G:O<=cb) (u:SpS w A N a) (K:SpS w B O b) :
 Calls Tryz.prog 185 #[.slice A N ca,.slice B O cb] w (Bz w (.tuple #[(Ty a b).1,(Ty a b).2])):=by
 by_cases M:(Bb a).1=0
 ·by_cases R:(Bb b).1=0
  ·have d:=Ar (Ai4 M R);have L:=Dg a;have sB:=Dg b;have Z:=Ar L.2;have HB:=Ar sB.2;replace L:=L.1;replace sB:=sB.1;obtain⟨f,v⟩:∃f,(Bb a).2=f:=⟨_,rfl⟩
   obtain⟨g,x⟩:∃g,(Bb b).2=g:=⟨_,rfl⟩
   rw[v]at d Z L;rw[x]at d HB sB;have P:=Ar v;have Q:=Ar x;clear v x;go_in
   go_upto_region 8 with (go_at_call 246;first|(refine(Ei _ _ _ b _ J G (K.keep c)).mono ?_;rintro e w2 ⟨v2,rfl,o,h⟩;rw[Q.out]at o)|(refine(Ei _ _ _ a _ q p u).mono ?_;rintro e w1 ⟨v1,rfl,l,c⟩;rw[P.out]at l))
   obtain⟨A1,c1,rfl,T,E,-⟩:=(l.keep h).spss;obtain⟨A2,c2,rfl,U,F,-⟩:=o.spss;have hb:=An c h;clear l o c h;obtain⟨z,s⟩:∃z,f.length=z:=⟨_,rfl⟩
   obtain⟨y,t⟩:∃y,g.length=y:=⟨_,rfl⟩
   rw[s]at E T L ⊢;rw[t]at F U sB ⊢;have C:=Ar s;have D:=Ar t;clear s t;go_wp2;go_loopw [9,32] (fun r i wr=>∃k:Nat,k<=z/\i=.int .i64 k/\r=.int .i64 (M6 f g k)/\Be w2 wr) (fun _ i _=>z-(intOf i).toNat)
   case atStart=>exact⟨0,Nat.zero_le _,rfl,rfl,bl0⟩
   obtain⟨k,hk,rfl,rfl,m⟩:=hrel;by_cases I:k<z
   ·obtain⟨b1,o1,Ak,ck,rfl,b7,e1,e2,e3,e4⟩:=(E.keep m).at_ I;have l1:(lt_ f k).length<=3:=Z.out _ (I9 (by rw[C.out];exact I));generalize W:(lt_ f k).length=nk at e1 e2 e3 l1;clear W;go_wp2;clear e1;obtain⟨Y,rfl⟩:∃Y:World,Y=wr:=⟨_,rfl⟩
    go_loopw [9,38] (fun r i wx=>∃j:Nat,j<=y/\i=.int .i64 j/\r=.int .i64 (U7 (lt_ f k) g (M6 f g k) j)/\Be Y wx) (fun _ i _=>y-(intOf i).toNat)
    case atStart=>exact⟨0,Nat.zero_le _,rfl,rfl,bl0⟩
    obtain⟨j,hj,rfl,rfl,n⟩:=hrel;by_cases H:j<y
    ·obtain⟨b2,o2,Aj,cj,rfl,ak,g1,g2,g3,g4⟩:=(F.keep (An m n)).at_ H;have l2:(lt_ g j).length<=3:=HB.out _ (I9 (by rw[D.out];exact H));generalize V:(lt_ g j).length=nj at g1 g2 g3 l2;clear V
     go_wp2_with (go_at_call 247;refine(Wz _ _ _ _ _ _ (lt_ f k) (lt_ g j) _ (by omega) (by omega) (e3.keep n) g3).mono ?_;rintro e w5 ⟨rfl,S⟩)
     exact⟨⟨j+1,by omega,by go_num,by simp only[U7]<;>congr 1<;>omega,An n S⟩,by simp[intOf]<;>omega⟩
    obtain rfl:y=j:=by omega
    have e9:=Ar (show M6 f g (k+1)=U7 (lt_ f k) g (M6 f g k) y by simp only[M6];rw[D.out]);go_wp2;exact⟨⟨k+1,by omega,by go_num,by rw[e9.out],An m n⟩,by simp[intOf]<;>omega⟩
   obtain rfl:z=k:=by omega
   go_wp2
   go_ret2
   exact⟨by rw[d.out,C.out];rfl,An hb m⟩
  have X:=Ar (Ai5 M R);have q2:((Bb b).1 != 0)=true:=by simpa using R
  go_in
  go_wp2_with (go_at_call 246;first|(refine(Ei _ _ _ b _ J G (K.keep c)).mono ?_;rintro e w2 ⟨v2,rfl,o,h⟩)|(refine(Ei _ _ _ a _ q p u).mono ?_;rintro e w1 ⟨v1,rfl,l,c⟩))
  go_ret2
  exact⟨by rw[X.out];rfl,An c h⟩
 have X:=Ar (Ai6 (b:=b) M);have q2:((Bb a).1 != 0)=true:=by simpa using M
 go_in
 go_wp2_with (go_at_call 246;refine(Ei _ _ _ a _ q p u).mono ?_;rintro e w1 ⟨v1,rfl,l,c⟩)
 go_ret2
 exact⟨by rw[X.out];rfl,c⟩
theorem Fu(A B:Option Addr) (o p l m:Nat) (a b:LP) (w:World) (g:l<=9223372036854775807) (i:m<=9223372036854775807) (d:l<=o) (f:m<=p) (j:SpS w A l a) (k:SpS w B m b) :
 Calls Tryz.prog 132 #[.slice A l o,.slice B m p] w (Bz w (.tuple #[.bool (Gm a b).1,(Gm a b).2])):=by
 by_cases h:(Ty a b).2=0
 .have q:((Ty a b).2 == 0)=true:=by simpa using h
  have n:=Ar (show Gm a b=((Ty a b).1 == 1,(Ty a b).2) by unfold Gm;rw[q,Bool.true_and]);clear h;go_in
  go_wp2_with (go_at_call 185;refine rR (Mt _ _ _ _ _ _ a b _ g i d f j k) λr c=>?_)
  go_ret2
  exact⟨by rw[n.out];rfl,c⟩
 have q:((Ty a b).2 == 0)=false:=by simpa using h
 have n:=Ar (show Gm a b=(false,(Ty a b).2) by unfold Gm;rw[q,Bool.false_and]);clear h;go_in
 go_wp2_with (go_at_call 185;refine rR (Mt _ _ _ _ _ _ a b _ g i d f j k) λr c=>?_)
 go_ret2
 exact⟨by rw[n.out];rfl,c⟩
def Af7 (r:LP) (n:Nat) (d:Int×Int) (i:Nat):Bool:=decide (0<Bs (gt r i) (gt r ((i+1) % n)) d)
def Hw (r:LP) (d:Int×Int):Bool:=Ix (Af7 r r.length d) r.length&&decide (0<r.length)
theorem Uq(A:Option Addr) (f n:Nat) (l:LP) (x y:Int) (w:World) (C:n<=1000000) (o:SpS w A n l) :
 Calls Tryz.prog 291 #[.slice A n f,.agg #[x,y]] w (Bz w (.bool (Hw l (x,y)))):=by
 have j:=Ar (show Hw l (x,y)=(Ix (Af7 l n (x,y)) n&&decide (0<n)) by unfold Hw;rw[o.1]);go_enter Tryz.func291,Tryz.ntmps291;go_wp2_with fail;go_loopw [10] (λi wr=>∃k:Nat,k<=n/\i=.int .i64 k/\Hid (Ix (Af7 l n (x,y)) k=true)/\Cls w [(⟨w.heap.size,0,none⟩,.int .i64 x),(⟨w.heap.size,1,none⟩,.int .i64 y)] wr) λi _=>n-(intOf i).toNat
 case atStart=>exact⟨0,Nat.zero_le _,rfl,Ix.zero _,(Ao (Below.refl _ _) _),by simp only[List.mem_cons,List.not_mem_nil,forall_eq_or_imp,or_false,forall_eq];go_simp⟩
 obtain⟨k,B,rfl,m,d⟩:=hrel;by_cases b:k<n
 .obtain⟨s,E,rfl,q,g⟩:=(o.keep d.1).at_ b;have h:(k+1) % n<n:=Nat.mod_lt _ (by omega);let⟨t,u⟩:=g k b;let⟨v,z⟩:=g _ h;clear g;have p:=d.2;simp only[List.mem_cons,List.not_mem_nil,forall_eq_or_imp,or_false,forall_eq]at p;have r:w.heap.size<wr.heap.size:=Bi p.1;have D:=(Q6 ((k:Int)+1) (k+1) n rfl (by omega)).2;by_cases a:Bs ((gt l k).1,(gt l k).2) ((gt l ((k+1) % n)).1,(gt l ((k+1) % n)).2) (x,y)<=0
  .have c:=Ar a;clear a;have hq:=c.out;unfold Bs at hq;go_wp2_with fail;go_ret;have e:Af7 l n (x,y) k=false:=by unfold Af7;have:=c.out;simp at this ⊢;omega
   exact⟨Bn (by rw[j.out,Ix.no b e];rfl),Ao (Ao d.1 _) _⟩
  have c:=Ar a;clear a;have hq:=c.out;unfold Bs at hq;go_wp2_with fail;have e:Af7 l n (x,y) k=true:=by unfold Af7;have:=c.out;simp at this ⊢;omega
  exact⟨⟨k+1,by omega,by go_num,Ix.succ m.out e,d.call (Ao blA _)⟩,by simp[intOf];omega⟩
 obtain rfl:n=k:=by omega
 go_wp2_with fail;go_ret;exact⟨Bn (by rw[j.out,m.out];simp),d.1⟩
def Cs (a:List LP) (d:Int×Int):Bool:=!Cc 2097152 d&&Bp (λi=>Hw (lt_ a i) d) a.length
theorem Pw(A:Option Addr) (j n:Nat) (a:List LP) (x y:Int) (w:World) (J:n<=1000000) (p:∀t∈a,t.length<=1000000) (m:Aeg w A n a) :
 Calls Tryz.prog 230 #[.slice A n j,.agg #[x,y]] w (Bz w (.bool (Cs a (x,y)))):=by
 have l:=Ar (show Cs a (x,y)=(!Cc 2097152 (x,y)&&Bp (λi=>Hw (lt_ a i) (x,y)) n) by unfold Cs;rw[m.1]);have s:=Ar p;have u:=Ar m.1;clear p;by_cases c:Cc 2097152 (x,y)=true
 .have hq:=c;unfold Cc at hq;simp only[Bool.or_eq_true,decide_eq_true_eq]at hq;have h:=Ar c;clear c;go_enter Tryz.func230,Tryz.ntmps230;go_upto_region 3 with fail
  all_goals first
   | (go_ret;exact⟨Bn (by rw[l.out,h.out];rfl),blA⟩)
   | (exfalso;omega)
 have hq:=c;unfold Cc at hq;simp only[Bool.or_eq_true,decide_eq_true_eq,not_or]at hq;have h:=Ar (show Cc 2097152 (x,y)=false by simpa using c);clear c;go_enter Tryz.func230,Tryz.ntmps230;go_wp2_with fail;go_loopw [27] (λi wr=>∃k:Nat,k<=n/\i=.int .i64 k/\Hid (Bp (λi=>Hw (lt_ a i) (x,y)) k=false)/\Cls w [(⟨w.heap.size,0,none⟩,.int .i64 x),(⟨w.heap.size,1,none⟩,.int .i64 y)] wr) λi _=>n-(intOf i).toNat
 case atStart=>exact⟨0,Nat.zero_le _,rfl,Bp.zero _,(Ao (Below.refl _ _) _),by simp only[List.mem_cons,List.not_mem_nil,forall_eq_or_imp,or_false,forall_eq];go_simp⟩
 obtain⟨k,I,rfl,q,d⟩:=hrel;by_cases b:k<n
 .obtain⟨F,K,E,G,rfl,B,v,z,o,H⟩:=(m.keep d.1).at_ b;have D:(lt_ a k).length<=1000000:=s.out _ (I9 (by rw[u.out];exact b));let⟨r,g⟩:=gN ((lt_ a k).length)
  rw[g]at v z o D;clear g;have C:=d.2;simp only[List.mem_cons,List.not_mem_nil,forall_eq_or_imp,or_false,forall_eq]at C
  go_wp2_with (go_at_call 291;refine rR (Uq _ _ _ (lt_ a k) _ _ _ (by omega) o) λL f=>?_)
  .go_ret;exact⟨Bn (by rw[l.out,h.out,Bp.yes b (by assumption)];rfl),An d.1 f⟩
  exact⟨⟨k+1,by omega,by go_num,Bp.succ q.out (by simpa using ‹_›),d.call f⟩,by simp[intOf];omega⟩
 obtain rfl:n=k:=by omega
 go_wp2_with fail;go_ret;exact⟨Bn (by rw[l.out,q.out];simp),d.1⟩
theorem gn(b:Addr) (a n:Nat) (l:LP) (w:World) (k:n<=1000000) (i:SpS w (some b) n l) :
 Calls Tryz.prog 334 #[.slice (some b) n a] w (Vi w l):=by
 have g:=λ(w:World)=>Lib.run_eql_slice_nil (P:=Tryz.prog) w 46 60 (some b) n a 0 0 Tryz.underlying46
 have e:OwS (w.alloc (.cells #[] 60)) w.heap.size (.slice (some ⟨w.heap.size,0,none⟩) 0 0) []:=World.ownsRow_lit w #[] 0 (Nat.le_refl _) (Nat.zero_le _) rfl;go_in
 go_wp2_with (at_builtin;refine Et rfl _ _ rfl w.heap.size _ [] rfl e (some b) n a l rfl (i.keep blA) (λh=>by cases h) (by simp;omega) blA.size ?_;intro j m d c f)
 go_ret;exact⟨j,rfl,by simpa using d,Bk blA e c⟩
def Qf (l:LP):LP:=l.map λp=>(wrap64 (-p.1),wrap64 (-p.2))
theorem R6(l:LP):(Qf l).length=l.length:=by simp[Qf]
theorem eu(n:Nat):(madeCells (Value.agg #[Value.int IntKind.i64 0,Value.int IntKind.i64 0]).cells (n*2)).toList=(List.replicate n ((0:Int),(0:Int))).flatMap enS:=by
 apply List.ext_getElem?;intro j;rcases Nat.lt_or_ge j (n*2) with a|a
 .have h:=Bu Cm (List.replicate n ((0:Int),(0:Int))) (j / 2) (j % 2) (0,0) (by rw[List.getElem?_replicate,if_pos (by omega)]) (by omega);rw[show j / 2*2+j % 2=j by omega]at h;rw[h];have e:(Value.agg #[Value.int IntKind.i64 0,Value.int IntKind.i64 0]).cells=#[.int .i64 0,.int .i64 0]:=by kernel_rfl
  rw[e];unfold madeCells;rw[Array.getElem?_toList,Array.getElem?_map,Array.getElem?_range,if_pos a];rcases Nat.mod_two_eq_zero_or_one j with b|b<;>simp[b,enS]
 rw[List.getElem?_eq_none (by rw[Array.length_toList,size_madeCells];exact a),List.getElem?_eq_none (by rw[Cz Cm];simpa using a)]
theorem Ht(n:Nat) (f:n<=1000000):∃Z:Array Value,(∀w,(Instr.makeSlice 46 (.int .i64 (n:Int)) (.int .i64 (n:Int))).run Tryz.prog w=.ok (.slice (some ⟨w.heap.size,0,none⟩) n n) (w.alloc (.cells Z 60)))/\∀w:World,OwS (w.alloc (.cells Z 60)) w.heap.size (.slice (some ⟨w.heap.size,0,none⟩) n n) (List.replicate n (0,0)):=by
 let⟨i,e,a,b,c⟩:=info_parts Si;refine⟨madeCells (Value.agg #[Value.int IntKind.i64 0,Value.int IntKind.i64 0]).cells (n*2),λw=>?_,λw=>?_⟩
 .have d:=run_make (P:=Tryz.prog) w 46 60 i (.agg #[.int .i64 0,.int .i64 0]) Tryz.underlying46 e a .i64 .i64 n n (by omega) (by omega) (by rw[c];omega) (by omega);rw[b]at d;simpa using d
 unfold OwS OwG;rw[List.length_replicate,<-eu];exact World.ownsRow_lit w _ n (Nat.le_refl _) (by unfold maxLen;omega) (size_madeCells _ _)
theorem Aft(b:a<e.length):gt (Qf e) a=(wrap64 (-(gt e a).1),wrap64 (-(gt e a).2)):=by
 unfold gt Qf;rw[List.getD,List.getElem?_map,List.getD,List.getElem?_eq_getElem b];rfl
theorem Q5(A:Option Addr) (f n:Nat) (l:LP) (w:World) (v:n<=1000000) (o:SpS w A n l) :
 Calls Tryz.prog 284 #[.slice A n f] w (Vi w (Qf l)):=by
 let⟨Z,j,q⟩:=Ht n v;go_in;go_wp2;go_loopw [11] (λi wr=>∃(k:Nat) (z:LP),k<=n/\i=.int .i64 k/\z.length=n/\(∀p,p<k->gt z p=(wrap64 (-(gt l p).1),wrap64 (-(gt l p).2)))/\OwS wr w.heap.size (.slice (some ⟨w.heap.size,0,none⟩) n n) z/\Be w wr) λi _=>n-(intOf i).toNat
 case atStart=>exact⟨0,_,Nat.zero_le _,rfl,List.length_replicate,λp e=>absurd e (Nat.not_lt_zero _),q w,blA⟩
 clear j q;obtain⟨k,z,E,rfl,c,e,m,g⟩:=hrel;by_cases a:k<n
 .obtain⟨b,x,rfl,t,r⟩:=(o.keep g).at_ a;let⟨D,d⟩:=r k a;clear r;let⟨s,y,B,C⟩:=m.cells c a;have u:w.heap.size<wr.heap.size:=Bi s;go_wp2;refine⟨⟨k+1,z.set k (wrap64 (-(gt l k).1),wrap64 (-(gt l k).2)),by omega,by go_num,by rw[List.length_set];exact c,λp h=>?_,(m.store c a _ _).alloc _,Ao (Ba (Ba g (p:=⟨w.heap.size,k*2,none⟩) (Nat.le_refl _) _) (p:=⟨w.heap.size,k*2+1,none⟩) (Nat.le_refl _) _) _⟩,by simp[intOf];omega⟩;rw[Lg (by rw[c];exact a)];by_cases d:k=p
  .rw[if_pos d,d]
  rw[if_neg d];exact e p (by omega)
 obtain rfl:n=k:=by omega
 go_wp2;go_ret;refine⟨_,rfl,?_,g⟩;rw[show Qf l=z from Gn (by rw[R6,o.1,c]) λp h=>by rw[R6]at h;rw[Aft h,e p (by rw[<-o.1];exact h)]];exact m
def Yv (l:LP) (d:Int×Int):LP:=l.map λp=>(wrap64 (p.1+d.1),wrap64 (p.2+d.2))
theorem Ld(l:LP) (d:Int×Int):(Yv l d).length=l.length:=by simp[Yv]
theorem Afw{d:Int×Int}  (b:a<e.length):gt (Yv e d) a=(wrap64 ((gt e a).1+d.1),wrap64 ((gt e a).2+d.2)):=by
 unfold gt Yv;rw[List.getD,List.getElem?_map,List.getD,List.getElem?_eq_getElem b];rfl
theorem mi(A:Option Addr) (f n:Nat) (l:LP) (x y:Int) (w:World) (E:n<=1000000) (q:SpS w A n l) :
 Calls Tryz.prog 94 #[.slice A n f,.agg #[x,y]] w (Vi w (Yv l (x,y))):=by
 let⟨Z,m,r⟩:=Ht n E;go_in;go_wp2;go_loopw [13] (λi wr=>∃(k:Nat) (z:LP),k<=n/\i=.int .i64 k/\z.length=n/\(∀p,p<k->gt z p=(wrap64 ((gt l p).1+x),wrap64 ((gt l p).2+y)))/\Bf wr w.heap.size 60 #[x,y]/\OwS wr (w.heap.size+1) (.slice (some ⟨w.heap.size+1,0,none⟩) n n) z/\Be w wr) λi _=>n-(intOf i).toNat
 case atStart=>exact⟨0,_,Nat.zero_le _,rfl,List.length_replicate,λp e=>absurd e (Nat.not_lt_zero _),(Bf.new _ _ _).alloc _,by have:=r (w.alloc (.cells #[x,y] 60));simpa using this,Ao blA _⟩
 clear m r;obtain⟨k,z,K,rfl,c,e,g,o,j⟩:=hrel;by_cases a:k<n
 .obtain⟨b,F,rfl,C,s⟩:=(q.keep j).at_ a;let⟨J,d⟩:=s k a;clear s;let⟨u,G,H,I⟩:=o.cells c a;have D:w.heap.size+1<wr.heap.size:=Bi u;have t:w.heap.size<wr.heap.size:=by omega
  have v:=g.cell 0;have B:=g.cell 1;simp only[List.getElem?_toArray,List.getElem?_cons_zero,List.getElem?_cons_succ]at v B;go_wp2;refine⟨⟨k+1,z.set k (wrap64 ((gt l k).1+x),wrap64 ((gt l k).2+y)),by omega,by go_num,by rw[List.length_set];exact c,λp h=>?_,((g.far (p:=⟨w.heap.size+1,k*2,none⟩) (Nat.ne_of_lt (Nat.lt_succ_self _)) _).far (p:=⟨w.heap.size+1,k*2+1,none⟩) (Nat.ne_of_lt (Nat.lt_succ_self _)) _).alloc _,(o.store c a _ _).alloc _,Ao (Ba (Ba j (p:=⟨w.heap.size+1,k*2,none⟩) (Nat.le_succ _) _) (p:=⟨w.heap.size+1,k*2+1,none⟩) (Nat.le_succ _) _) _⟩,by simp[intOf];omega⟩;rw[Lg (by rw[c];exact a)];by_cases d:k=p
  .rw[if_pos d,d]
  rw[if_neg d];exact e p (by omega)
 obtain rfl:n=k:=by omega
 go_wp2;go_ret;refine⟨_,rfl,?_,j⟩;rw[show Yv l (x,y)=z from Gn (by rw[Ld,q.1,c]) λp h=>by rw[Ld]at h;rw[Afw h,e p (by rw[<-q.1];exact h)]];exact o.lower (Nat.le_succ _)
theorem Aag(A:Option Addr) (a n:Nat) (l:LP) (x y:Int) (w:World) (c:n<=1000000) (f:SpS w A n l) :
 Calls Tryz.prog 58 #[.slice A n a,.agg #[x,y]] w (Vi w (Yv l (x,y))):=by
 go_in
 go_wp2_with (go_at_call 94;refine(mi A a n l x y _ c (f.keep blA)).mono ?_;rintro e g ⟨v,rfl,d,b⟩)
 go_ret;refine⟨_,rfl,d.lower (by simp),An blA b⟩
section
open Go.RowKit Go.BigFrame
theorem OwS.take{w:World} {g n b:Nat}  (h:OwS w a (.slice (some ⟨g,0,none⟩) n b) e) (q:e.length=n) {k:Nat} (t:k<=n):OwS w a (.slice (some ⟨g,0,none⟩) k b) (e.take k):=by
 subst q;have d:(e.take k).length=k:=by rw[List.length_take];omega
 rcases h.2 with⟨i,_⟩|⟨s,f,c,r,o,p,i,j,l,m⟩
 .cases i
 injection r with e1 e2 e3
 injection e1 with e1
 injection e1 with e1
 subst e1;subst e3;unfold OwS OwG;refine⟨by rw[Cz Cm],.inr ⟨g,b,c,by rw[d],o,p,by rw[d];omega,j,l,?_⟩⟩;rw[d,<-Uw,<-m,List.take_take]
 congr 1
 omega
def Wa (p:Int×Int) (r:LP):LP :=
 if 1<r.length/\Bs (gt r (r.length-2)) (gt r (r.length-1)) p<=0 then Wa p (r.take (r.length-1)) else r
termination_by r.length
decreasing_by rw[List.length_take];omega
def Jh (l:LP):Nat->LP
 | 0=>[]
 | k+1=>Wa (gt l k) (Jh l k)++[gt l k]
def Pv (l:LP):LP:=(Jh l l.length).take ((Jh l l.length).length-1)
theorem zj(p:Int×Int) (r:LP):(Wa p r).length<=r.length:=by
 induction r using Wa.induct p with
 | case1 r h ih=>rw[Wa,if_pos h];refine Nat.le_trans ih ?_;rw[List.length_take];omega
 | case2 r h=>rw[Wa,if_neg h];exact Nat.le_refl _
theorem Lo(l:LP) (k:Nat):(Jh l k).length<=k:=by
 induction k with
 | zero=>exact Nat.le_refl _
 | succ k ih=>rw[Jh,List.length_append];have:=zj (gt l k) (Jh l k);simp;omega
theorem zh{p:Int×Int}   (d:e.length=a) (b:1<a) (c:Bs (gt e (a-2)) (gt e (a-1)) p<=0):Wa p e=Wa p (e.take (a-1)):=by
 subst d;rw[Wa,if_pos ⟨b,c⟩]
theorem mg{p:Int×Int}   (d:e.length=a) (h:¬1<a\/¬Bs (gt e (a-2)) (gt e (a-1)) p<=0):Wa p e=e:=by
 subst d;rw[Wa,if_neg (by rintro⟨b,c⟩;rcases h with h|h;exact h b;exact h c)]
def Ahl:Value->Nat
 | .slice _ n _=>n
 | _=>0
theorem Rl(A:Option Addr) (S n:Nat) (l:LP) (w:World) (h0:0<n) (hn:n<=1000000) (hs:SpS w A n l) :
 Calls Tryz.prog 337 #[.slice A n S] w (Vi w (Pv l)):=by
 go_enter Tryz.func337,Tryz.ntmps337;go_wp2_with fail;go_loopw [3,8] (λv i wr=>∃k:Nat,k<=n/\i=.int .i64 k/\OwS wr w.heap.size v (Jh l k)/\Be w wr) λ_ i _=>n-(intOf i).toNat
 case atStart=>exact⟨0,Nat.zero_le _,rfl,OwG.nil,bl0⟩
 obtain⟨k,hk,rfl,f,x⟩:=hrel;by_cases M:k<n
 .obtain⟨b,b9,rfl,T,Q⟩:=(hs.keep x).at_ M;let⟨P,h2⟩:=Q k M;clear Q;go_upto_region 5 with fail;clear P h2 T;let⟨y,z⟩:=gN wr.heap.size
  have K:Bf (wr.alloc (.cells #[(gt l k).1,(gt l k).2] 60)) y 60 #[(gt l k).1,(gt l k).2]:=by rw[<-z];exact Bf.new _ _ _
  rw[z];go_loopw [3] (λv wx=>∃r,Wa (gt l k) r=Wa (gt l k) (Jh l k)/\r.length<=k/\OwS wx w.heap.size v r/\Bf wx y 60 #[(gt l k).1,(gt l k).2]/\Be w wx/\v.ownBlock≠some y) λv _=>Ahl v
  case atStart=>exact⟨_,rfl,Lo _ _,f.alloc _,K,Ao x _,λh=>by rw[<-z]at h;exact Nat.lt_irrefl _ (f.lt _ h).2⟩
  clear f x K z;obtain⟨r,hp,hr,f,J,x,N⟩:=hrel;obtain⟨A,c,rfl,Q,_,hA⟩:=OwG.form2 f;let⟨m,o⟩:=gN r.length
  rw[o]at f Q hA hr N ⊢;have C:=J.cell 0;have D:=J.cell 1;simp only[List.getElem?_toArray,List.getElem?_cons_zero,List.getElem?_cons_succ]at C D;by_cases P:1<m
  .obtain⟨g,rfl,V,W⟩:=hA (by omega);let⟨j,hj⟩:=gN (m-2)
   let⟨i,X⟩:=gN (m-1)
   have Z:j<m:=by omega
   have Y:i<m:=by omega
   let⟨d1,d2,_,_⟩:=f.cells o Z;let⟨d3,d4,_,_⟩:=f.cells o Y;have q:((1:Int)<(m:Int))=True:=by simp;omega
   have e1:IntKind.i64.wrap ((m:Int)-1)=(i:Int):=(Fm _ (by omega) (by omega)).trans (by omega);have e2:IntKind.i64.wrap ((m:Int)-2)=(j:Int):=(Fm _ (by omega) (by omega)).trans (by omega);by_cases t:Bs (gt r j) (gt r i) (gt l k)<=0
   .have qc:(Bs ((gt r j).1,(gt r j).2) ((gt r i).1,(gt r i).2) ((gt l k).1,(gt l k).2)<=0)=True:=by simpa using t
    have a7:=Ar (zh (p:=gt l k) o P (by rw[X,hj];exact t))
    go_wp2_with fail;refine Bh wr [(⟨y,0,none⟩,.int .i64 (gt l k).1),(⟨y,1,none⟩,.int .i64 (gt l k).2),(⟨g,j*2,none⟩,.int .i64 (gt r j).1),(⟨g,j*2+1,none⟩,.int .i64 (gt r j).2),(⟨g,i*2,none⟩,.int .i64 (gt r i).1),(⟨g,i*2+1,none⟩,.int .i64 (gt r i).2)] (by kernel_rfl) (by kernel_rfl) ⟨bl0,by simp only[List.mem_cons,List.not_mem_nil,forall_eq_or_imp,or_false,forall_eq];go_simp⟩ ?_
    repeat
     first
     | go_big_quiet_skip
     | go_big_quiet_want
       apply Exists.intro;refine And.intro ?_ ?_
       .intro H e;have O:=e.2;simp only[List.mem_cons,List.not_mem_nil,forall_eq_or_imp,or_false,forall_eq]at O
        go_simp
        first|rfl|exact Bw e (Mp _ _ _ _ _ _ _)
       go_simp
       go_big_quiet_on
    refine wpQuiet_nil ?_;intro H d;have a:=d.1;clear d q e2 C D d1 d2 d3 d4 qc;go_wp2_with fail;refine⟨⟨r.take i,?_,by rw[List.length_take];omega,OwS.take (f.keep a) o (by omega),J.keep a,An x a,N⟩,by simp[Ahl];omega⟩;rw[<-hp,a7.out,X]
   have qc:(Bs ((gt r j).1,(gt r j).2) ((gt r i).1,(gt r i).2) ((gt l k).1,(gt l k).2)<=0)=False:=by simpa using t
   have G:=Ar (mg (p:=gt l k) o (.inr (by rw[X,hj];exact t)))
   go_wp2_with fail;refine Bh wr [(⟨y,0,none⟩,.int .i64 (gt l k).1),(⟨y,1,none⟩,.int .i64 (gt l k).2),(⟨g,j*2,none⟩,.int .i64 (gt r j).1),(⟨g,j*2+1,none⟩,.int .i64 (gt r j).2),(⟨g,i*2,none⟩,.int .i64 (gt r i).1),(⟨g,i*2+1,none⟩,.int .i64 (gt r i).2)] (by kernel_rfl) (by kernel_rfl) ⟨bl0,by simp only[List.mem_cons,List.not_mem_nil,forall_eq_or_imp,or_false,forall_eq];go_simp⟩ ?_
   repeat
    first
    | go_big_quiet_skip
    | go_big_quiet_want
      apply Exists.intro;refine And.intro ?_ ?_
      .intro H e;have O:=e.2;simp only[List.mem_cons,List.not_mem_nil,forall_eq_or_imp,or_false,forall_eq]at O
       go_simp
       first|rfl|exact Bw e (Mp _ _ _ _ _ _ _)
      go_simp
      go_big_quiet_on
   refine wpQuiet_nil ?_;intro H d;have a:=d.1;clear d q e2 C D d1 d2 d3 d4 qc;have u:Jh l (k+1)=r++[gt l k]:=by rw[Jh,<-hp,G.out]
   have R:=Ar u;have s:=J.keep a;have C:=s.cell 0;have D:=s.cell 1;simp only[List.getElem?_toArray,List.getElem?_cons_zero,List.getElem?_cons_succ]at C D;clear u t
   go_wp2_with (at_builtin;refine Dl rfl _ _ rfl w.heap.size _ r rfl ((f.keep a).alloc _) H.heap.size 1 (gt l k) 60 rfl (Bf.new _ _ _) (by omega) (Ao (An x a) _).size ?_;intro v' w2 F E L)
   exact⟨⟨k+1,by omega,by go_num,by rw[R.out];exact F,Bk (Ao (An x a) _) ((f.keep a).alloc _) E⟩,by simp[intOf];omega⟩
  have q:((1:Int)<(m:Int))=False:=by simp;omega
  have G:=Ar (mg (p:=gt l k) o (.inl P));go_wp2_with fail;refine Bh wr [(⟨y,0,none⟩,.int .i64 (gt l k).1),(⟨y,1,none⟩,.int .i64 (gt l k).2)] (by kernel_rfl) (by kernel_rfl) ⟨bl0,by simp only[List.mem_cons,List.not_mem_nil,forall_eq_or_imp,or_false,forall_eq];go_simp⟩ ?_
  repeat
   first
   | go_big_quiet_skip
   | go_big_quiet_want
     apply Exists.intro;refine And.intro ?_ ?_
     .intro H e;have O:=e.2;simp only[List.mem_cons,List.not_mem_nil,forall_eq_or_imp,or_false,forall_eq]at O
      go_simp
      first|rfl|exact Bw e (Mp _ _ _ _ _ _ _)
     go_simp
     go_big_quiet_on
  refine wpQuiet_nil ?_;intro H d;have a:=d.1;clear d q C D;have u:Jh l (k+1)=r++[gt l k]:=by rw[Jh,<-hp,G.out]
  have R:=Ar u;have s:=J.keep a;have C:=s.cell 0;have D:=s.cell 1;simp only[List.getElem?_toArray,List.getElem?_cons_zero,List.getElem?_cons_succ]at C D;clear u
  go_wp2_with (at_builtin;refine Dl rfl _ _ rfl w.heap.size _ r rfl ((f.keep a).alloc _) H.heap.size 1 (gt l k) 60 rfl (Bf.new _ _ _) (by omega) (Ao (An x a) _).size ?_;intro v' w2 F E L)
  exact⟨⟨k+1,by omega,by go_num,by rw[R.out];exact F,Bk (Ao (An x a) _) ((f.keep a).alloc _) E⟩,by simp[intOf];omega⟩
 obtain rfl:n=k:=by omega
 obtain⟨A',c',rfl,U,_,I⟩:=OwG.form2 f;let⟨m,o⟩:=gN ((Jh l n).length)
 have a1:0<m:=by
  obtain⟨j,rfl⟩:∃j,n=j+1:=⟨n-1,by omega⟩
  rw[<-o,Jh,List.length_append];simp
 have b7:m<=n:=by rw[<-o];exact Lo _ _
 rw[o]at f U I ⊢;obtain⟨g,rfl,V,W⟩:=I a1;have e1:IntKind.i64.wrap ((m:Int)-1)=((m-1:Nat):Int):=(Fm _ (by omega) (by omega)).trans (by omega);have HB:=Ar (show Pv l=(Jh l n).take (m-1) by unfold Pv;rw[hs.1,o]);have HM:=Ar o;clear o;go_wp2_with fail;go_ret;refine⟨_,rfl,?_,x⟩;rw[HB.out];have ht:=OwS.take f HM.out (k:=m-1) (by omega);exact ht
end
end Go.Proofs.YtlogblbfbihleaaGreat

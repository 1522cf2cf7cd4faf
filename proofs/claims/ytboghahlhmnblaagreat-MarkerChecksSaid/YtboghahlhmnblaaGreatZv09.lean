/- Lean texts of the claim. -/
import Derived.Test.YtboghahlhmnblaaGreatZv06
import Derived.Test.YtboghahlhmnblaaGreatZv07
import Derived.Laws.BitsLemmas
namespace Go.Proofs.YtboghahlhmnblaaGreat
set_option linter.all false
set_option maxRecDepth 100000
set_option maxHeartbeats 0
open Go.RowKit Go.Proofs.Tryz
variable{a:World}{b h j k:Int}{c n:Nat}{e l m:Int×Int}{f:Option Addr}{g:LP}{i:Bool}{x y z:Int}{w:World}
namespace Ears
def Aul(l:List P)(q:P):Prop:=∃p r,(p,q)∈E l/\(q,r)∈E l/\cr p q r=0
theorem Asc{A B:List P}{q:P}:Aul (A++B) q↔Aul (B++A) q:=⟨λ⟨p,r,a,b,c⟩=>⟨p,r,Aqt a,Aqt b,c⟩,λ⟨p,r,a,b,c⟩=>⟨p,r,Aqt a,Aqt b,c⟩⟩
theorem Auj{b w u:P}{m:List P}(c:(b::w::(m++[u])).Nodup):Aul (b::w::(m++[u])) b↔cr u b w=0:=by
 constructor
 .rintro⟨p,r,d,e,a⟩;rw[(Aq3 c).2 d,(Aq3 c).1 e]at a;exact a
 intro h;exact⟨u,w,T.ub,T.bw,h⟩
theorem Au9(a:h*x=j*b)(c:h≠0:=by omega)(d:j≠0:=by omega):x=0↔b=0:=by
 constructor
 .intro e;rw[e,Int.mul_zero]at a;rcases Int.mul_eq_zero.1 a.symm with q|q
  .exact absurd q d
  exact q
 intro e;rw[e,Int.mul_zero]at a;rcases Int.mul_eq_zero.1 a with q|q
 .exact absurd q c
 exact q
theorem Avv{b w u q:P}{m:List P}(h:Sim (b::w::(m++[u])))(D:cr u b w=0)(hq:q∈w::(m++[u])):Aul (b::w::(m++[u])) q↔Aul (w::(m++[u])) q:=by
 let⟨A,B,o,n4,C,F,G,H⟩:=Aq4 h.nd;have y:=Arx h D
 have v:∀r:P,(w.2-u.2)*cr u b r=(b.2-u.2)*cr u w r:=by
  intro r;have:(w.2-u.2)*cr u b r=(b.2-u.2)*cr u w r+(r.2-u.2)*cr u b w:=by unfold cr;grind
  rw[this,D];omega
 have x:∀r:P,(w.2-u.2)*cr b w r=(w.2-b.2)*cr u w r:=by
  intro r;have:(w.2-u.2)*cr b w r=(w.2-b.2)*cr u w r+(w.2-r.2)*cr u b w:=by unfold cr;grind
  rw[this,D];omega
 have qb:q≠b:=by rintro rfl;exact(List.nodup_cons.1 h.nd).1 hq
 have k:∀r:P,cr b w r=0↔cr u w r=0:=λr=>Au9 (x r)
 have l:∀p:P,cr p u b=0↔cr p u w=0:=λp=>by
  rw[<-Aqs p u b,<-Aqs p u w];exact Au9 (v p)
 constructor
 .rintro⟨p,r,d,f,g⟩;rw[Ar9]at d f;simp only[bO,bD,List.not_mem_nil,or_false,Prod.mk.injEq]at d f
  have a:(p,q)∈ch w (m++[u])\/(p=b/\q=w):=by
   rcases d with z|z|z
   .exact .inr z
   .exact .inl z
   exact absurd z.2 qb
  have c:(q,r)∈ch w (m++[u])\/(q=u/\r=b):=by
   rcases f with z|z|z
   .exact absurd z.1 qb
   .exact .inl z
   exact .inr z
  have i:∀e∈ch w (m++[u]),e∈E (w::(m++[u])):=λe t=>by rw[Ata];simp[t]
  have n:(u,w)∈E (w::(m++[u])):=by rw[Ata];simp
  rcases a with a|⟨rfl,rfl⟩<;>rcases c with c|⟨rfl,rfl⟩
  .exact⟨p,r,i _ a,i _ c,g⟩
  .exact⟨p,w,i _ a,n,(l p).1 g⟩
  .exact⟨u,r,n,i _ c,(k r).1 g⟩
  exact absurd rfl o
 rintro⟨p,r,d,f,g⟩;rw[Ata]at d f;simp only[bD,bO,List.not_mem_nil,or_false,Prod.mk.injEq]at d f;rcases d with a|⟨rfl,rfl⟩<;>rcases f with c|⟨j,s⟩
 .exact⟨p,r,T.che a,T.che c,g⟩
 .subst j;subst s;exact⟨p,b,T.che a,T.ub,(l p).2 g⟩
 .exact⟨b,r,T.bw,T.che c,(k r).2 g⟩
 exact absurd j.symm (Ne.symm o)
theorem Axx:∀(n:Nat) (l:List P) (F:P->Bool),l.length<=n->3<=l.length->Sim l->(∀q∈l,F q=true↔Aul l q) ->
 Sim (l.filter λq=>!F q)/\3<=(l.filter λq=>!F q).length/\lam (l.filter λq=>!F q)=lam l/\ar (l.filter λq=>!F q)=ar l/\∀q∈l.filter λq=>!F q,¬Aul (l.filter λq=>!F q) q:=by
 intro n;induction n with
 | zero=>intro l F U V;omega
 | succ n ih =>
   intro l F O p s r;by_cases J:∃b∈l,F b=true
   .obtain⟨b,H,j⟩:=J;have g:=(r b H).1 j;let⟨A,B,e⟩:=Aw9 H;subst e;have h:=s.rot;have K:2<=(B++A).length:=by simp at p ⊢;omega
    have kn:(B++A).length<=n:=by simp at O ⊢;omega
    let⟨w,m,u,a⟩:∃w m u,B++A=w::(m++[u]):=by
     generalize B++A=k at K
     match k,K with
     | w::x::k,_ =>
       let⟨m,u,e⟩:=Att (l:=x::k);exact⟨w,m,u,by rw[e]⟩
    have G:(b::B)++A=b::w::(m++[u]):=by rw[cV,a]
    have d:=Asc.1 g;have M:=Aq0 A (b::B) p s;have N:=Aur A (b::B);rw[G]at h d M N;have D:=(Auj h.nd).1 d;have Q:=Arx h D
    have I:m≠[]:=by
     rintro rfl;have:On w u b:=⟨by rw[Aqs b w u,Aqs u b w];exact D,by omega⟩;let⟨R,S,W,_⟩:=Aq4 h.nd;rcases h.on (w,u) (by rw[Ar9];simp[ch]) b T.mb this with z|z
     .exact R z
     exact S z
    let⟨v,L⟩:=Auk h D I;have E:=Av9 b w u m;rw[<-a]at v L E;have C:=v.rot
    have i:3<=(B++A).length:=by
     rw[a];cases m with
     | nil=>exact absurd rfl I
     | cons y m=>simp
    have t:=Aq0 B A i v;have o:=Aur B A
    have f:(A++b::B).filter (λq=>!F q)=(A++B).filter (λq=>!F q):=by
     rw[List.filter_append,List.filter_append,List.filter_cons_of_neg (by rw[j];simp)]
    have:=ih (A++B) F (by simp at kn ⊢;omega) (by simp at i ⊢;omega) C (λq hq=>by
     have hq2:q∈w::(m++[u]):=by rw[<-a];exact Ard hq
     rw[r q (by simp at hq ⊢;grind),Asc (A:=A) (B:=b::B),G,Avv h D hq2,<-a];exact Asc)
    rw[<-f]at this;refine⟨this.1,this.2.1,?_,?_,this.2.2.2.2⟩
    .rw[this.2.2.1,<-t,L,a,<-M]
    rw[this.2.2.2.1];rw[a]at E o;omega
   have c:∀q∈l,F q=false:=λq hq=>by
    cases hc:F q with
    | false=>rfl
    | true=>exact absurd ⟨q,hq,hc⟩ J
   have:l.filter (λq=>!F q)=l:=by
    rw[List.filter_eq_self];intro q hq;rw[c q hq];rfl
   rw[this];refine⟨s,p,rfl,rfl,λq hq g=>?_⟩;have:=(r q hq).2 g;rw[c q hq]at this;cases this
theorem Ay9{a b c:P}(h:Sim [a,b,c])(d:lam [a,b,c]=true):0<cr a b c:=by
 have:=Av8 3 [a,b,c] aL aL h d;have e:=Av9 a b c [];simp only[dQ]at e;have z:ar [b,c]=0:=by unfold ar;simp only[E,cV,dQ,ch,Aq6,Atb];unfold vx;grind
 rw[<-Aqs c a b]at e;omega
end Ears
theorem Ad6{a:Int×Int->Int×Int}(b:c<g.length):gt (g.map a) c=a (gt g c):=by
 unfold gt;rw[List.getD,dC,List.getD,aW b];rfl
theorem rk(h:e∈g):∃i,i<g.length/\gt g i=e:=by
 obtain⟨i,a,rfl⟩:=List.getElem_of_mem h;exact⟨i,a,by unfold gt;simp[a]⟩
def Du(M:Int)(q:Int×Int):Prop := -M<=q.1/\q.1<=M /\ -M<=q.2/\q.2<=M
theorem Oy(h:Cc b e=false):Du b e:=by
 unfold Cc at h;simp at h;unfold Du;omega
theorem Adu(h:e∈g):∃i,i<g.length/\gt g i=e:=rk h
theorem fo{l:LP}{i:Nat}(h:i<l.length):gt l i∈l:=by
 unfold gt;rw[List.getD,aW h];exact cY h
theorem gv(h:Bg g g.length=0):∀q∈g,Du 1048576 q:=by
 intro q hq;obtain⟨i,c,rfl⟩:=Adu hq;unfold Bg at h;split at h
 .cases h
 split at h
 .cases h
 split at h
 .cases h
 rename_i b;have a:Bp (λi=>Cc 1048576 (gt g i)) g.length=false:=by simpa using b
 apply Oy;cases ho:Cc 1048576 (gt g i) with
 | false=>rfl
 | true=>rw[Bp.yes c ho]at a;cases a
theorem F5(a: -100000000<=z:=by omega)(b:z<=100000000:=by omega):wrap64 z=z:=by unfold wrap64;omega
theorem Yu(a: -2097152<=x:=by omega)(b:x<=2097152:=by omega)(c: -2097152<=y:=by omega)(d:y<=2097152:=by omega): -4398046511104<=x*y/\x*y<=4398046511104:=by
 have h:=cJ (show x.natAbs<=2097152 by omega) (show y.natAbs<=2097152 by omega);rw[<-Int.natAbs_mul]at h;generalize x*y=z at h ⊢;omega
theorem Jk(a: -100000000000000<=z:=by omega)(b:z<=100000000000000:=by omega):wrap64 z=z:=by unfold wrap64;omega
def crP(a b c:Int×Int):Int:=(b.1-a.1)*(c.2-a.2)-(b.2-a.2)*(c.1-a.1)
theorem Jt(a:Du 1048576 e)(b:Du 1048576 l)(c:Du 1048576 m):Bs e l m=crP e l m:=by
 unfold Du at a b c;unfold Bs crP;rw[F5 (z:=l.1-e.1),F5 (z:=m.2-e.2),F5 (z:=l.2-e.2),F5 (z:=m.1-e.1)];have d:=Yu (x:=l.1-e.1) (y:=m.2-e.2);have f:=Yu (x:=l.2-e.2) (y:=m.1-e.1);generalize (l.1-e.1)*(m.2-e.2)=u at d ⊢;generalize (l.2-e.2)*(m.1-e.1)=v at f ⊢;rw[Jk (z:=u),Jk (z:=v),Jk]
def dtP(a b c:Int×Int):Int:=(a.1-b.1)*(c.1-b.1)+(a.2-b.2)*(c.2-b.2)
theorem Wt(a:Du 1048576 e)(b:Du 1048576 l)(c:Du 1048576 m):Il e l m=((crP e l m == 0)&&decide (dtP e l m > 0)):=by
 unfold Il;rw[Jt a b c];unfold Du at a b c;unfold dtP;rw[F5 (z:=e.1-l.1),F5 (z:=m.1-l.1),F5 (z:=e.2-l.2),F5 (z:=m.2-l.2)];have d:=Yu (x:=e.1-l.1) (y:=m.1-l.1);have f:=Yu (x:=e.2-l.2) (y:=m.2-l.2);generalize (e.1-l.1)*(m.1-l.1)=u at d ⊢;generalize (e.2-l.2)*(m.2-l.2)=v at f ⊢;rw[Jk (z:=u),Jk (z:=v),Jk]
def Lz(l:LP)(n i:Nat):Bool:=!(eqS (gt l i) (gt l ((i+1) % n)) || onW (gt l i) (gt l ((i+1) % n)) (gt l ((i+2) % n)) || onW (gt l ((i+1) % n)) (gt l ((i+2) % n)) (gt l i))&&Ix (Pc l n i) n
def bh(l:LP)(n:Nat):Bool:=Ix (Lz l n) n
theorem Mc(a:Du 1048576 e)(b:Du 1048576 l)(c:Du 1048576 m):onW e l m=true↔crP e l m=0/\min e.1 l.1<=m.1/\m.1<=max e.1 l.1/\min e.2 l.2<=m.2/\m.2<=max e.2 l.2:=by
 unfold onW;rw[Jt a b c];simp[and_assoc]
theorem R8(h:(0<=x/\0<=y)\/(x<=0/\y<=0):=by omega):0<=x*y:=by
 rcases h with⟨c,d⟩|⟨c,d⟩
 .exact dT c d
 have:=dT (a := -x) (b := -y) aK aK;rw[Int.neg_mul_neg]at this;exact this
theorem Ads(h:x*b=0):x=0\/b=0:=Int.mul_eq_zero.1 h
theorem Re{a b c:Int×Int}(f:crP a b c=0)(k:min a.1 b.1<=c.1/\c.1<=max a.1 b.1)(l:min a.2 b.2<=c.2/\c.2<=max a.2 b.2)(g:¬(c.1=b.1/\c.2=b.2)):dtP a b c > 0:=by
 unfold dtP;have m:0<=(a.1-b.1)*(c.1-b.1):=R8;have n:0<=(a.2-b.2)*(c.2-b.2):=R8;rcases Int.lt_or_le 0 ((a.1-b.1)*(c.1-b.1)+(a.2-b.2)*(c.2-b.2)) with h|h
 .exact h
 exfalso;have d:(a.1-b.1)*(c.1-b.1)=0:=aK
 have e:(a.2-b.2)*(c.2-b.2)=0:=aK
 have i:=Ads d;have j:=Ads e;omega
theorem Zm:crP l m e=crP e l m:=by unfold crP;grind
theorem Abl:dtP m l e=dtP e l m:=by unfold dtP;grind
theorem vv{u1 u2 v1 v2:Int}(h:u1*v2=u2*v1)(b:u1.natAbs > v1.natAbs)(c:v2.natAbs > u2.natAbs):False:=by
 have e:u1.natAbs*v2.natAbs=u2.natAbs*v1.natAbs:=by rw[<-Int.natAbs_mul,<-Int.natAbs_mul,h]
 have a:(v1.natAbs+1)*(u2.natAbs+1)<=u1.natAbs*v2.natAbs:=cJ b c;rw[e]at a;have:u2.natAbs*v1.natAbs=v1.natAbs*u2.natAbs:=bN _ _;rw[this,cN,cR]at a;omega
theorem du(v:crP e l m=0)(B:dtP e l m > 0):((min e.1 l.1<=m.1/\m.1<=max e.1 l.1)/\(min e.2 l.2<=m.2/\m.2<=max e.2 l.2))\/((min l.1 m.1<=e.1/\e.1<=max l.1 m.1)/\(min l.2 m.2<=e.2/\e.2<=max l.2 m.2)):=by
 let⟨u1,g⟩:=gN (e.1-l.1)
 let⟨u2,i⟩:=gN (e.2-l.2)
 let⟨b,j⟩:=gN (m.1-l.1)
 let⟨a,k⟩:=gN (m.2-l.2)
 have q:u1*a=u2*b:=by
  have:crP e l m=u2*b-u1*a:=by rw[<-g,<-i,<-j,<-k];unfold crP;grind
  omega
 have p:0<u1*b+u2*a:=by
  have:dtP e l m=u1*b+u2*a:=by rw[<-g,<-i,<-j,<-k];rfl
  omega
 have d:0<=(u1*b)*(u2*a):=by
  have s:(u1*b)*(u2*a)=(u1*a)*(u1*a):=by rw[show (u1*b)*(u2*a)=(u1*a)*(u2*b) by grind,<-q]
  rw[s];exact R8
 have r:∀{x y:Int},0<=x*y->0<x+y->0<=x:=λ{x y} n c=>by
  rcases Int.lt_or_le x 0 with h|h
  .exfalso;have:0 < -x*y:=Int.mul_pos aK aK;rw[Int.neg_mul]at this;omega
  exact h
 have t:0<=u1*b:=r d p;have u:0<=u2*a:=r (x:=u2*a) (y:=u1*b) (by rw[eW];exact d) aK
 have f:∀{x y:Int},0<=x*y->(0<=x/\0<=y)\/(x<=0/\y<=0):=λ{x y} h=>by
  rcases Int.lt_or_le x 0 with n|n
  .rcases Int.lt_or_le 0 y with c|c
   .exfalso;have:0 < -x*y:=Int.mul_pos aK c;rw[Int.neg_mul]at this;omega
   exact .inr ⟨aK,c⟩
  rcases Int.lt_or_le y 0 with c|c
  .rcases Int.lt_or_le 0 x with o|o
   .exfalso;have:0<x * -y:=Int.mul_pos o aK;rw[Int.mul_neg]at this;omega
   exact .inr ⟨o,aK⟩
  exact .inl ⟨n,c⟩
 have C:=f t;have s2:=f u;by_cases w:u1.natAbs > b.natAbs
 .have:¬a.natAbs > u2.natAbs:=λh=>vv q w h
  left;omega
 by_cases z:u2.natAbs > a.natAbs
 .by_cases A:b.natAbs > u1.natAbs
  .exact(vv (u1:=u2) (u2:=u1) (v1:=a) (v2:=b) q.symm z A).elim
  left;omega
 right;omega
theorem lq(Q:∀q∈g,Du 1048576 q)(O:3<=g.length):bh g g.length=C8 g g.length:=by
 let⟨n,R⟩:=gN g.length
 have f:∀i,i<n->Du 1048576 (gt g i):=λi d=>Q _ (fo aK)
 rw[R]at O ⊢;have k:∀i,i % n<n:=λi=>bE _ aK
 have v:∀i,i<n->(Il (gt g i) (gt g ((i+1) % n)) (gt g ((i+2) % n))=true↔crP (gt g i) (gt g ((i+1) % n)) (gt g ((i+2) % n))=0/\dtP (gt g i) (gt g ((i+1) % n)) (gt g ((i+2) % n)) > 0):=λi d=>by
  rw[Wt (f i d) (f _ (k _)) (f _ (k _))];simp
 have m:∀a b:Int×Int,Du 1048576 a->Du 1048576 b->onW a b a=true:=λa b F P=>by
  rw[Mc F P F];refine⟨by unfold crP;grind,aK,aK,aK,aK⟩
 rw[cZ];unfold bh C8;rw[Bool.and_eq_true,Ix.iff,Ix.iff,Ix.iff];constructor
 .intro h
  have p:∀i,i<n->eqS (gt g i) (gt g ((i+1) % n))=false/\onW (gt g i) (gt g ((i+1) % n)) (gt g ((i+2) % n))=false/\onW (gt g ((i+1) % n)) (gt g ((i+2) % n)) (gt g i)=false/\Ix (Pc g n i) n=true:=λi d=>by
   have:=h i d;unfold Lz at this;simp only[Bool.and_eq_true,Bool.not_eq_true',Bool.or_eq_false_iff]at this;exact⟨this.1.1.1,this.1.1.2,this.1.2,this.2⟩
  refine⟨λi d=>?_,λi d=>?_⟩
  ·-- no vertex twice
   rw[Bool.not_eq_true'];cases t:tp g i with
   | false=>rfl
   | true =>
     exfalso;unfold tp at t;let⟨j,x,A⟩:=Bp.iff.1 t;have l:=(Ge _ _).1 A;by_cases S:i=j+1
     .have:=(p j aK).1;rw[show (j+1) % n=i by rw[<-S];exact cC d,l,(Ge _ _).2 rfl] at this;cases this
     by_cases T:(i+1) % n=j
     .have:=(p i d).1;rw[T,l,(Ge _ _).2 rfl]at this;cases this
     have:=Ix.iff.1 (p j aK).2.2.2 i d;unfold Pc at this
     have C:Hs (gt g j) (gt g ((j+1) % n)) (gt g i) (gt g ((i+1) % n))=true:=by
      unfold Hs;rw[l,m _ _ (f j aK) (f _ (k _))];rfl
     rw[C]at this;simp at this;omega
  unfold ao;rw[Bool.and_eq_true,Bool.not_eq_true'];refine⟨?_,(p i d).2.2.2⟩;cases hf:Il (gt g i) (gt g ((i+1) % n)) (gt g ((i+2) % n)) with
  | false=>rfl
  | true =>
    exfalso;let⟨o,L⟩:=(v i d).1 hf;rcases du o L with⟨r,s⟩|⟨r,s⟩
    .have:=(Mc (f i d) (f _ (k (i+1))) (f _ (k (i+2)))).2 ⟨o,r.1,r.2,s.1,s.2⟩;rw[(p i d).2.1]at this;cases this
    have:=(Mc (f _ (k (i+1))) (f _ (k (i+2))) (f i d)).2 ⟨by rw[Zm];exact o,r.1,r.2,s.1,s.2⟩;rw[(p i d).2.2.1]at this;cases this
 rintro⟨M,N⟩ i d
 have t:∀i j,i<n->j<i->¬gt g i=gt g j:=λi j d x e=>by
  have:=M i d;rw[Bool.not_eq_true']at this;unfold tp at this;rw[Bp.yes x ((Ge _ _).2 e)]at this;cases this
 have u:∀i j,i<n->j<n->i≠j->¬gt g i=gt g j:=λi j d x B e=>by
  rcases Nat.lt_or_gt_of_ne B with h|h
  .exact t j i x h e.symm
  exact t i j d h e
 have y:=N i d;unfold ao at y;rw[Bool.and_eq_true,Bool.not_eq_true']at y
 have U:(i+1) % n≠i:=λe=>by
  rcases bG (i+1) n with h|h
  .rw[cC h]at e;omega
  rw[show i+1=n by omega,Nat.mod_self]at e;omega
 have V:(i+2) % n≠(i+1) % n:=λe=>by
  rcases bG (i+2) n with h|h
  .rw[cC h,cC aK]at e;omega
  rcases bG (i+1) n with E|E
  .rw[show i+2=n by omega,Nat.mod_self,cC E]at e;omega
  rw[show i+2=n+1 by omega,show i+1=n by omega,Nat.mod_self,Nat.add_mod_left,cC aK]at e;omega
 have G:¬(crP (gt g i) (gt g ((i+1) % n)) (gt g ((i+2) % n))=0/\dtP (gt g i) (gt g ((i+1) % n)) (gt g ((i+2) % n)) > 0):=λh=>by
  have:=(v i d).2 h;rw[y.1]at this;cases this
 have w:=u _ _ (k (i+1)) d U;have D:=u _ _ (k (i+2)) (k (i+1)) V;unfold Lz;simp only[Bool.and_eq_true,Bool.not_eq_true',Bool.or_eq_false_iff];refine⟨⟨⟨?_,?_⟩,?_⟩,y.2⟩
 .cases A:eqS (gt g i) (gt g ((i+1) % n)) with
  | false=>rfl
  | true=>exact absurd ((Ge _ _).1 A).symm w
 .cases ho:onW (gt g i) (gt g ((i+1) % n)) (gt g ((i+2) % n)) with
  | false=>rfl
  | true =>
    exfalso;let⟨z,H,I,J,K⟩:=(Mc (f i d) (f _ (k (i+1))) (f _ (k (i+2)))).1 ho;exact G ⟨z,Re z ⟨H,I⟩ ⟨J,K⟩ λe=>D (Prod.ext e.1 e.2)⟩
 cases ho:onW (gt g ((i+1) % n)) (gt g ((i+2) % n)) (gt g i) with
 | false=>rfl
 | true =>
   exfalso;let⟨z,H,I,J,K⟩:=(Mc (f _ (k (i+1))) (f _ (k (i+2))) (f i d)).1 ho;have o:crP (gt g i) (gt g ((i+1) % n)) (gt g ((i+2) % n))=0:=by rw[<-Zm];exact z
   refine G ⟨o,?_⟩;rw[<-Abl];refine Re (a:=gt g ((i+2) % n)) (b:=gt g ((i+1) % n)) (c:=gt g i) ?_ aK aK λe=>w (Prod.ext e.1.symm e.2.symm);unfold crP at o ⊢
   grind
namespace Ears
def shr(p:P):P:=(p.1,4194304*p.2+p.1)
theorem Arj(a b c:P):cr (shr a) (shr b) (shr c)=4194304*cr a b c:=by unfold cr shr;grind
theorem Auc{a b:P}(c:Du 1048576 a)(d:Du 1048576 b)(h:(shr a).2=(shr b).2):a=b:=by
 unfold Du at c d;unfold shr at h;simp only at h;exact Prod.ext aK aK
theorem Arz(a b c:P):crP a b c=cr a b c:=rfl
theorem Arp{H k x y:Int}(h:H*x=k*y)(b:0<H:=by omega)(d:0<=k:=by omega)(f:k<=H:=by omega):(0<=y->0<=x/\x<=y)/\(y<=0->y<=x/\x<=0):=by
 constructor
 .intro a;have e:=nn d a;have c:=nn (show 0<=H-k by omega) a;rw[Int.sub_mul]at c;refine⟨sge b,?_⟩;have:0<=y-x:=sge b (h:=by rw[Int.mul_sub];omega);omega
 intro a;have e:=np d a;have c:=np (show 0<=H-k by omega) a;rw[Int.sub_mul]at c;have g:0 <= -x:=sge b (h:=by rw[Int.mul_neg];omega);have i:0<=x-y:=sge b (h:=by rw[Int.mul_sub];omega);omega
theorem Aym{a b c:P}(s:Du 1048576 a)(t:Du 1048576 b)(f:a≠b)(h:On (shr a) (shr b) (shr c)):
 cr a b c=0/\min a.1 b.1<=c.1/\c.1<=max a.1 b.1/\min a.2 b.2<=c.2/\c.2<=max a.2 b.2:=by
 obtain⟨n,u⟩:=h;rw[Arj]at n;have d:cr a b c=0:=by omega
 have o:(shr a).2≠(shr b).2:=λe=>f (Auc s t e)
 have i:((shr b).2-(shr a).2)*(c.1-a.1)=((shr c).2-(shr a).2)*(b.1-a.1):=by
  have:((shr b).2-(shr a).2)*(c.1-a.1)-((shr c).2-(shr a).2)*(b.1-a.1) = - (4194304*cr a b c):=by unfold shr cr;grind
  rw[d]at this;omega
 have j:((shr b).2-(shr a).2)*(c.2-a.2)=((shr c).2-(shr a).2)*(b.2-a.2):=by
  have:((shr b).2-(shr a).2)*(c.2-a.2)-((shr c).2-(shr a).2)*(b.2-a.2)=cr a b c:=by unfold shr cr;grind
  rw[d]at this;omega
 generalize (shr a).2=p at *
 generalize (shr b).2=q at *
 generalize (shr c).2=r at *
 rcases Int.lt_or_gt_of_ne o with g|g
 .have l:=Arp (H:=q-p) (k:=r-p) i;have m:=Arp (H:=q-p) (k:=r-p) j;refine⟨d,by omega,by omega,by omega,by omega⟩
 have l:=Arp (H:=p-q) (k:=p-r) (x:=c.1-a.1) (y:=b.1-a.1) (by rw[show p-q = -(q-p) by omega,show p-r = -(r-p) by omega,Int.neg_mul,Int.neg_mul,i]);have m:=Arp (H:=p-q) (k:=p-r) (x:=c.2-a.2) (y:=b.2-a.2) (by rw[show p-q = -(q-p) by omega,show p-r = -(r-p) by omega,Int.neg_mul,Int.neg_mul,j]);refine⟨d,by omega,by omega,by omega,by omega⟩
theorem Crs.apart{p q s t:P}(h:Crs p q s t):p≠s/\p≠t/\q≠s/\q≠t:=by
 obtain⟨a,b⟩:=h;refine⟨?_,?_,?_,?_⟩
 .rintro rfl;rw[Aqr]at a;unfold opp at a;omega
 .rintro rfl;rw[Aqr p q]at a;unfold opp at a;omega
 .rintro rfl;rw[Aqu p q]at a;unfold opp at a;omega
 rintro rfl;rw[Aqu p q]at a;unfold opp at a;omega
theorem Ue(h:opp (4194304*x) (4194304*b)):opp x b:=by unfold opp at *;omega
/- Lists by their indices. -/
theorem Aqy(x:P)(k:List P)(i:Nat):gt (x::k) (i+1)=gt k i:=by unfold gt;simp
theorem Q3(x:P)(k:List P):gt (x::k) 0=x:=by unfold gt;simp
theorem Aqz{a b:List P}(h:c<a.length):gt (a++b) c=gt a c:=by unfold gt;simp[List.getD,cF h]
theorem Aq1{a b:List P}(h:a.length<=c:=by omega):gt (a++b) c=gt b (c-a.length):=by unfold gt;simp[List.getD,cI h]
theorem Ays(k:List P):∀x e,e∈ch x k↔∃i,i<k.length/\e=(gt (x::k) i,gt k i):=by
 induction k with
 | nil=>intro x e;simp[ch]
 | cons y k ih =>
   intro x e;simp only[ch,bO];constructor
   .rintro(rfl|h)
    .exact⟨0,aL,by rw[Q3,Q3]⟩
    let⟨i,a,b⟩:=(ih y e).1 h;exact⟨i+1,aO,by rw[Aqy,Aqy];exact b⟩
   rintro⟨i,a,rfl⟩;cases i with
   | zero=>left;rw[Q3,Q3]
   | succ i=>right;exact(ih y _).2 ⟨i,by simp at a;omega,by rw[Aqy,Aqy]⟩
theorem Ayx{l:List P}(f:0<l.length)(e:P×P):e∈E l↔∃i,i<l.length/\e=(gt l i,gt l ((i+1) % l.length)):=by
 cases l with
 | nil=>simp at f
 | cons x k =>
   simp only[E];rw[Ays]
   have a:∀i,i<(x::k).length->gt (x::(k++[x])) i=gt (x::k) i/\gt (k++[x]) i=gt (x::k) ((i+1) % (x::k).length):=by
    intro i b;constructor
    .rw[<-cV,Aqz b]
    simp only[dP]at b ⊢;by_cases c:i<k.length
    .rw[Aqz c,cC aK,Aqy]
    have:i=k.length:=aK
    rw[this,Aq1,Nat.sub_self,Nat.mod_self,Q3,Q3]
   constructor
   .rintro⟨i,b,rfl⟩;have d:i<(x::k).length:=by simp at b ⊢;omega
    exact⟨i,d,by rw[(a i d).1,(a i d).2]⟩
   rintro⟨i,b,rfl⟩;exact⟨i,by simp at b ⊢;omega,by rw[(a i b).1,(a i b).2]⟩
theorem Aro{l:List P}(h:c<l.length:=by omega):gt (l.map shr) c=shr (gt l c):=Ad6 h
theorem Atc{l:List P}(r:∀q∈l,Du 1048576 q)(n:3<=l.length)(c:C8 l l.length=true):
 (∀i j,i<l.length->j<l.length->i≠j->gt l i≠gt l j) /\
 (∀i,i<l.length->onW (gt l i) (gt l ((i+1) % l.length)) (gt l ((i+2) % l.length))=false/\onW (gt l ((i+1) % l.length)) (gt l ((i+2) % l.length)) (gt l i)=false) /\
 (∀i k,i<l.length->k<l.length->i+2<=k->(k+1) % l.length≠i->Hs (gt l i) (gt l ((i+1) % l.length)) (gt l k) (gt l ((k+1) % l.length))=false):=by
 have b:=lq r n;rw[c]at b;unfold bh at b;rw[Ix.iff]at b;refine⟨?_,λi a=>?_,λi k a p s o=>?_⟩
 .unfold C8 at c;rw[Bool.and_eq_true,Ix.iff]at c
  have m:∀i j,i<l.length->j<i->¬gt l i=gt l j:=λi j a f e=>by
   have:=c.1 i a;rw[Bool.not_eq_true']at this;unfold tp at this;rw[Bp.yes f ((Ge _ _).2 e)]at this;cases this
  intro i j a f d e;rcases Nat.lt_or_gt_of_ne d with h|h
  .exact m j i f h e.symm
  exact m i j a h e
 .have:=b i a;unfold Lz at this;simp only[Bool.and_eq_true,Bool.not_eq_true',Bool.or_eq_false_iff]at this;exact⟨this.1.1.2,this.1.2⟩
 have:=b i a;unfold Lz at this;simp only[Bool.and_eq_true]at this;have:=Ix.iff.1 this.2 k p;unfold Pc at this;simp only[Bool.or_eq_true,decide_eq_true_eq,Bool.not_eq_true']at this;rcases this with (g|g)|g
 .omega
 .exact absurd g o
 exact g
theorem Awp{a b c:P}(e:Du 1048576 a)(f:Du 1048576 b)(g:Du 1048576 c)(d:a≠b)(h:On (shr a) (shr b) (shr c)):onW a b c=true:=(Mc e f g).2 (Aym e f d h)
theorem Ar7{a b c d:P}(g:Du 1048576 a)(i:Du 1048576 b)(j:Du 1048576 c)(k:Du 1048576 d)(h:opp (cr a b c) (cr a b d)):I8 a b c d=true:=by
 unfold I8;rw[Jt g i j,Jt g i k,Arz,Arz];unfold Ey;rcases h with⟨e,f⟩|⟨e,f⟩
 .rw[if_pos e,if_neg aK,if_pos aK];rfl
 rw[if_neg aK,if_pos aK,if_pos f];rfl
theorem Asa(h:c<n):(c+1) % n=c+1\/(c+1=n/\(c+1) % n=0):=by
 rcases bG (c+1) n with g|g
 .exact .inl (cC g)
 have:c+1=n:=aK
 exact .inr ⟨this,by rw[this,Nat.mod_self]⟩
theorem As0{l:List P}(J:∀q∈l,Du 1048576 q)(I:3<=l.length)(Z:C8 l l.length=true):Sim (l.map shr):=by
 let⟨w,H,y⟩:=Atc J I Z;let⟨n,C⟩:∃n,n=l.length:=⟨_,rfl⟩
 rw[<-C]at w H y I;have c:∀i,i<n->Du 1048576 (gt l i):=λi a=>J _ (fo aK)
 have d:∀i,i % n<n:=λi=>bE _ aK
 have len:(l.map shr).length=n:=by rw[List.length_map,C]
 have A:∀e∈E (l.map shr),∃i,i<n/\e=(shr (gt l i),shr (gt l ((i+1) % n))):=by
  intro e t;obtain⟨i,a,rfl⟩:=(Ayx aK e).1 t;rw[len]at a ⊢;exact⟨i,a,by rw[Aro,Aro (h:=by rw[<-C];exact d _)]⟩
 have B:∀r∈l.map shr,∃j,j<n/\r=shr (gt l j):=by
  intro r D;obtain⟨q,hq,rfl⟩:=List.mem_map.1 D;obtain⟨j,b,rfl⟩:=Adu hq;exact⟨j,aK,rfl⟩
 have G:∀i,i<n->i≠(i+1) % n:=by
  intro i a;rcases Asa a with g|⟨z,g2⟩<;>omega
 have ht:∀p∈l.map shr,∀q∈l.map shr,p.2=q.2->p=q:=by
  intro p Y q hq e;obtain⟨i,a,rfl⟩:=B p Y;obtain⟨j,b,rfl⟩:=B q hq;rw[Auc (c i a) (c j b) e]
 -- edges i and j far from each other
 have far:∀i j,i<n->j<n->i≠j->(i+1) % n≠j->(j+1) % n≠i->Hs (gt l i) (gt l ((i+1) % n)) (gt l j) (gt l ((j+1) % n))=false\/Hs (gt l j) (gt l ((j+1) % n)) (gt l i) (gt l ((i+1) % n))=false:=by
  intro i j a b T U V;rcases Nat.lt_or_gt_of_ne T with g|g
  .left;refine y i j a b ?_ V;rcases Asa a with k|⟨K,F⟩<;>omega
  right;refine y j i b a ?_ U;rcases Asa b with k|⟨K,F⟩<;>omega
 refine⟨?_,ht,?_,?_⟩
 .refine List.pairwise_iff_getElem.2 λi j a b X e=>?_
  rw[len]at a b
  have z:gt (l.map shr) i=gt (l.map shr) j:=by
   unfold gt;rw[List.getD_eq_getElem?_getD,List.getD_eq_getElem?_getD,aW aK,aW aK,e]
  rw[Aro,Aro]at z;have:=Auc (c i aK) (c j b) (by rw[z]);exact w i j aK b aK this
 .intro e t r D o;obtain⟨i,a,rfl⟩:=A e t;obtain⟨j,b,rfl⟩:=B r D;simp only at o ⊢;have m:=Awp (c i a) (c _ (d _)) (c j b) (w i _ a (d _) (G i a)) o;by_cases u:i=j
  .left;rw[u]
  by_cases v:(i+1) % n=j
  .right;rw[v]
  exfalso;by_cases s:(j+1) % n=i
  ·-- j is the vertex before the Ay4
   have:=(H j b).2;rw[s]at this
   have e:(j+2) % n=(i+1) % n:=by
    rcases Asa b with k|⟨K,F⟩
    .rw[<-s,k]
    rw[<-s,F,show j+2=n+1 by omega,Nat.add_mod_left]
   rw[e,m]at this;cases this
  rcases far i j a b u v s with g|g
  .unfold Hs at g;rw[m]at g;simp at g
  unfold Hs at g;rw[m]at g;simp at g
 intro e t f W x;obtain⟨i,a,rfl⟩:=A e t;obtain⟨j,b,rfl⟩:=A f W;simp only at x;let⟨Q,R,S,a4⟩:=x.apart;have u:i≠j:=by rintro rfl;exact Q rfl
 have v:(i+1) % n≠j:=by rintro rfl;exact S rfl
 have s:(j+1) % n≠i:=by rintro rfl;exact R rfl
 obtain⟨N,O⟩:=x;rw[Arj,Arj]at N O;have L:=Ar7 (c i a) (c _ (d _)) (c j b) (c _ (d _)) (Ue N);have M:=Ar7 (c j b) (c _ (d _)) (c i a) (c _ (d _)) (Ue O);rcases far i j a b u v s with g|g
 .unfold Hs at g;rw[L,M]at g;simp at g
 unfold Hs at g;rw[L,M]at g;simp at g
end Ears
section
namespace Ears
theorem Ax1{k:List P}(h:2<=k.length):∃m,k=gt k 0::(m++[gt k (k.length-1)]):=by
 match k,h with
 | w::x::k,_ =>
   let⟨m,u,e⟩:=Att (l:=x::k);refine⟨m,?_⟩;rw[Q3]
   have:gt (w::x::k) ((w::x::k).length-1)=u:=by
    rw[e];simp only[dP,bA,List.length_nil];rw[show m.length+(0+1)+1-1=m.length+1 by omega,Aqy,Aq1 (h:=aA),Nat.sub_self,Q3]
   rw[this,<-e]
theorem Avu{l:List P}(i:3<=l.length)(f:c<l.length):
 ∃m,l.drop c++l.take c=gt l c::gt l ((c+1) % l.length)::(m++[gt l ((c+l.length-1) % l.length)]) /\
  l.drop (c+1)++l.take c=gt l ((c+1) % l.length)::(m++[gt l ((c+l.length-1) % l.length)]):=by
 let⟨k,b⟩:∃k,k=l.drop (c+1)++l.take c:=⟨_,rfl⟩
 have a:k.length=l.length-1:=by rw[b,bA,dF,bC];omega
 have e:∀j,j<l.length-1->gt k j=gt l ((c+1+j) % l.length):=by
  intro j n;rw[b];by_cases g:j<l.length-(c+1)
  .rw[Aqz (by rw[dF];exact g),Agd,cC (by omega)]
  rw[Aq1 (h:=by rw[dF];omega),dF,rj (by omega)]
  congr 1
  rw[show c+1+j=(j-(l.length-(c+1)))+l.length by omega,Nat.add_mod_right,cC (by omega)]
 let⟨m,d⟩:=Ax1 (k:=k) (by omega);rw[e 0 (by omega),a,e (l.length-1-1) (by omega)]at d;rw[show c+1+0=c+1 by omega,show c+1+(l.length-1-1)=c+l.length-1 by omega]at d;refine⟨m,?_,?_⟩
 .have:l.drop c=gt l c::l.drop (c+1):=by
   rw[gH f]
   congr 1
   unfold gt;rw[List.getD_eq_getElem?_getD,aW f];rfl
  rw[this,cV,<-b,d]
 rw[<-b,d]
theorem Avx(l:List P)(i:Nat):l.eraseIdx i=l.take i++l.drop (i+1):=List.eraseIdx_eq_take_drop_succ l i
structure Good (l:List P):Prop where
 sim:Sim (l.map shr)
 lam:lam (l.map shr)=true
 len:3<=l.length
 near:∀q∈l,Du 1048576 q
theorem Avt(u b w q:P):InT (shr u) (shr b) (shr w) (shr q)↔InT u b w q:=by
 unfold InT;rw[Arj,Arj,Arj];omega
section
variable {l : List P} {i : Nat}
theorem As5(h:Good l)(hi:i<l.length):∃m,l.drop i++l.take i=gt l i::gt l ((i+1) % l.length)::(m++[gt l ((i+l.length-1) % l.length)]) /\
 l.drop (i+1)++l.take i=gt l ((i+1) % l.length)::(m++[gt l ((i+l.length-1) % l.length)]) /\
 Sim (shr (gt l i)::shr (gt l ((i+1) % l.length))::(m.map shr++[shr (gt l ((i+l.length-1) % l.length))])) /\
 Ears.lam (shr (gt l i)::shr (gt l ((i+1) % l.length))::(m.map shr++[shr (gt l ((i+l.length-1) % l.length))]))=true:=by
 obtain⟨m,h1,h2⟩:=Avu h.len hi;refine⟨m,h1,h2,?_⟩;have e:l.map shr=(l.take i).map shr++(l.drop i).map shr:=by rw[<-List.map_append,fD]
 have s:=h.sim;have la:=h.lam;rw[e] at s la;have s2:=s.rot;have l2:=Aq0 _ _ (by rw[<-e,List.length_map];exact h.len) s
 rw[la] at l2;rw[<-List.map_append,h1] at s2 l2;simp only[eV,List.map_append,fO] at s2 l2;exact⟨s2,l2.symm⟩
theorem Ass(h:Good l)(hi:i<l.length)(h4:4<=l.length){m:List P}(h2:l.drop (i+1)++l.take i=gt l ((i+1) % l.length)::(m++[gt l ((i+l.length-1) % l.length)]))
 (hs:Sim (shr (gt l ((i+1) % l.length))::(m.map shr++[shr (gt l ((i+l.length-1) % l.length))])))
 (hl:Ears.lam (shr (gt l ((i+1) % l.length))::(m.map shr++[shr (gt l ((i+l.length-1) % l.length))]))=true):Good (l.eraseIdx i):=by
 have len:(l.eraseIdx i).length=l.length-1:=by rw[List.length_eraseIdx,if_pos hi]
 have e:shr (gt l ((i+1) % l.length))::(m.map shr++[shr (gt l ((i+l.length-1) % l.length))])=(l.drop (i+1)).map shr++(l.take i).map shr:=by
  rw[<-List.map_append,h2];simp
 rw[e] at hs hl;have s2:=hs.rot;have l2:=Aq0 _ _ (by rw[<-List.map_append,List.length_map,bA,dF,bC];omega) hs
 rw[hl] at l2;have e2:(l.take i).map shr++(l.drop (i+1)).map shr=(l.eraseIdx i).map shr:=by rw[Avx,List.map_append]
 rw[e2] at s2 l2;exact⟨s2,l2.symm,by omega,fun q hq=>h.near q (List.mem_of_mem_eraseIdx hq)⟩
theorem Axc(h4:4<=l.length)(hi:i<l.length){m:List P}(h2:l.drop (i+1)++l.take i=gt l ((i+1) % l.length)::(m++[gt l ((i+l.length-1) % l.length)])):m.map shr≠[]:=by
 intro e;have:m=[]:=by simpa using e
 subst this;have:=eB List.length h2;rw[bA,dF,bC] at this;simp at this;omega
theorem Ato(h:Good l)(hi:i<l.length)(h4:4<=l.length)(hz:cr (gt l ((i+l.length-1) % l.length)) (gt l i) (gt l ((i+1) % l.length))=0):Good (l.eraseIdx i):=by
 obtain⟨m,h1,h2,s,la⟩:=As5 h hi;obtain⟨s',l'⟩:=Auk s (by rw[Arj,hz];rfl) (Axc h4 hi h2)
 exact Ass h hi h4 h2 s' (by rw[l',la])
theorem Auh(h:Good l)(hi:i<l.length)(h4:4<=l.length)(hp:0<cr (gt l ((i+l.length-1) % l.length)) (gt l i) (gt l ((i+1) % l.length)))
 (hf:∀q∈l,q≠gt l ((i+l.length-1) % l.length)->q≠gt l i->q≠gt l ((i+1) % l.length)->¬InT (gt l ((i+l.length-1) % l.length)) (gt l i) (gt l ((i+1) % l.length)) q):Good (l.eraseIdx i):=by
 obtain⟨m,h1,h2,s,la⟩:=As5 h hi;obtain⟨k1,k2,k3,k4,k5,k6,k7,k8⟩:=Aq4 s.nd
 obtain⟨s',l'⟩:=At7 s (by rw[Arj];omega) (fun r hr=>by
  obtain⟨q,hq,rfl⟩:=List.mem_map.1 hr;rw[Avt];refine hf q ?_ ?_ ?_ ?_
  ·have:q∈l.drop i++l.take i:=by rw[h1];simp[hq]
   rcases bD.1 this with g|g
   ·exact List.mem_of_mem_drop g
   ·exact eY g
  ·rintro rfl;exact k6 hr
  ·rintro rfl;exact k4 hr
  ·rintro rfl;exact k5 hr) (Axc h4 hi h2)
 exact Ass h hi h4 h2 s' (by rw[l',la])
theorem Ar8(h:Good l):∃i,i<l.length/\0<cr (gt l ((i+l.length-1) % l.length)) (gt l i) (gt l ((i+1) % l.length)) /\
 ∀q∈l,q≠gt l ((i+l.length-1) % l.length)->q≠gt l i->q≠gt l ((i+1) % l.length)->¬InT (gt l ((i+l.length-1) % l.length)) (gt l i) (gt l ((i+1) % l.length)) q:=by
 have h3:=h.len;obtain⟨x,y,hxy⟩:∃x y,(x,y)∈E (l.map shr):=⟨_,_,(Ayx (by rw[List.length_map];omega) _).2 ⟨0,by rw[List.length_map];omega,rfl⟩⟩
 obtain⟨u,b,w,⟨e1,e2,D,emp⟩,_⟩:=Ay5 _ (l.map shr) aA (by rw[List.length_map];exact h3) h.sim h.lam x y hxy
 obtain⟨b',hb',rfl⟩:=List.mem_map.1 (Arc e2).1;obtain⟨i,hi,rfl⟩:=Adu hb';obtain⟨m,h1,h2,s,la⟩:=As5 h hi;have e:l.map shr=(l.take i).map shr++(l.drop i).map shr:=by rw[<-List.map_append,fD]
 have er:(l.drop i).map shr++(l.take i).map shr=shr (gt l i)::shr (gt l ((i+1) % l.length))::(m.map shr++[shr (gt l ((i+l.length-1) % l.length))]):=by
  rw[<-List.map_append,h1];simp
 rw[e] at e1 e2;have f1:=Aqt e1;have f2:=Aqt e2;rw[er] at f1 f2;have gu:=(Aq3 s.nd).2 f1;have gw:=(Aq3 s.nd).1 f2;subst gu;subst gw;refine⟨i,hi,by rw[Arj] at D;omega,fun q hq n1 n2 n3 hT=>?_⟩
 have near:∀j,j<l.length->Du 1048576 (gt l j):=fun j hj=>h.near _ (fo hj)
 have inj:∀j,j<l.length->q≠gt l j->shr q≠shr (gt l j):=fun j hj hne e=>hne (Auc (h.near q hq) (near j hj) (by rw[e]))
 exact emp (shr q) (List.mem_map.2 ⟨q,hq,rfl⟩) (inj _ (bE _ (by omega)) n1) (inj _ hi n2) (inj _ (bE _ (by omega)) n3) ((Avt _ _ _ _).2 hT)
end
theorem Awu{a b c:P}(h:Good [a,b,c]):0<cr a b c:=by
 have:=Ay9 h.sim h.lam;rw[Arj]at this;omega
theorem Asg{a b c q:P}(e:Du 1048576 a)(f:Du 1048576 b)(g:Du 1048576 c)(hq:Du 1048576 q)(D:0<cr a b c):Hz a b c q<0↔¬InT a b c q:=by
 have d:∀{p:P},Du 1048576 p->Cc 1048576 p=false:=by
  intro p i;unfold Du at i;unfold Cc;simp;omega
 have h:Bs a b c=cr a b c:=Jt e f g;rw[fk (by rw[d hq,d e,d f,d g];rfl) (by rw[h];omega) (by rw[h];omega),Jt e f hq,Jt f g hq,Jt g e hq]
 show yq (Adt (cr a b q) (cr b c q) (cr c a q))<0↔_
 unfold InT yq Adt;generalize cr a b q=x;generalize cr b c q=y;generalize cr c a q=z
 repeat' split<;>omega
theorem Asb{l:List P}(h:Good l)(e:c<l.length):Gp l l.length c=true↔0<cr (gt l ((c+l.length-1) % l.length)) (gt l c) (gt l ((c+1) % l.length)) /\
 ∀q∈l,q≠gt l ((c+l.length-1) % l.length)->q≠gt l c->q≠gt l ((c+1) % l.length)->¬InT (gt l ((c+l.length-1) % l.length)) (gt l c) (gt l ((c+1) % l.length)) q:=by
 have a:∀j,j<l.length->Du 1048576 (gt l j):=λj b=>h.near _ (fo b)
 have f:(c+1) % l.length<l.length:=bE _ (by omega);have i:(c+l.length-1) % l.length<l.length:=bE _ (by omega);unfold Gp;rw[Bool.and_eq_true,decide_eq_true_eq,Jt (a _ i) (a _ e) (a _ f),Arz,Ix.iff];constructor
 .rintro⟨D,d⟩;refine⟨D,λq hq o p r=>?_⟩;obtain⟨j,b,rfl⟩:=Adu hq;have:=d j b;unfold frW at this;simp only[Bool.or_eq_true,Ge,decide_eq_true_eq]at this;rcases this with ((g|g)|g)|g
  .exact absurd g o
  .exact absurd g p
  .exact absurd g r
  exact(Asg (a _ i) (a _ e) (a _ f) (a _ b) D).1 g
 rintro⟨D,d⟩;refine⟨D,λj b=>?_⟩;unfold frW;simp only[Bool.or_eq_true,Ge,decide_eq_true_eq];by_cases k:gt l j=gt l ((c+l.length-1) % l.length)
 .exact .inl (.inl (.inl k))
 by_cases m:gt l j=gt l c
 .exact .inl (.inl (.inr m))
 by_cases n:gt l j=gt l ((c+1) % l.length)
 .exact .inl (.inr n)
 exact .inr ((Asg (a _ i) (a _ e) (a _ f) (a _ b) D).2 (d _ (fo b) k m n))
theorem Arw{f:Nat->Bool}(h:Db f c=(n:Int)):n<c/\f n=true:=by
 unfold Db at h;cases hf:(List.range c).find? f with
 | none=>rw[hf]at h;simp only at h;omega
 | some i =>
   rw[hf]at h;simp only at h;have:i=n:=aK
   subst this;exact⟨by simpa using gF hf,List.find?_some hf⟩
def Ayv(l t:List P):Prop:=∃a b c,t=[a,b,c]/\0<cr a b c/\a∈l/\b∈l/\c∈l
theorem Asl:∀(f:Nat) (d:List P) (o:List (List P)) (l:List P),Good d->d.length<=f+3->(∀q∈d,q∈l)->(∀t∈o,Ayv l t)->∃r,De f d o=some r/\(∀t∈r,Ayv l t)/\o.length<r.length
 | f,d,o,l,h,hf,hsub,hts=>by
   by_cases u:d.length<=3
   .rw[Qq u];refine⟨_,rfl,λt v=>?_,by simp⟩;rcases bD.1 v with g|g
    .exact hts t g
    simp at g;subst g;have z:=h.len
    match t,u,z with
    | [a,b,c],_,_=>exact⟨a,b,c,rfl,Awu h,hsub a (by simp),hsub b (by simp),hsub c (by simp)⟩
   cases f with
   | zero=>omega
   | succ f =>
     have e:∀j,j<d.length->Du 1048576 (gt d j):=λj y=>h.near _ (fo y)
     have m:∀i,∀q∈d.eraseIdx i,q∈l:=λi q hq=>hsub q (List.mem_of_mem_eraseIdx hq)
     rcases Ik (Tl d d.length) d.length with g|⟨k,n,g⟩
     .rcases Ik (Gp d d.length) d.length with s|⟨k,n,s⟩
      .exfalso;let⟨i,x,p⟩:=Ar8 h;have:=Hy (Gp d d.length) d.length;rw[Bp.yes x ((Asb h x).2 p),s]at this;simp at this
      rw[Qr rfl (h:=u) (by rw[g];omega) s];have p:=(Asb h n).1 (Arw s).2;have len:(d.eraseIdx k).length=d.length-1:=by rw[List.length_eraseIdx,if_pos n]
      let⟨r,A,B,C⟩:=Asl f (d.eraseIdx k) (o++[Ac6 d d.length k]) l (Auh h n (by omega) p.1 p.2) (by omega) (m k) (λt v=>by
       rcases bD.1 v with q|q
       .exact hts t q
       simp at q;subst q;exact⟨_,_,_,rfl,p.1,hsub _ (fo (bE _ (by omega))),hsub _ (fo n),hsub _ (fo (bE _ (by omega)))⟩)
      exact⟨r,A,B,by simp at C;omega⟩
     rw[Qp rfl (h:=u) g];have w:=(Arw g).2;unfold Tl at w;rw[Jt (e _ (bE _ (by omega))) (e _ n) (e _ (bE _ (by omega))),Arz,beq_iff_eq]at w;have len:(d.eraseIdx k).length=d.length-1:=by rw[List.length_eraseIdx,if_pos n]
     exact Asl f (d.eraseIdx k) o l (Ato h n (by omega) w) (by omega) (m k) hts
end Ears
end
def xh(n:Int):Int:=if n<1\/n > 1048576 then 0 else n
def Adv(n:Int):Int:=min (max n (-1048576)) 1048576
def Aji(n p:Int):Int:=if p=0 then 0 else (wrap64 (n.tmod p+p)).tmod p
def Afq(p a b:Int):Int:=wrap64 (a+Aji (wrap64 (b-a)) p)
theorem Qz:Calls prog 337 #[b] w λe a=>e=.returned (xh b)/\a=w:=by
 go_enter func337,ntmps337;go_wp2;all_goals go_ret
 all_goals exact⟨Bm (by unfold xh;split<;>omega),rfl⟩
theorem Fw:Calls prog 267 #[b] w λe a=>e=.returned (Adv b)/\a=w:=by
 go_enter func267,ntmps267;go_wp2;all_goals go_ret
 all_goals exact⟨Bm (by unfold Adv;omega),rfl⟩
theorem Md:Calls prog 278 #[b,h] w λe c=>e=.returned (Aji b h)/\c=w:=by
 by_cases a:h=0
 .subst a;go_in;go_wp2;go_ret;exact⟨Bm rfl,rfl⟩
 have hq:(h == 0)=false:=by simpa using a
 go_in;go_wp2;go_ret;exact⟨Bm (by unfold Aji;rw[if_neg a]),rfl⟩
theorem Yr:Calls prog 266 #[b,h,j] w λe a=>e=.returned (Afq b h j)/\a=w:=by
 go_in
 go_wp2_with (go_at_call 278;refine aH (Md) ?_)
 go_ret;exact⟨Bm rfl,rfl⟩
theorem Tq:Calls prog 265 #[.agg #[x,b]] w (Bz w (.agg #[(xh x),(xh b)])):=by
 go_in;go_wp2;refine Ck 7 ?_;simp only[List.take_succ_cons,List.take_zero,List.drop_succ_cons,List.drop_zero]
 repeat still_step
 still_call (Qz)
 repeat still_step
 still_call (Qz)
 repeat still_step
 refine wpStill_nil ?_;go_wp2;exact bR ⟨rfl,Aw (Ao blA)⟩ rfl (by simp[results,results265,go_sem])
def Ot(rx a x y:Int):Int×Int:=(Aji (Adv x) (xh rx),Aji (Adv y) (xh a))
def J9(rx e a b d c:Int):Int×Int:=(Afq (xh rx) (Adv a) (Adv d),Afq (xh e) (Adv b) (Adv c))
theorem oj{rx x:Int}:Calls prog 213 #[.agg #[rx,b],.agg #[x,h]] w (Bz w (.agg #[(Ot rx b x h).1,(Ot rx b x h).2])):=by
 go_enter func213,ntmps213;have k:Bf (((w.alloc (.cells #[rx,b] 31)).alloc (.cells #[x,h] 65)).alloc (.cells #[.int .i64 0,.int .i64 0] 65)) w 31 #[rx,b]:=((Bf.new _ _ _).alloc _).alloc _;have l:Bf (((w.alloc (.cells #[rx,b] 31)).alloc (.cells #[x,h] 65)).alloc (.cells #[.int .i64 0,.int .i64 0] 65)) (w+1) 65 #[x,h]:=(Bf.new2 _ _ _ _).alloc _;have m:Bf (((w.alloc (.cells #[rx,b] 31)).alloc (.cells #[x,h] 65)).alloc (.cells #[.int .i64 0,.int .i64 0] 65)) (w+1+1) 65 #[.int .i64 0,.int .i64 0]:=Bf.new3 _ _ _ _ _;have n:=Ar k;have o:=Ar l;have p:=Ar m;clear k l m
 go_wp2_with (go_at_call 265;refine rR (Tq) λE a=>?_;have c:=n.out.keep a;have g:=o.out.keep a;have d:=p.out.keep a;have q:=c.cell 0;have s:=c.cell 1;have y:=c.frozen 0;have z:=c.frozen 1;have t:=g.cell 0;have u:=g.cell 1;have i:=d.cell 0;have j:=d.cell 1;have A:=d.frozen 0;have r:=d.frozen 1;have B:=c.lt;have C:=g.lt;have D:=d.lt;simp only[cA,bS,cE]at q s t u i j)
 refine Ck 13 ?_;simp only[List.take_succ_cons,List.take_zero,List.drop_succ_cons,List.drop_zero]
 repeat still_step
 still_call (Fw)
 repeat still_step
 still_call (Md)
 repeat still_step
 still_call (Fw)
 repeat still_step
 still_call (Md)
 repeat still_step
 refine wpStill_nil ?_;go_wp2_with fail;exact bR ⟨rfl,by have f:=An (Ao (Ao (Ao (aV _ _)))) a;(repeat first|exact f|refine Aw ?_|refine Ba ?_ (by dsimp only;omega))⟩ rfl (by simp[results,results213,go_sem,i,j,Ot])
def Ae7(rx a b c e d:Int):Bool:=eqS (Ot rx a b c) (Ot rx a e d)
theorem yu{rx d:Int}:Calls prog 152 #[.agg #[rx,b],.agg #[h,j],.agg #[k,d]] w (Bz w (.bool (Ae7 rx b h j k d))):=by
 have f:=Ea;go_enter func152,ntmps152;go_wp2_with fail;refine Bh w [(⟨w,0,none⟩,rx),(⟨w,1,none⟩,b),(⟨w+1,0,none⟩,h),(⟨w+1,1,none⟩,j),(⟨w+1+1,0,none⟩,k),(⟨w+1+1,1,none⟩,d)] ⟨(Ao (Ao (Ao (aV _ _)))),aR⟩ ?_
 repeat
  apply Cx
  .rfl
  .intro i c;have g:=c.2;simp only[AC]at g
   go_simp
   first|rfl|exact Bw c (oj)
  go_simp
 refine cH ?_;intro i a;have e:=a.1;clear a;go_wp2;go_ret;exact⟨rfl,e⟩
theorem ke{rx x:Int}:Calls prog 209 #[.agg #[rx,b],.agg #[x,h],.agg #[j,k]] w (Bz w (.agg #[(J9 rx b x h j k).1,(J9 rx b x h j k).2])):=by
 go_enter func209,ntmps209;let⟨d,a⟩:∃d,d=((((w.alloc (.cells #[rx,b] 31)).alloc (.cells #[x,h] 65)).alloc (.cells #[j,k] 65)).alloc (.cells #[.int .i64 0,.int .i64 0] 65)):=⟨_,rfl⟩
 have p:Bf d w 31 #[rx,b]:=by rw[a];exact(((Bf.new _ _ _).alloc _).alloc _).alloc _
 have q:Bf d (w+1) 65 #[x,h]:=by rw[a];exact((Bf.new2 _ _ _ _).alloc _).alloc _
 have r:Bf d (w+1+1) 65 #[j,k]:=by rw[a];exact(Bf.new3 _ _ _ _ _).alloc _
 have s:Bf d (w+1+1+1) 65 #[.int .i64 0,.int .i64 0]:=by
  rw[a];have:=Bf.new (((w.alloc (.cells #[rx,b] 31)).alloc (.cells #[x,h] 65)).alloc (.cells #[j,k] 65)) 65 #[.int .i64 0,.int .i64 0];simpa using this
 subst a;have t:=Ar p;have u:=Ar q;have y:=Ar r;have z:=Ar s;clear p q r s
 go_wp2_with (go_at_call 265;refine rR (Tq) λO c=>?_;have f:=t.out.keep c;have l:=u.out.keep c;have m:=y.out.keep c;have g:=z.out.keep c;have A:=f.cell 0;have C:=f.cell 1;have H:=f.frozen 0;have I:=f.frozen 1;have D:=l.cell 0;have E:=l.cell 1;have F:=m.cell 0;have G:=m.cell 1;have n:=g.cell 0;have o:=g.cell 1;have J:=g.frozen 0;have B:=g.frozen 1;have K:=f.lt;have L:=l.lt;have M:=m.lt;have N:=g.lt;simp only[cA,bS,cE]at A C D E F G n o)
 refine Ck 19 ?_;simp only[List.take_succ_cons,List.take_zero,List.drop_succ_cons,List.drop_zero]
 repeat still_step
 still_call (Fw)
 repeat still_step
 still_call (Fw)
 repeat still_step
 still_call (Yr)
 repeat still_step
 still_call (Fw)
 repeat still_step
 still_call (Fw)
 repeat still_step
 still_call (Yr)
 repeat still_step
 refine wpStill_nil ?_;go_wp2_with fail;exact bR ⟨rfl,by have i:=An (Ao (Ao (Ao (Ao (aV _ _))))) c;(repeat first|exact i|refine Aw ?_|refine Ba ?_ (by dsimp only;omega))⟩ rfl (by simp[results,results209,go_sem,n,o,J9])
theorem xz(n p:Int)(a:0<p):(n.tmod p+p) % p=n % p:=by
 have h:=Int.tmod_add_mul_tdiv n p;have e:n % p=(n.tmod p+p*n.tdiv p) % p:=by rw[h]
 rw[e,Int.add_mul_emod_self_left,Int.add_emod_right]
theorem xw(n p:Int)(a:0<p): -p<n.tmod p/\n.tmod p<p:=by
 have c:=Int.tmod_lt_of_pos n a;have b:=Int.tmod_lt_of_pos (-n) a;rw[Int.neg_tmod]at b;omega
theorem Avm(a:0<h)(c:h<=1048576):Aji b h=b % h:=by
 unfold Aji;let⟨d,e⟩:=xw b h a;rw[if_neg aK,show wrap64 (b.tmod h+h)=b.tmod h+h by unfold wrap64;omega,eO aK,xz b h a]
def phR(a n:Int):Int:=if xh a=0 then 0 else if (Adv n).tmod a<0 then (Adv n).tmod a+a else (Adv n).tmod a
theorem Atl(r:Int):xh r=0\/(xh r=r/\0<r/\r<=1048576):=by
 unfold xh;split
 .exact .inl rfl
 right;omega
theorem Axs(r n:Int):phR r n=Aji (Adv n) (xh r):=by
 rcases Atl r with h|⟨h,a,b⟩
 .unfold phR Aji;rw[h,if_pos rfl,if_pos rfl]
 rw[h,Avm a b];unfold phR;rw[h,if_neg aK];let⟨c,d⟩:=xw (Adv n) r a;have e:=xz (Adv n) r a;rw[<-e];split
 .rw[Int.emod_eq_of_lt aK aK]
 rw[Int.add_emod_right,Int.emod_eq_of_lt aK aK]
theorem An8(n:Int):bits .and .i64 n 3=n % 4:=by
 have b:(BitVec.ofInt 64 3).toNat=2 ^ 2-1:=aM
 have a:(BitVec.ofInt 64 n &&& BitVec.ofInt 64 3).toNat=(n % ((2 ^ 64:Nat):Int)).toNat % 2 ^ 2:=by
  rw[BitVec.toNat_and,BitVec.toNat_ofInt,b,Nat.and_two_pow_sub_one_eq_mod]
 show IntKind.i64.wrap ((BitVec.ofInt 64 n &&& BitVec.ofInt 64 3).toNat:Nat)=n % 4
 rw[a,bH];omega
theorem jg:Calls prog 151 #[.agg #[.bool i,b]] w (Bz w (.agg #[.bool i,(b % 4:Int)])):=by
 have a:=An8 b;go_enter func151,ntmps151;go_wp2;exact bR ⟨rfl,Ao blA⟩ rfl (by simp[results,results151,go_sem])
def Aov(p:Int×Int):Int×Int:=(wrap64 (-p.2),p.1)
def Tc:Nat->Int×Int->Int×Int
 | 0,p=>p
 | k+1,p=>Aov (Tc k p)
def Am2(f:Bool)(p:Int×Int):Int×Int:=if f then (wrap64 (-p.1),p.2) else p
def Cd(f:Bool)(q:Int)(p:Int×Int):Int×Int:=Tc (q % 4).toNat (Am2 f p)
theorem G8{f:Bool}{q x y:Int}:Calls prog 55 #[.agg #[.bool f,q],.agg #[x,y]] w (Bz w (.agg #[(Cd f q (x,y)).1,(Cd f q (x,y)).2])):=by
 let⟨m,r,s,c⟩:∃m:Nat,bits .and .i64 q 3=(m:Int)/\m<=3/\Hid ((q % 4).toNat=m):=⟨(q % 4).toNat,by rw[An8];omega,aK,rfl⟩
 let⟨b,a⟩:=gN (Am2 f (x,y))
 have h:=Ar (show Cd f q (x,y)=Tc m b by unfold Cd;rw[c.out,a]);have j:=Ar a;clear a c;cases f
 all_goals
  go_enter func55,ntmps55;go_wp2;go_loopw [14] (λi wr=>∃k:Nat,k<=m/\i=k/\Bf wr (w+1) 65 #[(Tc k b).1,(Tc k b).2]/\Bf wr (w+1+1) 65 #[.int .i64 0,.int .i64 0]/\Be w wr) λi _=>m-(intOf i).toNat
  case atStart=>exact⟨0,aB,rfl,by rw[<-j.out];exact(Bf.new2 _ _ _ _).alloc _,Bf.new3 _ _ _ _ _,Ao (Ao blA)⟩
  clear r;obtain⟨k,D,rfl,d,e,g⟩:=hrel;let⟨t,u,z,A,E⟩:=d.pair;let⟨l,n,B,C,F⟩:=e.pair;by_cases o:k<m
  .go_wp2_with fail
   exact aE ⟨(d.set_ 0 _).set_ 1 _,(e.far (p:=⟨w+1,0,none⟩) aL _).far (p:=⟨w+1,1,none⟩) aL _,Ba (Ba g (p:=⟨w+1,0,none⟩) aL) (p:=⟨w+1,1,none⟩) aL⟩
  obtain rfl:m=k:=aK
  go_wp2_with fail;refine cB (v:=.agg #[(Tc m b).1,(Tc m b).2]) (by simp[results,results55,go_sem,l,n]) rfl ⟨by rw[h.out],Ba (Ba g (p:=⟨w+1+1,0,none⟩) aO) (p:=⟨w+1+1,1,none⟩) aO⟩
def Acf(g:Int)(m f:Bool)(q:Int):Bool:=(f == m)&&(if g == 1 then q % 4 == 0 else if g == 2 then (q % 4 == 0 || q % 4 == 2) else g == 4)
theorem It{f:Bool}:Calls prog 101 #[b,.bool i,.agg #[.bool f,h]] w (Bz w (.bool (Acf b i f h))):=by
 have j:=Ar (Bf.new w 64 #[.bool f,h]);go_enter func101,ntmps101
 go_wp2_with (go_at_call 151;refine rR (jg) λn a=>?_;have c:=j.out.keep a;have d:=c.cell 0;have g:=c.cell 1;have k:=c.frozen 0;have l:=c.frozen 1;have m:=c.lt;simp only[cA,bS,cE]at d g)
 all_goals go_ret
 all_goals refine⟨Bn ?_,Ba (Ba (An blA a) (p:=⟨w,0,none⟩) aL) (p:=⟨w,1,none⟩) aL⟩
 all_goals clear a c d g k l m j
 all_goals (unfold Acf;simp_all)
abbrev Trn:=Bool×Int
def enT(p:Trn):List Value:=[.bool p.1,p.2]
theorem Wu(p:Trn):(enT p).length=2:=rfl
theorem Agq(p:Trn):∀u∈enT p,u.oneCell'=true:=by
 intro u a;simp[enT]at a;rcases a with rfl|rfl<;>rfl
theorem Amx:(prog.info? 64).map (λi=>(i.zero,i.size,i.bytes))=some (some (.agg #[.bool false,.int .i64 0]),2,16):=aN
def Ko(g:Int)(m:Bool):Nat->List Trn
 | 0=>[]
 | k+1=>Ko g m k++(if Acf g m m (k:Int) then [(m,(k:Int))] else [])
def vp(g:Int)(m:Bool):List Trn:=Ko g m 4
theorem Px(g:Int)(m:Bool)(k:Nat):(Ko g m k).length<=k:=by
 induction k with
 | zero=>exact aA
 | succ k ih=>rw[Ko,bA];split<;>simp<;>omega
theorem Ag7:Calls prog 95 #[b,.bool i] w λe p=>∃v,e=.returned v/\OwG 64 2 enT p w v (vp b i)/\Be w p:=by
 go_enter func95,ntmps95;go_wp2;go_loopw [5,8] (λv l wr=>∃k:Nat,k<=4/\l=k/\OwG 64 2 enT wr w v (Ko b i k)/\Be w wr) λ_ l _=>4-(intOf l).toNat
 case atStart=>exact⟨0,aB,rfl,OwG.nil,bl0⟩
 obtain⟨k,y,rfl,f,d⟩:=hrel;by_cases x:k<4
 .have n:(k:Int)<4:=aK
  have t:=Ar (Bf.new wr 64 #[.bool i,(k:Int)]);by_cases c:Acf b i i (k:Int)=true
  .have g:=Ar (show Ko b i (k+1)=Ko b i k++[(i,(k:Int))] by rw[Ko,if_pos c])
   go_wp2_with (first|(go_at_call 101;refine rR (It) λq a=>?_;have o:=t.out.keep a;have r:=o.cell 0;have s:=o.cell 1;simp only[cA,bS,cE]at r s)|(at_builtin;refine Co 155 rfl enT w 64 (.agg #[.bool false,.int .i64 0]) 2 16 underlying155 Amx Wu Agq (Ko b i k) (((f.alloc _).keep a).alloc _) q 1 (i,(k:Int)) 64 (Bf.new _ _ _) (hlen:=by have:=Px b i k;unfold maxLen;omega) (hbytes:=by have:=Px b i k;omega) (Ao (An (Ao d) a)).size ?_;intro z A j h m))
   exact aE ⟨by rw[g.out];exact j,Bk (Ao (An (Ao d) a)) (((f.alloc _).keep a).alloc _) h⟩
  have u:Acf b i i (k:Int)=false:=by simpa using c
  have g:=Ar (show Ko b i (k+1)=Ko b i k by rw[Ko,if_neg c,eM]);clear c
  go_wp2_with (go_at_call 101;refine rR (It) λq a=>?_)
  exact aE ⟨by rw[g.out];exact(f.alloc _).keep a,An (Ao d) a⟩
 obtain rfl:k=4:=aK
 go_wp2;go_ret;exact⟨_,rfl,f,d⟩
def F6(f:Bool)(q:Int)(l:LP):LP:=if f then (l.map (Cd f q)).reverse else l.map (Cd f q)
theorem E8(f:Bool)(q:Int)(l:LP):(F6 f q l).length=l.length:=by unfold F6;split<;>simp
theorem Ake(a:c<g.length):gt g.reverse c=gt g (g.length-1-c):=by
 unfold gt;rw[List.getD,iM a];rfl
theorem Xt(a:c<g.length):gt (F6 i b g) c=Cd i b (gt g (if i then g.length-1-c else c)):=by
 unfold F6;cases i
 .simp only[Bool.false_eq_true,if_false];exact Ad6 a
 simp only[if_true];rw[Ake (by simpa using a),List.length_map,Ad6 aK]
theorem Ti(f:Bool)(q:Int)(A:Option Addr)(x n:Nat)(l:LP)(S:n<=1000000)(u:SpS w A n l):Calls prog 41 #[.agg #[.bool f,q],.slice A n x] w (Vi w (F6 f q l)):=by
 let⟨Z,C,H⟩:=Ht n S;go_enter func41,ntmps41;go_wp2;go_loopw [13] (λi wr=>∃(k:Nat) (z:LP),k<=n/\i=k/\z.length=n/\(∀p,p<k->gt z (if f then n-1-p else p)=Cd f q (gt l p))/\Bf wr w 64 #[.bool f,q]/\OwS wr (w+1) (.slice (some ⟨w+1,0,none⟩) n n) z/\Be w wr) λi _=>n-(intOf i).toNat
 case atStart=>exact⟨0,_,aB,rfl,List.length_replicate,λp m=>absurd m (Nat.not_lt_zero _),(Bf.new _ _ _).alloc _,by have:=H (w.alloc (.cells #[.bool f,q] 64));simpa using this,Ao blA⟩
 clear C H;obtain⟨k,z,X,rfl,g,m,G,D,t⟩:=hrel;by_cases j:k<n
 .obtain⟨b,T,rfl,O,I⟩:=(u.keep t).at_ j;let⟨W,s⟩:=I k j;clear I;have o:Bf (wr.alloc (.cells #[(gt l k).1,(gt l k).2] 65)) w 64 #[.bool f,q]:=G.alloc _;obtain⟨U,V,-,-,N⟩:=G.pair;have F:=Ar m;clear m;have r:=Ar (OwG.alloc D (.cells #[(gt l k).1,(gt l k).2] 65));have Q:w.heap.size+1<wr.heap.size:=Bi (D.cells g j).1;cases f with
  | true =>
    let⟨i,B,c⟩:∃i:Nat,n-1-k=i/\i<n:=⟨_,rfl,aK⟩
    have R:(n:Int)-1-(k:Int)=(i:Int):=aK
    have J:=Ar B;clear B
    go_wp2_with (go_at_call 55;refine rR (G8) λE a=>?_;have d:=OwG.keep r.out a;let⟨v,K,L,M⟩:=OwS.cells d g c;have y:w.heap.size+1<E.heap.size:=Bi v)
    refine⟨⟨k+1,z.set i (Cd true q ((gt l k).1,(gt l k).2)),aK,aP,by rw[cD];exact g,λp h=>?_,((o.keep a).far (p:=⟨w+1,i*2,none⟩) (eL (Nat.lt_succ_self _)) _).far (p:=⟨w+1,i*2+1,none⟩) (eL (Nat.lt_succ_self _)) _,OwS.store d g c _ _,Ba (Ba (An (Ao t) a) (p:=⟨w+1,i*2,none⟩) (dU _)) (p:=⟨w+1,i*2+1,none⟩) (dU _)⟩,aI⟩;rw[Lg (by rw[g];exact c)];have B:=J.out
    try simp only[if_true,if_false,Bool.false_eq_true]
    by_cases s:k=p
    .subst s;rw[if_pos aK]
    rw[if_neg aK];have:=F.out p aK;simpa using this
  | false =>
    have c:=j
    go_wp2_with (go_at_call 55;refine rR (G8) λE a=>?_;have d:=OwG.keep r.out a;let⟨v,K,L,M⟩:=OwS.cells d g c;have y:w.heap.size+1<E.heap.size:=Bi v)
    refine⟨⟨k+1,z.set k (Cd false q ((gt l k).1,(gt l k).2)),aK,aP,by rw[cD];exact g,λp h=>?_,((o.keep a).far (p:=⟨w+1,k*2,none⟩) (eL (Nat.lt_succ_self _)) _).far (p:=⟨w+1,k*2+1,none⟩) (eL (Nat.lt_succ_self _)) _,OwS.store d g c _ _,Ba (Ba (An (Ao t) a) (p:=⟨w+1,k*2,none⟩) (dU _)) (p:=⟨w+1,k*2+1,none⟩) (dU _)⟩,aI⟩;rw[Lg (by rw[g];exact c)]
    skip
    try simp only[if_true,if_false,Bool.false_eq_true]
    by_cases s:k=p
    .subst s;rw[if_pos aK]
    rw[if_neg aK];have:=F.out p aK;simpa using this
 obtain rfl:n=k:=aK
 go_wp2;go_ret;refine⟨_,rfl,?_,t⟩
 have P:F6 f q l=z:=Gn (by rw[E8,u.1,g]) (λp h=>by
  rw[E8]at h;rw[Xt h,u.1];rw[u.1]at h;cases f
  .have:=m p h;simp only[Bool.false_eq_true,if_false]at this ⊢;exact this.symm
  have:=m (n-1-p) aK;simp only[if_true]at this ⊢;rw[<-this];congr 1;omega)
 rw[P];exact D.lower (dU _)
theorem As2:Calls prog 302 #[b] w λe a=>e=.returned (xh b)/\a=w:=by
 go_enter func302,ntmps302;go_wp2;all_goals go_ret
 all_goals exact⟨Bm (by unfold xh;first|rw[if_pos aK]|rw[if_neg aK]),rfl⟩
theorem Aud:Calls prog 303 #[b] w λe a=>e=.returned (Adv b)/\a=w:=by
 go_enter func303,ntmps303;go_wp2;all_goals go_ret
 all_goals exact⟨Bm (by unfold Adv;omega),rfl⟩
theorem Atv(r n:Int)(w:World):Calls prog 237 #[r,n] w λe p=>e=.returned (phR r n)/\p=w:=by
 by_cases a:xh r=0
 .have i:=bF a;clear a;go_enter func237,ntmps237
  go_wp2_with (go_at_call 302;refine aH (As2) ?_;rw[i.out])
  go_ret;exact⟨Bm (by unfold phR;rw[if_pos i.out]),rfl⟩
 have hq:(xh r == 0)=false:=by simpa using a
 obtain⟨-,d,j⟩:xh r=r/\0<r/\r<=1048576:=by
  rcases Atl r with h|h
  .exact absurd h a
  exact h
 have s:¬r=0:=aK
 have c:=xw (Adv n) r d;have b:=bF (show phR r n=if (Adv n).tmod r<0 then (Adv n).tmod r+r else (Adv n).tmod r by unfold phR;rw[if_neg a]);let⟨L,f⟩:=gN (Adv n)
 have g:=bF f;rw[f]at c b;let⟨t,m⟩:=gN (L.tmod r)
 rw[m]at c b;clear f;by_cases l:t<0
 .have u:IntKind.i64.wrap (t+r)=t+r:=Fm _ aK aK;have o:IntKind.i64.wrap t=t:=Fm _ aK aK;clear c d j a;go_enter func237,ntmps237
  go_wp2_with (first
   | (go_at_call 303;refine aH (Aud) ?_;rw[g.out])
   | (go_at_call 302;refine aH (As2) ?_))
  go_ret;exact⟨Bm (by rw[b.out,if_pos l]),rfl⟩
 have o:IntKind.i64.wrap t=t:=Fm _ aK aK;clear c d j a;go_enter func237,ntmps237
 go_wp2_with (first
  | (go_at_call 303;refine aH (Aud) ?_;rw[g.out])
  | (go_at_call 302;refine aH (As2) ?_))
 go_ret;exact⟨Bm (by rw[b.out,if_neg aK]),rfl⟩
theorem Asn:Calls prog 237 #[b,h] w λe a=>e=.returned (Aji (Adv h) (xh b))/\a=w:=by
 rw[<-Axs];exact Atv b h w
theorem Auv{rx x:Int}:Calls prog 180 #[.agg #[rx,b],.agg #[x,h]] w λe a=>e=.returned (.agg #[(Ot rx b x h).1,(Ot rx b x h).2])/\Below w w a:=by
 go_enter func180,ntmps180;go_wp2_with fail;refine Ck 11 ?_;simp only[List.take_succ_cons,List.take_zero,List.drop_succ_cons,List.drop_zero]
 repeat still_step
 still_call (Asn)
 repeat still_step
 still_call (Asn)
 repeat still_step
 refine wpStill_nil ?_;go_wp2_with fail;exact bR ⟨rfl,by (repeat first|exact(Ao (Ao (Ao (aV _ _))))|refine Aw ?_|refine Ba ?_ (by dsimp only;omega))⟩ rfl (by simp[results,results180,go_sem,Ot])
theorem Avg{rx d:Int}:Calls prog 124 #[.agg #[rx,b],.agg #[h,j],.agg #[k,d]] w λe l=>e=.returned (.bool (Ae7 rx b h j k d))/\Below w w l:=by
 have g:=Ea;go_enter func124,ntmps124;go_wp2_with fail;refine Bh w [(⟨w,0,none⟩,rx),(⟨w,1,none⟩,b),(⟨w+1,0,none⟩,h),(⟨w+1,1,none⟩,j),(⟨w+1+1,0,none⟩,k),(⟨w+1+1,1,none⟩,d)] ⟨(Ao (Ao (Ao (aV _ _)))),aR⟩ ?_
 repeat
  apply Cx
  .rfl
  .intro m c;have i:=c.2;simp only[AC]at i
   go_simp
   first|rfl|exact Bw c (Auv)
  go_simp
 refine cH ?_;intro m a;have f:=a.1;clear a;go_wp2;go_ret;exact⟨rfl,f⟩
structure Shp where
 poly:LP
 grain:Int
 mat:Bool
 anc:Int×Int
structure Pt5 where
 sh:Int
 fl:Bool
 qu:Int
 x:Int
 y:Int
deriving DecidableEq
def shp(S:List Shp)(k:Nat):Shp:=S.getD k ⟨[],0,false,(0,0)⟩
def pt(a:List Pt5)(k:Nat):Pt5:=a.getD k ⟨0,false,0,0,0⟩
def L7(p:Pt5):Value:=.agg #[p.sh,.bool p.fl,p.qu,p.x,p.y]
def enP(p:Pt5):List Value:=[p.sh,.bool p.fl,p.qu,p.x,p.y]
theorem Kl(p:Pt5):(enP p).length=5:=rfl
theorem tg(p:Pt5):∀u∈enP p,u.oneCell'=true:=by
 intro u a;simp[enP]at a;rcases a with rfl|rfl|rfl|rfl|rfl<;>rfl
def Alp(w:World)(b o:Nat)(s:Shp):Prop :=
 ∃c a,Cq w b o (.slice c s.poly.length a)/\s.poly.length<=a/\a<=9223372036854775807/\SpS w c s.poly.length s.poly/\(c=none->a=0) /\
  Cq w b (o+1) s.grain/\Cq w b (o+2) (.bool s.mat)/\Cq w b (o+3) s.anc.1/\Cq w b (o+4) s.anc.2
def ShS(w:World)(A:Option Addr)(n:Nat)(S:List Shp):Prop:=S.length=n/\n<=100000000000000/\(n=0\/∃b a,A=some ⟨b,a,none⟩/\∀k,k<n->Alp w b (a+k*5) (shp S k))
theorem Alp.keep{s:Shp}(h:Alp w c n s)(b:Be w a):Alp a c n s:=by
 obtain⟨d,e,f,g,i,j,k,l,m,o,p⟩:=h;exact⟨d,e,Aq b f,g,i,j.keep b,k,Aq b l,Aq b m,Aq b o,Aq b p⟩
theorem ShS.keep{S:List Shp}(h:ShS w f c S)(e:Be w a):ShS a f c S:=by
 refine⟨h.1,h.2.1,?_⟩;obtain⟨i,-,h⟩:=h;rcases h with rfl|⟨b,d,rfl,h⟩
 .exact .inl rfl
 exact .inr ⟨b,d,rfl,λk g=>(h k g).keep e⟩
theorem ShS.at_{S:List Shp}(h:ShS w f c S){k:Nat}(d:k<c):∃b a,f=some ⟨b,a,none⟩/\b<w.heap.size/\Alp w b (a+k*5) (shp S k):=by
 obtain⟨j,-,h⟩:=h;rcases h with rfl|⟨b,a,rfl,h⟩
 .omega
 let⟨g,i,e,_⟩:=h k d;exact⟨b,a,rfl,Bi e,h k d⟩
def PuS(w:World)(A:Option Addr)(n:Nat)(c:List Pt5):Prop:=c.length=n/\(n=0\/∃b a,A=some ⟨b,a,none⟩/\∀k,k<n ->
 Cq w b (a+k*5) (pt c k).sh/\Cq w b (a+k*5+1) (.bool (pt c k).fl)/\Cq w b (a+k*5+2) (pt c k).qu/\Cq w b (a+k*5+3) (pt c k).x/\Cq w b (a+k*5+4) (pt c k).y)
theorem PuS.keep{g:List Pt5}(h:PuS w f c g)(d:Be w a):PuS a f c g:=by
 refine⟨h.1,?_⟩;obtain⟨p,h⟩:=h;rcases h with rfl|⟨b,e,rfl,h⟩
 .exact .inl rfl
 refine .inr ⟨b,e,rfl,λk o=>?_⟩;let⟨i,j,l,m,n⟩:=h k o;exact⟨Aq d i,Aq d j,Aq d l,Aq d m,Aq d n⟩
theorem PuS.at_{d:List Pt5}(h:PuS w f c d){k:Nat}(e:k<c):∃b a,f=some ⟨b,a,none⟩/\b<w.heap.size/\Cq w b (a+k*5) (pt d k).sh/\Cq w b (a+k*5+1) (.bool (pt d k).fl)/\Cq w b (a+k*5+2) (pt d k).qu/\Cq w b (a+k*5+3) (pt d k).x/\Cq w b (a+k*5+4) (pt d k).y:=by
 obtain⟨g,h⟩:=h;rcases h with rfl|⟨b,a,rfl,h⟩
 .omega
 exact⟨b,a,rfl,Bi (h k e).1,h k e⟩
def wh(w:World)(r:Int×LP)(e:Ending)(a:World):Prop :=
 ∃v,e=.returned (.tuple #[v,r.1])/\OwS a w v r.2/\Be w a
def La(l:LP)(p:Pt5):Int×LP :=
 if Bg l l.length≠0 then (Bg l l.length,[]) else if Bg (Yv (F6 p.fl p.qu l) (p.x,p.y)) l.length≠0 then (Bg (Yv (F6 p.fl p.qu l) (p.x,p.y)) l.length,[]) else (0,Yv (F6 p.fl p.qu l) (p.x,p.y))
def Br(S:List Shp)(p:Pt5):Int×LP:=if p.sh<0\/p.sh ≥ S.length\/Cc 1048576 (p.x,p.y)=true then (3,[]) else La (shp S p.sh.toNat).poly p
theorem me(A:Option Addr)(a n:Nat)(S:List Shp)(p:Pt5)(w:World)(f:ShS w A n S)(h:p.sh<0\/p.sh ≥ n\/Cc 1048576 (p.x,p.y)=true):Calls prog 17 #[.slice A n a,L7 p] w (wh w (3,[])):=by
 obtain⟨sh,g,k,x,y⟩:=p;unfold L7;dsimp only at h ⊢;have j:=f.2.1;go_in;by_cases c:sh<0
 .go_wp2
  go_ret2
  exact⟨_,rfl,OwG.nil,blA⟩
 by_cases d:sh ≥ n
 .go_wp2
  go_ret2
  exact⟨_,rfl,OwG.nil,blA⟩
 have i:Cc 1048576 (x,y)=true:=by rcases h with h|h|h;exact absurd h c;exact absurd h d;exact h
 go_wp2_with (go_at_call 38;refine rR (Dz) λl b=>?_)
 go_ret2
 exact⟨_,rfl,OwG.nil,An blA b⟩
theorem zg(A:Option Addr)(X n:Nat)(S:List Shp)(p:Pt5)(k:Nat)(w:World)(hS:ShS w A n S)(hk:p.sh=(k:Int))(Z:k<n)(G:Cc 1048576 (p.x,p.y)=false):Calls prog 17 #[.slice A n X,L7 p] w (wh w (La (shp S k).poly p)):=by
 obtain⟨sh,t,z,x,y⟩:=p;dsimp only at hk G;subst hk;unfold L7;dsimp only;have hn:=hS.2.1;obtain⟨b,b7,rfl,b4,Ak,ck,B,R,g3,D,g5,g6,g7,g8,g9⟩:=hS.at_ Z;generalize hl:(shp S k).poly=l at B R D ⊢;clear hl g6 g7 g8 g9;generalize hm:l.length=m at B R D;have L:=Ar hm;clear hm;have Y:=Ar (Bf.new w 72 #[k,.bool t,z,x,y]);by_cases o:Bg l m=0
 .have q:(Bg l m != 0)=false:=by rw[o];rfl
  have ak:=(El o).2;have HC:=Ar o;clear o;let⟨r,T⟩:=gN (Yv (F6 t z l) (x,y))
  have I:r.length=m:=by rw[<-T,Ld,E8,L.out]
  have u:=Ar (show La l ⟨(k:Int),t,z,x,y⟩=if Bg r m≠0 then (Bg r m,[]) else (0,r) by unfold La;rw[L.out,if_neg (by rw[HC.out];simp),T]);have W:=Ar T;have V:=Ar I;clear T I;go_in
  go_upto_region 7 with (first|(go_at_call 38;refine rR (Dz) λw1 a=>?_;have J:=Y.out.keep a;have M:=J.cell 0;simp only[cA,bS,cE]at M;have C:=Aq (An blA a) B)|(go_at_call 39;refine rR (Dc _ _ _ l R (D.keep (An blA a))) λw2 d=>?_))
  have j:=An (An blA a) d;have K:=J.keep d;have E:=D.keep j;have N:=K.cell 1;have O:=K.cell 2;have P:=K.cell 3;have Q:=K.cell 4;simp only[cA,bS,cE]at N O P Q;clear C M J a d B Y K;go_cut [8] λv wx=>OwS wx w v r/\Below w w wx
  case first =>
   go_region_held3 (λU=>U.cell? ⟨w,1,none⟩=some (.bool t)/\U.cell? ⟨w,2,none⟩=some z/\U.cell? ⟨w,3,none⟩=some x/\U.cell? ⟨w,4,none⟩=some y)
    (first
     | (go_keep;done)
     | exact⟨Aq c N,Aq c O,Aq c P,Aq c Q⟩
     | exact⟨Aq f (Aq c N),Aq f (Aq c O),Aq f (Aq c P),Aq f (Aq c Q)⟩)
    ((first
      | (go_at_call 41;refine aF (Ti _ _ _ _ _ l aK (E.keep blD)) λw3 v3 a6 c=>?_;obtain⟨A3,c3,rfl,b5,F,-,-⟩:=OwS.els a6;rw[E8,L.out]at F ⊢)
      | (go_at_call 40;refine aF (Aag (F6 t z l) aK F) λw4 v4 H f=>?_)))
   go_wp2;go_meet
   (rw[W.out]at H;exact⟨OwG.lower H (bB j.size c.size),An (An (Aw j) c) f⟩)
  clear j E N O P Q;obtain⟨G,j⟩:=hcut;obtain⟨A8,c8,rfl,s,i,-,-⟩:=OwS.els G;rw[V.out]at s i G ⊢;by_cases g:Bg r m=0
  .have q2:(Bg r m != 0)=false:=by rw[g];rfl
   rw[g]at u
   go_wp2_with (go_at_call 39;refine rR (Dc _ _ _ r s i) λw5 h=>?_)
   go_ret2
   exact⟨_,by rw[u.out];rfl,by rw[u.out];exact OwG.keep G h,An j h⟩
  have q2:(Bg r m != 0)=true:=by simpa using g
  rw[if_pos g]at u;clear g
  go_wp2_with (go_at_call 39;refine rR (Dc _ _ _ r s i) λw5 h=>?_)
  go_ret2
  exact⟨_,by rw[u.out];rfl,by rw[u.out];exact OwG.nil,An j h⟩
 have q:(Bg l m != 0)=true:=by simpa using o
 have HR:=Ar (show La l ⟨(k:Int),t,z,x,y⟩=(Bg l m,[]) by unfold La;rw[L.out,if_pos o]);clear o;go_in
 go_wp2_with (first|(go_at_call 38;refine rR (Dz) λw1 a=>?_;have J:=Y.out.keep a;have M:=J.cell 0;simp only[cA,bS,cE]at M;have C:=Aq (An blA a) B)|(go_at_call 39;refine rR (Dc _ _ _ l R (D.keep (An blA a))) λw2 d=>?_))
 go_ret2
 exact⟨_,by rw[HR.out];rfl,by rw[HR.out];exact OwG.nil,An (An blA a) d⟩
theorem Cf(S:List Shp)(p:Pt5)(a:ShS w f n S):Calls prog 17 #[.slice f n c,L7 p] w (wh w (Br S p)):=by
 by_cases h:p.sh<0\/p.sh ≥ n\/Cc 1048576 (p.x,p.y)=true
 .rw[show Br S p=(3,[]) by unfold Br;rw[a.1,if_pos h]];exact me f c n S p w a h
 rw[show Br S p=La (shp S p.sh.toNat).poly p by unfold Br;rw[a.1,if_neg h]];simp only[not_or]at h;exact zg f c n S p p.sh.toNat w a aK aK (by simpa using h.2.2)
end Go.Proofs.YtboghahlhmnblaaGreat

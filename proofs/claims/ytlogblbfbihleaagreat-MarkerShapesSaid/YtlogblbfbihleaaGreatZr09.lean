/- Lean texts of the claim. -/
import Derived.Test.YtlogblbfbihleaaGreatZr08
namespace Go.Proofs.YtlogblbfbihleaaGreat
set_option linter.all false
set_option maxRecDepth 100000
set_option maxHeartbeats 0
open Go.RowKit
variable{a i l p:Nat}{b:World}{e k n q r:Value}{f m:Rat}{g:TypeId}{h:Int}{j:Option Addr}{o:Bool}
namespace Limb
theorem R9{n:Int} {d:Nat} (a:d≠0):(mkRat n d).num.natAbs=n.natAbs / Nat.gcd n.natAbs d/\(mkRat n d).den=d / Nat.gcd n.natAbs d/\((mkRat n d).num<0↔n<0):=by
 rw[Rat.num_mkRat,Rat.den_mkRat,if_neg a,if_neg a,Nat.gcd_comm d];let⟨k,c⟩:((Nat.gcd n.natAbs d:Nat):Int) ∣ n:=Int.ofNat_dvd_left.2 (Nat.gcd_dvd_left _ _);have b:0<Nat.gcd n.natAbs d:=Nat.gcd_pos_of_pos_right _ (Nat.pos_of_ne_zero a);generalize Nat.gcd n.natAbs d=g at *
 subst c;rw[Int.mul_ediv_cancel_left _ (by omega),Int.natAbs_mul,Int.natAbs_natCast,Nat.mul_div_cancel_left _ b];refine⟨rfl,rfl,?_⟩;constructor
 .intro h;exact Int.mul_neg_of_pos_of_neg (by omega) h
 intro h;apply Classical.byContradiction;intro e;have:=Int.mul_nonneg (show (0:Int)<=(g:Int) by omega) (show 0<=k by omega);omega
theorem Yy{d:Nat} (c:d≠0):(mkRat h d).num.natAbs<=h.natAbs/\(mkRat h d).den<=d:=by
 obtain⟨a,b,-⟩:=R9 (n:=h) c;rw[a,b];exact⟨Nat.div_le_self _ _,Nat.div_le_self _ _⟩
def RB (m:Nat) (q:Rat):Prop:=q.num.natAbs<2 ^ m/\q.den<2 ^ m
theorem Fv{m n:Nat} (b:a<2 ^ m) (c:i<2 ^ n):a*i<2 ^ (m+n):=by
 rw[Nat.pow_add];exact Nat.mul_lt_mul_of_lt_of_lt b c
theorem RB.mk{d:Nat} (b:d≠0) (c:h.natAbs<2 ^ a) (e:d<2 ^ a):RB a (mkRat h d) :=
 ⟨Nat.lt_of_le_of_lt (Yy b).1 c,Nat.lt_of_le_of_lt (Yy b).2 e⟩
theorem RB.le(h:RB a f) (b:a<=i):RB i f :=
 ⟨Nat.lt_of_lt_of_le h.1 (Nat.pow_le_pow_right (by decide) b),Nat.lt_of_lt_of_le h.2 (Nat.pow_le_pow_right (by decide) b)⟩
theorem RB.mul{m n:Nat} {q:Rat} (a:RB m f) (hq:RB n q):RB (m+n) (f*q):=by
 rw[Rat.mul_def'];exact RB.mk (Nat.mul_ne_zero f.den_nz q.den_nz) (by rw[Int.natAbs_mul];exact Fv a.1 hq.1) (Fv a.2 hq.2)
theorem RB.add{m:Nat} {q:Rat} (b:RB m f) (hq:RB a q):RB (m+a+1) (f+q):=by
 rw[Rat.add_def'];have h:=Fv b.1 hq.2;have c:=Fv hq.1 b.2;rw[Nat.add_comm a]at c;have i:=Fv b.2 hq.2;have e:2 ^ (m+a+1)=2*2 ^ (m+a):=by rw[Nat.pow_succ,Nat.mul_comm]
 refine RB.mk (Nat.mul_ne_zero f.den_nz q.den_nz) ?_ (by omega);have d:(f.num*(q.den:Int)).natAbs=f.num.natAbs*q.den:=by rw[Int.natAbs_mul,Int.natAbs_natCast]
 have g:(q.num*(f.den:Int)).natAbs=q.num.natAbs*f.den:=by rw[Int.natAbs_mul,Int.natAbs_natCast]
 have:=Int.natAbs_add_le (f.num*q.den) (q.num*f.den);omega
theorem RB.neg(h:RB a f):RB a (-f):=⟨by rw[Rat.neg_num,Int.natAbs_neg];exact h.1,h.2⟩
theorem RB.sub{m n:Nat} {q:Rat} (a:RB m f) (hq:RB n q):RB (m+n+1) (f-q):=by
 rw[Rat.sub_eq_add_neg];exact a.add hq.neg
theorem ym(a:h≠0):h.sign.natAbs=1:=by rw[Int.natAbs_sign];simp[a]
theorem RB.div{m n:Nat} {q:Rat} (b:RB m f) (hq:RB n q) (a:q.num≠0):RB (m+n) (f / q):=by
 rw[Rat.div_def];refine b.mul ⟨?_,?_⟩
 .rw[Rat.num_inv,Int.natAbs_mul,ym a,Nat.one_mul,Int.natAbs_natCast];exact hq.2
 rw[Rat.den_inv,if_neg a];exact hq.1
theorem RB.of{m:Nat}  (a:h.natAbs<2 ^ m) (b:0<m):RB m (h:Rat) :=
 ⟨a,Nat.lt_of_lt_of_le (by decide:1<2 ^ 1) (Nat.pow_le_pow_right (by decide) b)⟩
theorem Aea(p q:Rat) (a:q.num≠0):p / q=mkRat (p.num*q.num.sign*q.den) (p.den*q.num.natAbs):=by
 rw[Rat.div_def,Rat.mul_def',Rat.num_inv,Rat.den_inv,if_neg a,Int.mul_assoc]
def rnd (n:Int) (d:Nat):Int:=if n<0 then -(((2*n.natAbs+d) / (2*d):Nat):Int) else (((2*n.natAbs+d) / (2*d):Nat):Int)
theorem lu{n:Int} {d g:Nat} (a:0<g):rnd (n*g) (d*g)=rnd n d:=by
 unfold rnd
 have e:(2*(n*(g:Int)).natAbs+d*g) / (2*(d*g))=(2*n.natAbs+d) / (2*d):=by
  rw[Int.natAbs_mul,Int.natAbs_natCast,show 2*(n.natAbs*g)+d*g=(2*n.natAbs+d)*g by rw[Nat.add_mul,Nat.mul_assoc],<-Nat.mul_assoc,Nat.mul_div_mul_right _ _ a]
 rw[e]
 have:n*(g:Int)<0↔n<0:=by
  constructor
  .intro h;apply Classical.byContradiction;intro b;have:=Int.mul_nonneg (show (0:Int)<=n by omega) (show (0:Int)<=(g:Int) by omega);omega
  intro h;exact Int.mul_neg_of_neg_of_pos h (by omega)
 simp only[this]
theorem Yd{d:Nat} (f:d≠0):rnd (mkRat h d).num (mkRat h d).den=rnd h d:=by
 let⟨m,a,b,e⟩:=Rat.mkRat_num_den (n:=h) (n':=(mkRat h d).num) (d':=(mkRat h d).den) (z':=(mkRat h d).den_nz) (c:=(mkRat h d).reduced) f rfl;have:=lu (n:=(mkRat h d).num) (d:=(mkRat h d).den) (g:=m) (Nat.pos_of_ne_zero a);rw[<-this,<-b,<-e]
theorem Nq(a b vx N D:Int) (h:D≠0):((a:Rat)+((b:Rat)-a)*((N:Rat) / D))-vx=mkRat (((a-vx)*D+(b-a)*N)*D.sign) D.natAbs:=by
 have d:(D:Rat)≠0:=λe=>h (Rat.intCast_eq_zero_iff.1 e)
 have c:mkRat (((a-vx)*D+(b-a)*N)*D.sign) D.natAbs=Rat.divInt ((a-vx)*D+(b-a)*N) D:=by
  generalize (a-vx)*D+(b-a)*N=M;rcases Int.lt_or_gt_of_ne h with g|g
  .rw[Int.sign_eq_neg_one_of_neg g,<-Rat.divInt_ofNat,show ((D.natAbs:Nat):Int) = -D by omega,Rat.divInt_neg']
   congr 1
   omega
  rw[Int.sign_eq_one_of_pos g,<-Rat.divInt_ofNat,show ((D.natAbs:Nat):Int)=D by omega,Int.mul_one]
 rw[c,Rat.divInt_eq_div];simp only[Rat.intCast_add,Rat.intCast_sub,Rat.intCast_mul]
 grind
end Limb
section
open Go.RowKit Limb
class BI (a w:World):Prop where
 h:Below a.heap.size a w
class LI (a:World) (n:Nat):Prop where
 h:a.heap.size<=n
section
variable {a w : World}
instance:BI a a:=⟨bl0⟩
instance [i:BI a w] {o:Obj}:BI a (w.alloc o):=⟨Ao i.h o⟩
instance [i:BI a w]:BI a w.drew:=⟨Aw i.h⟩
instance [i:BI a w] {g k:Nat} {u:Value} [j:LI a g]:BI a (w.setCell ⟨g,k,none⟩ u):=⟨Ba i.h (p:=⟨g,k,none⟩) j.h u⟩
instance [i:BI a w]:LI a w.heap.size:=⟨i.h.size⟩
instance {n:Nat} [i:LI a n]:LI a (n+1):=⟨Nat.le_succ_of_le i.h⟩
theorem BI.go {w2:World} [i:BI a w] (h:Be w w2):BI a w2:=⟨An i.h h⟩
end
def Ib (w:World) (a:Nat) (v:Value) (q:Rat):Prop:=∃m d,v=.agg #[.bool (decide (q.num<0)),m,d]/\Ce w a m q.num.natAbs/\Ce w a d q.den
theorem Ib.keep{w:World} {base:Nat}   (h:Ib w base e f) (a:Be w b):Ib b base e f:=by
 obtain⟨m,d,c,i,g⟩:=h;exact⟨m,d,c,i.keep a,g.keep a⟩
theorem Ib.lower{w:World} {base':Nat}   (h:Ib w a e f) (b:base'<=a):Ib w base' e f:=by
 obtain⟨m,d,c,i,g⟩:=h;exact⟨m,d,c,i.lower b,g.lower b⟩
theorem Ib.op{w:World}    (h:Ib w a e f):∃p A n c B k d,e=.agg #[.bool p,.slice A n c,.slice B k d]/\decide (f.num<0)=p/\Ce w a (.slice A n c) f.num.natAbs/\Ce w a (.slice B k d) f.den:=by
 obtain⟨m,d,rfl,g,b⟩:=h;obtain⟨A,n,c,rfl⟩:=g.sl;obtain⟨B,k,i,rfl⟩:=b.sl;exact⟨_,A,n,c,B,k,i,rfl,rfl,g,b⟩
def Xi (w:World) (q:Rat) (e:Ending) (a:World):Prop:=∃v,e=.returned v/\Ib a w.heap.size v q/\Be w a
abbrev RC (g:Nat) (o:Rat->Rat->Rat):Prop:=∀{w:World} {b c:Nat} {x y:Rat} {u v:Value},Ib w b u x->Ib w c v y->RB 600 x->RB 600 y->Calls Tryz.prog g #[u,v] w (Xi w (o x y))
theorem Bf.triple{w:World}   {x:Value} (h:Bf w a g #[e,k,x]):Cq w a 0 e/\Cq w a 1 k/\Cq w a 2 x/\w.frozen? ⟨a,0,none⟩=false/\w.frozen? ⟨a,1,none⟩=false/\w.frozen? ⟨a,2,none⟩=false/\a<w.heap.size :=
 ⟨(h.cell 0).trans rfl,(h.cell 1).trans rfl,(h.cell 2).trans rfl,h.frozen 0,h.frozen 1,h.frozen 2,h.lt⟩
theorem Bf.set3{w:World}   {x u' v' x':Value} (h:Bf w a g #[e,k,x]):Bf (((w.setCell ⟨a,0,none⟩ u').setCell ⟨a,1,none⟩ v').setCell ⟨a,2,none⟩ x') a g #[u',v',x']:=((h.set_ 0 u').set_ 1 v').set_ 2 x'
theorem Bf.far3{w:World}   {c:Array Value} (h:Bf w i g c) (b:i≠a) (u v x:Value):Bf (((w.setCell ⟨a,0,none⟩ u).setCell ⟨a,1,none⟩ v).setCell ⟨a,2,none⟩ x) i g c :=
 ((h.far (p:=⟨a,0,none⟩) b u).far (p:=⟨a,1,none⟩) b v).far (p:=⟨a,2,none⟩) b x
theorem Dw{w:World} (h:Be b w)  (c:b.heap.size<=a) (u v x:Value):Be b (((w.setCell ⟨a,0,none⟩ u).setCell ⟨a,1,none⟩ v).setCell ⟨a,2,none⟩ x) :=
 Ba (Ba (Ba h (p:=⟨a,0,none⟩) c u) (p:=⟨a,1,none⟩) c v) (p:=⟨a,2,none⟩) c x
theorem Ce.far3{w:World}    (h:Ce w a e i) (b:l<a) (u x z:Value):Ce (((w.setCell ⟨l,0,none⟩ u).setCell ⟨l,1,none⟩ x).setCell ⟨l,2,none⟩ z) a e i :=
 ((h.far (p:=⟨l,0,none⟩) b u).far (p:=⟨l,1,none⟩) b x).far (p:=⟨l,2,none⟩) b z
theorem Dn{w:World}   {x d:Value}  (h:Bf b a g #[x,e,k]) (m:Ce b i n f.num.natAbs) (l:Ce b i d f.den) (c:a<i) (o:w.heap.size<=a) (j:Be w b) :
 Cq (((b.setCell ⟨a,0,none⟩ (.bool (decide (f.num<0)))).setCell ⟨a,1,none⟩ n).setCell ⟨a,2,none⟩ d) a 0 (.bool (decide (f.num<0)))/\Cq (((b.setCell ⟨a,0,none⟩ (.bool (decide (f.num<0)))).setCell ⟨a,1,none⟩ n).setCell ⟨a,2,none⟩ d) a 1 n/\Cq (((b.setCell ⟨a,0,none⟩ (.bool (decide (f.num<0)))).setCell ⟨a,1,none⟩ n).setCell ⟨a,2,none⟩ d) a 2 d/\Xi w f (.returned (.agg #[.bool (decide (f.num<0)),n,d])) (((b.setCell ⟨a,0,none⟩ (.bool (decide (f.num<0)))).setCell ⟨a,1,none⟩ n).setCell ⟨a,2,none⟩ d):=by
 obtain⟨p,q,s2,-,-,-,-⟩:=(h.set3 (u':=.bool (decide (f.num<0))) (v':=n) (x':=d)).triple;exact⟨p,q,s2,_,rfl,⟨n,d,rfl,(m.far3 c _ _ _).lower (by omega),(l.far3 c _ _ _).lower (by omega)⟩,Dw j o _ _ _⟩
theorem yv{w:World}   (j:Ce w a e i) (l:Sm i):Calls Tryz.prog 251 #[e] w (Bz w (.bool (decide (i=0)))):=by
 let⟨c,g,d⟩:∃c:Bool,decide (i=0)=c/\Hid ((Ia i 0 == 0)=c):=⟨_,rfl,Ar (by
  unfold Ia;by_cases f:i=0
  .simp[f]
  simp[f])⟩
 rw[g];let⟨k,n,h⟩:∃k,(k == 0)=c/\Hid (Ia i 0=k):=⟨_,d.out,Ar rfl⟩
 clear g d;go_in
 go_wp2_with (go_at_call 254;refine rR (Alu j (R7 _ 0) l (by unfold Sm;exact Nat.pow_pos (by decide))) λo b=>?_;rw[h.out])
 go_ret;exact⟨rfl,b⟩
theorem Alh(A:Option Addr) (n c:Nat) (w:World):Calls Tryz.prog 195 #[.slice A n c] w (Bz w (.agg #[.bool false,.slice A n c])):=by
 go_in;go_wp2;obtain⟨a,b,-,-,-⟩:=Bf.pair (Bf.new w 169 #[.bool false,.slice A n c]);exact bR ⟨rfl,blA⟩ rfl (by simp[results,Tryz.results195,go_sem,a,b])
theorem Yb{w:World} {d:Nat}  {D:Option Addr} {c:Nat} (m:Ce w a (.slice D l p) d) (A:Sm d) (k:d≠0):Calls Tryz.prog 192 #[.agg #[.bool o,.slice j i c,.slice D l p]] w λf B=>f=.returned (.agg #[.bool o,.slice j i c,.slice D l p])/\Be w B:=by
 have h:Hid (decide (d=0)=false):=Ar (by simpa using k);go_in;go_upto_region 1 with fail;refine Eo λX e n g=>?_
 obtain⟨q,s,u,-,-,-,-⟩:=n.triple
 go_wp2_with (go_at_call 251;refine rR (yv (m.keep e) A) λJ b=>?_;rw[h.out];have r:=Aq b q;have t:=Aq b s;have x:=Aq b u;let⟨G,H,I,C,E,F,lt⟩:=(g.keep b).triple)
 obtain⟨y,z,s2,-,-,-,-⟩:=((g.keep b).set3 (u':=.bool o) (v':=.slice j i c) (x':=.slice D l p)).triple;exact bR ⟨rfl,Dw (An e b) (by omega) _ _ _⟩ rfl (by simp[results,Tryz.results192,go_sem,y,z,s2])
theorem Aiy{c:Nat} {b:Bool} (e:h.natAbs=a) (d:h<0↔sg b c<0) (f:0<a->0<c):sg b a=h:=by
 unfold sg at *
 cases b<;>simp at d ⊢<;>omega
theorem I7(z:Int):sg (decide (z<0)) z.natAbs=z:=by unfold sg;by_cases h:z<0<;>simp[h]<;>omega
theorem Ru{w:World} {d:Nat}  (p:Bool) (U:Ce w a e l) (T:Ce w i k d) (R:Sm l) (Q:Sm d) (J:d≠0):Calls Tryz.prog 260 #[.agg #[.bool p,e],k] w (Xi w (mkRat (sg p l) d)):=by
 obtain⟨Az,nz,cz,rfl⟩:=U.sl;obtain⟨Ad,nd,cd,rfl⟩:=T.sl;let⟨G,y,S⟩:=R9 (n:=sg p l) J;rw[ku]at G y;have L:0<Nat.gcd l d:=Nat.gcd_pos_of_pos_right _ (Nat.pos_of_ne_zero J);have x:Sm (Nat.gcd l d):=Q.le (Nat.gcd_le_right _ (Nat.pos_of_ne_zero J));have o:=Ar (Aiy (b:=p) G S λh=>Nat.lt_of_lt_of_le h (Nat.div_le_self _ _));generalize hr:mkRat (sg p l) d=r at y o ⊢;clear hr;generalize B:Nat.gcd l d=g at G y L x o;have Y:=Ar B;have H:=Ar y;have P:Sm (l / g):=R.le (Nat.div_le_self _ _);clear G y S B;go_in;go_upto_region 1 with fail;refine Eo λX s hP K=>?_
 have E:=U.keep s;have A:=T.keep s;obtain⟨p0,p1,-,-,-⟩:=hP.pair;have C:=K.lt
 go_wp2_with (first
  | (go_at_call 253;have ai:=j;refine(Wo p (hq2.keep j) P).mono ?_;rintro I w4 ⟨v4,rfl,⟨m4,rfl,t⟩,z⟩;obtain⟨W,n4,c4,rfl⟩:=t.sl;obtain⟨V,n3,c3,rfl⟩:=D.sl;have q:=An (An (An c f) j) z;let⟨r0,r1,r2,f0,f1,f2,lt⟩:=(K.keep q).triple)
  | (go_at_call 312;have ad:=f;refine(Alc ((A.keep c).keep f) (u.keep f) Q x L).mono ?_;rintro I w3 ⟨q3,r3,rfl,D,au,j⟩;have O:=Aq j F)
  | (go_at_call 312;have a8:=c;refine(Alc (E.keep c) u R x L).mono ?_;rintro I w2 ⟨q2,r2,rfl,hq2,ar,f⟩;have F:=Aq f N;obtain⟨A2,n2,c2,rfl⟩:=hq2.sl)
  | (go_at_call 311;refine(Aoc E A R Q).mono ?_;rintro I w1 ⟨v1,rfl,u,c⟩;rw[Y.out]at u;have N:=Aq c p0;have b2:=Aq c p1))
 have M:=o.out;rw[M]at t ⊢;have m:=D.keep z;rw[<-H.out]at m;let⟨s0,P,s2,Z⟩:=Dn (w:=w) (K.keep q) (t.lower j.size) m (Nat.lt_of_lt_of_le C (An c f).size) (by omega) (An s q);exact bR Z rfl (by simp[results,Tryz.results260,go_sem,s0,P,s2])
theorem V7{w:World} {d:Nat}   (f:P9 w a e h) (c:Ce w i k d) (l:Sm h.natAbs) (j:Sm d) (b:d≠0):Calls Tryz.prog 260 #[e,k] w (Xi w (mkRat h d)):=by
 obtain⟨m,rfl,g⟩:=f;have:=Ru (decide (h<0)) g c l j b
 rwa [I7] at this
end
section
open Go.RowKit Limb
theorem Kf{w:World}   {c d:Value} (b:Bf w a g #[e,k,c]) (f:Bf w i g #[d,n,q]) :
 Cq w a 0 e/\Cq w a 1 k/\Cq w a 2 c/\Cq w i 0 d/\Cq w i 1 n/\Cq w i 2 q :=
 ⟨(b.cell 0).trans rfl,(b.cell 1).trans rfl,(b.cell 2).trans rfl,(f.cell 0).trans rfl,(f.cell 1).trans rfl,(f.cell 2).trans rfl⟩
theorem Qe(h:RB 600 f):Sm f.num.natAbs/\Sm f.den:=⟨F7 h.1 (by decide),F7 h.2 (by decide)⟩
theorem Adk(a:RB 600 f) (hq:RB 600 m):Sm (f.num.natAbs*m.num.natAbs)/\Sm (f.den*m.den)/\Sm (f.num.natAbs*m.den)/\Sm (m.num.natAbs*f.den) :=
 ⟨F7 (Fv a.1 hq.1) (by decide),F7 (Fv a.2 hq.2) (by decide),F7 (Fv a.1 hq.2) (by decide),F7 (Fv hq.1 a.2) (by decide)⟩
theorem Sh{w:World} {d:Nat}  {c:Nat} (h:Ce w a (.slice j i c) d):P9 w a (.agg #[.bool false,.slice j i c]) (d:Int) :=
 ⟨_,by rw[decide_eq_false (by omega)],by rw[Int.natAbs_natCast];exact h⟩
theorem ft{w:World}  {m:TypeId} {c d f:Value} (b:Bf w a m #[r,f]) (h:Bf w i g #[e,k,c]) (j:Bf w l g #[d,n,q]) :
 Cq w a 0 r/\Cq w a 1 f/\Cq w i 2 c/\Cq w l 2 q :=
 ⟨(b.cell 0).trans rfl,(b.cell 1).trans rfl,(h.cell 2).trans rfl,(j.cell 2).trans rfl⟩
theorem Ce.farB{w:World}      {n c:Nat} (h:Ce w a e i) (F:Bf w l g #[.bool o,.slice j n c]) (y:Bool) (u:Value):Ce ((w.setCell ⟨l,0,none⟩ (.bool y)).setCell ⟨l,1,none⟩ u) a e i:=by
 obtain⟨v,z,A,B,C,r,D,E⟩:=h;refine⟨v,z,A,B,C,?_,D,E⟩;rcases Nat.eq_zero_or_pos (lmb i).length with m|m
 .exact⟨r.1,.inl m⟩
 have b:∀q,v=some q->q.block≠l:=by
  intro q hq k;let⟨G,H,d,s⟩:=r.at_ m;rw[hq]at d;injection d with d
  rw[d]at k;dsimp only at k;subst k;replace s:=(F.cell _).symm.trans s
  have:∀(f:Nat) (x:Int),(#[Value.bool o,Value.slice j n c]:Array Value)[f]? = some (Value.int .u32 x)->False:=by
   intro f x t
   match f with
   | 0=>simp at t
   | 1=>simp at t
   | f+2=>simp at t
  exact this _ _ s
 exact(r.far (p:=⟨l,0,none⟩) b _).far (p:=⟨l,1,none⟩) b _
theorem Ac7{m:Nat} (b:a<2 ^ (m+m)) (c:i<2 ^ (m+m)):a+i<2 ^ (m+m+1):=by rw[Nat.pow_succ];omega
theorem Jj(x y:Rat):(x.num*y.den).natAbs=x.num.natAbs*y.den:=by rw[Int.natAbs_mul,Int.natAbs_natCast]
theorem Adh{xn yn:Int} (d:Nat) (h:yn≠0):sg (!(decide (xn<0) == decide (yn<0))) (xn.natAbs*d)=xn*yn.sign*d:=by
 unfold sg;rw[Int.natCast_mul];rcases Int.lt_or_gt_of_ne h with b|b
 .rw[Int.sign_eq_neg_one_of_neg b];by_cases a:xn<0
  .rw[show ((xn.natAbs:Nat):Int) = -xn by omega];simp[a,b,Int.neg_mul]
  rw[show ((xn.natAbs:Nat):Int)=xn by omega];simp[a,b,Int.neg_mul]
 rw[Int.sign_eq_one_of_pos b];have c:¬yn<0:=by omega
 by_cases a:xn<0
 .rw[show ((xn.natAbs:Nat):Int) = -xn by omega];simp[a,c,Int.neg_mul]
 rw[show ((xn.natAbs:Nat):Int)=xn by omega];simp[a,c]
theorem Rp{w:World}  {m:TypeId} {c d f:Value} (b:Bf w a m #[r,f]) (h:Bf w i g #[e,k,c]) (j:Bf w l g #[d,n,q]) :
 Cq w a 0 r/\Cq w a 1 f/\Cq w i 2 c/\Cq w l 1 n :=
 ⟨(b.cell 0).trans rfl,(b.cell 1).trans rfl,(h.cell 2).trans rfl,(j.cell 1).trans rfl⟩
def An9 (w:World) (x y:Rat) (e:Ending) (a:World):Prop:=∃p A n c B k d,e=.returned (.tuple #[.agg #[.bool p,.slice A n c,.slice B k d],.bool (!decide (y.num=0))])/\(y.num≠0->Ib a w.heap.size (.agg #[.bool p,.slice A n c,.slice B k d]) (x / y))/\Be w a
theorem Al8{w:World}  {x:Rat} {vx vy:Value} (hX:Ib w a vx x) (hY:Ib w i vy f) (bx:RB 600 x) (bm:RB 600 f):Calls Tryz.prog 261 #[vx,vy] w (Xi w (x*f))/\Calls Tryz.prog 267 #[vx,vy] w (Xi w (x+f))/\Calls Tryz.prog 204 #[vx,vy] w (An9 w x f):=by
 obtain⟨p,Ax,nx,cx,Bx,ox,ex,rfl,hp,hx,ak⟩:=hX.op;obtain⟨q,Ay,ny,cy,By,oy,ey,rfl,hq,hy,au⟩:=hY.op;let⟨b9,b8⟩:=Qe bx;let⟨V,U⟩:=Qe bm;let⟨gg,gx,e8,e9⟩:=Adk bx bm;have bd:=x.den_nz;have cv:=f.den_nz;have HP:=Ar hp;have HQ:=Ar hq;clear hp hq hX hY;refine⟨?_,?_,?_⟩
 all_goals
  go_in;go_upto_region 1 with fail;refine Jy λX k B y Q=>?_
  have ad:w.heap.size≠w.heap.size+1:=by omega
  have O:w.heap.size+1≠w.heap.size:=by omega
  have D:w.heap.size≠w.heap.size+1+1:=by omega
  have E:w.heap.size+1≠w.heap.size+1+1:=by omega
  have b:=Aw (Below.refl X.heap.size X)
  go_region_held3 (λj=>Cq j w.heap.size 0 (.bool p)/\Cq j w.heap.size 1 (.slice Ax nx cx)/\Cq j w.heap.size 2 (.slice Bx ox ex)/\Cq j (w.heap.size+1) 0 (.bool q)/\Cq j (w.heap.size+1) 1 (.slice Ay ny cy)/\Cq j (w.heap.size+1) 2 (.slice By oy ey))
   (first
    | with_reducible exact Kf (B.keep b) (y.keep b)
    | with_reducible exact Kf (B.keep b).set3 ((y.keep b).far3 O _ _ _)
    | with_reducible exact Kf ((B.keep b).set3.far3 ad _ _ _) ((y.keep b).far3 O _ _ _).set3)
   ((first
     | (go_at_call 192;have fa:=r;refine rR (Yb (((au.keep k).keep blD).keep r) U cv) λw2 t=>?_;replace b:=An b t;let⟨a0,a1,a2,a3,a4,a5,a6⟩:=(B.keep b).triple;let⟨b0,b1,b2,b3,b4,b5,b6⟩:=(y.keep b).triple)
     | (go_at_call 192;refine(Yb ((ak.keep k).keep blD) b8 bd).mono ?_;rintro e w1 ⟨rfl,r⟩;replace b:=An b r)))
  all_goals go_upto_region 2 with fail
  refine Cj (λY=>Be w Y/\Bf Y w.heap.size 171 #[.bool p,.slice Ax nx cx,.slice Bx ox ex]/\Bf Y (w.heap.size+1) 171 #[.bool q,.slice Ay ny cy,.slice By oy ey]/\Bf Y (w.heap.size+1+1) 171 #[.bool false,.slice none 0 0,.slice none 0 0]) ⟨Dw (Dw (An k b) (Nat.le_refl _) _ _ _) (by omega) _ _ _,(B.keep b).set3.far3 ad _ _ _,((y.keep b).far3 O _ _ _).set3,((Q.keep b).far3 D.symm _ _ _).far3 E.symm _ _ _⟩ ?_;clear k b B y Q r t fa a0 a1 a2 a3 a4 a5 a6 b0 b1 b2 b3 b4 b5 b6;rintro X ⟨k,B,y,Q⟩;have a8:=Q.lt;have b:=Aw (Below.refl X.heap.size X)
 .have fs:=(ak.keep k).keep b;have gf:=(au.keep k).keep b;have ho:P9 X.drew a (.agg #[.bool p,.slice Ax nx cx]) x.num:=⟨_,by rw[HP.out],(hx.keep k).keep b⟩;have hr:P9 X.drew i (.agg #[.bool q,.slice Ay ny cy]) f.num:=⟨_,by rw[HQ.out],(hy.keep k).keep b⟩;have gw:Sm (x.num*f.num).natAbs:=by rw[Int.natAbs_mul];exact gg
  have a7:x.den*f.den≠0:=Nat.mul_ne_zero bd cv;have EQ:=Ar (Rat.mul_def' x f).symm
  go_region_held3 (λj=>Cq j w.heap.size 0 (.bool p)/\Cq j w.heap.size 1 (.slice Ax nx cx)/\Cq j w.heap.size 2 (.slice Bx ox ex)/\Cq j (w.heap.size+1) 0 (.bool q)/\Cq j (w.heap.size+1) 1 (.slice Ay ny cy)/\Cq j (w.heap.size+1) 2 (.slice By oy ey))
   (first
    | with_reducible exact Kf (B.keep b) (y.keep b)
    | with_reducible exact Kf ((B.keep b).far3 D _ _ _) ((y.keep b).far3 E _ _ _))
   ((first
     | (go_at_call 260;have bq:=h2;refine(V7 (h1.keep t) h2 gw gx a7).mono ?_;rintro e w3 ⟨v3,rfl,h3,o⟩;rw[EQ.out]at h3;obtain⟨_,A3,n3,c3,B3,o3,e3,rfl,rfl,im,hv⟩:=h3.op;replace b:=An b o;let⟨r0,r1,r2,f0,f1,f2,lt⟩:=(Q.keep b).triple)
     | (go_at_call 256;have fa:=h1;refine(Ahf (fs.keep r) (gf.keep r) b8 U).mono ?_;rintro e w2 ⟨v2,rfl,h2,t⟩;replace b:=An b t)
     | (go_at_call 194;refine(Aga ho hr b9 V gg).mono ?_;rintro e w1 ⟨v1,rfl,h1,r⟩;replace b:=An b r)))
  all_goals go_wp2_with fail
  let⟨s0,s1,s2,HR⟩:=Dn (w:=w) (Q.keep b) im hv (Nat.lt_of_lt_of_le a8 (An (An blD r) t).size) (by omega) (An k b);exact bodyPost_ret (v:=.agg #[.bool (decide ((x*f).num<0)),.slice A3 n3 c3,.slice B3 o3 e3]) (by simp[results,Tryz.results261,go_sem,s0,s1,s2]) rfl HR
 .have cc:Sm (x.num*(f.den:Int)).natAbs:=by rw[Jj];exact e8
  have R:Sm (f.num*(x.den:Int)).natAbs:=by rw[Jj];exact e9
  have cd:Sm (x.num.natAbs*((f.den:Int)).natAbs):=by rw[Int.natAbs_natCast];exact e8
  have cf:Sm (f.num.natAbs*((x.den:Int)).natAbs):=by rw[Int.natAbs_natCast];exact e9
  have cg:Sm ((x.den:Int)).natAbs:=by rw[Int.natAbs_natCast];exact b8
  have ch:Sm ((f.den:Int)).natAbs:=by rw[Int.natAbs_natCast];exact U
  have b7:Sm ((x.num*(f.den:Int)).natAbs+(f.num*(x.den:Int)).natAbs):=by
   rw[Jj,Jj];exact F7 (m:=600+600+1) (Ac7 (m:=600) (Fv (m:=600) (n:=600) bx.1 bm.2) (Fv (m:=600) (n:=600) bm.1 bx.2)) (by decide)
  have iy:X.heap.size<=X.drew.heap.size:=Nat.le_refl _;have fr:X.heap.size<=X.heap.size:=Nat.le_refl _;have cu:=Ar (λ(j:World) (h:Be X j)=>(show P9 j a (.agg #[.bool p,.slice Ax nx cx]) x.num from ⟨_,by rw[HP.out],(hx.keep k).keep h⟩));have cw:=Ar (λ(j:World) (h:Be X j)=>(show P9 j i (.agg #[.bool q,.slice Ay ny cy]) f.num from ⟨_,by rw[HQ.out],(hy.keep k).keep h⟩));have cn:=Ar λ(j:World) (h:Be X j)=>Sh ((ak.keep k).keep h);have S:=Ar λ(j:World) (h:Be X j)=>Sh ((au.keep k).keep h);let⟨z,hz⟩:=gN (x.num*(f.den:Int)+f.num*(x.den:Int))
  have HZ:=Ar hz;have sz:Sm z.natAbs:=by rw[<-hz];exact b7.le (Int.natAbs_add_le _ _)
  clear hz;go_cut [5] λv5 wx=>∃(g:Nat) (A:Option Addr) (n c:Nat),v5=.pointer (some ⟨g,0,none⟩)/\Ce wx 0 (.slice A n c) z.natAbs/\Bf wx g 169 #[.bool (decide (z<0)),.slice A n c]/\X.heap.size<=g/\Be X wx
  case first =>
   go_region_held3 (λj=>Cq j w.heap.size 0 (.bool p)/\Cq j w.heap.size 1 (.slice Ax nx cx)/\Cq j w.heap.size 2 (.slice Bx ox ex)/\Cq j (w.heap.size+1) 0 (.bool q)/\Cq j (w.heap.size+1) 1 (.slice Ay ny cy)/\Cq j (w.heap.size+1) 2 (.slice By oy ey))
    (first
     | with_reducible exact Kf (B.keep b) (y.keep b)
     | with_reducible exact Kf (B.keep (Ao b _)) (y.keep (Ao b _))
     | with_reducible exact Kf (B.keep (Aw blA)) (y.keep (Aw blA))
     | with_reducible exact Kf (B.keep (Ba (Ba b (p:=⟨_,0,none⟩) (by assumption) _) (p:=⟨_,1,none⟩) (by assumption) _)) (y.keep (Ba (Ba b (p:=⟨_,0,none⟩) (by assumption) _) (p:=⟨_,1,none⟩) (by assumption) _)))
    ((first
      | (go_at_call 315;have my:=h4;(first|refine(An5 (h2.keep u) h4 cc R b7).mono ?_|refine(An5 (h2.keep (Ao u _)) (h4.keep blA) cc R b7).mono ?_);rintro e w5 ⟨v5,rfl,h5,T⟩;rw[HZ.out]at h5;obtain⟨m5,rfl,N⟩:=h5;obtain⟨A5,n5,c5,rfl⟩:=N.sl;(first|(replace b:=An b T)|(replace b:=An (Ao b _) T)|(replace b:=An (Aw blA) T));have j0:=b.size;(first|(replace l:=Bf.keep l T;let⟨F,G,H,I,J⟩:=Bf.pair l)|(have l:=Bf.keep (Bf.new _ _ _) T;let⟨F,G,H,I,J⟩:=Bf.pair l)|(have l:=Bf.keep (Bf.drew (Bf.new _ _ _)) T;let⟨F,G,H,I,J⟩:=Bf.pair l)|skip))
      | (go_at_call 194;have bq:=h2;(first|refine(Aga (cw.out _ b) (cn.out _ b) V cg cf).mono ?_|refine(Aga (cw.out _ (Ao b _)) (cn.out _ (Ao b _)) V cg cf).mono ?_);rintro e w4 ⟨v4,rfl,h4,s⟩;(first|(replace b:=An b s)|(replace b:=An (Ao b _) s)|(replace b:=An (Aw blA) s));have fc:=b.size;(first|(replace u:=An u s)|(replace u:=An (Ao u _) s)|(replace u:=An (Aw blA) s));(first|(replace l:=Bf.keep l s;let⟨F,G,H,I,J⟩:=Bf.pair l)|(have l:=Bf.keep (Bf.new _ _ _) s;let⟨F,G,H,I,J⟩:=Bf.pair l)|(have l:=Bf.keep (Bf.drew (Bf.new _ _ _)) s;let⟨F,G,H,I,J⟩:=Bf.pair l)|skip))
      | (go_at_call 195;have bq:=h2;refine rR (Alh _ _ _ _) λw3 o=>?_;(first|(replace b:=An b o)|(replace b:=An (Ao b _) o)|(replace b:=An (Aw blA) o));have n2:=b.size;(first|(replace u:=An u o)|(replace u:=An (Ao u _) o)|(replace u:=An (Aw blA) o));(first|(replace l:=Bf.keep l o;let⟨F,G,H,I,J⟩:=Bf.pair l)|(have l:=Bf.keep (Bf.new _ _ _) o;let⟨F,G,H,I,J⟩:=Bf.pair l)|(have l:=Bf.keep (Bf.drew (Bf.new _ _ _)) o;let⟨F,G,H,I,J⟩:=Bf.pair l)|skip))
      | (go_at_call 194;(first|refine(Aga (cu.out _ b) (S.out _ b) b9 ch cd).mono ?_|refine(Aga (cu.out _ (Ao b _)) (S.out _ (Ao b _)) b9 ch cd).mono ?_);rintro e w2 ⟨v2,rfl,h2,t⟩;have u:=Below.refl w2.heap.size w2;(first|(replace b:=An b t)|(replace b:=An (Ao b _) t)|(replace b:=An (Aw blA) t));have n1:=b.size;(first|(replace l:=Bf.keep l t;let⟨F,G,H,I,J⟩:=Bf.pair l)|(have l:=Bf.keep (Bf.new _ _ _) t;let⟨F,G,H,I,J⟩:=Bf.pair l)|(have l:=Bf.keep (Bf.drew (Bf.new _ _ _)) t;let⟨F,G,H,I,J⟩:=Bf.pair l)|skip))
      | (go_at_call 195;refine(Alh _ _ _ _).mono ?_;rintro e w1 ⟨rfl,r⟩;(first|(replace b:=An b r)|(replace b:=An (Ao b _) r)|(replace b:=An (Aw blA) r));have n0:=b.size;(first|(replace l:=Bf.keep l r;let⟨F,G,H,I,J⟩:=Bf.pair l)|(have l:=Bf.keep (Bf.new _ _ _) r;let⟨F,G,H,I,J⟩:=Bf.pair l)|(have l:=Bf.keep (Bf.drew (Bf.new _ _ _)) r;let⟨F,G,H,I,J⟩:=Bf.pair l)|skip))))
   all_goals go_wp2_with fail
   all_goals go_meet
   all_goals (first
    | exact⟨w5.heap.size,A5,n5,c5,rfl,(N.lower (Nat.zero_le _)).keep (Below.alloc bl0 (Nat.le_refl _) _),Bf.new _ _ _,j0,Ao b _⟩
    | exact⟨_,A5,n5,c5,rfl,(N.lower (Nat.zero_le _)).farB l _ _,(l.set_ 0 _).set_ 1 _,by assumption,Ba (Ba b (p:=⟨_,0,none⟩) (by assumption) _) (p:=⟨_,1,none⟩) (by assumption) _⟩)
  obtain⟨g,A5,n5,c5,rfl,N,hG,ih,C⟩:=hcut;have a7:x.den*f.den≠0:=Nat.mul_ne_zero bd cv;have EQ:Hid (mkRat z (x.den*f.den)=x+f):=Ar (by rw[<-HZ.out];exact(Rat.add_def' x f).symm);have W:=B.keep C;have Z:=y.keep C;have K:=Q.keep C;have mz:w.heap.size+1+1<X.heap.size:=a8;have ai:g≠w.heap.size+1+1:=by omega
  have M:=An k C;have hs:P9 wc 0 (.agg #[.bool (decide (z<0)),.slice A5 n5 c5]) z:=⟨_,rfl,N⟩;have d:=Aw (Below.refl wc.heap.size wc);have ar:=(ak.keep M).keep d;have aw:=(au.keep M).keep d;have fb:=hs.keep d;clear b B y Q C k cu cw cn S iy fr;go_wp2_with fail
  go_region_held3 (λj=>Cq j g 0 (.bool (decide (z<0)))/\Cq j g 1 (.slice A5 n5 c5)/\Cq j w.heap.size 2 (.slice Bx ox ex)/\Cq j (w.heap.size+1) 2 (.slice By oy ey))
   (first
    | with_reducible exact ft (hG.keep d) (W.keep d) (Z.keep d)
    | with_reducible exact ft ((hG.keep d).far3 ai _ _ _) ((W.keep d).far3 D _ _ _) ((Z.keep d).far3 E _ _ _))
   ((first
     | (go_at_call 260;have bq:=h6;refine(V7 (fb.keep L) h6 sz gx a7).mono ?_;rintro e w7 ⟨v7,rfl,h7,dc⟩;rw[EQ.out]at h7;obtain⟨_,A7,n7,c7,B7,o7,e7,rfl,rfl,dx,dk⟩:=h7.op;replace d:=An d dc;let⟨r0,r1,r2,f0,f1,f2,lt⟩:=(K.keep d).triple)
     | (go_at_call 256;refine(Ahf ar aw b8 U).mono ?_;rintro e w6 ⟨v6,rfl,h6,L⟩;replace d:=An d L)))
  all_goals go_wp2_with fail
  let⟨s0,s1,s2,HR⟩:=Dn (w:=w) (K.keep d) dx dk (Nat.lt_of_lt_of_le K.lt (An blD L).size) (by omega) (An M d);exact bodyPost_ret (v:=.agg #[.bool (decide ((x+f).num<0)),.slice A7 n7 c7,.slice B7 o7 e7]) (by simp[results,Tryz.results267,go_sem,s0,s1,s2]) rfl HR
 obtain⟨q0,q1,q2,-,-,-,-⟩:=y.triple;by_cases P:f.num=0
 .have e0:Hid (decide (f.num.natAbs=0)=true):=Ar (by simpa using P);have bl:=Ar P;clear P
  go_wp2_with (go_at_call 251;refine rR (yv (hy.keep k) V) λw3 o=>?_;rw[e0.out];let⟨r0,r1,r2,f0,f1,f2,lt⟩:=(Q.keep o).triple)
  obtain⟨s0,s1,s2,-,-,-,-⟩:=((Q.keep o).set3 (u':=.bool false) (v':=.slice none 0 0) (x':=.slice none 0 0)).triple;exact bodyPost_ret (v:=.tuple #[.agg #[.bool false,.slice none 0 0,.slice none 0 0],.bool false]) (by simp[results,Tryz.results204,go_sem,s0,s1,s2]) rfl ⟨_,_,_,_,_,_,_,by rw[bl.out];rfl,λh=>absurd bl.out h,Dw (An k o) (by omega) _ _ _⟩
 have hd:=Ar (Adh (xn:=x.num) (yn:=f.num) f.den P)
 have EQ:Hid (mkRat (sg (!(p == q)) (x.num.natAbs*f.den)) (x.den*f.num.natAbs)=x / f):=Ar (by
  have:=hd.out;rw[HP.out,HQ.out]at this;rw[this];exact(Aea x f P).symm)
 have e0:Hid (decide (f.num.natAbs=0)=false):=Ar (by simpa using P);have bl:Hid ((!decide (f.num=0))=true):=Ar (by simp[P]);let⟨z,hz⟩:=gN (x / f)
 have HZ:=Ar hz;rw[hz]at EQ;clear hz
 go_upto_region 4 with (go_at_call 251;refine rR (yv (hy.keep k) V) λw3 o=>?_;rw[e0.out])
 refine Cj (λY=>Be w Y/\Bf Y w.heap.size 171 #[.bool p,.slice Ax nx cx,.slice Bx ox ex]/\Bf Y (w.heap.size+1) 171 #[.bool q,.slice Ay ny cy,.slice By oy ey]/\Bf Y (w.heap.size+1+1) 171 #[.bool false,.slice none 0 0,.slice none 0 0]) ⟨An k o,B.keep o,y.keep o,Q.keep o⟩ ?_;rintro X ⟨k,B,y,Q⟩;have a8:=Q.lt;have b:=Aw (Below.refl X.heap.size X);have fr:X.heap.size<=X.heap.size:=Nat.le_refl _;have ek:=Ar λ(j:World) (h:Be X j)=>(hx.keep k).keep h;have S:=Ar λ(j:World) (h:Be X j)=>(au.keep k).keep h;have bs:Be X (X.alloc (.cells #[.bool false,.slice none 0 0] 169)).drew:=Aw blA;go_cut [6] λv6 wx=>∃(g:Nat) (A:Option Addr) (n c:Nat),v6=.pointer (some ⟨g,0,none⟩)/\Ce wx 0 (.slice A n c) (x.num.natAbs*f.den)/\Bf wx g 169 #[.bool (!(p == q)),.slice A n c]/\X.heap.size<=g/\Be X wx
 case first =>
  go_region_held3 (λj=>Cq j w.heap.size 0 (.bool p)/\Cq j w.heap.size 1 (.slice Ax nx cx)/\Cq j w.heap.size 2 (.slice Bx ox ex)/\Cq j (w.heap.size+1) 0 (.bool q)/\Cq j (w.heap.size+1) 1 (.slice Ay ny cy)/\Cq j (w.heap.size+1) 2 (.slice By oy ey))
   (first
    | with_reducible exact Kf (B.keep b) (y.keep b)
    | with_reducible exact Kf (B.keep (Ao b _)) (y.keep (Ao b _))
    | with_reducible exact Kf (B.keep bs) (y.keep bs)
    | with_reducible exact Kf (B.keep (Ba (Ba b (p:=⟨_,0,none⟩) (by assumption) _) (p:=⟨_,1,none⟩) (by assumption) _)) (y.keep (Ba (Ba b (p:=⟨_,0,none⟩) (by assumption) _) (p:=⟨_,1,none⟩) (by assumption) _)))
   ((go_at_call 256;(first|refine(Ahf (ek.out _ b) (S.out _ b) b9 U).mono ?_|refine(Ahf (ek.out _ bs) (S.out _ bs) b9 U).mono ?_);rintro e w4 ⟨v4,rfl,ds,s⟩;obtain⟨A4,n4,c4,rfl⟩:=ds.sl;(first|(replace b:=An b s)|(replace b:=An (Ao b _) s)|(replace b:=An (Aw blA) s));have fc:=b.size;(first|(replace l:=Bf.keep l s;let⟨F,G,H,I,J⟩:=Bf.pair l)|(have l:=Bf.keep (Bf.new _ _ _) s;let⟨F,G,H,I,J⟩:=Bf.pair l)|(have l:=Bf.keep (Bf.drew (Bf.new _ _ _)) s;let⟨F,G,H,I,J⟩:=Bf.pair l)|skip)))
  go_wp2_with fail;all_goals go_meet
  all_goals (first
   | exact⟨w4.heap.size,A4,n4,c4,rfl,(ds.lower (Nat.zero_le _)).keep (Below.alloc bl0 (Nat.le_refl _) _),Bf.new _ _ _,fc,Ao b _⟩
   | exact⟨_,A4,n4,c4,rfl,(ds.lower (Nat.zero_le _)).farB l _ _,(l.set_ 0 _).set_ 1 _,by assumption,Ba (Ba b (p:=⟨_,0,none⟩) (by assumption) _) (p:=⟨_,1,none⟩) (by assumption) _⟩)
 obtain⟨g,A5,n5,c5,rfl,N,hG,ih,C⟩:=hcut;have n9:0<f.num.natAbs:=by omega
 have a7:x.den*f.num.natAbs≠0:=Nat.mul_ne_zero bd (by omega);have R:Sm (x.den*f.num.natAbs):=by rw[Nat.mul_comm];exact e9
 have W:=B.keep C;have Z:=y.keep C;have K:=Q.keep C;have ai:g≠w.heap.size+1+1:=by omega
 have M:=An k C;have d:=Aw (Below.refl wc.heap.size wc);have ar:=(ak.keep M).keep d;have aw:=(hy.keep M).keep d;have ix:=N.keep d;go_wp2
 go_region_held3 (λj=>Cq j g 0 (.bool (!(p == q)))/\Cq j g 1 (.slice A5 n5 c5)/\Cq j w.heap.size 2 (.slice Bx ox ex)/\Cq j (w.heap.size+1) 1 (.slice Ay ny cy))
  (first
   | with_reducible exact Rp (hG.keep d) (W.keep d) (Z.keep d)
   | with_reducible exact Rp ((hG.keep d).far3 ai _ _ _) ((W.keep d).far3 D _ _ _) ((Z.keep d).far3 E _ _ _))
  ((first
    | (go_at_call 260;have bq:=h6;refine(Ru _ (ix.keep L) h6 e8 R a7).mono ?_;rintro e w7 ⟨v7,rfl,h7,dc⟩;rw[EQ.out]at h7;obtain⟨_,A7,n7,c7,B7,o7,e7,rfl,rfl,dx,dk⟩:=h7.op;replace d:=An d dc;let⟨r0,r1,r2,f0,f1,f2,lt⟩:=(K.keep d).triple)
    | (go_at_call 256;refine(Ahf ar aw b8 V).mono ?_;rintro e w6 ⟨v6,rfl,h6,L⟩;replace d:=An d L)))
 go_wp2;let⟨s0,s1,s2,v9,dy,HR,HB⟩:=Dn (w:=w) (K.keep d) dx dk (Nat.lt_of_lt_of_le K.lt (An blD L).size) (by omega) (An M d);injection dy with dy
 exact bodyPost_ret (v:=.tuple #[.agg #[.bool (decide (z.num<0)),.slice A7 n7 c7,.slice B7 o7 e7],.bool true]) (by simp[results,Tryz.results204,go_sem,s0,s1,s2]) rfl ⟨_,_,_,_,_,_,_,by rw[bl.out],λ_=>by rw[HZ.out,dy];exact HR,HB⟩
theorem Anq:RC 261 HMul.hMul:=λa b c d=>(Al8 a b c d).1
theorem Ans:RC 267 HAdd.hAdd:=λa b c d=>(Al8 a b c d).2.1
end
end Go.Proofs.YtlogblbfbihleaaGreat

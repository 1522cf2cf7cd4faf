/- Lean texts of the claim. -/
import Derived.Test.YtlogblbfbihleaaGreatZr22
import Derived.Sort.MapsRangeIn
import Derived.StringKeys
namespace Go.Proofs.YtlogblbfbihleaaGreat
set_option linter.all false
set_option maxRecDepth 100000
set_option maxHeartbeats 0
open Go.RowKit
variable{a:World}{b:TypeId}{e m:Nat}{f k l n:Value}{g:Rat}{h:Bool}{i:Option Addr}{j:Program}
theorem Ais{p q:Int×Int} (c:Nd p) (hq:Nd q):sqd p q<17592186044416/\((q.1-p.1)*(q.1-p.1)+(q.2-p.2)*(q.2-p.2)=(sqd p q:Int)):=by
 unfold Nd at c hq;have a:=Na (d:=q.1-p.1) (M:=2097152) (by omega) (by omega);have b:=Na (d:=q.2-p.2) (M:=2097152) (by omega) (by omega);have e:0<=(q.1-p.1)*(q.1-p.1):=by rcases Int.le_total 0 (q.1-p.1) with h|h;exact Int.mul_nonneg h h;exact Int.mul_nonneg_of_nonpos_of_nonpos h h
 have f:0<=(q.2-p.2)*(q.2-p.2):=by rcases Int.le_total 0 (q.2-p.2) with h|h;exact Int.mul_nonneg h h;exact Int.mul_nonneg_of_nonpos_of_nonpos h h
 unfold sqd;omega
theorem Ain(p q:Int×Int) (c sg:Int) (w:World) (L:Nd p) (hq:Nd q) (z:p≠q) (hc:0<=c/\c<=500) (N:sg=1\/sg = -1) :
 Calls Tryz.prog 116 #[.agg #[p.1,p.2],.agg #[q.1,q.2],c,sg] w (Bz w (.agg #[(sg*F8 (c*(q.2-p.2)) (Ca (sqd p q)):Int),(-sg*F8 (c*(q.1-p.1)) (Ca (sqd p q)):Int)])):=by
 let⟨n,g⟩:=Ais L hq;obtain⟨-,r1,r2,B,C,D,E⟩:=Nl L hq z;obtain⟨a,b⟩:=p;obtain⟨x,y⟩:=q;clear z;obtain⟨p1,p2,p3,p4⟩:=L;obtain⟨q1,q2,q3,q4⟩:=hq;dsimp only at *
 have m:=Ar λA:World=>Al0 (sqd (a,b) (x,y)) A n;let⟨S,hS⟩:=gN (sqd (a,b) (x,y))
 let⟨R,hR⟩:=gN (Ca S)
 rw[hS]at n g r1 r2 B C D E m ⊢;rw[hR]at r1 r2 B C D E m ⊢;let⟨h,s⟩:=gN (x-a)
 let⟨i,t⟩:=gN (y-b)
 rw[s]at g B C ⊢;rw[t]at g D E ⊢;clear hS hR;obtain⟨c1,c2⟩:=hc;have u0:=(Na (d:=h) (M:=2097152) (by omega) (by omega));have v0:=(Na (d:=i) (M:=2097152) (by omega) (by omega));let⟨u,O⟩:=gN (h*h)
 let⟨v,P⟩:=gN (i*i)
 rw[O]at g u0;rw[P]at g v0;have Q:=Ahj (c:=c) (d:=h) (R:=R) (by omega) (by omega) (by omega) B C;have T:=Ahj (c:=c) (d:=i) (R:=R) (by omega) (by omega) (by omega) D E;let⟨e,H⟩:=gN (c*h)
 let⟨f,I⟩:=gN (c*i)
 rw[H]at Q ⊢;rw[I]at T ⊢;have g1:=L4 (M:=500) (show (0:Int)<R by omega) Q.1 Q.2 (by omega);have g2:=L4 (M:=500) (show (0:Int)<R by omega) T.1 T.2 (by omega);have U:=Ar (λA:World=>Ac9 e R A (by omega) (by omega) (by omega) (by omega));have V:=Ar (λA:World=>Ac9 f R A (by omega) (by omega) (by omega) (by omega));let⟨j,hj⟩:=gN (F8 e R)
 let⟨k,hk⟩:=gN (F8 f R)
 rw[hj]at g1 U ⊢;rw[hk]at g2 V ⊢;have Z1 : -500<=sg*k/\sg*k<=500:=by rcases N with rfl|rfl<;>omega
 have Z2 : -500 <= -sg*j /\ -sg*j<=500:=by rcases N with rfl|rfl<;>omega
 let⟨K,G⟩:=gN (sg*k)
 let⟨J,F⟩:=gN (-sg*j)
 have b9 : -1<=sg/\sg<=1:=by omega
 rw[G]at Z1 ⊢;rw[F]at Z2 ⊢;have W1:IntKind.i64.wrap (x-a)=h:=by rw[IntKind.wrap_i64];omega
 have W2:IntKind.i64.wrap (y-b)=i:=by rw[IntKind.wrap_i64];omega
 have W3:IntKind.i64.wrap (h*h)=u:=by rw[O,IntKind.wrap_i64];omega
 have W4:IntKind.i64.wrap (i*i)=v:=by rw[P,IntKind.wrap_i64];omega
 have W5:IntKind.i64.wrap (u+v)=S:=by rw[g,IntKind.wrap_i64];omega
 have W6:IntKind.i64.wrap (c*h)=e:=by rw[H,IntKind.wrap_i64];omega
 have W7:IntKind.i64.wrap (c*i)=f:=by rw[I,IntKind.wrap_i64];omega
 have W8:IntKind.i64.wrap (sg*k)=K:=by rw[G,IntKind.wrap_i64];omega
 have W9:IntKind.i64.wrap (-sg*j)=J:=by rw[F,IntKind.wrap_i64];omega
 clear s t O P H I hj hk G F N g;go_in;go_upto_region 1 with fail;refine Jy λX l W Z r=>?_
 obtain⟨P0,P1,-,-,-⟩:=W.pair;obtain⟨Q0,Q1,-,-,-⟩:=Z.pair;go_quiet (fail);replace r:=r.keep (Bd (Below.refl X.heap.size X) nq);replace l:=Bd l nq;let⟨Y,hY⟩:=gN (X.drewN nq)
 go_upto_region 2 with fail;rw[hY]at r l ⊢;clear hY P0 P1 Q0 Q1 W Z W1 W2;let⟨z0,z1,f0,f1,lt⟩:=r.pair;obtain⟨s0,s1,-,-,-⟩:=Bf.pair ((r.set_ 0 (.int .i64 K)).set_ 1 (.int .i64 J))
 go_wp2_with (first|(go_at_call 163;(with_reducible refine(m.out _).mono ?_);rintro o w1 ⟨rfl,rfl⟩)|(go_at_call 164;first|((with_reducible refine(V.out _).mono ?_);rintro o w1 ⟨rfl,rfl⟩)|((with_reducible refine(U.out _).mono ?_);rintro o w1 ⟨rfl,rfl⟩)))
 exact bR ⟨rfl,Ba (Ba l (p:=⟨w.heap.size+1+1,0,none⟩) (by simp;omega) _) (p:=⟨w.heap.size+1+1,1,none⟩) (by simp;omega) _⟩ rfl (by simp[results,Tryz.results116,go_sem,s0,s1])
theorem Aka(a b c:Nat) (w:World) (B:1<=c) (P:c<=1099511627776) (Q:b<=1099511627776) (R:a<=c) :
 Calls Tryz.prog 162 #[(a:Int),(b:Int),(c:Int)] w λe K=>(∃z:Int,e=.returned (.int .i64 z))/\Be w K:=by
 let⟨q,hq⟩:=gN (b / c)
 let⟨r,i⟩:=gN (b % c)
 have I:q<=b:=by rw[<-hq];exact Nat.div_le_self _ _
 have J:r<c:=by rw[<-i];exact Nat.mod_lt _ B
 have n:Int.tdiv (b:Int) (c:Int)=(q:Int):=by rw[<-hq,Int.tdiv_eq_ediv_of_nonneg (by omega)];rfl
 have p:Int.tmod (b:Int) (c:Int)=(r:Int):=by rw[<-i,Int.ofNat_tmod]
 have t:(b:Int) / (c:Int)=(q:Int):=by rw[<-hq];rfl
 have x:(b:Int) % (c:Int)=(r:Int):=by rw[<-i];rfl
 have y:IntKind.i64.wrap (q:Int)=q:=by rw[IntKind.wrap_i64];omega
 have A:IntKind.i64.wrap (r:Int)=r:=by rw[IntKind.wrap_i64];omega
 have M:((c:Int) == 0)=false:=by simp;omega
 have N:¬(c:Int)=0:=by omega
 have O:¬c=0:=by omega
 clear hq i;go_enter Tryz.func162,Tryz.ntmps162;go_upto_region 1 with fail;go_quiet (fail);have F:=Bd (Below.refl w.heap.size w) nq;let⟨Y,E⟩:=gN (w.drewN nq)
 go_upto_region 2 with fail;rw[E]at F ⊢;clear E n p t x y A;let⟨z,U⟩:=gN (IntKind.i64.wrap ((a:Int)*q))
 go_upto_region 5 with fail;go_loopw [10,11,12] (λs l k wr=>∃(j m:Nat) (o:Int),j<=41/\m<c/\s=.int .i64 o/\l=.int .i64 (m:Int)/\k=.int .i64 ((j:Int)-1)/\Y=wr) λ_ _ k _=>(intOf k+1).toNat
 case atStart=>exact⟨41,0,0,by omega,by omega,rfl,rfl,by go_num,rfl⟩
 obtain⟨j,m,o,S,T,rfl,rfl,rfl,rfl⟩:=hrel;cases j with
 | zero =>
   go_wp2_with fail;all_goals go_ret
   all_goals exact⟨⟨_,rfl⟩,F⟩
 | succ k =>
   have L:((k+1:Nat):Int)-1=(k:Int):=by omega
   rw[L];let⟨G,g⟩:=gN (wrap64 (2*o))
   go_upto_region 10 with fail;all_goals rw[g]
   .obtain⟨e,C⟩:∃e,2*m+r=e:=⟨_,rfl⟩
    rw[show 2*(m:Int)+(r:Int)=(e:Int) by omega];have H:e<4398046511104:=by omega
    clear C g;let⟨u,d⟩:=gN (e / c)
    let⟨v,f⟩:=gN (e % c)
    have D:u<=e:=by rw[<-d];exact Nat.div_le_self _ _
    have h:v<c:=by rw[<-f];exact Nat.mod_lt _ B
    have n:Int.tdiv (e:Int) (c:Int)=(u:Int):=by rw[<-d,Int.tdiv_eq_ediv_of_nonneg (by omega)];try rfl
    have p:Int.tmod (e:Int) (c:Int)=(v:Int):=by rw[<-f,Int.ofNat_tmod]
    have t:(e:Int) / (c:Int)=(u:Int):=by rw[<-d];try rfl
    have x:(e:Int) % (c:Int)=(v:Int):=by rw[<-f];rfl
    have y:IntKind.i64.wrap (u:Int)=u:=by rw[IntKind.wrap_i64];omega
    have A:IntKind.i64.wrap (v:Int)=v:=by rw[IntKind.wrap_i64];omega
    clear d f;go_wp2_with fail;exact⟨⟨k,v,_,by omega,h,rfl,rfl,by go_num,trivial⟩,by simp[intOf]⟩
   let⟨e,C⟩:=gN (2*m)
   rw[show 2*(m:Int)=(e:Int) by omega];have H:e<4398046511104:=by omega
   clear C g;let⟨u,d⟩:=gN (e / c)
   let⟨v,f⟩:=gN (e % c)
   have D:u<=e:=by rw[<-d];exact Nat.div_le_self _ _
   have h:v<c:=by rw[<-f];exact Nat.mod_lt _ B
   have n:Int.tdiv (e:Int) (c:Int)=(u:Int):=by rw[<-d,Int.tdiv_eq_ediv_of_nonneg (by omega)];try rfl
   have p:Int.tmod (e:Int) (c:Int)=(v:Int):=by rw[<-f,Int.ofNat_tmod]
   have t:(e:Int) / (c:Int)=(u:Int):=by rw[<-d];try rfl
   have x:(e:Int) % (c:Int)=(v:Int):=by rw[<-f];rfl
   have y:IntKind.i64.wrap (u:Int)=u:=by rw[IntKind.wrap_i64];omega
   have A:IntKind.i64.wrap (v:Int)=v:=by rw[IntKind.wrap_i64];omega
   clear d f;go_wp2_with fail;exact⟨⟨k,v,_,by omega,h,rfl,rfl,by go_num,trivial⟩,by simp[intOf]⟩
theorem Amy (a b c:Int) (w:World):Calls Tryz.prog 115 #[a,b,.bool false,c] w λe u=>(∃z:Int,e=.returned (.tuple #[z,(if Mb a b c then 3 else 0:Int)]))/\Be w u:=by
 cases h:Mb a b c with
 | false =>
   have d:¬a<1/\¬1099511627776<a/\¬b<0/\¬1099511627776<b/\¬c<0/\¬a<c:=by unfold Mb at h;simp at h;omega
   clear h;obtain⟨q,rfl⟩:∃n:Nat,a=n:=⟨a.toNat,by omega⟩
   obtain⟨r,rfl⟩:∃n:Nat,b=n:=⟨b.toNat,by omega⟩
   obtain⟨s,rfl⟩:∃n:Nat,c=n:=⟨c.toNat,by omega⟩
   obtain⟨E,F,G,H,I,J⟩:=d;go_enter Tryz.func115,Tryz.ntmps115
   go_wp2_with (go_at_call 162;(with_reducible refine(Aka s r q _ (by omega) (by omega) (by omega) (by omega)).mono ?_);rintro e K ⟨⟨z,rfl⟩,t⟩)
   all_goals go_ret2
   all_goals exact⟨⟨_,rfl⟩,t⟩
 | true =>
   have d:a<1\/1099511627776<a\/b<0\/1099511627776<b\/c<0\/a<c:=by unfold Mb at h;simp at h;omega
   have f:=Ar d;clear h d;let⟨j,v⟩:=gN (decide (a<1))
   let⟨k,y⟩:=gN (decide (1099511627776<a))
   let⟨l,A⟩:=gN (decide (b<0))
   let⟨m,B⟩:=gN (decide (1099511627776<b))
   let⟨o,C⟩:=gN (decide (c<0))
   let⟨p,D⟩:=gN (decide (a<c))
   have g:Hid ((j || k || l || m || o || p)=true):=Ar (by
    have:=f.out;rw[<-v,<-y,<-A,<-B,<-C,<-D];simp;omega)
   clear f;go_enter Tryz.func115,Tryz.ntmps115;have i:=g.out;cases j<;>cases k<;>cases l<;>cases m<;>cases o<;>cases p<;>(first|(simp at i;done)|skip)
   all_goals clear i g
   all_goals go_wp2_with fail
   all_goals go_ret2
   all_goals exact⟨⟨_,rfl⟩,bl0⟩
theorem dd(A:Option Addr) (f n:Nat) (l:List (Int×Int)) (w:World) (o:n<=9223372036854775807) (a:n<=f) (g:SpS w A n l) :
 Calls Tryz.prog 123 #[.slice A n f] w λe k=>e=.returned (.int .i64 (if Bg l n=0 then F4 l n n else 0))/\Below w.heap.size w k:=by
 by_cases d:Bg l n=0
 .rw[if_pos d];have i:=El d;have q:(Bg l n != 0)=false:=by rw[d];rfl
  clear d;obtain⟨b,j,rfl,-,-⟩:=g.at_ (show 0<n by omega);go_enter Tryz.func123,Tryz.ntmps123
  go_wp2_with (first|(go_at_call 76;refine rR (Hr _ _ _ l _ (by omega) a g) λm c=>?_)|(go_at_call 176;refine rR (bf _ _ _ _ l _ (by omega) (by omega) a (g.keep c)) λp h=>?_))
  go_ret;exact⟨rfl,An c h⟩
 rw[if_neg d];have q:(Bg l n != 0)=true:=by simpa using d
 clear d;go_enter Tryz.func123,Tryz.ntmps123
 go_wp2_with (go_at_call 76;refine rR (Hr _ _ _ l _ (by omega) a g) λm c=>?_)
 go_ret;exact⟨rfl,c⟩
def Kp (v:LP):Int:=if Qi v<0 then -1 else 1
theorem Oc(A:Option Addr) (a n:Nat) (l:LP) (w:World) (j:n<=9223372036854775807) (b:n<=a) (g:SpS w A n l) :
 Calls Tryz.prog 78 #[.slice A n a] w (Bz w (Kp l)):=by
 have d:=Ar λi (h:SpS i A n l)=>dd A a n l i j b h;have c:=Ar (show Kp l=if (if Bg l n=0 then F4 l n n else 0)<0 then -1 else 1 by unfold Kp Qi;rw[g.1]);generalize k:(if Bg l n=0 then F4 l n n else 0)=z at d c;clear k;go_in
 go_wp2_with (go_at_call 123;(with_reducible refine(d.out _ g).mono ?_);rintro e m ⟨rfl,f⟩)
 all_goals go_ret
 .exact⟨by rw[c.out,if_pos (by assumption)];rfl,f⟩
 exact⟨by rw[c.out,if_neg (by omega)];rfl,f⟩
theorem Ah4 {f:Nat} (h:f=106\/f=119) (x y a b:Int) (w:World) (m : -4611686018427387904<=x+a) (n:x+a<=4611686018427387904) (o : -4611686018427387904<=y+b) (q:y+b<=4611686018427387904):Calls Tryz.prog f #[.agg #[x,y],.agg #[a,b]] w (Bz w (.agg #[(x+a:Int),(y+b:Int)])):=by
 rcases h with rfl|rfl
 all_goals
  go_in;go_upto_region 1 with fail;refine Jy λX c e g d=>?_
  obtain⟨r,s,-,-,-⟩:=e.pair;obtain⟨t,u,-,-,-⟩:=g.pair;let⟨z,A,k,l,lt⟩:=d.pair;obtain⟨i,j,-,-,-⟩:=Bf.pair ((d.set_ 0 (.int .i64 (x+a))).set_ 1 (.int .i64 (y+b)));go_wp2;exact bR ⟨rfl,Ba (Ba c (p:=⟨w.heap.size+1+1,0,none⟩) (by simp;omega) _) (p:=⟨w.heap.size+1+1,1,none⟩) (by simp;omega) _⟩ rfl (by simp[results,Tryz.results106,Tryz.results119,go_sem,i,j])
def Sz:=@Ah4 106 (.inl rfl)
def xg:=@Ah4 119 (.inr rfl)
theorem jq(a b:ByteArray):Gq a b=Gq b a:=by unfold Gq;rw[Bool.beq_comm]
def twB (l:List ByteArray) (i:Nat):Bool:=Bp (λj=>Gq (gb l j) (gb l i)) i
theorem Ac0(A:Option Addr) (h n:Nat) (l:List ByteArray) (w:World) (M:n<=1000000) (p:StS w A n l) :
 Calls Tryz.prog 43 #[.slice A n h] w (Bz w (.bool (Bp (twB l) n))):=by
 go_in;go_upto_region 2 with fail;go_loopw [3,4] (λi _ wr=>∃k:Nat,k<=n/\i=.int .i64 k/\Hid (Bp (twB l) k=false)/\Be w wr) λi _ _=>n-(intOf i).toNat
 case atStart=>exact⟨0,Nat.zero_le _,rfl,Bp.zero _,bl0⟩
 obtain⟨k,L,rfl,o,a⟩:=hrel;by_cases d:k<n
 .have F:(k:Int)<(n:Int):=by omega
  have E:(0:Int)<=(k:Int):=by omega
  go_upto_region 5 with fail;go_loopw [4] (λj wr=>∃i:Nat,i<=k/\j=.int .i64 i/\Hid (Bp (λj=>Gq (gb l j) (gb l k)) i=false)/\Be w wr) λj _=>k-(intOf j).toNat
  case atStart=>exact⟨0,Nat.zero_le _,rfl,Bp.zero _,a⟩
  clear a;obtain⟨i,K,rfl,hq,a⟩:=hrel;by_cases e:i<k
  .obtain⟨b,C,rfl,v,D⟩:=(p.keep a).at_ d;let⟨J,t,B,z,s2⟩:=(p.keep a).at_ (show i<n by omega);cases B
   have G:(i:Int)<(k:Int):=by omega
   have H:(i:Int)<(n:Int):=by omega
   have I:(0:Int)<=(i:Int):=by omega
   let⟨q,hq2⟩:=gN ((gb l k).toList == (gb l i).toList)
   have m:=Ar (show Gq (gb l i) (gb l k)=q by rw[jq];exact hq2);let⟨x,r⟩:=gN (gb l k)
   let⟨y,s⟩:=gN (gb l i)
   rw[r]at v hq2;rw[s]at z hq2;clear D s2 r s;go_upto_region 7 with fail;go_quiet (fail);have c:=Bd a nq;cases q with
   | true =>
     have u:=Ar (Bp.yes (f:=twB l) d (Bp.yes (f:=λj=>Gq (gb l j) (gb l k)) e m.out));go_wp2;go_ret;exact⟨by rw[u.out];rfl,c⟩
   | false =>
     have g:=Bp.succ (f:=λj=>Gq (gb l j) (gb l k)) hq.out m.out;go_wp2;exact⟨⟨i+1,by omega,by go_num,g,c⟩,by simp[intOf];omega⟩
  obtain rfl:k=i:=by omega
  have g:=Bp.succ (f:=twB l) o.out hq.out;go_wp2;exact⟨⟨k+1,by omega,by go_num,g,a⟩,by simp[intOf];omega⟩
 obtain rfl:n=k:=by omega
 go_wp2;go_ret;exact⟨by rw[o.out];rfl,a⟩
theorem ch3{w:World}   {c:Value} (h:Bf w e b #[f,k,c]):Cq w e 0 f/\Cq w e 1 k/\Cq w e 2 c :=
 ⟨(h.cell 0).trans rfl,(h.cell 1).trans rfl,(h.cell 2).trans rfl⟩
theorem Apj(A:Option Addr) (a:Nat) (x:ByteArray) (w:World):Calls Tryz.prog 196 #[.slice A 0 a,.string x] w λe b=>e=.returned (.int .i64 (-1))/\w=b:=by
 go_in;go_wp2;go_loopw [8] (λi wr=>i=.int .i64 0/\wr=w) λ_ _=>0
 case atStart=>exact⟨rfl,rfl⟩
 obtain⟨rfl,rfl⟩:=hrel;go_wp2;go_ret;exact⟨rfl,rfl⟩
theorem Aqg(A:Option Addr) (a:Nat) (x:ByteArray) (w:World):Calls Tryz.prog 143 #[.slice A 0 a,.string x] w λe b=>e=.returned (.bool false)/\w=b:=by
 go_in
 go_wp2_with (go_at_call 196;refine(Apj A a x _).mono ?_;rintro e c ⟨rfl,rfl⟩)
 go_ret;exact⟨rfl,rfl⟩
theorem Aas(g:Nat) (w:World):Calls Tryz.prog 145 #[.agg #[.slice (some ⟨g,0,none⟩) 1 1,.int .i64 0,.slice none 0 0],.int .i64 0] w (Bz w (.bool true)):=by
 go_in;go_upto_region 1 with fail;refine Bq λX a b=>?_
 let⟨c,d,e⟩:=ch3 b;go_wp2;go_ret;exact⟨rfl,a⟩
theorem Va(g:Nat) (s:ByteArray) (w:World) (l:s.size<=9223372036854775807) (j:Cq w g 0 (.string s)) :
 Calls Tryz.prog 96 #[.agg #[.slice (some ⟨g,0,none⟩) 1 1,.int .i64 0,.slice none 0 0]] w λe q=>e=.returned (.int .i64 (if szB s then 0 else 1))/\Be w q:=by
 let⟨b,c⟩:=gN (szB s)
 have h:=Ar c;rw[c];clear c;go_in;go_upto_region 1 with fail;refine Bq λX a m=>?_
 let⟨r,t,u⟩:=ch3 m;have n:=Aq a j;clear j;go_upto_region 6 with fail;cases b with
 | false =>
   go_loopw [4,28] (λ_ i wr=>i=.int .i64 0/\X=wr) λ_ _ _=>0
   case atStart=>exact⟨rfl,rfl⟩
   obtain⟨rfl,rfl⟩:=hrel
   go_wp2_with (go_at_call 140;refine(Y9 s _ l).mono ?_;rintro e f ⟨rfl,rfl⟩;rw[h.out])
   go_ret;exact⟨rfl,a⟩
 | true =>
   go_loopw [4,28] (λ_ i wr=>∃k:Nat,k<=1/\i=.int .i64 k/\X=wr) λ_ i _=>1-(intOf i).toNat
   case atStart=>exact⟨0,by omega,rfl,rfl⟩
   obtain⟨k,o,rfl,rfl⟩:=hrel;rcases(show k=0\/k=1 by omega) with rfl|rfl
   .go_wp2_with (go_at_call 140;refine(Y9 s _ l).mono ?_;rintro e f ⟨rfl,rfl⟩;rw[h.out])
    exact⟨⟨1,by omega,by go_num,by first|rfl|trivial⟩,by simp[intOf]⟩
   go_upto_region 12 with fail;go_loopw [6,39] (λ_ i wr=>i=.int .i64 0/\X=wr) λ_ _ _=>0
   case atStart=>exact⟨rfl,rfl⟩
   obtain⟨rfl,rfl⟩:=hrel;go_upto_region 18 with fail;go_loopw [7,8,69] (λ_ _ i wr=>∃k:Nat,k<=1/\i=.int .i64 k/\Hid (X=wr)) λ_ _ i _=>1-(intOf i).toNat
   case atStart=>exact⟨0,by omega,rfl,Ar rfl⟩
   obtain⟨k,o,rfl,p⟩:=hrel;obtain rfl:=p.out;rcases(show k=0\/k=1 by omega) with rfl|rfl
   .go_wp2_with (go_at_call 143;refine(Aqg _ _ s _).mono ?_;rintro e f ⟨rfl,rfl⟩)
    exact⟨⟨_,_,_,_,_,_,_,_,_,_,_,_,_,_,_,⟨1,by omega,by go_num,Ar trivial⟩,rfl⟩,by simp[intOf]⟩
   go_upto_region 24 with fail;go_loopw [9,10,84] (λ_ _ i wr=>i=.int .i64 0/\X=wr) λ_ _ _ _=>0
   case atStart=>exact⟨rfl,rfl⟩
   obtain⟨rfl,rfl⟩:=hrel
   go_wp2_with (go_at_call 145;refine rR (Aas g _) λf d=>?_)
   go_ret;exact⟨rfl,An a d⟩
theorem Tn(s:ByteArray) (w:World) (f:s.size<=9223372036854775807):Calls Tryz.prog 60 #[.string s] w (Bz w (.bool (szB s))):=by
 let⟨b,c⟩:=gN (szB s)
 have d:=Ar c;rw[c];clear c;go_in;cases b with
 | false =>
   go_wp2_with (go_at_call 96;refine rR (Va w.heap.size s _ f (((Bf.new _ _ _).cell 0).trans rfl)) λg a=>?_;rw[d.out];simp only[Bool.false_eq_true,if_false])
   go_ret;exact⟨rfl,An blA a⟩
 | true =>
   go_wp2_with (go_at_call 96;refine rR (Va w.heap.size s _ f (((Bf.new _ _ _).cell 0).trans rfl)) λg a=>?_;rw[d.out];simp only[if_true])
   go_ret;exact⟨rfl,An blA a⟩
section
open Go.RowKit Go.Maps
def okT (s:ByteArray):Prop:=s.size<=maxLen
def klT (s:ByteArray):Lit:=.string s.data.toList
theorem Anr:KeyRep Tryz.prog 9 Value.string okT klT where
 law:=string_keyed Tryz.underlying9
 of x hx:=WideMaps.keyOf_string_mk Tryz.underlying9 hx
 inv v l h:=by
  obtain⟨s,rfl⟩:=Maps.keyOf_string_inv Tryz.underlying9 h;refine⟨s,rfl,?_⟩;unfold okT;simp[keyOf,mapKey,Tryz.underlying9]at h;exact h.1
 inj x y h:=by injection h
theorem Ahv:∀w,(zeroValue 4).run Tryz.prog w=.ok (.bool false) w:=λ_=>by kernel_rfl
theorem Ae6{w c:World}  (b:Be a w) (d:w.grownBy c (some e)) (h:a.heap.size<=e):Be a c :=
 Below.grown b d b.size λk f=>by cases f;exact h
theorem Xv{a b:ByteArray}:Gq a b=true↔a=b:=by
 unfold Gq;rw[beq_iff_eq];exact⟨λh=>by rw[ByteArray.toList_eq,ByteArray.toList_eq]at h;exact WideShapes.bytes_inj h,λh=>by rw[h]⟩
theorem jo{l:List ByteArray} {x:ByteArray} {k:Nat} (b:k<=l.length):Bp (λj=>Gq (gb l j) x) k=true↔x∈l.take k:=by
 rw[Bp.iff,List.mem_take_iff_getElem];constructor
 .rintro⟨i,a,h⟩;have:=Xv.1 h;refine⟨i,by omega,?_⟩;rw[<-this];simp[gb,List.getD,show i<l.length by omega]
 rintro⟨i,a,h⟩;refine⟨i,by omega,?_⟩;rw[Xv,<-h];simp[gb,List.getD,show i<l.length by omega]
theorem Dd.getB{i:Type} {k t:TypeId} {g:i->Value} {ok:i->Prop} {q:i->Lit} {w:World}  {S:List i} (K:KeyRep j b g ok q) (ht:j.underlying t=some (.map b k)) (p:j.underlying k=some .bool) (y:(zeroValue k).run j w=.ok (.bool false) w) (h:Dd j b k ok q w e m S) {x:i} (l:ok x) {c:Bool} (o:c=true↔x∈S) :
 (Instr.lookup t (.map (some e)) (g x) false).run j w=.ok (.bool c) w:=by
 obtain⟨D,s,A,n⟩:=h;let⟨v,B,f,u⟩:=s.lookup K.law ht y (plainElem_bool p false) (K.of x l);obtain⟨z,rfl,a⟩:=Fa p u;injection a with a _
 by_cases d:x∈S
 .rw[(n x l).1 d]at a;injection a with a;injection a with a
  rw[f,<-a,o.2 d]
 rw[Maps.atKey_of_not_has ((n x l).2 d)]at a;injection a with a;injection a with a
 have r:c=false:=by
  cases c with
  | false=>rfl
  | true=>exact absurd (o.1 rfl) d
 rw[f,<-a,r]
structure SmS (s:StyleP):Prop where
 sz:s.sz.length<=4
 mu:s.mu.length<=4
 pc:s.pc.length<=4
 us:s.us.length<=4
 se:s.se.length<=6
 no:s.no<=8
theorem st7{w:World}   {c d h:Value} (H:Bf w e b #[f,k,c,d,l,n,h]):Cq w e 0 f/\Cq w e 1 k/\Cq w e 2 c/\Cq w e 3 d/\Cq w e 4 l/\Cq w e 5 n/\Cq w e 6 h :=
 ⟨(H.cell 0).trans rfl,(H.cell 1).trans rfl,(H.cell 2).trans rfl,(H.cell 3).trans rfl,(H.cell 4).trans rfl,(H.cell 5).trans rfl,(H.cell 6).trans rfl⟩
theorem Aqc(c:Array Value) (s:StyleP) (w:World) (g:StV w c s) (h:Cy s.nm=false):Calls Tryz.prog 35 #[.agg c] w (Bz w (.int .i64 1)):=by
 have d:=Ar h;clear h;obtain⟨q,y,r,z,t,A,u,B,v,C,x,D,rfl,⟨L,M,N⟩,⟨O,P,Q⟩,⟨R,S,T⟩,⟨i,j,k⟩,⟨l,m,n⟩,o,p⟩:=g;go_enter Tryz.func35,Tryz.ntmps35;go_upto_region 1 with fail;refine Bq λX b f=>?_
 let⟨E,F,G,H,I,J,K⟩:=st7 f
 go_wp2_with (go_at_call 59;refine rR (Hp s.nm _) λU a=>?_;rw[d.out])
 go_ret;exact⟨rfl,An b a⟩
theorem Aqb(f:Array Value) (s:StyleP) (w:World) (k:StV w f s) (h:Cy s.nm=true) (c:s.sz.length=0):Calls Tryz.prog 35 #[.agg f] w (Bz w (.int .i64 1)):=by
 have i:=Ar h;have g:=Ar c;clear h c;obtain⟨u,B,v,C,x,D,y,E,z,F,A,G,rfl,⟨O,P,Q⟩,⟨R,S,T⟩,⟨U,V,W⟩,⟨l,m,n⟩,⟨o,p,q⟩,r,t⟩:=k;go_enter Tryz.func35,Tryz.ntmps35;go_upto_region 1 with fail;refine Bq λX b j=>?_
 let⟨H,d,I,J,K,L,M⟩:=st7 j;rw[g.out]at d
 go_wp2_with (go_at_call 59;refine rR (Hp s.nm _) λY a=>?_;rw[i.out];have N:=Aq a d)
 go_ret;exact⟨rfl,An b a⟩
theorem Aqa(vs:Array Value) (s:StyleP) (w:World) (b8:SmS s) (hv:StV w vs s) (h:Cy s.nm=true) (h0:s.sz.length≠0):Calls Tryz.prog 35 #[.agg vs] w (Bz w (C6 s)):=by
 have V:=Ar (show C6 s=if Bp (λi=>!szB (gb s.sz i)) s.sz.length then 1
  else if s.mu.length≠s.sz.length\/Bp (λi=>(0:Int) == gi s.mu i) s.mu.length=false then 1
  else if Bp (λi=>Bp (λj=>Gq (gb s.sz j) (gb s.sz i)) i) s.sz.length then 7
  else if Bp (λi=>decide (gi s.mu i < -100) || decide (100<gi s.mu i)) s.mu.length then 3 else 0 by
  obtain⟨z1,z2,z3,z4,z5,z6⟩:=b8;unfold C6;rw[if_neg (by rw[h];simpa using h0),if_neg (show ¬(12<s.sz.length\/12<s.pc.length\/12<s.us.length) by omega),if_neg (show ¬(24<s.se.length\/16<s.no) by omega)])
 have HN:=Ar h;obtain⟨z1,z2,z3,z4,z5,z6⟩:=b8;have er:=@run_makeMap Tryz.prog;clear h;obtain⟨A1,c1,A2,c2,A3,c3,A4,c4,A5,c5,A6,c6,rfl,⟨v1,v2,v3⟩,⟨v4,v5,v6⟩,⟨v7,v8,v9⟩,⟨cz,fa,da⟩,⟨db,fb,dc⟩,dk,fc⟩:=hv;go_enter Tryz.func35,Tryz.ntmps35;go_upto_region 1 with fail;refine Bq λX E B=>?_
 let⟨p0,p1,p2,p3,p4,p5,p6⟩:=st7 B;let⟨y,b1⟩:=gN s.sz.length
 let⟨g,b2⟩:=gN s.mu.length
 let⟨n3,b3⟩:=gN s.pc.length
 let⟨n4,b4⟩:=gN s.us.length
 let⟨n5,b5⟩:=gN s.se.length
 let⟨n6,b6⟩:=gN s.no
 rw[b1]at h0 V p1 v1 v3 z1 B;rw[b2]at V p2 v4 v6 z2 B;rw[b3]at p3 v7 z3 B;rw[b4]at p4 cz z4 B;rw[b5]at p5 db z5 B;rw[b6]at p6 dk z6 B;clear b1 b2 b3 b4 b5 b6 v9 da dc;have cw:((y:Int) == 0)=false:=by simpa using h0
 go_upto_region 4 with (go_at_call 59;refine rR (Hp s.nm _) λw1 r=>?_;rw[HN.out];have Q:=Aq r p1)
 have ak:=B.keep r;have K:=v3.keep (An E r);have a8:=v6.keep (An E r);clear p0 p1 p2 p3 p4 p5 p6 Q B cw;go_loopw [4,23] (λ_ c wr=>∃k:Nat,k<=y/\c=.int .i64 k/\Hid (Bp (λi=>!szB (gb s.sz i)) k=false)/\Be w1 wr) λ_ c _=>y-(intOf c).toNat
 case atStart=>exact⟨0,Nat.zero_le _,rfl,Ar (Bp.zero _),bl0⟩
 obtain⟨k,hk,rfl,P,p⟩:=hrel;by_cases m:k<y
 .obtain⟨b0,cx,rfl,hc,u⟩:=(K.keep p).at_ m;have B1:(k:Int)<(y:Int):=by omega
  let⟨x,o⟩:=gN (gb s.sz k)
  rw[o]at hc u;cases d:szB x with
  | false =>
    have q:=Ar (show C6 s=1 by rw[V.out,if_pos (Bp.yes (f:=λi=>!szB (gb s.sz i)) m (by rw[o,d];rfl))]);have HB:=Ar d;clear o d
    go_wp2_with (go_at_call 60;refine rR (Tn x _ u) λz a=>?_;rw[HB.out])
    go_ret;exact⟨by rw[q.out];rfl,An E (An r (An p a))⟩
  | true =>
    have Y:=Bp.succ (f:=λi=>!szB (gb s.sz i)) P.out (by rw[o,d];rfl);have HB:=Ar d;clear o d
    go_wp2_with (go_at_call 60;refine rR (Tn x _ u) λz a=>?_;rw[HB.out])
    exact⟨⟨k+1,by omega,by go_num,Ar Y,An p a⟩,by simp[intOf];omega⟩
 obtain rfl:y=k:=by omega
 have v:=Ar (show C6 s=if g≠y\/Bp (λi=>(0:Int) == gi s.mu i) g=false then 1
  else if Bp (λi=>Bp (λj=>Gq (gb s.sz j) (gb s.sz i)) i) y then 7
  else if Bp (λi=>decide (gi s.mu i < -100) || decide (100<gi s.mu i)) g then 3 else 0 by rw[V.out,if_neg (by rw[P.out];simp)])
 have M:=An E (An r p);have C:=ak.keep p;have ar:=K.keep p;have A:=a8.keep p;clear ak K a8 p v3 v6;let⟨p0,p1,p2,p3,p4,p5,p6⟩:=st7 C;by_cases O:g=y
 .obtain rfl:=O;let⟨cb,N⟩:=gN (Bp (λi=>(0:Int) == gi s.mu i) g)
  have U:=Ar N;rw[N]at v;clear N;cases cb with
  | false =>
    have q:=Ar (show C6 s=1 by rw[v.out];simp)
    go_wp2_with (go_at_call 61;refine rR (Ll _ _ _ _ _ _ (by omega) A) λz a=>?_;rw[U.out])
    go_ret;exact⟨by rw[q.out];rfl,An M a⟩
  | true =>
    have G:=Ar (show C6 s=if Bp (λi=>Bp (λj=>Gq (gb s.sz j) (gb s.sz i)) i) g then 7
     else if Bp (λi=>decide (gi s.mu i < -100) || decide (100<gi s.mu i)) g then 3 else 0 by rw[v.out];simp)
    go_upto_region 12 with (go_at_call 61;refine rR (Ll _ _ _ _ _ _ (by omega) A) λz a=>?_;rw[U.out];let⟨q0,Q,q2,q3,q4,q5,q6⟩:=st7 (C.keep a))
    have au:=An M a;have J:=C.keep a;have L:=ar.keep a;have ad:=A.keep a;clear p0 p1 p2 p3 p4 p5 p6 C ar A a;let⟨R,I⟩:∃R,R=z.heap.size:=⟨_,rfl⟩
    have aw:Dd Tryz.prog 9 4 okT klT (z.alloc (.map #[] 0)) R 0 []:=by rw[I];exact Dd.made z
    have a7:z.heap.size<=R:=by omega
    have F:=Ar (Ao (Below.refl z.heap.size z) (.map #[] 0));have T:=Ar I;have W:=Ar aw;have Z:=Ar (st7 (J.keep F.out));clear aw I;rw[<-T.out];clear T;let⟨q0,Q,q2,q3,q4,q5,q6⟩:=Z.out;go_upto_region 13 with fail;clear q0 Q q2 q3 q4 q5 q6 Z;go_loopw [7,48] (λ_ c wr=>∃k:Nat,k<=g/\c=.int .i64 k/\Hid (Bp (λi=>Bp (λj=>Gq (gb s.sz j) (gb s.sz i)) i) k=false)/\Dd Tryz.prog 9 4 okT klT wr R k (s.sz.take k)/\Be z wr) λ_ c _=>g-(intOf c).toNat
    case atStart=>exact⟨0,Nat.zero_le _,rfl,Ar (Bp.zero _),W.out,F.out⟩
    clear W F;obtain⟨k,hk,rfl,P,hm,p⟩:=hrel;by_cases m:k<g
    .obtain⟨b0,cx,rfl,hc,u⟩:=(L.keep p).at_ m;have B1:(k:Int)<(g:Int):=by omega
     have ck:s.sz.length=g:=L.1;have a6:=Ar (show s.sz.take (k+1)=s.sz.take k++[gb s.sz k] by rw[List.take_succ_eq_append_getElem (by omega)];simp[gb,List.getD,show k<s.sz.length by omega]);have a1:=Ar (jo (l:=s.sz) (x:=gb s.sz k) (k:=k) (by omega));let⟨x,o⟩:=gN (gb s.sz k)
     rw[o]at hc u a6 a1;have HX:=Ar o;clear o ck;have b7:okT x:=u;have hg:=Dd.getB (t:=123) Anr Tryz.underlying123 Tryz.underlying4 (Ahv _) hm b7 a1.out;let⟨bb,d⟩:=gN (Bp (λj=>Gq (gb s.sz j) x) k)
     rw[d]at hg;have S:=Ar d;clear d;cases bb with
     | true =>
       have q:=Ar (show C6 s=7 by rw[G.out,if_pos (Bp.yes (f:=λi=>Bp (λj=>Gq (gb s.sz j) (gb s.sz i)) i) m (by rw[HX.out];exact S.out))])
       go_wp2_with fail;go_ret;exact⟨by rw[q.out];rfl,An au p⟩
     | false =>
       have Y:=Bp.succ (f:=λi=>Bp (λj=>Gq (gb s.sz j) (gb s.sz i)) i) P.out (by rw[HX.out];exact S.out);have cj:k<maxLen:=by unfold maxLen;omega
       go_wp2_with (at_mapUpdate;refine D8 rfl _ _ _ 123 rfl Anr Tryz.underlying123 Tryz.underlying4 rfl hm cj x b7 rfl rfl ?_;intro w5 cu ch)
       exact⟨⟨k+1,by omega,by go_num,Ar Y,by rw[a6.out];exact cu,Ae6 p ch a7⟩,by simp[intOf];omega⟩
    obtain rfl:g=k:=by omega
    have H:=Ar (show C6 s=if Bp (λi=>decide (gi s.mu i < -100) || decide (100<gi s.mu i)) g then 3 else 0 by rw[G.out,if_neg (by rw[P.out];simp)]);have D:=An au p;let⟨q0,Q,q2,q3,q4,q5,q6⟩:=st7 (J.keep p);have ai:=ad.keep p;clear hm P ad L J V v G;go_upto_region 24 with fail;clear q0 Q q2 q3 q4 q5 q6;let⟨wx,ba⟩:=gN (wr:World)
    rw[ba]at D ai ⊢;clear ba p;go_loopw [9,87] (λ_ c wy=>∃k:Nat,k<=g/\c=.int .i64 k/\Hid (Bp (λi=>decide (gi s.mu i < -100) || decide (100<gi s.mu i)) k=false)/\Hid (wx=wy)) λ_ c _=>g-(intOf c).toNat
    case atStart=>exact⟨0,Nat.zero_le _,rfl,Ar (Bp.zero _),Ar rfl⟩
    obtain⟨k,hk,rfl,bc,cv⟩:=hrel;obtain rfl:=cv.out;by_cases m:k<g
    .obtain⟨b9,e3,rfl,cg⟩:=ai.at_ m;have B1:(k:Int)<(g:Int):=by omega
     let⟨x,o⟩:=gN (gi s.mu k)
     rw[o]at cg;by_cases h0:x < -100
     .have q:=Ar (show C6 s=3 by rw[H.out,if_pos (Bp.yes (f:=λi=>decide (gi s.mu i < -100) || decide (100<gi s.mu i)) m (by rw[o];simp;omega))]);clear o;go_wp2_with fail;all_goals go_ret
      all_goals exact⟨by rw[q.out];rfl,D⟩
     by_cases h5:100<x
     .have q:=Ar (show C6 s=3 by rw[H.out,if_pos (Bp.yes (f:=λi=>decide (gi s.mu i < -100) || decide (100<gi s.mu i)) m (by rw[o];simp;omega))]);clear o;go_wp2_with fail;all_goals go_ret
      all_goals exact⟨by rw[q.out];rfl,D⟩
     have Y:=Bp.succ (f:=λi=>decide (gi s.mu i < -100) || decide (100<gi s.mu i)) bc.out (by rw[o];simp;omega);clear o;go_wp2_with fail;all_goals exact⟨⟨k+1,by omega,by go_num,Ar Y,by first|exact Ar rfl|exact Ar trivial⟩,by simp[intOf];omega⟩
    obtain rfl:g=k:=by omega
    have q:=Ar (show C6 s=0 by rw[H.out,if_neg (by rw[bc.out];simp)])
    go_wp2_with fail;go_ret;exact⟨by rw[q.out];rfl,D⟩
 have hn:((g:Int) != (y:Int))=true:=by rw[bne_iff_ne];omega
 have q:=Ar (show C6 s=1 by rw[v.out,if_pos (Or.inl O)]);clear O;go_wp2_with fail;all_goals go_ret
 all_goals exact⟨by rw[q.out];rfl,M⟩
theorem Te(a:Array Value) (s:StyleP) (w:World) (c:SmS s) (d:StV w a s):Calls Tryz.prog 35 #[.agg a] w (Bz w (C6 s)):=by
 cases hn:Cy s.nm with
 | false =>
   rw[show C6 s=1 by unfold C6;rw[if_pos (Or.inl hn)]];exact Aqc a s w d hn
 | true =>
   by_cases b:s.sz.length=0
   .rw[show C6 s=1 by unfold C6;rw[if_pos (Or.inr b)]];exact Aqb a s w d hn b
   exact Aqa a s w c d hn b
end
theorem Alw(r:Array Value) (s:StyleP) (w:World) (g:SmS s) (t:StV w r s):Calls Tryz.prog 44 #[.agg r] w (Bz w (.bool false)):=by
 obtain⟨J,z2,K,L,M,N⟩:=g;obtain⟨O,U,P,V,Q,W,R,Y,S,Z,T,c6,rfl,⟨A,B,C⟩,⟨D,E,F⟩,⟨G,H,I⟩,⟨h,i,j⟩,⟨k,l,m⟩,o,p⟩:=t;go_enter Tryz.func44,Tryz.ntmps44;go_upto_region 1 with fail;refine Bq λX f q=>?_
 let⟨p0,u,p2,v,x,y,z⟩:=st7 q;clear A B C D E F G H I h i j k l m o p;let⟨n1,a⟩:=gN s.sz.length
 let⟨n3,b⟩:=gN s.pc.length
 let⟨n4,c⟩:=gN s.us.length
 let⟨n5,d⟩:=gN s.se.length
 let⟨n6,e⟩:=gN s.no
 rw[a]at u J;rw[b]at v K;rw[c]at x L;rw[d]at y M;rw[e]at z N;clear a b c d e q;go_wp2_with fail;go_ret;exact⟨Bn (by simp;omega),f⟩
theorem Acz {f:Nat} (D:f=37\/f=71) (A:Array Value) (s:StyleP) (x y:Int) (w:World) (g:SmS s) (E:StV w A s):Calls Tryz.prog f #[.agg A,x,y] w (Bz w (.bool (Td s.pc x y))):=by
 rcases D with rfl|rfl
 all_goals
  have d:=Ar (show Td s.pc x y=(decide (0<=x)&&decide (x<s.pc.length)&&decide (0<=y)&&decide (y<(pce s.pc x.toNat).ed.length)) from rfl);obtain⟨W,c1,Y,c2,Z,c3,A4,c4,A5,c5,A6,c6,rfl,⟨v1,v2,v3⟩,⟨v4,v5,v6⟩,⟨z,v8,r⟩,⟨N,O,P⟩,⟨Q,R,S⟩,T,U⟩:=E;have z3:=g.pc;clear g;by_cases C:0<=x
  .obtain⟨j,rfl⟩:∃j:Nat,x=j:=⟨x.toNat,by omega⟩
   go_in;go_upto_region 1 with fail;refine Bq λX a p=>?_
   let⟨H,I,J,q,K,L,M⟩:=st7 p;let⟨l,b⟩:=gN s.pc.length
   rw[b]at q z r d;clear b;by_cases t:j<l
   .obtain⟨b0,G,rfl,V,h,u⟩:=(r.keep a).at_ t;obtain⟨E1,d1,E2,d2,E3,d3,E4,d4,rfl,⟨B,g2,-⟩,-⟩:=h;have F:=u 1 _ rfl;have o:(j:Int)<(l:Int):=by omega
    have i:=Ar (show Td s.pc (j:Int) y=(decide (0<=y)&&decide (y<(pce s.pc j).ed.length)) by rw[d.out,decide_eq_true (show (0:Int)<=(j:Int) by omega),decide_eq_true o];simp);let⟨m,v⟩:=gN ((pce s.pc j).ed.length)
    rw[v]at i F B;clear u v d;by_cases e:0<=y
    .by_cases k:y<(m:Int)
     .have c:=Ar (show Td s.pc (j:Int) y=true by rw[i.out];simp[e,k])
      go_wp2_with fail;all_goals go_ret
      all_goals exact⟨by rw[c.out];simp[e,k],a⟩
     have c:=Ar (show Td s.pc (j:Int) y=false by rw[i.out];simp[e,k])
     go_wp2_with fail;all_goals go_ret
     all_goals exact⟨by rw[c.out];simp[e,k],a⟩
    have c:=Ar (show Td s.pc (j:Int) y=false by rw[i.out];simp[e])
    go_wp2_with fail;all_goals go_ret
    all_goals exact⟨by rw[c.out];rfl,a⟩
   have o:¬(j:Int)<(l:Int):=by omega
   have c:=Ar (show Td s.pc (j:Int) y=false by rw[d.out,decide_eq_false o];simp);clear t;go_wp2_with fail;all_goals go_ret
   all_goals exact⟨by rw[c.out];rfl,a⟩
  have c:=Ar (show Td s.pc x y=false by rw[d.out,decide_eq_false C];simp);go_in;go_upto_region 1 with fail;refine Bq λX a p=>?_
  let⟨H,I,J,q,K,L,M⟩:=st7 p;let⟨l,b⟩:=gN s.pc.length
  rw[b]at q z r d;clear b;go_wp2_with fail;all_goals go_ret
  all_goals exact⟨by rw[c.out];rfl,a⟩
def Fx:=@Acz 37 (.inl rfl)
def Kd:=@Acz 71 (.inr rfl)
def ij (p:PieceP):Int:=if p.wd.length≠p.ed.length then 1 else if Bp (wdB p.wd) p.wd.length then 3 else 0
theorem Aer(y:Array Value) (p:PieceP) (w:World) (F:PcV w y p) (C:p.ed.length<=1000000):Calls Tryz.prog 70 #[.agg y] w (Bz w (ij p)):=by
 obtain⟨M,S,N,T,O,U,P,V,rfl,⟨J,v2,L⟩,-,-,⟨q,K,l⟩⟩:=F;have d:=Ar (show ij p=if p.wd.length≠p.ed.length then 1 else if Bp (wdB p.wd) p.wd.length then 3 else 0 from rfl);clear L;go_in;go_upto_region 1 with fail;refine Bq λX a u=>?_
 obtain⟨-,H,-,-,-,I,-⟩:=st7 u;have t:=l.keep a;let⟨x,g⟩:=gN p.ed.length
 let⟨n4,h⟩:=gN p.wd.length
 rw[g]at d H J C;rw[h]at d I q t;clear g h u l;by_cases j:n4=x
 .subst j;have r:=Ar (show ij p=if Bp (wdB p.wd) n4 then 3 else 0 by rw[d.out,if_neg (by omega)]);clear d;go_upto_region 4 with fail;go_loopw [3] (λi wr=>∃k:Nat,k<=n4/\i=.int .i64 k/\Hid (Bp (wdB p.wd) k=false)/\X=wr) (λi _=>n4-(intOf i).toNat)
  case atStart=>exact⟨0,Nat.zero_le _,rfl,Bp.zero _,rfl⟩
  obtain⟨k,Z,rfl,v,rfl⟩:=hrel;by_cases e:k<n4
  .obtain⟨b,G,rfl,E⟩:=t.at_ e;have R:(k:Int)<(n4:Int):=by omega
   have Q:(0:Int)<=(k:Int):=by omega
   let⟨z,o⟩:=gN (gi p.wd k)
   have s:=Ar (show wdB p.wd k=(decide (z<0) || decide (500<z)) by unfold wdB;rw[o]);rw[o]at E;clear o;by_cases m:z<0\/500<z
   .have c:=Ar (show ij p=3 by rw[r.out,if_pos (Bp.yes (f:=wdB p.wd) e (by rw[s.out];simpa using m))]);rcases Classical.em (z<0) with D|D
    .clear m;go_wp2;go_ret;exact⟨by rw[c.out];rfl,a⟩
    replace m:500<z:=by omega
    go_wp2;go_ret;exact⟨by rw[c.out];rfl,a⟩
   have A:=Bp.succ (f:=wdB p.wd) v.out (by rw[s.out];simp;omega);have W:¬z<0:=by omega
   have Y:¬500<z:=by omega
   clear m;go_wp2;exact⟨⟨k+1,by omega,by go_num,A,trivial⟩,by simp[intOf];omega⟩
  obtain rfl:n4=k:=by omega
  have c:=Ar (show ij p=0 by rw[r.out,v.out];rfl);go_wp2;go_ret;exact⟨by rw[c.out];rfl,a⟩
 have c:=Ar (show ij p=1 by rw[d.out,if_pos j]);have B:¬(n4:Int)=(x:Int):=by omega
 go_wp2;go_ret;exact⟨by rw[c.out];rfl,a⟩
theorem vk(f:Nat->Bool) (k:Nat):Bp f (k+1)=(Bp f k || f k):=by
 unfold Bp;rw[List.range_succ,List.any_append];simp
def ik (s:StyleP):Bool:=Cy s.nm&&!decide (s.sz.length=0)&&!Bp (λi=>!szB (gb s.sz i)) s.sz.length&&(Bp (λi=>(0:Int) == gi s.mu i) s.mu.length&&decide (s.mu.length=s.sz.length))
theorem jb(vs:Array Value) (s:StyleP) (w:World) (I:SmS s) (hv:StV w vs s):Calls Tryz.prog 42 #[.agg vs] w (Bz w (.bool (ik s))):=by
 obtain⟨z1,z2,z3,z4,z5,z6⟩:=I;have l:=Ar (show ik s=(Cy s.nm&&!decide (s.sz.length=0)&&!Bp (λi=>!szB (gb s.sz i)) s.sz.length&&(Bp (λi=>(0:Int) == gi s.mu i) s.mu.length&&decide (s.mu.length=s.sz.length))) from rfl);obtain⟨A1,c1,A2,c2,A3,c3,A4,c4,A5,c5,A6,c6,rfl,⟨v1,v2,Z⟩,⟨v4,v5,v6⟩,⟨v7,v8,v9⟩,⟨L,M,N⟩,⟨O,P,Q⟩,R,S⟩:=hv;go_enter Tryz.func42,Tryz.ntmps42;go_upto_region 1 with fail;refine Bq λX a V=>?_
 let⟨p0,p1,p2,p3,p4,p5,p6⟩:=st7 V;have W:=Z.keep a;have U:=v6.keep a;clear Z v6 v7 v8 v9 L M N O P Q R S p3 p4 p5 p6 V z3 z4 z5 z6;let⟨b,u⟩:=gN s.sz.length
 let⟨h,y⟩:=gN s.mu.length
 rw[u]at l p1 v1 z1 W;rw[y]at l p2 v4 z2 U;clear u y;let⟨q,hq⟩:=gN (Cy s.nm)
 rw[hq]at l;have F:=Ar hq;clear hq;by_cases d:q=false\/b=0
 .have o:=Ar (show ik s=false by rw[l.out];rcases d with rfl|rfl<;>simp);rcases d with rfl|rfl
  .go_wp2_with (go_at_call 66;refine(Dp s.nm _).mono ?_;rintro e w1 ⟨rfl,rfl⟩;rw[F.out])
   go_ret;exact⟨by rw[o.out];rfl,a⟩
  cases q<;>go_wp2_with (go_at_call 66;refine(Dp s.nm _).mono ?_;rintro e w1 ⟨rfl,rfl⟩;rw[F.out])
  all_goals go_ret
  all_goals exact⟨by rw[o.out];first|rfl|simp,a⟩
 let⟨h0,T⟩:q=true/\b≠0:=by cases q<;>simp_all
 subst h0;clear d;have E:=Ar (show ik s=(!Bp (λi=>!szB (gb s.sz i)) b&&(Bp (λi=>(0:Int) == gi s.mu i) h&&decide (h=b))) by rw[l.out,decide_eq_false T];rfl);clear l;have J:((b:Int) == 0)=false:=by simpa using T
 go_upto_region 4 with (go_at_call 66;refine(Dp s.nm _).mono ?_;rintro e w1 ⟨rfl,rfl⟩;rw[F.out])
 clear J;go_loopw [3] (λc wr=>∃k:Nat,k<=b/\c=.int .i64 k/\Hid (Bp (λi=>!szB (gb s.sz i)) k=false)/\X=wr) λc _=>b-(intOf c).toNat
 case atStart=>exact⟨0,Nat.zero_le _,rfl,Bp.zero _,rfl⟩
 obtain⟨k,Y,rfl,r,rfl⟩:=hrel;by_cases g:k<b
 .obtain⟨b0,K,rfl,H,j⟩:=W.at_ g;have B1:(k:Int)<(b:Int):=by omega
  let⟨x,A⟩:=gN (gb s.sz k)
  rw[A]at H j;cases hbb:szB x with
  | false =>
    have o:=Ar (show ik s=false by rw[E.out,Bp.yes (f:=λi=>!szB (gb s.sz i)) g (by rw[A,hbb];rfl)];rfl);have D:=Ar hbb;clear A hbb
    go_wp2_with (go_at_call 67;refine(Tv x _ j).mono ?_;rintro e w2 ⟨rfl,rfl⟩;rw[D.out])
    go_ret;exact⟨by rw[o.out];rfl,a⟩
  | true =>
    have m:=Bp.succ (f:=λi=>!szB (gb s.sz i)) r.out (by rw[A,hbb];rfl);have D:=Ar hbb;clear A hbb
    go_wp2_with (go_at_call 67;refine(Tv x _ j).mono ?_;rintro e w2 ⟨rfl,rfl⟩;rw[D.out])
    exact⟨⟨k+1,by omega,by go_num,m,trivial⟩,by simp[intOf];omega⟩
 obtain rfl:b=k:=by omega
 have C:=Ar (show ik s=(Bp (λi=>(0:Int) == gi s.mu i) h&&decide (h=b)) by rw[E.out,r.out];rfl);clear r E Y g;go_upto_region 10 with fail;go_loopw [4,5] (λv c wr=>∃(k:Nat) (p:Bool),k<=h/\c=.int .i64 k/\v=.bool p/\Hid (Bp (λi=>(0:Int) == gi s.mu i) k=p)/\X=wr) λ_ c _=>h-(intOf c).toNat
 case atStart=>exact⟨0,_,Nat.zero_le _,rfl,rfl,Ar rfl,rfl⟩
 obtain⟨k,p,Y,rfl,rfl,r,rfl⟩:=hrel;by_cases g:k<h
 .obtain⟨b0,K,rfl,H⟩:=U.at_ g;have B1:(k:Int)<(h:Int):=by omega
  have m:Hid (Bp (λi=>(0:Int) == gi s.mu i) (k+1)=(p || (0:Int) == gi s.mu k)):=Ar (by rw[<-r.out];exact vk _ _);cases p with
  | true =>
    go_wp2_with fail;exact⟨⟨k+1,_,by omega,by go_num,rfl,Ar (by rw[m.out];rfl),trivial⟩,by simp[intOf];omega⟩
  | false =>
    let⟨z,B⟩:=gN (gi s.mu k)
    rw[B]at H m;clear B;by_cases t:z=0
    .subst t
     go_wp2_with fail;exact⟨⟨k+1,_,by omega,by go_num,rfl,Ar (by rw[m.out];rfl),trivial⟩,by simp[intOf];omega⟩
    have e1:(z == 0)=false:=by simpa using t
    have G:=Ar (show Bp (λi=>(0:Int) == gi s.mu i) (k+1)=false by rw[m.out];simp;omega)
    go_wp2_with fail;exact⟨⟨k+1,_,by omega,by go_num,rfl,G,trivial⟩,by simp[intOf];omega⟩
 obtain rfl:h=k:=by omega
 rw[r.out]at C;cases p with
 | false =>
   go_wp2_with fail;go_ret;exact⟨by rw[C.out];rfl,a⟩
 | true =>
   by_cases t:h=b
   .subst t
    go_wp2_with fail;go_ret;exact⟨by rw[C.out];simp,a⟩
   have e1:¬(h:Int)=(b:Int):=by omega
   have o:=Ar (show ik s=false by rw[C.out];simpa using t)
   go_wp2_with fail;go_ret;exact⟨Bn (by rw[o.out];simp;omega),a⟩
theorem Aod{w:World}   {c:Value} (h:Bf w e b #[f,k,c]):Cq w e 0 f/\Cq w e 1 k/\Cq w e 2 c :=
 ⟨(h.cell 0).trans rfl,(h.cell 1).trans rfl,(h.cell 2).trans rfl⟩
theorem Alg{w:World}   {c d:Value} (H:Bf w e b #[f,k,c,d,l,n]):Cq w e 0 f/\Cq w e 1 k/\Cq w e 2 c/\Cq w e 3 d/\Cq w e 4 l/\Cq w e 5 n :=
 ⟨(H.cell 0).trans rfl,(H.cell 1).trans rfl,(H.cell 2).trans rfl,(H.cell 3).trans rfl,(H.cell 4).trans rfl,(H.cell 5).trans rfl⟩
def Lf (s:StyleP):Int:=if Bp (Ni s) s.us.length then 3 else Fh (Ly s) s.se.length
theorem Aeu(vs:Array Value) (s:StyleP) (w:World) (g:SmS s) (hv:StV w vs s):Calls Tryz.prog 46 #[.agg vs] w (Bz w (Lf s)):=by
 have C:=Ar (show Lf s=if Bp (Ni s) s.us.length then 3 else Fh (Ly s) s.se.length from rfl);have U:=Ar hv;have z3:=g.pc;have z4:=g.us;have z5:=g.se;have c7:=Ar λk=>show Ni s k=(decide ((use s.us k).pc<0) || decide ((s.pc.length:Int)<=(use s.us k).pc) || decide ((use s.us k).ct<1) || decide (4<(use s.us k).ct)) from rfl;obtain⟨A1,c1,A2,c2,A3,c3,A4,c4,A5,c5,A6,c6,rfl,⟨v1,v2,v3⟩,⟨v4,v5,v6⟩,⟨v7,v8,v9⟩,⟨cf,fs,au⟩,⟨cg,fv,aw⟩,gf,gg⟩:=hv;go_enter Tryz.func46,Tryz.ntmps46;go_upto_region 1 with fail;refine Bq λX i hP=>?_
 let⟨p0,p1,p2,p3,p4,p5,p6⟩:=st7 hP;have A:=au.keep i;have B:=aw.keep i;have M:=U.out.keep i;have r:=hP;clear v3 v6 v9 au aw hP U;let⟨n3,G⟩:=gN s.pc.length
 let⟨n4,K⟩:=gN s.us.length
 let⟨S,L⟩:=gN s.se.length
 have bw:=Ar G;rw[G,K,L]at M;have V:=Ar M;clear M;rw[G]at p3 v7 z3 r c7;rw[K]at p4 cf z4 r C A;rw[L]at p5 cg z5 r C B;clear G K L;go_upto_region 2 with fail;clear p0 p1 p2 p3 p4 p5 p6;go_loopw [3,4] (λc _ wr=>∃k:Nat,k<=n4/\c=.int .i64 k/\Hid (Bp (Ni s) k=false)/\Be X wr) λc _ _=>n4-(intOf c).toNat
 case atStart=>exact⟨0,Nat.zero_le _,rfl,Ar (Bp.zero _),bl0⟩
 obtain⟨k,hk,rfl,a6,q⟩:=hrel;by_cases v:k<n4
 .obtain⟨b9,a8,rfl,O,P,Q⟩:=(A.keep q).at_ v;have B1:(k:Int)<(n4:Int):=by omega
  have m:=Ar (show Ni s k=(decide ((use s.us k).pc<0) || decide ((n3:Int)<=(use s.us k).pc) || decide ((use s.us k).ct<1) || decide (4<(use s.us k).ct)) by unfold Ni;rw[bw.out]);let⟨x,hx⟩:=gN ((use s.us k).pc)
  let⟨y,hy⟩:=gN ((use s.us k).ct)
  let⟨z,hz⟩:=gN ((use s.us k).pr)
  rw[hx]at O m;rw[hy]at P m;rw[hz]at Q;clear hx hy hz;let⟨q0,q1,q2,q3,q4,q5,q6⟩:=st7 (r.keep q);go_upto_region 5 with fail;refine Bq λY F R=>?_
  let⟨g0,g1,g2⟩:=Aod R;have r3:=Aq F q3;have d:=An q F;clear q0 q1 q2 q3 q4 q5 q6 O P Q;have D:=Ar (λ(h:Ni s k=true)=>show Lf s=3 by rw[C.out,if_pos (Bp.yes (f:=Ni s) v h)]);by_cases h1:x<0
  .have l:=Ar (D.out (by rw[m.out];simp[h1]))
   go_wp2_with fail;all_goals go_ret
   all_goals exact⟨by rw[l.out];rfl,An i d⟩
  obtain⟨j,rfl⟩:∃j:Nat,x=j:=⟨x.toNat,by omega⟩
  by_cases h2:(n3:Int)<=(j:Int)
  .have l:=Ar (D.out (by rw[m.out];simp[h2]))
   go_wp2_with fail;all_goals go_ret
   all_goals exact⟨by rw[l.out];rfl,An i d⟩
  by_cases h3:y<1
  .have l:=Ar (D.out (by rw[m.out];simp[h3]))
   go_wp2_with fail;all_goals go_ret
   all_goals exact⟨by rw[l.out];rfl,An i d⟩
  by_cases h4:4<y
  .have l:=Ar (D.out (by rw[m.out];simp[h4]))
   go_wp2_with fail;all_goals go_ret
   all_goals exact⟨by rw[l.out];rfl,An i d⟩
  have HP:=Bp.succ (f:=Ni s) a6.out (by rw[m.out];simp;omega)
  go_wp2_with fail;all_goals exact⟨⟨k+1,by omega,by go_num,Ar HP,d⟩,by simp[intOf];omega⟩
 obtain rfl:n4=k:=by omega
 have T:=Ar (show Lf s=Fh (Ly s) S by rw[C.out,if_neg (by rw[a6.out];simp)]);have u:=An i q;have t:=r.keep q;have W:=Ar (V.out.keep q);have H:=B.keep q;let⟨p0,p1,p2,p3,p4,p5,p6⟩:=st7 t;let⟨wp,Z⟩:=gN (wr:World)
 rw[Z]at u t W H p0 p1 p2 p3 p4 p5 p6 ⊢;clear Z q r V A B;go_upto_region 8 with fail;clear p0 p1 p2 p3 p4 p5 p6;go_loopw [5,6] (λc _ wr=>∃k:Nat,k<=S/\c=.int .i64 k/\Hid (Fh (Ly s) k=0)/\Be wp wr) λc _ _=>S-(intOf c).toNat
 case atStart=>exact⟨0,Nat.zero_le _,rfl,Ar rfl,bl0⟩
 obtain⟨k,hk,rfl,N,q⟩:=hrel;by_cases v:k<S
 .obtain⟨b9,a8,rfl,O,P,Q,e3,e4,e5⟩:=(H.keep q).at_ v;have B1:(k:Int)<(S:Int):=by omega
  have m:=Ar (show Ly s k=if Td s.pc (sem s.se k).pa (sem s.se k).ea=false\/Td s.pc (sem s.se k).pb (sem s.se k).eb=false then 3 else if (sem s.se k).es<0 then 1 else 0 from rfl);have I:=Ar (λ(h2:Ly s k≠0)=>show Lf s=Ly s k by rw[T.out];exact Mk (f:=Ly s) v N.out h2);have bu:=Ar (Ga (f:=Ly s) N.out);let⟨⟨xa,xe,xb,xf,xr,xs⟩,hx⟩:∃x,sem s.se k=x:=⟨_,rfl⟩
  rw[hx]at O P Q e3 e4 e5 m;dsimp only at O P Q e3 e4 e5 m;clear hx;let⟨q0,q1,q2,q3,q4,q5,q6⟩:=st7 (t.keep q);go_upto_region 11 with fail;refine Bq λY F R=>?_
  let⟨g0,g1,g2,g3,g4,g5⟩:=Alg R;have d:=An q F;have E:=t.keep d;have o:=W.out.keep d;let⟨r0,r1,r2,r3,r4,r5,r6⟩:=st7 E;clear q0 q1 q2 q3 q4 q5 q6 O P Q e3 e4 e5;let⟨b1,J⟩:=gN (Td s.pc xa xe)
  let⟨b2,a⟩:=gN (Td s.pc xb xf)
  rw[J,a]at m;have H1:=Ar J;have H2:=Ar a;clear J a;cases b1 with
  | false =>
    have l:=Ar (show Lf s=3 by
     have e:Ly s k=3:=by rw[m.out];simp
     rw[I.out (by rw[e];decide),e])
    go_wp2_with (go_at_call 71;refine rR (Kd _ s xa xe _ g o) λw2 a=>?_;rw[H1.out])
    all_goals go_ret
    all_goals exact⟨by rw[l.out];rfl,An u (An d a)⟩
  | true =>
    cases b2 with
    | false =>
      have l:=Ar (show Lf s=3 by
       have e:Ly s k=3:=by rw[m.out];simp
       rw[I.out (by rw[e];decide),e])
      go_wp2_with (first
       | (go_at_call 71;have a7:=a;refine rR (Kd _ s xb xf _ g (o.keep a)) λw3 p=>?_;rw[H2.out])
       | (go_at_call 71;refine(Kd _ s xa xe _ g o).mono ?_;rintro e w2 ⟨rfl,a⟩;rw[H1.out];let⟨t0,t1,t2,t3,t4,t5,t6⟩:=st7 (E.keep a);let⟨y0,y1,y2,y3,y4,y5⟩:=Alg (R.keep a)))
      all_goals go_ret
      all_goals exact⟨by rw[l.out];rfl,An u (An d (An a p))⟩
    | true =>
      by_cases h0:xs<0
      .have l:=Ar (show Lf s=1 by
        have e:Ly s k=1:=by rw[m.out];simp[h0]
        rw[I.out (by rw[e];decide),e])
       go_wp2_with (first
        | (go_at_call 71;have a7:=a;refine rR (Kd _ s xb xf _ g (o.keep a)) λw3 p=>?_;rw[H2.out];have cj:=Aq p y5)
        | (go_at_call 71;refine(Kd _ s xa xe _ g o).mono ?_;rintro e w2 ⟨rfl,a⟩;rw[H1.out];let⟨t0,t1,t2,t3,t4,t5,t6⟩:=st7 (E.keep a);let⟨y0,y1,y2,y3,y4,y5⟩:=Alg (R.keep a)))
       all_goals go_ret
       all_goals exact⟨by rw[l.out];rfl,An u (An d (An a p))⟩
      have HP:=Ar (show Fh (Ly s) (k+1)=0 by rw[bu.out,m.out];simp[h0])
      go_wp2_with (first
       | (go_at_call 71;have a7:=a;refine rR (Kd _ s xb xf _ g (o.keep a)) λw3 p=>?_;rw[H2.out];have cj:=Aq p y5)
       | (go_at_call 71;refine(Kd _ s xa xe _ g o).mono ?_;rintro e w2 ⟨rfl,a⟩;rw[H1.out];let⟨t0,t1,t2,t3,t4,t5,t6⟩:=st7 (E.keep a);let⟨y0,y1,y2,y3,y4,y5⟩:=Alg (R.keep a)))
      all_goals exact⟨⟨k+1,by omega,by go_num,HP,An d (An a p)⟩,by simp[intOf];omega⟩
 obtain rfl:S=k:=by omega
 have l:=Ar (show Lf s=0 by rw[T.out,N.out]);let⟨q0,q1,q2,q3,q4,q5,q6⟩:=st7 (t.keep q);go_wp2_with fail;go_ret;exact⟨by rw[l.out];rfl,An u q⟩
section
open Go.RowKit Limb
theorem Amk(w:World) (o c a d:Obj) (t:TypeId) (b:Array Value):Bf (((((w.alloc o).alloc c).alloc a).alloc d).alloc (.cells b t)) (w.heap.size+1+1+1+1) t b:=by
 have h:=Bf.new ((((w.alloc o).alloc c).alloc a).alloc d) t b;simpa using h
theorem c24{w:World} {a c:Nat}  {j o p q r s t u v x y z A B C D E F G H:Value} (d:Bf w e b #[f,k,l,n,j,o]) (g:Bf w m b #[p,q,r,s,t,u]) (h:Bf w a b #[v,x,y,z,A,B]) (i:Bf w c b #[C,D,E,F,G,H]) :
 Cq w e 0 f/\Cq w e 1 k/\Cq w e 2 l/\Cq w e 3 n/\Cq w e 4 j/\Cq w e 5 o/\Cq w m 0 p/\Cq w m 1 q/\Cq w m 2 r/\Cq w m 3 s/\Cq w m 4 t/\Cq w m 5 u/\Cq w a 0 v/\Cq w a 1 x/\Cq w a 2 y/\Cq w a 3 z/\Cq w a 4 A/\Cq w a 5 B/\Cq w c 0 C/\Cq w c 1 D/\Cq w c 2 E/\Cq w c 3 F/\Cq w c 4 G/\Cq w c 5 H :=
 ⟨(d.cell 0).trans rfl,(d.cell 1).trans rfl,(d.cell 2).trans rfl,(d.cell 3).trans rfl,(d.cell 4).trans rfl,(d.cell 5).trans rfl,(g.cell 0).trans rfl,(g.cell 1).trans rfl,(g.cell 2).trans rfl,(g.cell 3).trans rfl,(g.cell 4).trans rfl,(g.cell 5).trans rfl,(h.cell 0).trans rfl,(h.cell 1).trans rfl,(h.cell 2).trans rfl,(h.cell 3).trans rfl,(h.cell 4).trans rfl,(h.cell 5).trans rfl,(i.cell 0).trans rfl,(i.cell 1).trans rfl,(i.cell 2).trans rfl,(i.cell 3).trans rfl,(i.cell 4).trans rfl,(i.cell 5).trans rfl⟩
theorem Ce.farB3{w:World} {g:Nat}    {D:Option Addr} {n c k y:Nat} (C:Ce w e f m) (I:Bf w g b #[.bool h,.slice i n c,.slice D k y]) (z:Bool) (u J:Value):Ce (((w.setCell ⟨g,0,none⟩ (.bool z)).setCell ⟨g,1,none⟩ u).setCell ⟨g,2,none⟩ J) e f m:=by
 obtain⟨v,A,B,E,F,s,G,H⟩:=C;refine⟨v,A,B,E,F,?_,G,H⟩;rcases Nat.eq_zero_or_pos (lmb m).length with r|r
 .exact⟨s.1,.inl r⟩
 have a:∀q,v=some q->q.block≠g:=by
  intro q hq o;let⟨K,L,d,t⟩:=s.at_ r;rw[hq]at d;injection d with d
  rw[d]at o;dsimp only at o;subst o;replace t:=(I.cell _).symm.trans t
  have:∀(l:Nat) (x:Int),(#[Value.bool h,Value.slice i n c,Value.slice D k y]:Array Value)[l]? = some (Value.int .u32 x)->False:=by
   intro l x j
   match l with
   | 0=>simp at j
   | 1=>simp at j
   | 2=>simp at j
   | l+3=>simp at j
  exact this _ _ t
 exact((s.far (p:=⟨g,0,none⟩) a _).far (p:=⟨g,1,none⟩) a _).far (p:=⟨g,2,none⟩) a _
section
variable {w : World} {g : Nat} {t : TypeId} {cs : Array Value}
class KI (w:World) (g:outParam Nat) (t:TypeId) (cs:outParam (Array Value)):Prop where
 h:Bf w g t cs
instance:KI (w.alloc (.cells cs t)) w.heap.size t cs:=⟨Bf.new _ _ _⟩
instance {o:Obj} [i:KI w g t cs]:KI (w.alloc o) g t cs:=⟨i.h.alloc _⟩
instance [i:KI w g t cs]:KI w.drew g t cs:=⟨Bf.drew i.h⟩
theorem KI.go {w2:World} [i:KI w g t cs] (h:Be w w2):KI w2 g t cs:=⟨i.h.keep h⟩
end
theorem Ahw{c:Code} {Q:Exit->Act->World->Prop} {a:Act} {w:World} {k l m n:TypeId} {d e f g i:Array Value} (h:∀X,Be w X->Bf X w.heap.size b d->Bf X (w.heap.size+1) k e->Bf X (w.heap.size+1+1) l f->Bf X (w.heap.size+1+1+1) m g->Bf X (w.heap.size+1+1+1+1) n i->c.wp j Q a X):c.wp j Q a (((((w.alloc (.cells d b)).alloc (.cells e k)).alloc (.cells f l)).alloc (.cells g m)).alloc (.cells i n)) :=
 h _ (Ao (Ao (Ao (Ao blA _) _) _) _) (Bf.alloc (Bf.alloc (Bf.alloc (Bf.alloc (Bf.new _ _ _) _) _) _) _) (Bf.alloc (Bf.alloc (Bf.alloc (Bf.new2 _ _ _ _) _) _) _) (Bf.alloc (Bf.alloc (Bf.new3 _ _ _ _ _) _) _) (Bf.alloc (Ajh _ _ _ _ _ _) _) (Amk _ _ _ _ _ _ _)
theorem Limb.RB.w(h:RB 22 g):RB 600 g:=h.le (by decide)
theorem Limb.RB.d{z:Rat} (h:RB 22 g) (k:RB 22 z):RB 300 (g-z):=(RB.sub (m:=22) (n:=22) h k).le (by decide)
theorem Limb.RB.x{b c d e f a h:Rat} (i:RB 22 g) (j:RB 22 b) (k:RB 22 c) (l:RB 22 d) (o:RB 22 e) (p:RB 22 f) (q:RB 22 a) (r:RB 22 h):RB 181 ((g-b)*(c-d)-(e-f)*(a-h)) :=
 RB.sub (m:=45+45) (n:=45+45) ((RB.sub (m:=22) (n:=22) i j).mul (RB.sub (m:=22) (n:=22) k l)) ((RB.sub (m:=22) (n:=22) o p).mul (RB.sub (m:=22) (n:=22) q r))
theorem Ib.farB3{w:World}      {D:Option Addr} {n c k a:Nat} (l:Ib w e f g) (j:Bf w m b #[.bool h,.slice i n c,.slice D k a]) (r:Bool) (u s:Value):Ib (((w.setCell ⟨m,0,none⟩ (.bool r)).setCell ⟨m,1,none⟩ u).setCell ⟨m,2,none⟩ s) e f g:=by
 obtain⟨q,d,a,o,p⟩:=l;exact⟨q,d,a,o.farB3 j _ _ _,p.farB3 j _ _ _⟩
def Ak8 (w:World) (b g i a N D:Rat) (e:Ending) (h:World):Prop:=∃p A n c B k d q C m l E o f,e=.returned (.tuple #[.agg #[.bool p,.slice A n c,.slice B k d,.bool q,.slice C m l,.slice E o f],.int .i64 (if D.num=0 then 10 else 0)])/\(D.num≠0->PtV h w.heap.size (.agg #[.bool p,.slice A n c,.slice B k d,.bool q,.slice C m l,.slice E o f]) (b+(i-b)*(N / D)) (g+(a-g)*(N / D)))/\Be w h
theorem Ama{w:World}  {ay bx s cx cy dx dy N D:Rat}  (U:PtV w e f g ay) (hB:PtV w e k bx s) (hC:PtV w e l cx cy) (I:PtV w e n dx dy) (B:RB 22 g) (C:RB 22 ay) (V:RB 22 bx) (Z:RB 22 s) (r:RB 22 cx) (H:RB 22 cy) (r7:RB 22 dx) (r8:RB 22 dy) (hN:(cx-g)*(dy-cy)-(cy-ay)*(dx-cx)=N) (hD:(bx-g)*(dy-cy)-(s-ay)*(dx-cx)=D):Calls Tryz.prog 154 #[f,k,l,n] w (Ak8 w g ay bx s N D):=by
 obtain⟨nj,e8,mf,h9,e9,ml,ha,nk,ec,mo,hb,ee,mr,hc,rfl⟩:=U.sh;obtain⟨np,eg,mv,hf,ek,mx,hg,nq,eo,my,hh,er,mz,hj,rfl⟩:=hB.sh;obtain⟨nr,ev,n0,hl,ey,n5,hn,ns,fa,n9,ho,fb,na,hr,rfl⟩:=hC.sh;obtain⟨nv,fc,nb,hs,fr,nc,hv,nx,fs,nd,hx,fv,nf,hy,rfl⟩:=I.sh;have tN:=hN ▸ RB.x r B r8 H H C r7 r;have tD:=hD ▸ RB.x V B r8 H Z C r7 r;have HN:=Ar hN;have HD:=Ar hD;let⟨z,hz⟩:=gN (!decide (D.num=0))
 have HZ:=Ar hz;clear hN hD hz;go_in;go_upto_region 1 with fail;refine Ahw λX y i j o ak F=>?_
 let⟨y0,y1,y2,y3,y4,y5⟩:=cells6 ak;let⟨z0,z1,z2,z3,z4,z5⟩:=cells6 o
 go_upto_region 2 with (go_at_call 157;refine(Ai9 (I.keep y) (hC.keep y) r7.w r8.w r.w H.w).mono ?_;rintro S w1 ⟨v1,rfl,h1,K⟩;obtain⟨pw,W1,u1,k1,W2,u2,k2,qw,W3,u3,k3,W4,u4,k4,rfl⟩:=h1.sh)
 refine Bq λY O hW=>?_
 let⟨gw,P⟩:=gN w1.heap.size
 have lo:w.heap.size+1+1+1+1<gw:=by rw[<-P];exact Nat.lt_of_lt_of_le F.lt K.size
 have d:=An K O;have q:=An y d;have ar:=(h1.keep O).lower (Nat.zero_le _);replace i:=i.keep d;replace j:=j.keep d;replace o:=o.keep d;replace F:=F.keep d;replace U:=U.keep q;replace hB:=hB.keep q;replace hC:=hC.keep q;rw[P]at hW ⊢;clear y K O d I h1 ak y0 y1 y2 y3 y4 y5 z0 z1 z2 z3 z4 z5 P;go_cut [11,12] λu v W=>∃T p A cj c E ds e0,u=.pointer (some ⟨T,0,none⟩)/\v=.bool z/\(D.num≠0->Ib W 0 (.agg #[.bool p,.slice A cj c,.slice E ds e0]) (N / D))/\Bf W T 171 #[.bool p,.slice A cj c,.slice E ds e0]/\Y.heap.size<=T/\Be Y W
 case first =>
  go_region_held3 (sB λW h=>c24 (i.keep h) (j.keep h) (o.keep h) (hW.keep h))
   (exact c24 (i.keep BI.h) (j.keep BI.h) (o.keep BI.h) (hW.keep BI.h))
   ((first
     | (go_at_call 204;have l1:=h5;refine(Al8 (h3.keep BI.h) (h5.keep BI.h) (tN.le (by decide)) (tD.le (by decide))).2.2.mono ?_;rintro S w6 ⟨p6,A6,n6,c6,E6,k6,l6,rfl,h6,b6⟩;rw[HZ.out];have la:=BI.go (a:=Y) b6;(try (have R:=KI.go (t:=171) b6;let⟨j1,j2,j3,j4,j5,j6,j7⟩:=R.h.triple)))
     | (go_at_call 205;have l0:=h4;refine(Adl (h4.keep BI.h) (ar.keep BI.h) (V.d B) (Z.d C) (r7.d r) (r8.d H)).mono ?_;rintro S w5 ⟨v5,rfl,h5,M⟩;rw[HD.out]at h5;have l5:=BI.go (a:=Y) M;have lg:=BI.go (a:=w3) M;(try have R:=KI.go (t:=171) M))
     | (go_at_call 157;have kz:=h3;refine(Ai9 (hB.keep BI.h) (U.keep BI.h) V.w Z.w B.w C.w).mono ?_;rintro S w4 ⟨v4,rfl,h4,L⟩;have l4:=BI.go (a:=Y) L;have lf:=BI.go (a:=w3) L;(try have R:=KI.go (t:=171) L))
     | (go_at_call 205;refine(Adl (h2.keep BI.h) (ar.keep BI.h) (r.d B) (H.d C) (r7.d r) (r8.d H)).mono ?_;rintro S w3 ⟨v3,rfl,h3,aw⟩;rw[HN.out]at h3;have l3:=BI.go (a:=Y) aw;(try have R:=KI.go (t:=171) aw))
     | (go_at_call 157;refine(Ai9 (hC.keep BI.h) (U.keep BI.h) r.w H.w B.w C.w).mono ?_;rintro S w2 ⟨v2,rfl,h2,au⟩;have l2:=BI.go (a:=Y) au;(try have R:=KI.go (t:=171) au))))
  all_goals go_wp2_with fail
  all_goals go_meet
  all_goals (first
   | exact⟨_,p6,A6,n6,c6,E6,k6,l6,rfl,rfl,λh=>((h6 h).lower (Nat.zero_le _)).keep blA,Bf.new _ _ _,LI.h,BI.h⟩
   | exact⟨_,p6,A6,n6,c6,E6,k6,l6,rfl,rfl,λh=>((h6 h).lower (Nat.zero_le _)).farB3 R.h _ _ _,R.h.set3,LI.h,BI.h⟩)
 obtain⟨T,p6,A6,n6,c6,E6,k6,l6,rfl,rfl,hT,hG,lk,b⟩:=hcut;have cd:=An q b;have cf:=F.lt;have J:=F.keep b;by_cases G:D.num=0
 .obtain⟨r0,B,C,V,Z,r⟩:=cells6 J;let⟨f0,f1,f2,f3,f4,f5,bw⟩:=fq J;have H0:=Ar G;obtain rfl:z=false:=HZ.out.symm.trans (by rw[decide_eq_true G];rfl);clear G hT;go_wp2_with fail;let⟨s0,s1,s2,s3,s4,s5⟩:=cells6 (J.set6 (a':=.bool false) (b':=.slice none 0 0) (c':=.slice none 0 0) (d':=.bool false) (e':=.slice none 0 0) (f':=.slice none 0 0));exact bodyPost_ret (v:=.tuple #[.agg #[.bool false,.slice none 0 0,.slice none 0 0,.bool false,.slice none 0 0,.slice none 0 0],.int .i64 10]) (by simp[results,Tryz.results154,go_sem,s0,s1,s2,s3,s4,s5]) rfl ⟨_,_,_,_,_,_,_,_,_,_,_,_,_,_,by rw[if_pos H0.out],λh=>absurd H0.out h,Xl cd (by omega) _ _ _ _ _ _⟩
 replace hT:=hT G;have tT:=(RB.div (m:=181) (n:=181) tN tD G).le (show _<=390 by decide);have H0:=Ar G;obtain rfl:z=true:=HZ.out.symm.trans (by rw[decide_eq_false G];rfl);clear G;let⟨a0,a1,a2,a3,a4,a5⟩:=cells6 (i.keep b);let⟨b0,b1,b2,b3,b4,b5⟩:=cells6 (j.keep b);obtain⟨g0,g1,g2,-,-,-,-⟩:=hG.triple
 go_wp2_with (go_at_call 206;refine(pon (U.keep b) (hB.keep b) hT (B.le (by decide)) (C.le (by decide)) (V.le (by decide)) (Z.le (by decide)) tT).mono ?_;rintro S w7 ⟨v7,rfl,h7,cc⟩;obtain⟨p7,B1,n1,e1,B2,n2,e2,p8,B3,n3,e3,B4,n4,e4,rfl⟩:=h7.sh;have x:=An b cc;let⟨r0,B,C,V,Z,r⟩:=cells6 (F.keep x);let⟨f0,f1,f2,f3,f4,f5,bw⟩:=fq (F.keep x))
 let⟨hZ,v9,Q,bs,bq⟩:=K8 (w:=w) (F.keep x) h7.ab.1 h7.ab.2 (Nat.lt_of_lt_of_le cf b.size) (by omega) (An q x) _ rfl;injection Q with Q
 let⟨s0,s1,s2,s3,s4,s5⟩:=cells6 hZ;exact bodyPost_ret (v:=.tuple #[.agg #[.bool p7,.slice B1 n1 e1,.slice B2 n2 e2,.bool p8,.slice B3 n3 e3,.slice B4 n4 e4],.int .i64 0]) (by simp[results,Tryz.results154,go_sem,s0,s1,s2,s3,s4,s5]) rfl ⟨_,_,_,_,_,_,_,_,_,_,_,_,_,_,by rw[if_neg H0.out],λ_=>by rw[Q];exact bs,bq⟩
end
end Go.Proofs.YtlogblbfbihleaaGreat

/- Lean texts of the claim. -/
import Derived.Test.YtlogblbfbihleaaGreatZr03
import Derived.Test.YtlogblbfbihleaaGreatZr04
import Derived.Test.YtlogblbfbihleaaGreatZr02
import Derived.Lib.ItoaNum
namespace Go.Proofs.YtlogblbfbihleaaGreat
set_option linter.all false
set_option maxRecDepth 100000
set_option maxHeartbeats 0
open Go.RowKit
variable{a h k l:Nat}{b:List Nat}{e:World}{f:Option Addr}{g:List Int}{i:Value}{j:Int×Int}{m:LP}
def R5 (n x:Nat):Nat:=if h:(x+n / x) / 2<x then R5 n ((x+n / x) / 2) else x
termination_by x
decreasing_by exact h
theorem Afs(n:Nat):∀x,R5 n x<=x:=by
 intro x;induction x using Nat.strongRecOn with
 | _ x ih =>
   rw[R5];split
   .rename_i h;exact Nat.le_trans (ih _ h) (Nat.le_of_lt h)
   exact Nat.le_refl _
def Ca (n:Nat):Nat:=if n<2 then n else R5 n (2 ^ ((Lib.bitLen n+1) / 2))
theorem Ys{n x:Nat} (f:0<x):n<((x+n / x) / 2+1)*((x+n / x) / 2+1):=by
 have j:n<(n / x+1)*x:=by
  have:=Nat.lt_mul_div_succ n f
  rwa [Nat.mul_comm] at this
 generalize n / x=q at *
 let⟨y,g⟩:=gN ((x+q) / 2)
 rw[g];have d:x+q+1<=2*(y+1):=by omega
 have k:=Nat.mul_le_mul d d
 have l:4*((q+1)*x)<=(x+q+1)*(x+q+1):=by
  have c:∀a b:Int,4*(a*b)<=(a+b)*(a+b):=by
   intro a b;have m:(a+b)*(a+b)-4*(a*b)=(a-b)*(a-b):=by grind
   have o:0<=(a-b)*(a-b):=by
    rcases Int.le_total 0 (a-b) with h|h
    .exact Int.mul_nonneg h h
    exact Int.mul_nonneg_of_nonpos_of_nonpos h h
   omega
  have:=c ((q+1:Nat):Int) (x:Int);have e:(((q+1:Nat):Int)+(x:Int))=((x+q+1:Nat):Int):=by omega
  rw[e]at this
  exact_mod_cast this
 have i:2*(y+1)*(2*(y+1))=4*((y+1)*(y+1)):=by grind
 omega
theorem dh(n:Nat) (w:World) (hn:n<9223372036854775808):Calls Tryz.prog 257 #[(n:Int)] w (Bz w (Ca n:Int)):=by
 by_cases u:n<2
 .have d:=Ar (show Ca n=n by unfold Ca;rw[if_pos u]);go_enter Tryz.func257,Tryz.ntmps257;go_wp2_with fail;go_ret;exact⟨by rw[d.out];rfl,bl0⟩
 obtain⟨H,I,t⟩:1<=Lib.bitLen n/\2 ^ (Lib.bitLen n-1)<=n/\n<2 ^ Lib.bitLen n:=Lib.bitLenAux_bounds 64 n (by have e:(2:Nat) ^ 64=18446744073709551616:=(by decide);omega) (by omega);have d:=Ar (show Ca n=R5 n (2 ^ ((Lib.bitLen n+1) / 2)) by unfold Ca;rw[if_neg u]);obtain⟨L,v⟩:∃L,Lib.bitLen n=L:=⟨_,rfl⟩
 rw[v]at H I t d
 have h:L<=63:=by
  apply Classical.byContradiction;intro hc;have:2 ^ 63<=2 ^ (L-1):=Nat.pow_le_pow_right (by decide) (by omega);have e:(2:Nat) ^ 63=9223372036854775808:=by decide
  omega
 obtain⟨k,J⟩:∃k,(L+1) / 2=k:=⟨_,rfl⟩
 rw[J]at d;have j:k<=32:=by omega
 obtain⟨X,f⟩:∃X,2 ^ k=X:=⟨_,rfl⟩
 have A:0<X:=by rw[<-f];exact Nat.pow_pos (by decide)
 have B:X<=4294967296:=by rw[<-f];exact Nat.pow_le_pow_right (by decide) j
 have C:n<X*X:=by
  rw[<-f,<-Nat.pow_add];exact Nat.lt_of_lt_of_le t (Nat.pow_le_pow_right (by decide) (by omega))
 have o:=Ar v;rw[f]at d;have P:=Ds (z:=(n:Int)) (by omega) (by omega);have N:Int.tdiv ((L:Int)+1) 2=(k:Int):=by rw[Int.tdiv_eq_ediv_of_nonneg (by omega)];omega
 have O:((L:Int)+1) / 2=(k:Int):=by omega
 have F:(2:Int) ^ k=(X:Int):=by rw[<-f];simp
 have G:IntKind.i64.wrap (2 ^ k)=(X:Int):=by rw[F,IntKind.wrap_i64];omega
 have K:IntKind.i64.wrap (1*2 ^ k)=(X:Int):=by rw[Int.one_mul];exact G
 have M:((k:Int)).toNat=k:=by omega
 have T:¬(n:Int)<2:=by omega
 clear v H I t h J f u;go_enter Tryz.func257,Tryz.ntmps257
 go_wp2_with (go_at_call 183;refine(Any.bits_Len YtlogblbfbihleaaGreat.lays125 (n:Int) _ (by omega) (by omega)).mono ?_;rintro e S ⟨rfl,rfl⟩;rw[Int.toNat_natCast,o.out])
 clear P N O F G K M;go_loopw [3,4] (λx _ wr=>∃a:Nat,x=.int .i64 (a:Int)/\0<a/\a<=4294967296/\n<(a+1)*(a+1)/\Hid (R5 n X=R5 n a)/\wr=S) λx _ _=>(intOf x).toNat
 case atStart=>exact⟨X,rfl,A,B,Nat.lt_of_lt_of_le C (Nat.mul_le_mul (Nat.le_succ _) (Nat.le_succ _)),Ar rfl,rfl⟩
 obtain⟨a,rfl,i,R,D,E,rfl⟩:=hrel
 have hq:n / a<=a+2:=by
  apply Nat.le_of_lt_succ;rw[Nat.div_lt_iff_lt_mul i];have e:(a+1)*(a+1)=a*a+2*a+1:=by grind
  have Q:(a+2+1)*a=a*a+3*a:=by grind
  show n<(a+2+1)*a
  rw[Q];rw[e]at D;omega
 have hinv:=Ys (n:=n) i
 have c:0<(a+n / a) / 2:=by
  rcases Nat.eq_zero_or_pos ((a+n / a) / 2) with g|g
  .rw[g]at hinv;omega
  exact g
 obtain⟨q,b⟩:∃q,n / a=q:=⟨_,rfl⟩
 have r:=Ar b;rw[b]at hq hinv c;obtain⟨y,m⟩:∃y,(a+q) / 2=y:=⟨_,rfl⟩
 have s:=Ar m;rw[m]at hinv c;have U:Int.tdiv (n:Int) (a:Int)=(q:Int):=by rw[Int.tdiv_eq_ediv_of_nonneg (by omega),<-b];rfl
 have V:(n:Int) / (a:Int)=(q:Int):=by rw[<-b];rfl
 have W:Int.tdiv ((a:Int)+(q:Int)) 2=(y:Int):=by rw[Int.tdiv_eq_ediv_of_nonneg (by omega)];omega
 have Y:((a:Int)+(q:Int)) / 2=(y:Int):=by omega
 have Z:¬a=0:=by omega
 by_cases l:y<a
 .have p:Hid (R5 n X=R5 n y):=Ar (by
   have e:R5 n a=R5 n ((a+n / a) / 2):=by rw[R5,dif_pos (by rw[r.out,s.out];exact l)]
   rw[E.out,e,r.out,s.out])
  clear b m;go_wp2_with fail;exact⟨⟨y,rfl,c,by omega,hinv,p,trivial⟩,by simp[intOf];omega⟩
 have p:Hid (Ca n=a):=Ar (by
  have e:R5 n a=a:=by rw[R5,dif_neg (by rw[r.out,s.out];exact l)]
  rw[d.out,E.out,e])
 clear b m;go_wp2_with fail;go_ret;exact⟨by rw[p.out];rfl,bl0⟩
def sqd (p q:Int×Int):Nat:=(((q.1-p.1)*(q.1-p.1)+(q.2-p.2)*(q.2-p.2))).toNat
theorem mn(a b:Int) (w:World) :
 Calls Tryz.prog 199 #[.agg #[.int .i64 a,.int .i64 b]] w λe c=>e=.returned (.bool (Cc 1048576 (a,b)))/\Below w.heap.size w c:=by
 go_enter Tryz.func199,Tryz.ntmps199;go_wp2;all_goals go_ret
 all_goals exact⟨Bn (by simp[Cc]<;>omega),Ao (Below.refl _ _) _⟩
theorem oi(A:Option Addr) (g n:Nat) (l:LP) (w:World) (t:n<=1000000) (o:SpS w A n l) :
 Calls Tryz.prog 135 #[.slice A n g,.func (.func 199) #[] #[]] w (Bz w (Db (λi=>Cc 1048576 (gt l i)) n)):=by
 go_in;go_wp2;go_loopw [8] (λi wr=>∃k:Nat,k<=n/\i=.int .i64 k/\Hid (Bp (λi=>Cc 1048576 (gt l i)) k=false)/\Be w wr) λi _=>n-(intOf i).toNat
 case atStart=>exact⟨0,Nat.zero_le _,rfl,Bp.zero _,bl0⟩
 obtain⟨k,s,rfl,j,f⟩:=hrel;by_cases a:k<n
 .obtain⟨b,p,rfl,m,h⟩:=o.at_ a;have q:=Aq f (h k a).1;have r:=Aq f (h k a).2;clear h
  go_wp2_with (go_at_call 199;refine rR (mn _ _ _) λu c=>?_;have d:=An f c;clear c)
  .go_ret;exact⟨Bm (Hf a j.out (by assumption)).symm,d⟩
  go_roundw
  case rel=>exact⟨k+1,by omega,by go_num,Bp.succ j.out (by simpa using ‹_›),d⟩
  case measure=>simp[intOf];omega
 obtain rfl:n=k:=by omega
 go_wp2;go_ret;exact⟨Bm (Fy j.out).symm,f⟩
theorem Ub(A:Option Addr) (a n:Nat) (l:LP) (w:World) (c:n<=1000000) (d:SpS w A n l) :
 Calls Tryz.prog 91 #[.slice A n a,.func (.func 199) #[] #[]] w (Bz w (.bool (Bp (λi=>Cc 1048576 (gt l i)) n))):=by
 go_in
 go_wp2_with (go_at_call 135;refine rR (oi _ _ _ _ _ c d) λf b=>?_)
 go_ret;exact⟨Bn (Hy _ _),b⟩
def plW (l:LP) (n:Nat):Int :=
 if n > 40 then 5 else if n<2 then 11 else if Bp (λi=>Cc 1048576 (gt l i)) n then 3 else if Bp (λi=>eqS (gt l i) (gt l (i+1))) (n-1) then 11 else 0
theorem Ih(A:Option Addr) (q n:Nat) (l:LP) (w:World) (N:n<=9223372036854775807) (t:SpS w A n l) :
 Calls Tryz.prog 147 #[.slice A n q] w (Bz w (plW l n)):=by
 by_cases r:40<n
 .have a:=Ar (show plW l n=5 by unfold plW;rw[if_pos r]);go_in;go_wp2;go_ret;exact⟨by rw[a.out];rfl,bl0⟩
 by_cases u:n<2
 .have a:=Ar (show plW l n=11 by unfold plW;rw[if_neg r,if_pos u]);go_in;go_wp2;go_ret;exact⟨by rw[a.out];rfl,bl0⟩
 have o:=Ar (show plW l n=if Bp (λi=>Cc 1048576 (gt l i)) n then 3 else if Bp (λi=>eqS (gt l i) (gt l (i+1))) (n-1) then 11 else 0 by unfold plW;rw[if_neg r,if_neg u]);have E:=Ea;cases ho:Bp (λi=>Cc 1048576 (gt l i)) n with
 | true =>
   have a:=Ar (show plW l n=3 by rw[o.out,ho];rfl);have j:=Ar ho;clear ho;go_in
   go_wp2_with (go_at_call 91;refine rR (Ub _ _ _ l _ (by omega) t) λG d=>?_;rw[j.out])
   go_ret;exact⟨by rw[a.out];rfl,d⟩
 | false =>
   have p:=Ar (show plW l n=if Bp (λi=>eqS (gt l i) (gt l (i+1))) (n-1) then 11 else 0 by rw[o.out,ho];rfl);have j:=Ar ho;clear ho o;let⟨m,O⟩:∃m,m+1=n:=⟨n-1,by omega⟩
   rw[show n-1=m by omega]at p;have L:(n:Int)-1=(m:Int):=by omega
   go_in
   go_upto_region 8 with (go_at_call 91;refine rR (Ub _ _ _ l _ (by omega) t) λG d=>?_;rw[j.out])
   go_loopw [3,15] (λ_ i wr=>∃k:Nat,k<=m/\i=.int .i64 k/\Hid (Bp (λi=>eqS (gt l i) (gt l (i+1))) k=false)/\Be w wr) λ_ i _=>m-(intOf i).toNat
   case atStart=>exact⟨0,Nat.zero_le _,rfl,Bp.zero _,d⟩
   obtain⟨k,M,rfl,v,c⟩:=hrel;by_cases s:k<m
   .obtain⟨b,F,rfl,D,h⟩:=t.at_ (k:=0) (by omega);have H:=Aq c (h k (by omega)).1;have I:=Aq c (h k (by omega)).2;have J:=Aq c (h (k+1) (by omega)).1;have K:=Aq c (h (k+1) (by omega)).2;have x:(k:Int)<(n:Int):=by omega
    have y:(k:Int)+1<(n:Int):=by omega
    have C:IntKind.i64.wrap ((k:Int)+1)=(k:Int)+1:=by rw[IntKind.wrap_i64];omega
    have z:(0:Int)<=(k:Int)+1:=by omega
    have B:((k:Int)+1).toNat=k+1:=by omega
    clear h;go_wp2;go_quiet (fail);have g:Be w (wr.drewN nq):=Bd c _;clear c x y C z B;cases he:eqS ((gt l k).1,(gt l k).2) ((gt l (k+1)).1,(gt l (k+1)).2) with
    | true =>
      have a:=Ar (show plW l n=11 by rw[p.out,if_pos (Bp.yes (f:=λi=>eqS (gt l i) (gt l (i+1))) s he)]);go_wp2;go_ret;exact⟨by rw[a.out];rfl,g⟩
    | false =>
      have a:=Bp.succ (f:=λi=>eqS (gt l i) (gt l (i+1))) v.out he;go_wp2;exact⟨⟨k+1,by omega,by go_num,a,g⟩,by simp[intOf];omega⟩
   obtain rfl:m=k:=by omega
   have a:=Ar (show plW l n=0 by rw[p.out,v.out];rfl);go_wp2;go_ret;exact⟨by rw[a.out];rfl,c⟩
def iq (p q:Int×Int):Nat:=Ca (1000000*((q.1-p.1)*(q.1-p.1)+(q.2-p.2)*(q.2-p.2))).toNat
theorem Yj(f:a<9223372036854775808):Ca a<=4294967296:=by
 unfold Ca;split
 .omega
 refine Nat.le_trans (Afs _ _) ?_;have h:=(Lib.bitLenAux_bounds 64 a (by have e:(2:Nat) ^ 64=18446744073709551616:=(by decide);omega) (by omega)).2.1
 have c:Lib.bitLen a<=63:=by
  apply Classical.byContradiction;intro d;have:2 ^ 63<=2 ^ (Lib.bitLen a-1):=Nat.pow_le_pow_right (by decide) (by omega);have e:(2:Nat) ^ 63=9223372036854775808:=by decide
  have b:2 ^ (Lib.bitLen a-1)<=a:=h;omega
 exact Nat.pow_le_pow_right (by decide) (show (Lib.bitLen a+1) / 2<=32 by omega)
def Nd (p:Int×Int):Prop := -1048576<=p.1/\p.1<=1048576 /\ -1048576<=p.2/\p.2<=1048576
theorem Na{d M:Int} (b : -M<=d) (a:d<=M):0<=d*d/\d*d<=M*M:=by
 constructor
 .rcases Int.le_total 0 d with h|h
  .exact Int.mul_nonneg h h
  exact Int.mul_nonneg_of_nonpos_of_nonpos h h
 rcases Int.le_total 0 d with h|h
 .exact Int.mul_le_mul a a h (by omega)
 have:=Int.mul_le_mul (show -d<=M by omega) (show -d<=M by omega) (show 0 <= -d by omega) (show 0<=M by omega)
 rwa [Int.neg_mul_neg] at this
theorem V6{q:Int×Int} (c:Nd j) (hq:Nd q):0<=(q.1-j.1)*(q.1-j.1)/\(q.1-j.1)*(q.1-j.1)<=4398046511104/\0<=(q.2-j.2)*(q.2-j.2)/\(q.2-j.2)*(q.2-j.2)<=4398046511104:=by
 obtain⟨e,f,g,h⟩:=c;obtain⟨i,k,l,m⟩:=hq;have a:=Na (d:=q.1-j.1) (M:=2097152) (by omega) (by omega);have b:=Na (d:=q.2-j.2) (M:=2097152) (by omega) (by omega);exact⟨a.1,a.2,b.1,b.2⟩
theorem kx{q:Int×Int} (e:Nd j) (hq:Nd q):iq j q<=4294967296:=by
 let⟨a,b,c,d⟩:=V6 e hq;exact Yj (by omega)
theorem mj(x y a b:Int) (w:World) (q:Nd (x,y)) (hq:Nd (a,b)):Calls Tryz.prog 200 #[.agg #[x,y],.agg #[a,b]] w (Bz w (iq (x,y) (a,b):Int)):=by
 let⟨z,s2,A,B⟩:=V6 q hq;obtain⟨K,L,M,N⟩:=q;obtain⟨O,P,Q,R⟩:=hq;dsimp only at *
 let⟨u,k⟩:=gN ((a-x)*(a-x))
 let⟨v,l⟩:=gN ((b-y)*(b-y))
 have p:=Ar (show iq (x,y) (a,b)=Ca (1000000*(u+v)).toNat by unfold iq;dsimp only;rw[k,l]);rw[k]at z s2;rw[l]at A B;let⟨t,ht⟩:∃t:Nat,1000000*(u+v)=(t:Int):=⟨(1000000*(u+v)).toNat,by omega⟩
 have j:(1000000*(u+v)).toNat=t:=by omega
 rw[j]at p;have n:t<9223372036854775808:=by omega
 let⟨c,h⟩:=gN (a-x)
 let⟨f,i⟩:=gN (b-y)
 rw[h]at k;rw[i]at l;have C:IntKind.i64.wrap (a-x)=c:=by rw[h,IntKind.wrap_i64];omega
 have D:IntKind.i64.wrap (b-y)=f:=by rw[i,IntKind.wrap_i64];omega
 have E:IntKind.i64.wrap c=c:=by rw[IntKind.wrap_i64];omega
 have F:IntKind.i64.wrap f=f:=by rw[IntKind.wrap_i64];omega
 have G:IntKind.i64.wrap (c*c)=u:=by rw[k,IntKind.wrap_i64];omega
 have H:IntKind.i64.wrap (f*f)=v:=by rw[l,IntKind.wrap_i64];omega
 have I:IntKind.i64.wrap (u+v)=u+v:=by rw[IntKind.wrap_i64];omega
 have J:IntKind.i64.wrap (1000000*(u+v))=(t:Int):=by rw[ht,IntKind.wrap_i64];omega
 clear j;go_enter Tryz.func200,Tryz.ntmps200;go_wp2_with fail;refine Bh w [(⟨w.heap.size,0,none⟩,.int .i64 x),(⟨w.heap.size,1,none⟩,.int .i64 y),(⟨w.heap.size+1,0,none⟩,.int .i64 a),(⟨w.heap.size+1,1,none⟩,.int .i64 b)] (by kernel_rfl) (by kernel_rfl) ⟨(Ao (Ao (Below.refl _ _) _) _),by simp only[List.mem_cons,List.not_mem_nil,forall_eq_or_imp,or_false,forall_eq];go_simp⟩ ?_
 repeat
  apply Cx
  .rfl
  .intro S o;have s:=o.2;simp only[List.mem_cons,List.not_mem_nil,forall_eq_or_imp,or_false,forall_eq]at s
   go_simp
   first|rfl
  go_simp
 refine wpQuiet_nil ?_;intro T g;have r:=g.1
 go_wp2_with (go_at_call 257;refine rR (dh t _ n) λU m=>?_)
 go_ret;exact⟨by rw[p.out];rfl,An r m⟩
def Vm (l:LP):Nat->Nat
 | 0=>0
 | k+1=>Vm l k+iq (gt l k) (gt l (k+1))
def My (l:LP) (n:Nat):Int×Int:=if plW l n=0 then ((Vm l (n-1):Int),0) else (0,plW l n)
theorem Lb{k:Nat} (h:plW m a=0) (d:k<a):Nd (gt m k)/\2<=a/\a<=40:=by
 unfold plW at h;split at h
 .cases h
 split at h
 .cases h
 split at h
 .cases h
 rename_i e g c;refine⟨?_,by omega,by omega⟩
 have b:Cc 1048576 (gt m k)=false:=by
  cases ho:Cc 1048576 (gt m k) with
  | false=>rfl
  | true=>exact absurd (Bp.yes (f:=λi=>Cc 1048576 (gt m i)) d ho) c
 unfold Cc at b;simp at b;unfold Nd;omega
theorem Wh {l:LP} {n:Nat} (h:plW l n=0):∀k,k+1<=n->Vm l k<=k*4294967296
 | 0,_=>by simp[Vm]
 | k+1,hk=>by
   have ih:=Wh h k (by omega);have:=kx (Lb h (k:=k) (by omega)).1 (Lb h (k:=k+1) (by omega)).1;rw[Vm];omega
theorem mq (A:Option Addr) (d n:Nat) (l:LP) (w:World) (O:n<=9223372036854775807) (N:SpS w A n l) :
 Calls Tryz.prog 150 #[.slice A n d] w (Bz w (.tuple #[(My l n).1,(My l n).2])):=by
 by_cases a:plW l n=0
 .have u:=Ar (show My l n=((Vm l (n-1):Int),0) by unfold My;rw[if_pos a]);have r:=Ar a
  have a6:2<=n/\n<=40:=by
   unfold plW at a;split at a
   .cases a
   split at a
   .cases a
   omega
  let⟨m,hm⟩:∃m,m+1=n:=⟨n-1,by omega⟩
  rw[show n-1=m by omega]at u;have hN:(n:Int)-1=(m:Int):=by omega
  clear a;go_enter Tryz.func150,Tryz.ntmps150
  go_upto_region 6 with (go_at_call 147;refine rR (Ih A d n l _ O N) λP f=>?_;rw[r.out])
  go_loopw [5,6,15] (λs _ i wr=>∃k:Nat,k<=m/\i=.int .i64 k/\s=.int .i64 (Vm l k:Int)/\Be w wr) λ_ _ i _=>m-(intOf i).toNat
  case atStart=>exact⟨0,Nat.zero_le _,rfl,rfl,f⟩
  obtain⟨k,hk,rfl,rfl,t⟩:=hrel;by_cases a1:k<m
  .obtain⟨b,c,rfl,Z,x⟩:=N.at_ (k:=0) (by omega);have V:=Aq t (x k (by omega)).1;have W:=Aq t (x k (by omega)).2;have X:=Aq t (x (k+1) (by omega)).1;have Y:=Aq t (x (k+1) (by omega)).2;have D:=(Lb r.out (k:=k) (by omega)).1;have E:=(Lb r.out (k:=k+1) (by omega)).1;have z:=kx D E;have L:=Wh r.out k (by omega);have C:=Ar (show Vm l (k+1)=Vm l k+iq (gt l k) (gt l (k+1)) from rfl);have Q:(k:Int)<(n:Int):=by omega
   have R:(k:Int)+1<(n:Int):=by omega
   have U:IntKind.i64.wrap ((k:Int)+1)=(k:Int)+1:=by rw[IntKind.wrap_i64];omega
   have S:(0:Int)<=(k:Int)+1:=by omega
   have T:((k:Int)+1).toNat=k+1:=by omega
   let⟨p1,h⟩:=gN (gt l k)
   let⟨p2,j⟩:=gN (gt l (k+1))
   obtain⟨G,I⟩:=p1;obtain⟨H,J⟩:=p2;rw[h]at V W D;rw[j]at X Y E;rw[h,j]at z C;let⟨q,o⟩:=gN (iq (G,I) (H,J))
   rw[o]at z C;let⟨ln,y⟩:=gN (Vm l k)
   rw[y]at L C ⊢;have W2:IntKind.i64.wrap ((ln:Int)+(q:Int))=(ln:Int)+(q:Int):=by rw[IntKind.wrap_i64];omega
   have g:∀F:World,Calls Tryz.prog 200 #[.agg #[G,I],.agg #[H,J]] F (Bz F (q:Int)):=λF=>by have:=mj G I H J F D E;rwa [o] at this
   clear x h j o y D E;go_wp2_with fail;refine Bh wr [(⟨b,c+k*2,none⟩,.int .i64 G),(⟨b,c+k*2+1,none⟩,.int .i64 I),(⟨b,c+(k+1)*2,none⟩,.int .i64 H),(⟨b,c+(k+1)*2+1,none⟩,.int .i64 J)] (by kernel_rfl) (by kernel_rfl) ⟨bl0,by simp only[List.mem_cons,List.not_mem_nil,forall_eq_or_imp,or_false,forall_eq];go_simp⟩ ?_
   repeat
    apply Cx
    .rfl
    .intro P B;have hx:=B.2;simp only[List.mem_cons,List.not_mem_nil,forall_eq_or_imp,or_false,forall_eq]at hx
     go_simp
     first|rfl|exact Bw B (g _)
    go_simp
   refine wpQuiet_nil ?_;intro w5 v;have K:=An t v.1;clear U Q R S T;go_wp2_with fail;exact⟨⟨k+1,by omega,by go_num,by rw[C.out];go_num,K⟩,by simp[intOf];omega⟩
  obtain rfl:m=k:=by omega
  go_wp2_with fail
  go_ret2
  exact⟨by rw[u.out];rfl,t⟩
 have u:=Ar (show My l n=(0,plW l n) by unfold My;rw[if_neg a]);let⟨p,M⟩:=gN (plW l n)
 have r:=Ar M;rw[M]at u a;clear M;go_enter Tryz.func150,Tryz.ntmps150
 go_wp2_with (go_at_call 147;refine rR (Ih A d n l _ O N) λP f=>?_;rw[r.out])
 go_ret2
 exact⟨by rw[u.out];rfl,f⟩
def F8 (a b:Int):Int:=if a<0 then -((2 * -a+b) / (2*b)) else (2*a+b) / (2*b)
theorem L4{a b M:Int} (j:0<b) (h : -(b*M)<=a) (d:a<=b*M) (i:0<=M) : -M<=F8 a b/\F8 a b<=M:=by
 have c:∀x:Int,0<=x->x<=b*M->0<=(2*x+b) / (2*b)/\(2*x+b) / (2*b)<=M:=by
  intro x f g;constructor
  .exact Int.ediv_nonneg (by omega) (by omega)
  have:(2*x+b) / (2*b)<M+1:=by
   apply Int.ediv_lt_of_lt_mul (by omega);have e:(M+1)*(2*b)=2*(b*M)+2*b:=by rw[Int.add_mul,Int.mul_comm M,Int.mul_assoc 2 b M,Int.one_mul]
   omega
  omega
 unfold F8;split
 .have:=c (-a) (by omega) (by omega);omega
 have:=c a (by omega) d;omega
theorem Ah7 {f:Nat} (h:f=153\/f=149) (a b:Int) (w:World) (m:0<=a) (n:a<=1152921504606846976) (o:0<b) (e:b<=1152921504606846976):Calls Tryz.prog f #[a,b] w (Bz w (F8 a b)):=by
 rcases h with rfl|rfl
 all_goals
  have c:=Ar (show F8 a b=(2*a+b) / (2*b) by unfold F8;rw[if_neg (by omega)]);have d:Int.tdiv (2*a+b) (2*b)=(2*a+b) / (2*b):=Int.tdiv_eq_ediv_of_nonneg (by omega);have i:=Int.ediv_nonneg (show 0<=2*a+b by omega) (show 0<=2*b by omega)
  have j:(2*a+b) / (2*b)<=2*a+b:=by
   have:=Int.ediv_le_self (a:=2*a+b) (2*b) (by omega);omega
  let⟨q,hq⟩:=gN ((2*a+b) / (2*b))
  rw[hq]at i d j c;have k:IntKind.i64.wrap (Int.tdiv (2*a+b) (2*b))=q:=by rw[d,IntKind.wrap_i64];omega
  have l:IntKind.i64.wrap q=q:=by rw[IntKind.wrap_i64];omega
  have g:¬2*b=0:=by omega
  go_in
  go_wp2_with fail;go_ret;exact⟨by rw[c.out];rfl,bl0⟩
def Ane:=@Ah7 153 (.inl rfl)
def Am1:=@Ah7 149 (.inr rfl)
theorem Anm {f:Nat} (n:f=153\/f=149) (a b:Int) (w:World) (r : -1152921504606846976<=a) (m:a<=1152921504606846976) (g:0<b) (d:b<=1152921504606846976):Calls Tryz.prog f #[a,b] w (Bz w (F8 a b)):=by
 rcases n with rfl|rfl
 have c:=@Ane
 rotate_left 1
 have c:=@Am1
 rotate_left 1
 all_goals
  by_cases h:a<0
  .have j:=Ar (show F8 a b = -(F8 (-a) b) by unfold F8;rw[if_pos h,if_neg (by omega)]);have k:=L4 (M:=1152921504606846976) g (a := -a) (by have:=Int.mul_le_mul_of_nonneg_right (show 1<=b by omega) (show (0:Int)<=1152921504606846976 by omega);omega) (by have:=Int.mul_le_mul_of_nonneg_right (show 1<=b by omega) (show (0:Int)<=1152921504606846976 by omega);omega) (by omega);let⟨q,hq⟩:=gN (F8 (-a) b)
   rw[hq]at k j;have l:=Ar hq;clear hq;obtain⟨o,p⟩:=k;go_in
   go_wp2_with ((first|go_at_call 153|go_at_call 149);refine rR (c (-a) b _ (by omega) (by omega) g d) λs i=>?_;rw[l.out])
   go_ret;exact⟨by rw[j.out];rfl,i⟩
  exact c a b w (by omega) m g d
def Z4:=@Anm 153 (.inl rfl)
def Zc:=@Anm 149 (.inr rfl)
def wI (n b:Int):Bool:=decide (-b<=n)&&decide (n<=b)
theorem D7 (n b:Int) (w:World) (a:0<=b) (c:b<=4611686018427387904):Calls Tryz.prog 98 #[n,b] w (Bz w (.bool (wI n b))):=by
 go_in;go_wp2;all_goals go_ret
 all_goals exact⟨Bn (by simp[wI]<;>omega),bl0⟩
def wS (s:Int×Int) (b:Int):Bool:=wI s.1 b&&wI s.2 b
theorem Is(x y b:Int) (w:World) (a:0<=b) (c:b<=4611686018427387904):Calls Tryz.prog 108 #[.agg #[x,y],b] w (Bz w (.bool (wS (x,y) b))):=by
 go_in;go_wp2;all_goals go_ret
 all_goals exact⟨Bn (by first|(simp[wS,wI]<;>omega)|(simp[wS,wI, *];done)|(simp[wS,wI, *];omega)|(simp_all [wS,wI];done)|(simp_all [wS,wI];omega)),blA⟩
def gi (l:List Int) (k:Nat):Int:=l.getD k 0
theorem Wr(h:a<g.length):g[a]? = some (gi g a):=by
 unfold gi;rw[List.getD,List.getElem?_eq_getElem h];rfl
def InS (w:World) (A:Option Addr) (n:Nat) (l:List Int):Prop:=l.length=n/\(n=0\/∃b a,A=some ⟨b,a,none⟩/\∀k,k<n->Cq w b (a+k) (gi l k))
theorem InS.keep{w:World}    (h:InS w f a g) (i:Be w e):InS e f a g:=by
 refine⟨h.1,?_⟩;obtain⟨_,c⟩:=h;rcases c with c|⟨b,d,rfl,c⟩
 .exact .inl c
 exact .inr ⟨b,d,rfl,λk j=>Aq i (c k j)⟩
theorem InS.at_{w:World}    (h:InS w f a g) {k:Nat} (e:k<a):∃b c,f=some ⟨b,c,none⟩/\Cq w b (c+k) (gi g k):=by
 obtain⟨_,d⟩:=h;rcases d with d|⟨b,c,rfl,d⟩
 .omega
 exact⟨b,c,rfl,d k e⟩
def enI (z:Int):List Value:=[.int .i64 z]
theorem Ml(z:Int):(enI z).length=1:=rfl
theorem Agr(z:Int):∀u∈enI z,u.oneCell'=true:=by
 intro u a;simp[enI]at a;subst a;rfl
def OwI (w:World) (a:Nat) (v:Value) (l:List Int):Prop:=OwG 3 1 enI w a v l
theorem Aj5:(Tryz.prog.info? 3).map (λi=>(i.zero,i.size,i.bytes))=some (some (.int .i64 0),1,8):=by kernel_rfl
theorem OwI.ins{w:World}    (h:OwI w a i g):∃A b,i=.slice A g.length b/\g.length<=b/\InS w A g.length g/\(0<g.length->∃c,A=some ⟨c,0,none⟩/\a<=c/\c<w.heap.size):=by
 rcases OwG.form h with⟨rfl,rfl⟩|⟨c,b,rfl,e,f,j,m⟩
 .exact⟨none,0,rfl,Nat.le_refl _,⟨rfl,.inl rfl⟩,λh=>absurd h (by simp)⟩
 refine⟨_,b,rfl,j,⟨rfl,.inr ⟨c,0,rfl,λk l=>?_⟩⟩,λ_=>⟨c,rfl,e,f⟩⟩;have c0:=OwG.cells h k (by omega);have d:=Bu Ml g k 0 _ (Wr l) (by omega);rw[Nat.mul_one,Nat.add_zero]at d;rw[d]at c0;rw[Nat.zero_add];exact c0
theorem Amj{w:World} {l:Addr}   (h:InS w (some l) a g):∀j u,(g.flatMap enI)[j]? = some u->w.cell? (l.add j)=some u:=by
 intro j u k
 have c:j<(g.flatMap enI).length:=by
  rcases Nat.lt_or_ge j (g.flatMap enI).length with i|i
  .exact i
  rw[List.getElem?_eq_none i]at k;cases k
 rw[Cz Ml,h.1,Nat.mul_one]at c;let⟨b,f,e,o⟩:=h.at_ c;injection e with e
 subst e;have d:=Bu Ml g j 0 _ (Wr (by rw[h.1];exact c)) (by omega);rw[Nat.mul_one,Nat.add_zero,k]at d
 have n:(⟨b,f,none⟩:Addr).add j=⟨b,f+j,none⟩:=by
  unfold Addr.add;by_cases m:j=0
  .subst m;simp
  simp[m]
 rw[n,o,d];rfl
theorem Kb{w:World} {r:Array Oper} {f:List Oper} {o:Oper} {a:Act} {Q:Exit->Act->World->Prop} (k:o.guard=none) (s x:Operand)
 (J:o.op=.call { callee:=.builtin .append,args:=#[s,x],argTypes:=#[23,23] })
 (b:Nat) (v:Value) (l:List Int) (K:a.eval s=v) (d:OwI w b v l)
 (A:Option Addr) (m c:Nat) (y:List Int) (L:a.eval x=.slice A m c) (q:InS w A m y) (n:A=none->c=0)
 (I:l.length+m<=1000000) (g:b<=w.heap.size)
 (h:∀j t,OwI t b j (l++y)->w.grownBy t v.ownBlock->(j.ownBlock=v.ownBlock\/j.ownBlock=some w.heap.size)->wpList Tryz.prog r Q f (a.put o.dst j) t) :
 wpList Tryz.prog r Q (o::f) a w:=by
 let⟨i,H,E,F,G⟩:=info_parts Aj5;cases A with
 | none =>
   have M:=n rfl;subst M
   have O:m=0:=by
    rcases Nat.eq_zero_or_pos m with z|z
    .exact z
    let⟨_,_,e,_⟩:=q.at_ z;cases e
   subst O;have C:y=[]:=List.eq_nil_of_length_eq_zero q.1;subst C;refine wpList_append_own_none k s x 23 J b 3 i 1 Tryz.underlying23 H v l.length (l.flatMap enI) K d L ?_;exact h v w (by rw[List.append_nil];exact d) (World.grownBy.refl _ _) (Or.inl rfl)
 | some ad =>
   refine wpList_append_own_at (P:=Tryz.prog) w k s x 23 J b 3 i (.int .i64 0) 1 8 Tryz.underlying23 H E F G rfl (by omega) v l.length (l.flatMap enI) K d ad m c (y.flatMap enI) L (by rw[Cz Ml,q.1]) (Amj q) ?_ (by unfold maxLen;omega) (by omega) g ?_
   .intro u S;let⟨p,_,R⟩:=List.mem_flatMap.1 S;exact Agr p u R
   intro j t D N _ B;refine h j t ?_ N B;unfold OwI OwG;rw[List.length_append,List.flatMap_append,q.1];exact D
theorem InS.new(w:World) (t:TypeId) (z:Int):InS (w.alloc (.cells #[z] t)) (some ⟨w.heap.size,0,none⟩) 1 [z]:=by
 refine⟨rfl,.inr ⟨_,0,rfl,λk a=>?_⟩⟩;obtain rfl:k=0:=by omega
 simp[gi]
theorem fg(A:Option Addr) (d n:Nat) (l:List Int) (x:Int) (w:World) (m:n<=1000000) (f:InS w A n l) :
 Calls Tryz.prog 97 #[.slice A n d,x] w (Bz w (Db (λi=>x == gi l i) n)):=by
 go_in;go_wp2;go_loopw [8] (λi wr=>∃k:Nat,k<=n/\i=.int .i64 k/\Hid (Bp (λi=>x == gi l i) k=false)/\Be w wr) λi _=>n-(intOf i).toNat
 case atStart=>exact⟨0,Nat.zero_le _,rfl,Bp.zero _,bl0⟩
 obtain⟨k,j,rfl,e,c⟩:=hrel;by_cases a:k<n
 .obtain⟨b,g,rfl,h⟩:=(f.keep c).at_ a;go_wp2
  .go_ret;exact⟨Bm (Hf a e.out (by assumption)).symm,c⟩
  go_roundw
  case rel=>exact⟨k+1,by omega,by go_num,Bp.succ e.out (by assumption),c⟩
  case measure=>simp[intOf];omega
 obtain rfl:n=k:=by omega
 go_wp2;go_ret;exact⟨Bm (Fy e.out).symm,c⟩
theorem Ll(A:Option Addr) (a n:Nat) (l:List Int) (x:Int) (w:World) (c:n<=1000000) (d:InS w A n l) :
 Calls Tryz.prog 61 #[.slice A n a,x] w (Bz w (.bool (Bp (λi=>x == gi l i) n))):=by
 go_in
 go_wp2_with (go_at_call 97;refine rR (fg _ _ _ _ _ _ c d) λf b=>?_)
 go_ret;exact⟨Bn (Hy _ _),b⟩
def Alq (w:World) (l:List Int) (e:Ending) (a:World):Prop:=∃v,e=.returned v/\OwI a w.heap.size v l/\Be w a
theorem Xc(b:Addr) (a n:Nat) (l:List Int) (w:World) (k:n<=1000000) (i:InS w (some b) n l) :
 Calls Tryz.prog 32 #[.slice (some b) n a] w (Alq w l):=by
 have g:=λ(w:World)=>Lib.run_eql_slice_nil (P:=Tryz.prog) w 23 3 (some b) n a 0 0 Tryz.underlying23
 have e:OwI (w.alloc (.cells #[] 3)) w.heap.size (.slice (some ⟨w.heap.size,0,none⟩) 0 0) []:=World.ownsRow_lit w #[] 0 (Nat.le_refl _) (Nat.zero_le _) rfl;go_in
 go_wp2_with (at_builtin;refine Kb rfl _ _ rfl w.heap.size _ [] rfl e (some b) n a l rfl (i.keep blA) (λh=>by cases h) (by simp;omega) blA.size ?_;intro j m d c f)
 go_ret;exact⟨j,rfl,by simpa using d,Bk blA e c⟩
theorem Xd(w:World):Calls Tryz.prog 32 #[.slice none 0 0] w (Alq w []):=by
 have a:=λ(w:World)=>Lib.run_eql_slice_nil (P:=Tryz.prog) w 23 3 none 0 0 0 0 Tryz.underlying23
 go_in;go_wp2;go_ret;exact⟨_,rfl,OwG.nil,bl0⟩
theorem gq(A:Option Addr) (a n:Nat) (l:List Int) (w:World) (f:n<=1000000) (c:InS w A n l) (g:A=none->a=0) :
 Calls Tryz.prog 32 #[.slice A n a] w (Alq w l):=by
 cases A with
 | some ad=>exact Xc ad a n l w f c
 | none =>
   have d:=g rfl
   have b:n=0:=by
    rcases Nat.eq_zero_or_pos n with h|h
    .exact h
    let⟨_,_,e,_⟩:=c.at_ h;cases e
   subst b d;rw[List.eq_nil_of_length_eq_zero c.1];exact Xd w
def Fh (f:Nat->Int):Nat->Int
 | 0=>0
 | k+1=>if Fh f k=0 then f k else Fh f k
theorem Ga{f:Nat->Int}  (h:Fh f a=0):Fh f (a+1)=f a:=by rw[Fh,if_pos h]
theorem Uv{f:Nat->Int} {k:Nat} (h:Fh f k≠0):∀m,Fh f (k+m)=Fh f k:=by
 intro m;induction m with
 | zero=>rfl
 | succ m ih=>rw[<-Nat.add_assoc,Fh,if_neg (by rw[ih];exact h),ih]
theorem Mk{f:Nat->Int}  (d:a<h) (b:Fh f a=0) (c:f a≠0):Fh f h=f a:=by
 have e:=Ga b;have:=Uv (f:=f) (k:=a+1) (by rw[e];exact c) (h-(a+1));rw[show a+1+(h-(a+1))=h by omega]at this;rw[this,e]
theorem Ph{f:Nat->Int} :Fh f a=0↔∀k,k<a->f k=0:=by
 induction a with
 | zero=>simp[Fh]
 | succ a ih =>
   rw[Fh];constructor
   .intro h k c;split at h
    .rename_i b;rcases Nat.lt_or_ge k a with g|g
     .exact(ih.1 b) k g
     obtain rfl:k=a:=by omega
     exact h
    rename_i b;exact absurd h b
   intro h;rw[if_pos (ih.2 λk c=>h k (by omega))];exact h a (by omega)
structure EdgeP where
 nm:ByteArray
 ln:LP
structure PieceP where
 nm:ByteArray
 ed:List EdgeP
 gr:Int
 nt:LP
 cr:LP
 wd:List Int
 mt:Bool
structure UseP where
 pc:Int
 ct:Int
 pr:Bool
structure SeamP where
 pa:Int
 ea:Int
 pb:Int
 eb:Int
 rv:Bool
 es:Int
structure StyleP where
 nm:ByteArray
 sz:List ByteArray
 mu:List Int
 pc:List PieceP
 us:List UseP
 se:List SeamP
 no:Nat
def edg (l:List EdgeP) (k:Nat):EdgeP:=l.getD k ⟨ByteArray.empty,[]⟩
def pce (l:List PieceP) (k:Nat):PieceP:=l.getD k ⟨ByteArray.empty,[],0,[],[],[],false⟩
def use (l:List UseP) (k:Nat):UseP:=l.getD k ⟨0,0,false⟩
def sem (l:List SeamP) (k:Nat):SeamP:=l.getD k ⟨0,0,0,0,false,0⟩
def gb (l:List ByteArray) (k:Nat):ByteArray:=l.getD k ByteArray.empty
def Gq (a b:ByteArray):Bool:=a.toList == b.toList
def Hk (E:List EdgeP) (i:Nat):Int :=
 if Cy (edg E i).nm=false then 1 else if Bp (λj=>Gq (edg E j).nm (edg E i).nm) i then 7 else plW (edg E i).ln (edg E i).ln.length
def J2 (E:List EdgeP) (i:Nat):Bool:=!eqS (gt (edg E i).ln ((edg E i).ln.length-1)) (gt (edg E ((i+1) % E.length)).ln 0)
def ux (l:LP):LP:=l.take (l.length-1)
def Cn (E:List EdgeP):Nat->LP
 | 0=>[]
 | k+1=>Cn E k++ux (edg E k).ln
def Bj (E:List EdgeP):LP:=Cn E E.length
def C7 (E:List EdgeP):Int :=
 if 16<E.length then 5 else if E.length<2 then 11 else if Fh (Hk E) E.length≠0 then Fh (Hk E) E.length
 else if Bp (J2 E) E.length then 11 else Bg (Bj E) (Bj E).length
theorem D5{E:List EdgeP} (h:C7 E=0):2<=E.length/\E.length<=16/\(∀k,k<E.length->Cy (edg E k).nm=true/\plW (edg E k).ln (edg E k).ln.length=0)/\Bp (J2 E) E.length=false/\Bg (Bj E) (Bj E).length=0:=by
 unfold C7 at h;split at h
 .cases h
 split at h
 .cases h
 split at h
 .rename_i g;exact absurd h g
 rename_i f i b;have a:Fh (Hk E) E.length=0:=by simpa using b
 split at h
 .cases h
 rename_i c;refine⟨by omega,by omega,λk d=>?_,by simpa using c,h⟩;have:=Ph.1 a k d;unfold Hk at this;split at this
 .cases this
 split at this
 .cases this
 rename_i e j;exact⟨by simpa using e,this⟩
theorem Er(h:plW m a=0):2<=a/\a<=40:=by
 unfold plW at h;split at h
 .cases h
 split at h
 .cases h
 omega
theorem Jv(l:LP):(ux l).length=l.length-1:=by unfold ux;rw[List.length_take];omega
theorem Lt{E:List EdgeP} {k:Nat} (h:∀i,i<k->(edg E i).ln.length<=40):(Cn E k).length<=k*40:=by
 induction k with
 | zero=>simp[Cn]
 | succ k ih =>
   rw[Cn,List.length_append,Jv];have:=ih λi a=>h i (by omega)
   have:=h k (by omega);omega
def Iq (cr:LP) (m:Int) (i:Nat):Int×Int:=(m*(gt cr (i % cr.length)).1,m*(gt cr (i % cr.length)).2)
def Mw (l:LP) (a b:Int×Int) (k:Nat):Int×Int :=
 ((gt l k).1+F8 (((l.length:Int)-1-k)*a.1+k*b.1) ((l.length:Int)-1),(gt l k).2+F8 (((l.length:Int)-1-k)*a.2+k*b.2) ((l.length:Int)-1))
def He (l:LP) (a b:Int×Int):LP:=(List.range l.length).map (Mw l a b)
def Fl (p:PieceP) (m:Int):Nat->List EdgeP
 | 0=>[]
 | k+1=>Fl p m k++[⟨(edg p.ed k).nm,He (edg p.ed k).ln (Iq p.cr m k) (Iq p.cr m (k+1))⟩]
def Ej (p:PieceP) (m:Int):List EdgeP:=Fl p m p.ed.length
def Ch (p:PieceP) (m:Int):List EdgeP×Int :=
 if wI m 100=false then ([],3) else if p.cr.length≠p.ed.length then ([],1)
 else if Bp (λi=>!wS (gt p.cr i) 1000) p.cr.length then ([],3)
 else if C7 p.ed≠0 then ([],C7 p.ed)
 else if C7 (Ej p m)≠0 then ([],C7 (Ej p m)) else (Ej p m,0)
def Mb (a b c:Int):Bool:=decide (a<1) || decide (1099511627776<a) || decide (b<0) || decide (1099511627776<b) || decide (c<0) || decide (a<c)
def Uh (p:PieceP) (E:List EdgeP) (i:Nat):Int :=
 if (gt p.nt i).1<0\/(p.ed.length:Int)<=(gt p.nt i).1 then 3
 else if (My (edg p.ed (gt p.nt i).1.toNat).ln (edg p.ed (gt p.nt i).1.toNat).ln.length).2≠0 then (My (edg p.ed (gt p.nt i).1.toNat).ln (edg p.ed (gt p.nt i).1.toNat).ln.length).2
 else if (My (edg E (gt p.nt i).1.toNat).ln (edg E (gt p.nt i).1.toNat).ln.length).2≠0 then (My (edg E (gt p.nt i).1.toNat).ln (edg E (gt p.nt i).1.toNat).ln.length).2
 else if Mb (My (edg p.ed (gt p.nt i).1.toNat).ln (edg p.ed (gt p.nt i).1.toNat).ln.length).1 (My (edg E (gt p.nt i).1.toNat).ln (edg E (gt p.nt i).1.toNat).ln.length).1 (gt p.nt i).2 then 3 else 0
def Iy (p:PieceP) (m:Int):Int :=
 if (Ch p m).2≠0 then (Ch p m).2 else if 16<p.nt.length then 5 else Fh (Uh p (Ch p m).1) p.nt.length
def Ee (P:List PieceP) (i:Nat):Int :=
 if Cy (pce P i).nm=false then 1 else if (pce P i).gr≠1/\(pce P i).gr≠2/\(pce P i).gr≠4 then 1
 else if Bp (λj=>Gq (pce P j).nm (pce P i).nm) i then 7
 else if (Ch (pce P i) 0).2≠0 then (Ch (pce P i) 0).2 else if Iy (pce P i) 0≠0 then Iy (pce P i) 0
 else if (pce P i).wd.length≠(pce P i).ed.length then 1 else if Bp (λj=>decide (gi (pce P i).wd j<0) || decide (500<gi (pce P i).wd j)) (pce P i).wd.length then 3 else 0
def szB (s:ByteArray):Bool:=!Bp (λi=>!(decide (65<=byI s i)&&decide (byI s i<=90))&&!(decide (48<=byI s i)&&decide (byI s i<=57))) s.size&&(decide (1<=s.size)&&decide (s.size<=8))
def C6 (s:StyleP):Int :=
 if Cy s.nm=false\/s.sz.length=0 then 1 else if Bp (λi=>!szB (gb s.sz i)) s.sz.length then 1
 else if s.mu.length≠s.sz.length\/Bp (λi=>(0:Int) == gi s.mu i) s.mu.length=false then 1
 else if Bp (λi=>Bp (λj=>Gq (gb s.sz j) (gb s.sz i)) i) s.sz.length then 7
 else if 12<s.sz.length\/12<s.pc.length\/12<s.us.length then 5
 else if 24<s.se.length\/16<s.no then 5
 else if Bp (λi=>decide (gi s.mu i < -100) || decide (100<gi s.mu i)) s.mu.length then 3 else 0
def Ni (s:StyleP) (i:Nat):Bool:=decide ((use s.us i).pc<0) || decide ((s.pc.length:Int)<=(use s.us i).pc) || decide ((use s.us i).ct<1) || decide (4<(use s.us i).ct)
def Td (P:List PieceP) (a e:Int):Bool:=decide (0<=a)&&decide (a<P.length)&&decide (0<=e)&&decide (e<(pce P a.toNat).ed.length)
def Ly (s:StyleP) (i:Nat):Int :=
 if Td s.pc (sem s.se i).pa (sem s.se i).ea=false\/Td s.pc (sem s.se i).pb (sem s.se i).eb=false then 3 else if (sem s.se i).es<0 then 1 else 0
def Bv (s:StyleP):Int :=
 if C6 s≠0 then C6 s else if Fh (Ee s.pc) s.pc.length≠0 then Fh (Ee s.pc) s.pc.length
 else if Bp (Ni s) s.us.length then 3 else Fh (Ly s) s.se.length
namespace Limb
def BB:Nat:=4294967296
def val:List Nat->Nat
 | []=>0
 | x::l=>x+BB*val l
def lmb (n:Nat):List Nat:=if h:n=0 then [] else n % BB::lmb (n / BB)
termination_by n
decreasing_by unfold BB;omega
theorem Cb:lmb 0=[]:=by rw[lmb];simp
theorem D6(h:a≠0):lmb a=a % BB::lmb (a / BB):=by rw[lmb,dif_neg h]
theorem Ep(n:Nat):val (lmb n)=n:=by
 induction n using Nat.strongRecOn with
 | _ n ih =>
   by_cases h:n=0
   .rw[h,Cb];rfl
   rw[D6 h,val,ih (n / BB) (by unfold BB;omega)];exact Nat.mod_add_div n BB
theorem Dj(n:Nat):∀x∈lmb n,x<BB:=by
 induction n using Nat.strongRecOn with
 | _ n ih =>
   by_cases h:n=0
   .rw[h,Cb];simp
   rw[D6 h];intro x a;rcases List.mem_cons.1 a with rfl|a
   .exact Nat.mod_lt _ (by decide)
   exact ih (n / BB) (by unfold BB;omega) x a
theorem Ho(a b:List Nat):val (a++b)=val a+BB ^ a.length*val b:=by
 induction a with
 | nil=>simp[val]
 | cons x a ih=>rw[List.cons_append,val,val,ih,List.length_cons,Nat.pow_succ,Nat.mul_add];rw[show BB*(BB ^ a.length*val b)=BB ^ a.length*BB*val b by rw[<-Nat.mul_assoc,Nat.mul_comm BB]];omega
theorem Ql{l:List Nat} (h:∀x∈l,x<BB):val l<BB ^ l.length:=by
 induction l with
 | nil=>simp[val]
 | cons x l ih =>
   have c:=h x (by simp);have a:=ih (λy b=>h y (by simp[b]));rw[val,List.length_cons,Nat.pow_succ];have:=Nat.mul_le_mul_left BB (show val l+1<=BB ^ l.length from a);rw[Nat.mul_add,Nat.mul_one]at this;rw[Nat.mul_comm (BB ^ l.length)];omega
theorem E7(k:Nat):val (List.replicate k 0)=0:=by
 induction k with
 | zero=>rfl
 | succ k ih=>rw[List.replicate_succ,val,ih];rfl
theorem qg:∀{l:List Nat},(∀x∈l,x<BB)->(∀h:l≠[],l.getLast h≠0)->lmb (val l)=l
 | [],_,_=>Cb
 | x::l,h,hl=>by
   have b:=h x (by simp)
   have ih:=qg (l:=l) (λy i=>h y (by simp[i])) (λa=>by
    have:=hl (by simp)
    rwa [List.getLast_cons a] at this)
   have a:val (x::l)≠0:=by
    intro e;rw[val]at e;have c:x=0:=by omega
    have d:BB*val l=0:=by omega
    have f:val l=0:=by rcases Nat.mul_eq_zero.1 d with g|g;(unfold BB at g;omega);exact g
    rw[f,Cb]at ih;subst ih;have:=hl (by simp);simp at this;exact this c
   rw[D6 a,val];have j:(x+BB*val l) % BB=x:=by rw[Nat.add_mul_mod_self_left];exact Nat.mod_eq_of_lt b
   have k:(x+BB*val l) / BB=val l:=by rw[Nat.add_mul_div_left _ _ (by decide),Nat.div_eq_of_lt b,Nat.zero_add]
   rw[j,k,ih]
def trl:List Nat->Nat->Nat
 | _,0=>0
 | l,k+1=>if l.getD k 0=0 then trl l k else k+1
theorem Xr (l:List Nat):∀k,trl l k<=k
 | 0=>Nat.le_refl _
 | k+1=>by rw[trl];split;exact Nat.le_trans (Xr l k) (by omega);omega
theorem Xq {l:List Nat} (h:∀x∈l,x<BB):∀k,k<=l.length->l.take (trl l k)=lmb (val (l.take k))
 | 0,_=>by simp[trl,val,Cb]
 | k+1,hk=>by
   have g:l.getD k 0=l[k]'(by omega):=by rw[List.getD,List.getElem?_eq_getElem (by omega)];rfl
   have e:l.take (k+1)=l.take k++[l[k]'(by omega)]:=List.take_succ_eq_append_getElem (by omega);rw[trl];split
   .rename_i z;rw[Xq h k (by omega),e,<-g,z,Ho];simp[val]
   rename_i z
   symm
   apply qg
   .intro x j;exact h x (List.mem_of_mem_take j)
   intro d
   have b:∀(a c:List Nat) (x:Nat) (f:a≠[]),a=c++[x]->a.getLast f=x:=by
    intro a c x f i;subst i;simp
   rw[b _ _ _ d e,<-g];exact z
theorem Sc{n:Nat} (h:n≠0):(lmb n).getD ((lmb n).length-1) 0≠0:=by
 induction n using Nat.strongRecOn with
 | _ n ih =>
   rw[D6 h];by_cases c:n / BB=0
   .rw[c,Cb];simp;have:=Nat.div_add_mod n BB;rw[c]at this;omega
   have:=ih (n / BB) (by unfold BB;omega) c;rw[D6 c]at this ⊢;simpa using this
theorem Gv(n:Nat):trl (lmb n) (lmb n).length=(lmb n).length:=by
 by_cases h:n=0
 .rw[h,Cb];rfl
 have a:=Sc h;rw[D6 h]at a ⊢;rw[List.length_cons]at a ⊢;rw[trl,if_neg (by simpa using a)]
theorem Akw{P q:Nat} (e:0<P) (d:l*P<=h) (f:a<(k+1)*P) (c:0<l) (hq:q*h<=a):q<=k / l:=by
 rw[Nat.le_div_iff_mul_le c]
 have b:q*l*P<(k+1)*P:=by
  have:=Nat.mul_le_mul_left q d;rw[<-Nat.mul_assoc]at this;omega
 have:=Nat.lt_of_mul_lt_mul_right b;omega
theorem Agu{P q t:Nat} (c:l*P<=h) (f:a<(k+1)*P) (ht:k<t*l) (hq:q*h<=a):q<t:=by
 apply Classical.byContradiction;intro g;have d:t*h<=q*h:=Nat.mul_le_mul_right h (by omega);have b:=Nat.mul_le_mul_left t c;rw[<-Nat.mul_assoc]at b;have e:=Nat.mul_le_mul_right P (show k+1<=t*l from ht);omega
theorem Akv{U V U3 V2 P:Nat} (d:V<(V2+1)*P) (m:U3*P<=U) (ht:h*V2<=U3) (b:h<BB) (e:BB*P<=V) (c:0<P) (hq:U<(a+1)*V):h<=a+1:=by
 apply Classical.byContradiction;intro n;have f:(a+1)*V<=(h-1)*V:=Nat.mul_le_mul_right V (by omega);have g:h*V<=h*((V2+1)*P):=Nat.mul_le_mul_left h (Nat.le_of_lt d);have i:h*((V2+1)*P)=h*V2*P+h*P:=by rw[<-Nat.mul_assoc,Nat.mul_add,Nat.mul_one,Nat.add_mul]
 have j:=Nat.mul_le_mul_right P ht;have k:h*P<BB*P:=Nat.mul_lt_mul_of_pos_right b c;have l:(h-1)*V+V=h*V:=by rw[show h=h-1+1 by omega,Nat.add_mul,Nat.one_mul];simp
 omega
end Limb
section
open Go.RowKit Limb
def gu (l:List Nat) (k:Nat):Nat:=l.getD k 0
theorem Mj(h:a<b.length):b[a]? = some (gu b a):=by
 unfold gu;rw[List.getD,List.getElem?_eq_getElem h];rfl
def Hn (w:World) (A:Option Addr) (n:Nat) (l:List Nat):Prop:=l.length=n/\(n=0\/∃b a,A=some ⟨b,a,none⟩/\∀k,k<n->Cq w b (a+k) (.int .u32 (gu l k:Int)))
theorem Hn.keep{w:World}    (h:Hn w f a b) (i:Be w e):Hn e f a b:=by
 refine⟨h.1,?_⟩;obtain⟨_,c⟩:=h;rcases c with c|⟨g,d,rfl,c⟩
 .exact .inl c
 exact .inr ⟨g,d,rfl,λk j=>Aq i (c k j)⟩
theorem Hn.at_{w:World}    (h:Hn w f a b) {k:Nat} (g:k<a):∃d c,f=some ⟨d,c,none⟩/\Cq w d (c+k) (.int .u32 (gu b k:Int)):=by
 obtain⟨_,e⟩:=h;rcases e with e|⟨d,c,rfl,e⟩
 .omega
 exact⟨d,c,rfl,e k g⟩
theorem Hn.take{w:World}  {m:Nat}  (h:Hn w f a b) (j:m<=a):Hn w f m (b.take m):=by
 obtain⟨i,c⟩:=h;refine⟨by rw[List.length_take];omega,?_⟩;rcases c with c|⟨e,d,rfl,c⟩
 .exact .inl (by omega)
 refine .inr ⟨e,d,rfl,λk g=>?_⟩;have:gu (b.take m) k=gu b k:=by unfold gu;rw[List.getD,List.getD,List.getElem?_take_of_lt g]
 rw[this];exact c k (by omega)
def enU (z:Nat):List Value:=[.int .u32 (z:Int)]
theorem Hj(z:Nat):(enU z).length=1:=rfl
theorem Im(z:Nat):∀u∈enU z,u.oneCell'=true:=by
 intro u a;simp[enU]at a;subst a;rfl
def OwU (w:World) (a:Nat) (v:Value) (l:List Nat):Prop:=OwG 280 1 enU w a v l
theorem Pd:(Tryz.prog.info? 280).map (λi=>(i.zero,i.size,i.bytes))=some (some (.int .u32 0),1,4):=by kernel_rfl
def Ce (w:World) (b:Nat) (v:Value) (a:Nat):Prop:=∃A c,v=.slice A (lmb a).length c/\(lmb a).length<=c/\c<=maxLen/\Hn w A (lmb a).length (lmb a)/\(A=none->c=0)/\∀p,A=some p->b<=p.block
theorem Ce.keep{w:World} {base:Nat}   (h:Ce w base i a) (l:Be w e):Ce e base i a:=by
 obtain⟨A,c,b,d,f,g,j,k⟩:=h;exact⟨A,c,b,d,f,g.keep l,j,k⟩
theorem Ce.lower{w:World} {base':Nat}   (b:Ce w a i h) (l:base'<=a):Ce w base' i h:=by
 obtain⟨A,c,e,d,f,g,j,k⟩:=b;exact⟨A,c,e,d,f,g,j,λp m=>Nat.le_trans l (k p m)⟩
end
section
open Go.RowKit Limb
theorem Aih(h:gu b a=0):trl b (a+1)=trl b a:=by unfold gu at h;rw[trl,if_pos h]
theorem Ac5(h:¬gu b a=0):trl b (a+1)=a+1:=by unfold gu at h;rw[trl,if_neg h]
theorem Ci(A:Option Addr) (a n:Nat) (l:List Nat) (w:World) (q:n<=1000000) (o:n<=a) (h:Hn w A n l) :
 Calls Tryz.prog 308 #[.slice A n a] w (Bz w (.slice A (trl l n) a)):=by
 go_in;go_wp2;go_loopw [3] (λi wr=>∃k:Nat,k<=n/\i=.int .i64 k/\Hid (trl l n=trl l k)/\Be w wr) λi _=>(intOf i).toNat
 case atStart=>exact⟨n,Nat.le_refl _,rfl,Ar rfl,bl0⟩
 obtain⟨k,p,rfl,ht,e⟩:=hrel;cases k with
 | zero =>
   have d:=Ar (show trl l n=0 by rw[ht.out];rfl);go_wp2;go_ret;exact⟨by rw[d.out];rfl,e⟩
 | succ k =>
   obtain⟨b,m,rfl,f⟩:=(h.keep e).at_ (show k<n by omega);have r:((k+1:Nat):Int)-1=(k:Int):=by omega
   have s:(0:Int)<((k+1:Nat):Int):=by omega
   have t:(0:Int)<=(k:Int):=by omega
   have u:(k:Int)<(n:Int):=by omega
   let⟨z,c⟩:=gN (((gu l k:Nat):Int):Int)
   rw[c]at f;by_cases g:z=0
   .have d:=Ar (show trl l n=trl l k by rw[ht.out];exact Aih (by omega));rw[g]at f;clear c;go_wp2;exact⟨⟨k,by omega,by go_num,d,e⟩,by simp[intOf]⟩
   have d:=Ar (show trl l n=k+1 by rw[ht.out];exact Ac5 (by omega));have j:(z == 0)=false:=by simpa using g
   clear c;go_wp2;go_ret;exact⟨by rw[d.out];rfl,e⟩
end
namespace Limb
theorem Mx(n:Nat):n<BB ^ (lmb n).length:=by have:=Ql (Dj n);rwa [Ep] at this
theorem Sb{n:Nat} (h:n≠0):BB ^ ((lmb n).length-1)<=n:=by
 induction n using Nat.strongRecOn with
 | _ n ih =>
   rw[D6 h,List.length_cons,Nat.add_sub_cancel];by_cases c:n / BB=0
   .rw[c,Cb];simp;omega
   have b:=ih (n / BB) (by unfold BB;omega) c;have d:0<(lmb (n / BB)).length:=by rw[D6 c];simp
   have a:=Nat.mul_le_mul_right BB b;rw[<-Nat.pow_succ,show ((lmb (n / BB)).length-1).succ=(lmb (n / BB)).length by omega]at a;exact Nat.le_trans a (Nat.div_mul_le_self n BB)
theorem Mf(b:(lmb a).length<(lmb h).length):a<h:=by
 have c:h≠0:=by intro e;rw[e,Cb]at b;simp at b
 have d:=Mx a;have f:=Sb c;have g:BB ^ (lmb a).length<=BB ^ ((lmb h).length-1):=Nat.pow_le_pow_right (by decide) (by omega);omega
theorem Hu(b:a<=h):(lmb a).length<=(lmb h).length:=by
 rcases Nat.lt_or_ge (lmb h).length (lmb a).length with g|g
 .have:=Mf g;omega
 exact g
theorem Me(c:a<BB ^ h):(lmb a).length<=h:=by
 by_cases b:a=0
 .rw[b,Cb];simp
 apply Classical.byContradiction;intro f;have d:=Sb b;have e:BB ^ h<=BB ^ ((lmb a).length-1):=Nat.pow_le_pow_right (by decide) (by omega);omega
theorem Xn(c:a<b.length):val (b.take (a+1))=val (b.take a)+BB ^ a*b.getD a 0:=by
 have d:b.getD a 0=b[a]:=by rw[List.getD,List.getElem?_eq_getElem c];rfl
 rw[List.take_succ_eq_append_getElem c,Ho,d,List.length_take,Nat.min_eq_left (by omega)];simp[val]
theorem Lu(h:∀x∈b,x<BB) {k:Nat} (a:k<=b.length):val (b.take k)<BB ^ k:=by
 have:=Ql (l:=b.take k) λx c=>h x (List.mem_of_mem_take c)
 rwa [List.length_take,Nat.min_eq_left a] at this
def ug (a b:List Nat):Nat->Int
 | 0=>0
 | k+1=>if a.getD k 0<b.getD k 0 then -1 else if b.getD k 0<a.getD k 0 then 1 else ug a b k
def Ia (a b:Nat):Int:=if a<b then -1 else if b<a then 1 else 0
theorem Zp {a b:List Nat} (d:∀x∈a,x<BB) (e:∀x∈b,x<BB):∀k,k<=a.length->k<=b.length->ug a b k=Ia (val (a.take k)) (val (b.take k))
 | 0,_,_=>by simp[ug,Ia,val]
 | k+1,h1,h2=>by
   have ih:=Zp d e k (by omega) (by omega);rw[ug,Xn (by omega),Xn (by omega),ih];have f:=Lu d (k:=k) (by omega);have g:=Lu e (k:=k) (by omega);generalize val (a.take k)=x at *
   generalize val (b.take k)=y at *
   generalize a.getD k 0=p;generalize b.getD k 0=q;generalize BB ^ k=B at *
   unfold Ia;rcases Nat.lt_trichotomy p q with c|c|c
   .have:=Nat.mul_le_mul_left B (show p+1<=q from c);rw[Nat.mul_add,Nat.mul_one]at this;rw[if_pos c,if_pos (by omega)]
   .subst c;rw[if_neg (Nat.lt_irrefl p),if_neg (Nat.lt_irrefl p)];simp only[Nat.add_lt_add_iff_right]
   have:=Nat.mul_le_mul_left B (show q+1<=p from c);rw[Nat.mul_add,Nat.mul_one]at this;rw[if_neg (by omega),if_pos c,if_neg (by omega),if_pos (by omega)]
theorem Agy{a b:Nat}:Ia a b=if (lmb a).length<(lmb b).length then -1 else if (lmb b).length<(lmb a).length then 1 else ug (lmb a) (lmb b) (lmb a).length:=by
 split
 .rename_i h;have:=Mf h;unfold Ia;rw[if_pos this]
 split
 .rename_i h;have:=Mf h;unfold Ia;rw[if_neg (by omega),if_pos this]
 rename_i c d;rw[Zp (Dj a) (Dj b) _ (Nat.le_refl _) (by omega),List.take_length,Ep,show (lmb a).length=(lmb b).length by omega,List.take_length,Ep]
def lim (a k:Nat):Nat:=(lmb a).getD k 0
theorem Q7(a:Nat):∀k,lim a k=a / BB ^ k % BB:=by
 induction a using Nat.strongRecOn with
 | _ a ih =>
   intro k;unfold lim;by_cases h:a=0
   .rw[h,Cb];simp
   rw[D6 h];cases k with
   | zero=>simp
   | succ k =>
     have:=ih (a / BB) (by unfold BB;omega) k;unfold lim at this;rw[List.getD_cons_succ,this,Nat.div_div_eq_div_mul,Nat.pow_succ,Nat.mul_comm BB]
theorem Bt(a k:Nat):a % BB ^ (k+1)=a % BB ^ k+BB ^ k*lim a k:=by
 rw[Q7,Nat.pow_succ,Nat.mod_mul]
end Limb
section
open Go.RowKit Limb
theorem Hn.trim{w:World}    (h:Hn w f a b) (c:∀x∈b,x<BB):Hn w f (trl b a) (lmb (val b))/\(lmb (val b)).length=trl b a:=by
 have e:=Xq c a (by rw[h.1];exact Nat.le_refl _);have t:=h.take (Xr b a);rw[show b.take a=b from List.take_of_length_le (by rw[h.1];exact Nat.le_refl _)] at e;rw[e]at t;exact⟨t,t.1⟩
theorem Oz{w:World} {base c:Nat}   (h:Hn w f a b) (l:∀x∈b,x<BB) (k:a<=c) (e:c<=maxLen) (g:f=none->c=0) (j:∀p,f=some p->base<=p.block):Ce w base (.slice f (trl b a) c) (val b):=by
 let⟨i,d⟩:=h.trim l;refine⟨f,c,by rw[d],?_,e,by rw[d];exact i,g,j⟩;rw[d];exact Nat.le_trans (Xr b a) k
theorem Aeq(w:World) (l:List Nat):Hn (w.alloc (.cells (l.map λx:Nat=>(.int .u32 (x:Int):Value)).toArray 280)) (some ⟨w.heap.size,0,none⟩) l.length l:=by
 have h:=Bf.new w 280 (l.map λx:Nat=>(.int .u32 (x:Int):Value)).toArray;refine⟨rfl,.inr ⟨_,0,rfl,λk a=>?_⟩⟩;rw[Nat.zero_add];refine(h.cell k).trans ?_;rw[List.getElem?_toArray,List.getElem?_map,Mj a];rfl
theorem R4(n:Nat) (w:World) (m:n<18446744073709551616) :
 Calls Tryz.prog 252 #[.int .u64 (n:Int)] w λe j=>∃v,e=.returned v/\Ce j w.heap.size v n/\Be w j:=by
 have f:∀x∈[n % 4294967296,n / 4294967296],x<BB:=by
  intro x i;simp at i;unfold BB;rcases i with rfl|rfl<;>omega
 have g:val [n % 4294967296,n / 4294967296]=n:=by
  unfold val val val BB;omega
 have d:=Ar (show Hn (w.alloc (.cells #[.int .u32 ((n:Int) % 4294967296),.int .u32 ((n:Int) / 4294967296)] 280)) (some ⟨w.heap.size,0,none⟩) 2 [n % 4294967296,n / 4294967296] by
  have h:=Aeq w [n % 4294967296,n / 4294967296];simpa using h)
 have k:=Ar f;have l:=Ar g;clear f g;go_in
 go_wp2_with (go_at_call 308;refine rR (Ci (some ⟨w.heap.size,0,none⟩) 2 2 [n % 4294967296,n / 4294967296] _ (by omega) (by omega) d.out) λo a=>?_)
 go_ret;refine⟨_,rfl,?_,An blA a⟩;have:=Oz (base:=w.heap.size) (c:=2) (d.out.keep a) k.out (by simp) (by unfold maxLen;omega) (λh=>by cases h) (λp b=>by injection b with b;subst b;exact Nat.le_refl _);rw[l.out]at this;exact this
end
namespace Limb
theorem Ku(l:List Nat) (x:Nat):val (l++[x])=val l+BB ^ l.length*x:=by
 rw[Ho];simp[val]
theorem Fp:∀{l:List Nat} {k x:Nat},k<l.length->val (l.set k x)+BB ^ k*l.getD k 0=val l+BB ^ k*x
 | y::l,0,x,_=>by simp[val];omega
 | y::l,k+1,x,h=>by
   have ih:=Fp (l:=l) (k:=k) (x:=x) (by simpa using h);rw[List.set_cons_succ,val,val,List.getD_cons_succ,Nat.pow_succ,Nat.mul_comm (BB ^ k) BB,Nat.mul_assoc,Nat.mul_assoc];have:=congrArg (BB*·) ih;simp only[Nat.mul_add]at this;omega
theorem Hq{k x:Nat} (h:∀y∈b,y<BB) (a:x<BB):∀y∈b.set k x,y<BB:=by
 intro y c;rcases List.mem_or_eq_of_mem_set c with g|rfl
 .exact h y g
 exact a
theorem Od{x:Nat} (h:∀y∈b,y<BB) (a:x<BB):∀y∈b++[x],y<BB:=by
 intro y c;rcases List.mem_append.1 c with g|g
 .exact h y g
 rw[List.mem_singleton.1 g];exact a
theorem Fc{x:Nat} (d:a<b.length):(b.set a x).getD h 0=if a=h then x else b.getD h 0:=by
 rw[List.getD,List.getElem?_set];by_cases c:a=h
 .subst c;simp[d]
 simp[c,List.getD]
theorem G4(n k:Nat):(List.replicate n 0).getD k 0=0:=by
 rw[List.getD,List.getElem?_replicate];split<;>rfl
theorem Ex(h:∀y∈b,y<BB) (k:Nat):b.getD k 0<BB:=by
 rw[List.getD];rcases Nat.lt_or_ge k b.length with g|g
 .rw[List.getElem?_eq_getElem g];exact h _ (List.getElem_mem g)
 rw[List.getElem?_eq_none g];decide
theorem Gh(n:Nat):∀y∈List.replicate n 0,y<BB:=by
 intro y a;rw[List.eq_of_mem_replicate a];decide
theorem Di{a k:Nat} (h:(lmb a).length<=k):a % BB ^ k=a :=
 Nat.mod_eq_of_lt (Nat.lt_of_lt_of_le (Mx a) (Nat.pow_le_pow_right (by decide) h))
theorem Cv(a k:Nat):lim a k<BB:=Ex (Dj a) k
theorem Sd(b:(lmb a).length<=h):lim a h=0:=by
 unfold lim;rw[List.getD,List.getElem?_eq_none b];rfl
theorem Lh(B s:Nat):B*(s % BB)+B*BB*(s / BB)=B*s:=by
 rw[Nat.mul_assoc,<-Nat.mul_add,Nat.mod_add_div]
theorem Anf{c:Nat}  (d:b.length=k) (e:val b+BB ^ k*c=a % BB ^ k+h % BB ^ k) :
 val (b++[(c+lim a k+lim h k) % BB])+BB ^ (k+1)*((c+lim a k+lim h k) / BB)=a % BB ^ (k+1)+h % BB ^ (k+1):=by
 rw[Ku,d,Bt,Bt,Nat.pow_succ];have:=Lh (BB ^ k) (c+lim a k+lim h k);rw[Nat.mul_add (BB ^ k) (c+lim a k),Nat.mul_add (BB ^ k) c]at this;omega
theorem Ak0{j c z s:Nat} {r:List Nat} (b:j<r.length) (d:s=c+z+r.getD j 0) :
 val (r.set j (s % BB))+BB ^ (j+1)*(s / BB)=val r+BB ^ j*c+BB ^ j*z:=by
 have e:=Fp (x:=s % BB) b;have a:=Lh (BB ^ j) s;rw[Nat.pow_succ];rw[show BB ^ j*s=BB ^ j*c+BB ^ j*z+BB ^ j*r.getD j 0 by rw[d,Nat.mul_add,Nat.mul_add]] at a;omega
theorem Aly{d v:Nat}  (f:k<b.length) (g:b.getD k 0=0) (i:val b+h % BB ^ k=a % BB ^ k+BB ^ k*l) (e:v+lim h k+l=lim a k+BB*d) :
 val (b.set k v)+h % BB ^ (k+1)=a % BB ^ (k+1)+BB ^ (k+1)*d:=by
 have c:=Fp (x:=v) f;rw[g,Nat.mul_zero,Nat.add_zero]at c;rw[c,Bt,Bt,Nat.pow_succ];have:=congrArg (BB ^ k*·) e;simp only[Nat.mul_add,<-Nat.mul_assoc]at this;omega
theorem Ae2{d:Nat}  (i:h<b.length) (j:b.getD h 0=0) (g:val b*d+BB ^ (h+1)*k+a % BB ^ (h+1)=a) :
 val (b.set h ((k*BB+lim a h) / d))*d+BB ^ h*((k*BB+lim a h) % d)+a % BB ^ h=a:=by
 have f:=Fp (x:=(k*BB+lim a h) / d) i;rw[j,Nat.mul_zero,Nat.add_zero]at f;rw[f,Nat.add_mul];rw[Bt,Nat.pow_succ]at g;have e:=Nat.div_add_mod (k*BB+lim a h) d;have c:=congrArg (BB ^ h*·) e;simp only[Nat.mul_add]at c;rw[show BB ^ h*(d*((k*BB+lim a h) / d))=BB ^ h*((k*BB+lim a h) / d)*d by rw[Nat.mul_comm d,<-Nat.mul_assoc],show BB ^ h*(k*BB)=BB ^ h*BB*k by rw[Nat.mul_comm k,<-Nat.mul_assoc]] at c;omega
theorem Am9{j c z o o' v:Nat} {u:List Nat} (d:j<u.length) (e:v+(c+z) % BB+o=u.getD j 0+BB*o') :
 val (u.set j v)+BB ^ j*z+BB ^ j*(c+o)=val u+BB ^ (j+1)*((c+z) / BB+o'):=by
 have f:=Fp (x:=v) d;have b:=Lh (BB ^ j) (c+z);rw[Nat.pow_succ];have a:=congrArg (BB ^ j*·) e;simp only[Nat.mul_add,<-Nat.mul_assoc]at a b ⊢;omega
end Limb
end Go.Proofs.YtlogblbfbihleaaGreat

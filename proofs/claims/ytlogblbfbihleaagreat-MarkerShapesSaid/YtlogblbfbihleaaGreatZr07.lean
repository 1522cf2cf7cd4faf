/- Lean texts of the claim. -/
import Derived.Test.YtlogblbfbihleaaGreatZr06
namespace Go.Proofs.YtlogblbfbihleaaGreat
set_option linter.all false
set_option maxRecDepth 100000
set_option maxHeartbeats 0
open Go.RowKit
variable{a g i j:Nat}{b:List Nat}{e:World}{f:Option Addr}{h:Value}
section
open Go.RowKit Limb
theorem Hn.grown{w:World}    (h:Hn w f a b) (q:w.grownBy e (some g)) (l:∀p,f=some p->p.block≠g):Hn e f a b:=by
 refine⟨h.1,?_⟩;obtain⟨_,d⟩:=h;rcases d with d|⟨i,m,rfl,d⟩
 .exact .inl d
 have o:i≠g:=l _ rfl;refine .inr ⟨i,m,rfl,λk r=>?_⟩;have c:=d k r;have j:=Bi c
 show World.cell? _ _=_
 rw[<-show World.cell? _ _=_ from c];unfold World.cell?;rw[q.block i j λn=>o (by injection n)]
theorem Hn.far{w:World}    (h:Hn w f a b) {p:Addr} (d:∀q,f=some q->q.block≠p.block) (u:Value):Hn (w.setCell p u) f a b:=by
 refine⟨h.1,?_⟩;obtain⟨_,c⟩:=h;rcases c with c|⟨g,e,rfl,c⟩
 .exact .inl c
 refine .inr ⟨g,e,rfl,λk i=>?_⟩
 show World.cell? _ _=_
 rw[<-show World.cell? _ _=_ from c k i];unfold World.cell?;rw[Below.heap_setCell w p u g (d _ rfl)]
theorem Agi(w:World) (a:Option Nat):w.grownBy w a:=⟨rfl,rfl,rfl,Nat.le_refl _,λ_ _ _=>rfl⟩
theorem Qn{x:Nat} (f:x<BB) (d:a<BB) (e:g<=1):∃(p q:Int) (c b:Nat),IntKind.u64.wrap ((x:Int)-(a:Int))=p/\IntKind.u64.wrap (p-(g:Int))=q/\q % 4294967296=(c:Int)/\q / 9223372036854775808=(b:Int)/\c<BB/\b<=1/\c+a+g=x+BB*b:=by
 unfold BB at *
 rw[IntKind.wrap_u64];refine⟨_,_,((((x:Int)-(a:Int)) % 18446744073709551616-(g:Int)) % 18446744073709551616 % 4294967296).toNat,((((x:Int)-(a:Int)) % 18446744073709551616-(g:Int)) % 18446744073709551616 / 9223372036854775808).toNat,rfl,IntKind.wrap_u64 _,?_,?_,?_,?_,?_⟩<;>omega
theorem Uu{w f:World} {b:Option Nat} (h:w.grownBy e b) (a:Be e f):w.grownBy f b :=
 ⟨a.os.trans h.os,a.tape.trans h.tape,a.output.trans h.output,Nat.le_trans h.size a.size,λk d c=>(a.block k (Nat.lt_of_lt_of_le d h.size)).trans (h.block k d c)⟩
theorem ej(g i n V cu cb:Nat) (L:List Nat) (B:Option Addr) (w:World) (h2:2<=n) (hV:(lmb V).length=n) (hN:i+n<L.length) (n9:L.length<=200000) (M:Hn w B n (lmb V)) (cc:∀p,B=some p->p.block≠g) (D:Ka w g L) (I:∀x∈L,x<BB) (hz:∀k,i+n<k->L.getD k 0=0) (hH:BB<=2*lim V (n-1)) (hX:val L<V*BB ^ i*BB) (nd:n+1<=cu) (nc:n<=cb) :
 Calls Tryz.prog 331 #[.slice (some ⟨g,i,none⟩) (n+1) cu,.slice B n cb] w λe w'=>∃L',e=.returned (.int .u32 ((val L / (V*BB ^ i):Nat):Int))/\Ka w' g L'/\L'.length=L.length/\(∀x∈L',x<BB)/\val L'=val L % (V*BB ^ i)/\w.grownBy w' (some g):=by
 have HC:=Ar (Ap9 I (Dj V) hV h2 hN hz hH (by rw[Ep];exact hX));rw[Ep]at HC;have hh:=Ar I;have HV:=Ar hV;have HZ:=Ar hz;let⟨p,hp⟩:∃p,p+2=n:=⟨n-2,by omega⟩
 let⟨N,ng⟩:∃N,N+1=n:=⟨n-1,by omega⟩
 rw[show i+n-1=i+N by omega,show i+n-2=i+p by omega,show n-1=N by omega,show n-2=p by omega]at HC;have bc:=Ex I (i+n);have bw:=Ex I (i+N);have au:=Ex I (i+p);have Y:=Ex (Dj V) N;have aw:=Ex (Dj V) p;let⟨c1,f1⟩:=D.cell (k:=i+n) (by omega);let⟨c2,f2⟩:=D.cell (k:=i+N) (by omega);let⟨c3,f3⟩:=D.cell (k:=i+p) (by omega);obtain⟨vb,vo,rfl,c4⟩:=M.at_ (k:=N) (by omega);let⟨ch,cj,A,c5⟩:=M.at_ (k:=p) (by omega);injection A with A
 injection A with A e6
 subst A e6;let⟨u1,b6⟩:=gN (gu L (i+n))
 let⟨u2,b7⟩:=gN (gu L (i+N))
 let⟨u3,ad⟩:=gN (gu L (i+p))
 let⟨X,b8⟩:=gN (gu (lmb V) N)
 let⟨v2,ai⟩:=gN (gu (lmb V) p)
 rw[b6]at c1;rw[b7]at c2;rw[ad]at c3;rw[b8]at c4;rw[ai]at c5;unfold gu at b6 b7 ad b8 ai;rw[b6]at bc;rw[b7]at bw;rw[ad]at au;rw[b8]at Y;rw[ai]at aw;rw[b6,b7,ad,b8,ai]at HC;have j1:0<X:=by have:=HC.out.hH;unfold BB at this;omega
 let⟨T,hT⟩:=gN (u1*BB+u2)
 let⟨Q,hQ⟩:=gN (val L / (V*BB ^ i))
 rw[hT]at HC;have nb:T<18446744073709551616:=by rw[<-hT];unfold BB at *;omega
 have HQ:=Ar hQ;have W1:=Ds (z:=(u1:Int)) (by omega) (by unfold BB at bc;omega);have W2:=Ds (z:=(u1:Int)*4294967296) (by omega) (by unfold BB at bc;omega);have W3:=Ds (z:=(u2:Int)) (by omega) (by unfold BB at bw;omega);have W4:=Ds (z:=(X:Int)) (by omega) (by unfold BB at Y;omega);have W5:=Alk bc bw;rw[hT]at W5;have N1:(n:Int)-1=(N:Int):=by omega
 have N2:(n:Int)-2=(p:Int):=by omega
 have N3:IntKind.i64.wrap ((n:Int)-1)=(N:Int):=by rw[N1,IntKind.wrap_i64];omega
 have N4:IntKind.i64.wrap ((n:Int)-2)=(p:Int):=by rw[N2,IntKind.wrap_i64];omega
 have N5:IntKind.i64.wrap (N:Int)=(N:Int):=by rw[IntKind.wrap_i64];omega
 have N6:IntKind.i64.wrap (p:Int)=(p:Int):=by rw[IntKind.wrap_i64];omega
 have B1:(n:Int)<(n:Int)+1:=by omega
 have B2:(N:Int)<(n:Int)+1:=by omega
 have B3:(N:Int)<(n:Int):=by omega
 have B4:(p:Int)<(n:Int):=by omega
 have B5:(p:Int)<(n:Int)+1:=by omega
 have e2:=Ar ad;have e3:=Ar ai;clear b6 b7 ad b8 ai hT hX hz hH hV I;go_enter Tryz.func331,Tryz.ntmps331;go_upto_region 2 with fail;refine Bh w [(⟨g,i+n,none⟩,.int .u32 u1),(⟨g,i+N,none⟩,.int .u32 u2),(⟨vb,vo+N,none⟩,.int .u32 X)] (by kernel_rfl) (by kernel_rfl) ⟨bl0,by simp only[List.mem_cons,List.not_mem_nil,forall_eq_or_imp,or_false,forall_eq];go_simp⟩ ?_
 repeat
  apply Cx
  .rfl
  .intro w1 F;have u:=F.2;simp only[List.mem_cons,List.not_mem_nil,forall_eq_or_imp,or_false,forall_eq]at u
   go_simp
   first|rfl
  go_simp
 refine wpQuiet_nil ?_;intro w2 C;have fc:=D.keep C.1;have ek:=M.keep C.1;have im:=Aq C.1 c1;have ix:=Aq C.1 c3;have iy:=Aq C.1 c5;have ey:=Uu (Agi w (some g)) C.1;clear C c1 c2 c3 c4 c5 f1 f2 f3 W1 W2 W3 W5 N3;have f:=Ar HC.out.start;let⟨q0,bp⟩:=gN (T / X)
 let⟨r0,bq⟩:=gN (T % X)
 rw[bp,bq]at f;have gw:q0<=T:=by rw[<-bp];exact Nat.div_le_self _ _
 have lk:r0<X:=by rw[<-bq];exact Nat.mod_lt _ j1
 have E2:(T:Int) / (X:Int)=(q0:Int):=by rw[<-bp];rfl
 have E3:(T:Int) % (X:Int)=(r0:Int):=by rw[<-bq];rfl
 have E4:Int.tdiv (T:Int) (X:Int)=(q0:Int):=by rw[Int.tdiv_eq_ediv_of_nonneg (by omega)];exact E2
 have E5:Int.tmod (T:Int) (X:Int)=(r0:Int):=by rw[Int.tmod_eq_emod_of_nonneg (by omega)];exact E3
 have W6:=Ds (z:=(q0:Int)) (by omega) (by omega);have W7:=Ds (z:=(r0:Int)) (by omega) (by unfold BB at Y;omega);have j4:(X:Int)≠0:=by omega
 have j5:¬X=0:=by omega
 clear bp bq;go_wp2_with fail;refine Bh w2 [] (by kernel_rfl) (by kernel_rfl) ⟨bl0,by simp only[List.mem_cons,List.not_mem_nil,forall_eq_or_imp,or_false,forall_eq];go_simp⟩ ?_
 repeat
  apply Cx
  .rfl
  .intro w1 F;have u:=F.2;simp only[List.mem_cons,List.not_mem_nil,forall_eq_or_imp,or_false,forall_eq]at u
   go_simp
   first|rfl
  go_simp
 refine wpQuiet_nil ?_;intro w3 a6;have fr:=fc.keep a6.1;have eo:=ek.keep a6.1;have fa:=Uu ey a6.1;clear E2 E3 E4 E5 W6 W7 a6 fc ek ey im ix iy j4 j5;go_wp2_with fail;go_loopw [8,9] (λq r wr=>∃a H:Nat,q=.int .u64 (a:Int)/\r=.int .u64 (H:Int)/\a<=T/\H<8589934592/\Hid (DigI (val L) (V*BB ^ i) X T a H)/\Ka wr g L/\Hn wr (some ⟨vb,vo,none⟩) n (lmb V)/\w.grownBy wr (some g)) λq _ _=>(intOf q).toNat
 case atStart=>exact⟨q0,r0,rfl,rfl,gw,by unfold BB at Y;omega,f,fr,eo,fa⟩
 clear fr eo fa f D M;obtain⟨a,H,rfl,rfl,nj,nk,f,D,M,hG⟩:=hrel;let⟨c3,f3⟩:=D.cell (k:=i+p) (by omega);let⟨ch,cj,A,c5⟩:=M.at_ (k:=p) (by omega);injection A with A
 injection A with A e6
 subst A e6;have g3:gu L (i+p)=u3:=e2.out;have g5:gu (lmb V) p=v2:=e3.out;rw[g3]at c3;rw[g5]at c5;clear g3 g5 f3;by_cases J:H<BB/\(BB<=a\/H*BB+u3<a*v2)
 .obtain⟨hr,hq⟩:=J;let⟨HS,gx⟩:=HC.out.step f.out hr hq;have e1:=Ar HS;have C1:(H:Int)<4294967296:=by unfold BB at hr;omega
  have W6:=Ds (z:=(a:Int)-1) (by omega) (by omega);have W7:=Ds (z:=(H:Int)+(X:Int)) (by omega) (by unfold BB at Y hr;omega);by_cases hq2:BB<=a
  .have C2:(4294967296:Int)<=(a:Int):=by unfold BB at hq2;omega
   clear f HS;go_wp2_with fail;refine Bh wr [] (by kernel_rfl) (by kernel_rfl) ⟨bl0,by simp only[List.mem_cons,List.not_mem_nil,forall_eq_or_imp,or_false,forall_eq];go_simp⟩ ?_
   repeat
    first
    | go_big_quiet_skip
    | go_big_quiet_want
      apply Exists.intro;refine And.intro ?_ ?_
      .intro w1 F;have u:=F.2;simp only[List.mem_cons,List.not_mem_nil,forall_eq_or_imp,or_false,forall_eq]at u
       go_simp
       first|rfl
      go_simp
      go_big_quiet_on
   refine wpQuiet_nil ?_;intro w4 b;go_wp2_with fail;exact⟨⟨a-1,H+X,by go_num,by go_num,by omega,by unfold BB at Y hr;omega,e1,D.keep b.1,M.keep b.1,Uu hG b.1⟩,by simp[intOf];omega⟩
  have C2:((4294967296:Int)<=(a:Int))=False:=by unfold BB at hq2;simp;omega
  have dc:(4294967296<=a)=False:=by unfold BB at hq2;simp;omega
  have ni:a<4294967296:=by unfold BB at hq2;omega
  let⟨m,Z⟩:=gN (a*v2)
  let⟨t,ht⟩:=gN (H*BB+u3)
  have ca:m<=4294967295*4294967295:=by rw[<-Z];exact Nat.mul_le_mul (by omega) (by unfold BB at aw;omega)
  have S:(a:Int)*(v2:Int)=(m:Int):=by rw[<-Int.natCast_mul,Z]
  have P1:=Ds (z:=(v2:Int)) (by omega) (by unfold BB at aw;omega);have P2:IntKind.u64.wrap ((a:Int)*(v2:Int))=(m:Int):=by rw[S];exact Ds (by omega) (by omega)
  have P3:=Ds (z:=(H:Int)*4294967296) (by omega) (by omega);have P4:=Ds (z:=(u3:Int)) (by omega) (by unfold BB at au;omega);have P5:=Alk hr au;rw[ht]at P5;have C3:((t:Int)<(m:Int))=True:=by rw[Z,ht]at hq;simp;omega
  have dk:(t<m)=True:=by rw[Z,ht]at hq;simp;omega
  clear f HS Z S ht ca hq;go_wp2_with fail;refine Bh wr [(⟨g,i+p,none⟩,.int .u32 u3),(⟨vb,vo+p,none⟩,.int .u32 v2)] (by kernel_rfl) (by kernel_rfl) ⟨bl0,by simp only[List.mem_cons,List.not_mem_nil,forall_eq_or_imp,or_false,forall_eq];go_simp⟩ ?_
  repeat
   first
   | go_big_quiet_skip
   | go_big_quiet_want
     apply Exists.intro;refine And.intro ?_ ?_
     .intro w1 F;have u:=F.2;simp only[List.mem_cons,List.not_mem_nil,forall_eq_or_imp,or_false,forall_eq]at u
      go_simp
      first|rfl
     go_simp
     go_big_quiet_on
  refine wpQuiet_nil ?_;intro w4 b;go_wp2_with fail;exact⟨⟨a-1,H+X,by go_num,by go_num,by omega,by unfold BB at Y hr;omega,e1,D.keep b.1,M.keep b.1,Uu hG b.1⟩,by simp[intOf];omega⟩
 let⟨j6,gx,hq2,U⟩:(BB<=H\/(H<BB/\a<BB/\a*v2<=H*BB+u3))/\Q<=a/\a<=Q+1/\a<BB:=by
  rw[<-HQ.out];rcases Nat.lt_or_ge H BB with h|h
  .have h1:a<BB:=Nat.lt_of_not_le λhc=>J ⟨h,.inl hc⟩
   have h2:a*v2<=H*BB+u3:=Nat.le_of_not_lt λhc=>J ⟨h,.inr hc⟩
   exact⟨.inr ⟨h,h1,h2⟩,f.out.ge,HC.out.end2 f.out h1 h2,h1⟩
  have e:=HC.out.end1 f.out h;exact⟨.inl h,Nat.le_of_eq e.symm,by rw[e];exact Nat.le_succ _,by rw[e];exact HC.out.lt⟩
 clear J f;rcases j6 with hr|⟨hr,-,c9⟩
 have C1:((H:Int)<4294967296)=False:=by unfold BB at hr;simp;omega
 have mf:(H<4294967296)=False:=by unfold BB at hr;simp;omega
 go_wp2_with fail;refine Bh wr [] (by kernel_rfl) (by kernel_rfl) ⟨bl0,by simp only[List.mem_cons,List.not_mem_nil,forall_eq_or_imp,or_false,forall_eq];go_simp⟩ ?_
 repeat
  first
  | go_big_quiet_skip
  | go_big_quiet_want
    apply Exists.intro;refine And.intro ?_ ?_
    .intro w1 F;have u:=F.2;simp only[List.mem_cons,List.not_mem_nil,forall_eq_or_imp,or_false,forall_eq]at u
     go_simp
     first|rfl
    go_simp
    go_big_quiet_on
 refine wpQuiet_nil ?_;intro w4 b;go_wp2_with fail
 rotate_left
 have C1:(H:Int)<4294967296:=by unfold BB at hr;omega
 have C2:((4294967296:Int)<=(a:Int))=False:=by unfold BB at U;simp;omega
 have dc:(4294967296<=a)=False:=by unfold BB at U;simp;omega
 let⟨m,Z⟩:=gN (a*v2)
 let⟨t,ht⟩:=gN (H*BB+u3)
 have ca:m<=4294967295*4294967295:=by rw[<-Z];exact Nat.mul_le_mul (by unfold BB at U;omega) (by unfold BB at aw;omega)
 have S:(a:Int)*(v2:Int)=(m:Int):=by rw[<-Int.natCast_mul,Z]
 have P1:=Ds (z:=(v2:Int)) (by omega) (by unfold BB at aw;omega);have P2:IntKind.u64.wrap ((a:Int)*(v2:Int))=(m:Int):=by rw[S];exact Ds (by omega) (by omega)
 have P3:=Ds (z:=(H:Int)*4294967296) (by omega) (by omega);have P4:=Ds (z:=(u3:Int)) (by omega) (by unfold BB at au;omega);have P5:=Alk hr au;rw[ht]at P5;have C3:((t:Int)<(m:Int))=False:=by rw[Z,ht]at c9;simp;omega
 have dk:(t<m)=False:=by rw[Z,ht]at c9;simp;omega
 clear Z S ht ca c9;go_wp2_with fail;refine Bh wr [(⟨g,i+p,none⟩,.int .u32 u3),(⟨vb,vo+p,none⟩,.int .u32 v2)] (by kernel_rfl) (by kernel_rfl) ⟨bl0,by simp only[List.mem_cons,List.not_mem_nil,forall_eq_or_imp,or_false,forall_eq];go_simp⟩ ?_
 repeat
  first
  | go_big_quiet_skip
  | go_big_quiet_want
    apply Exists.intro;refine And.intro ?_ ?_
    .intro w1 F;have u:=F.2;simp only[List.mem_cons,List.not_mem_nil,forall_eq_or_imp,or_false,forall_eq]at u
     go_simp
     first|rfl
    go_simp
    go_big_quiet_on
 refine wpQuiet_nil ?_;intro w4 b;go_wp2_with fail;clear P1 P2 P3 P4 P5 C3 dk C2 dc;all_goals
 (have fs:=D.keep b.1
  have er:=M.keep b.1;have fb:=Uu hG b.1;have ev:=Ar (DgI.zero hh.out V a i);have E9:(a:Int) % 4294967296=(a:Int):=by unfold BB at U;omega
  clear D M hG b c3 c5;go_wp2_with fail;obtain⟨wb,rfl⟩:∃wb:World,wb=wr:=⟨_,rfl⟩
  go_loopw [10,11,12,13,14,78] (λc o _ _ _ j wr=>∃(k O b0:Nat) (l:List Nat),k<=n/\j=.int .i64 k/\c=.int .u64 (O:Int)/\o=.int .u64 (b0:Int)/\Hid (DgI L V a i k O b0 l)/\Ka wr g l/\Hn wr (some ⟨vb,vo,none⟩) n (lmb V)/\w.grownBy wr (some g)) λ_ _ _ _ _ j _=>n-(intOf j).toNat
  case atStart=>exact⟨0,0,0,L,Nat.zero_le _,rfl,rfl,rfl,ev,fs,er,fb⟩
  clear fs er fb ev;obtain⟨k,O,b0,l,hk,rfl,rfl,rfl,f,D,M,hG⟩:=hrel;have a8:=f.out.len;have gf:=D.lt;by_cases I:k<n
  .obtain⟨ch,cj,A,z1⟩:=M.at_ I;injection A with A
   injection A with A e6
   subst A e6;let⟨z2,f2⟩:=D.cell (k:=i+k) (by omega);have K:=Ex f.out.lt (i+k);have HY:=Cv V k;let⟨s,hs⟩:=gN (O+a*lim V k)
   have gy:=f.out.small U;let⟨P,R,W,hi,P1,P2,P3,P4,P5,P6,P7⟩:=Qn K (Nat.mod_lt (O+a*lim V k) (by decide:BB > 0)) f.out.ol;have HS:=Ar (f.out.step U (by omega) P5 P6 (by rw[<-f.out.hi (i+k) (Nat.le_refl _)];exact P7));rw[hs]at gy P1 HS;let⟨y,hy⟩:=gN (lim V k)
   have b9:gu (lmb V) k=y:=hy;let⟨x,u⟩:=gN (l.getD (i+k) 0)
   have G:gu l (i+k)=x:=u;rw[b9]at z1;rw[G]at z2;rw[u]at K P1;rw[hy]at HY hs;let⟨m,Z⟩:=gN (a*y)
   rw[Z]at hs;have S:(a:Int)*(y:Int)=(m:Int):=by rw[<-Int.natCast_mul,Z]
   let⟨v,d⟩:=gN (s % BB:Nat)
   let⟨b3,E⟩:=gN (s / BB:Nat)
   have b4:v<BB:=by rw[<-d];exact Nat.mod_lt _ (by decide)
   rw[d]at P1;rw[E]at HS;have A1:=Ds (z:=(y:Int)) (by omega) (by unfold BB at HY;omega);have A2:IntKind.u64.wrap ((a:Int)*(y:Int))=(m:Int):=by rw[S];exact Ds (by omega) (by omega)
   have A3:IntKind.u64.wrap ((O:Int)+(m:Int))=(s:Int):=by rw[Ds (by omega) (by omega)];omega
   have A4:=Ds (z:=(x:Int)) (by omega) (by unfold BB at K;omega);have A5:(s:Int) % 4294967296=(v:Int):=by rw[<-d];unfold BB;omega
   have A6:(s:Int) / 4294967296=(b3:Int):=by rw[<-E];unfold BB;omega
   have A7:=Ds (z:=(v:Int)) (by omega) (by unfold BB at b4;omega);have A8:((k:Int))<(n:Int)+1:=by omega
   clear f hs gy hy b9 u G K HY Z S d E b4 P5 P6 P7 a8;go_wp2_with fail;exact⟨⟨k+1,b3,hi,l.set (i+k) W,by omega,by go_num,by go_num,by go_num,HS,D.store (i+k) W,M.far (p:=⟨g,i+k,none⟩) cc _,Gb.set hG (i+k) _⟩,by simp[intOf];omega⟩
  obtain rfl:k=n:=by omega
  let⟨z2,f2⟩:=D.cell (k:=i+k) (by omega);have K:=Ex f.out.lt (i+k);have e0:=f.out.cl;let⟨P,R,W,hi,P1,P2,P3,P4,P5,P6,P7⟩:=Qn K e0 f.out.ol;have e:=f.out.top HV.out hN P5 (by rw[<-f.out.hi (i+k) (Nat.le_refl _)];exact P7);have b5:∀x∈l.set (i+k) W,x<BB:=Hq f.out.lt P5
  have cf:∀j,i+k<j->(l.set (i+k) W).getD j 0=0:=λj hj=>by rw[Fc (by omega),if_neg (by omega),f.out.hi j (by omega)];exact HZ.out j hj
  have OV:=Agv b5 cf e (by rw[HQ.out];exact gx) (by rw[HQ.out];exact hq2) HC.out.pW P6;have gg:(l.set (i+k) W).length=L.length:=by rw[List.length_set];exact a8
  have a1:=Ar b5;have e4:=Ar cf;have bm:=D.store (i+k) W;have eg:=M.far (p:=⟨g,i+k,none⟩) cc (.int .u32 (W:Int));have c7:=Gb.set hG (i+k) (.int .u32 (W:Int));let⟨x,u⟩:=gN (l.getD (i+k) 0)
  have G:gu l (i+k)=x:=u;rw[G]at z2;rw[u]at K P1;have A4:=Ds (z:=(x:Int)) (by omega) (by unfold BB at K;omega);have A8:((k:Int))<(k:Int)+1:=by omega
  let⟨L1,bs⟩:=gN (l.set (i+k) W)
  rw[bs]at OV gg a1 e4 bm;clear b5 cf e bs u G K P5 P7 f e0 a8 M hG;rcases Nat.eq_zero_or_pos hi with h0|h0
  .obtain⟨o1,o2⟩:=OV.1 h0;have O1:=Ar o1;have O2:=Ar o2;rw[h0]at P4;clear OV P6 h0 o1 o2;go_wp2_with fail;go_ret;exact⟨L1,by rw[<-O1.out];rfl,bm,gg,a1.out,O2.out,c7⟩
  have h1:hi=1:=by omega
  let⟨o1,o2⟩:=OV.2 h1;have O1:=Ar o1;have O2:=Ar o2;have HR:=Ar (Nat.mod_lt (val L) HC.out.pW);rw[h1]at P4;have lg:1<=a:=by rw[o1];exact Nat.succ_le_succ (Nat.zero_le _)
  have dy:=Ar (AbI.zero a1.out V i);clear OV P6 h0 o1 o2 h1;go_wp2_with fail;obtain⟨wc,rfl⟩:∃wc:World,wc=wr:=⟨_,rfl⟩
  go_loopw [10,16,17,131] (λc _ _ j wr=>∃(t O:Nat) (l:List Nat),t<=k/\j=.int .i64 t/\c=.int .u64 (O:Int)/\Hid (AbI L1 V i t O l)/\Ka wr g l/\Hn wr (some ⟨vb,vo,none⟩) k (lmb V)/\w.grownBy wr (some g)) λ_ _ _ j _=>k-(intOf j).toNat
  case atStart=>exact⟨0,0,L1,Nat.zero_le _,rfl,rfl,dy,bm,eg,c7⟩
  clear bm eg c7 dy z2 f2 gf P1 P2 P3 P4 A4;obtain⟨t,O,l',ht,rfl,rfl,f,D,M,hG⟩:=hrel;have a8:=f.out.len;have gf:=D.lt;have fv:=f.out.cl;by_cases I:t<k
  .obtain⟨ch,cj,A,z1⟩:=M.at_ I;injection A with A
   injection A with A e6
   subst A e6;let⟨z2,f2⟩:=D.cell (k:=i+t) (by omega);have K:=Ex f.out.lt (i+t);have HY:=Cv V t;let⟨s,hs⟩:∃s,s=O+(L1.getD (i+t) 0+lim V t):=⟨_,rfl⟩
   have HS:=Ar (f.out.step (by omega) hs);rw[<-f.out.hi (i+t) (Nat.le_refl _)]at hs;let⟨y,hy⟩:=gN (lim V t)
   have b9:gu (lmb V) t=y:=hy;let⟨x,u⟩:=gN (l'.getD (i+t) 0)
   have G:gu l' (i+t)=x:=u;rw[b9]at z1;rw[G]at z2;rw[u]at K hs;rw[hy]at HY hs;let⟨v,d⟩:=gN (s % BB:Nat)
   let⟨b3,E⟩:=gN (s / BB:Nat)
   rw[d,E]at HS;have A1:=Ds (z:=(y:Int)) (by omega) (by unfold BB at HY;omega);have A4:=Ds (z:=(x:Int)) (by omega) (by unfold BB at K;omega);have A2:=Ds (z:=(x:Int)+(y:Int)) (by omega) (by unfold BB at K HY;omega);have A3:IntKind.u64.wrap ((O:Int)+((x:Int)+(y:Int)))=(s:Int):=by rw[Ds (by omega) (by unfold BB at K HY;omega)];omega
   have A5:(s:Int) % 4294967296=(v:Int):=by rw[<-d];unfold BB;omega
   have A6:(s:Int) / 4294967296=(b3:Int):=by rw[<-E];unfold BB;omega
   have A8:((t:Int))<(k:Int)+1:=by omega
   clear f hs hy b9 u G K HY d E a8 fv;go_wp2_with fail;exact⟨⟨t+1,b3,l'.set (i+t) v,by omega,by go_num,by go_num,HS,D.store (i+t) v,M.far (p:=⟨g,i+t,none⟩) cc _,Gb.set hG (i+t) _⟩,by simp[intOf];omega⟩
  obtain rfl:t=k:=by omega
  let⟨z2,f2⟩:=D.cell (k:=i+t) (by omega);let⟨F1,F2⟩:=f.out.fin a1.out HV.out (by omega) e4.out O2.out;have K:=Ex f.out.lt (i+t);rw[<-f.out.hi (i+t) (Nat.le_refl _)]at F1 F2;let⟨x,u⟩:=gN (l'.getD (i+t) 0)
  have G:gu l' (i+t)=x:=u;rw[G]at z2;rw[u]at K F1 F2;let⟨v,d⟩:=gN ((x+O) % BB:Nat)
  rw[d]at F1 F2;have hf:=Ar F1;have hg:=Ar F2;have A1:(O:Int) % 4294967296=(O:Int):=by omega
  have A2:IntKind.u32.wrap ((x:Int)+(O:Int))=(v:Int):=by rw[IntKind.wrap_u32,<-d];unfold BB;omega
  have A3:((x:Int)+(O:Int)) % 4294967296=(v:Int):=by rw[<-d];unfold BB;omega
  have A8:((t:Int))<(t:Int)+1:=by omega
  have A4:=Ds (z:=(a:Int)-1) (by omega) (by unfold BB at U;omega);have A5:((a:Int)-1) % 4294967296=(a:Int)-1:=by unfold BB at U;omega
  have j7:(l'.set (i+t) v).length=L.length:=by rw[List.length_set];omega
  clear f u G K F1 F2 d a8 fv E9;go_wp2_with fail;go_ret;refine⟨l'.set (i+t) v,?_,D.store (i+t) v,j7,hg.out,hf.out,Gb.set hG (i+t) _⟩;have e:=O1.out;rw[show val L / (V*BB ^ i)=a-1 by omega];exact Bm (by omega))
end
section
open Go.RowKit Limb
theorem ff(x:Int) (w:World):Calls Tryz.prog 327 #[.int .u32 x] w λe a=>e=.returned (.bool false)/\w=a:=by
 go_in;go_wp2;go_ret;exact⟨Bn (by simp),rfl⟩
theorem U0(x y:Int) (w:World):Calls Tryz.prog 309 #[.int .u32 x,.int .u32 y] w (Bz w (Ey x y)):=by
 go_in
 go_wp2_with (go_at_call 327;refine(ff _ _).mono ?_;rintro e a ⟨rfl,rfl⟩)
 all_goals go_ret
 all_goals exact⟨Bm (by unfold Ey;(repeat split)<;>omega),bl0⟩
theorem Jo(A B:Option Addr) (E F c g a b:Nat) (w:World) (K:(lmb a).length=c) (L:(lmb b).length=g) (X:c<=1000000) (Y:g<=1000000) (M:c<=E) (N:g<=F) (G:Hn w A c (lmb a)) (I:Hn w B g (lmb b)) :
 Calls Tryz.prog 254 #[.slice A c E,.slice B g F] w (Bz w (Ia a b)):=by
 have Q:trl (lmb a) c=c:=by rw[<-K];exact Gv a
 have R:trl (lmb b) g=g:=by rw[<-L];exact Gv b
 have x:=Ar (Agy (a:=a) (b:=b));rw[K,L]at x;have C:=Ar Q;have D:=Ar R;clear Q R K L;go_enter Tryz.func254,Tryz.ntmps254
 go_upto_region 3 with (first
  | (go_at_call 134;refine rR (Kn _ _ _) λw3 u=>?_)
  | (go_at_call 308;refine(Ci B F g (lmb b) _ (by omega) N (I.keep m)).mono ?_;rintro e w2 ⟨rfl,t⟩;rw[D.out])
  | (go_at_call 308;refine(Ci A E c (lmb a) _ (by omega) M G).mono ?_;rintro e w1 ⟨rfl,m⟩;rw[C.out]))
 have f:=An (An m t) u;have H:=G.keep f;have J:=I.keep f;clear m t u H J;by_cases j:c<g
 .have d:Ey (c:Int) (g:Int) = -1:=by unfold Ey;rw[if_pos (by omega)]
  have h:=Ar (show Ia a b = -1 by rw[x.out,if_pos j]);rw[d];clear d;go_wp2_with fail;go_ret;exact⟨by rw[h.out];rfl,f⟩
 by_cases o:g<c
 .have d:Ey (c:Int) (g:Int)=1:=by unfold Ey;rw[if_neg (by omega),if_pos (by omega)]
  have h:=Ar (show Ia a b=1 by rw[x.out,if_neg j,if_pos o]);rw[d];clear d;go_wp2_with fail;go_ret;exact⟨by rw[h.out];rfl,f⟩
 obtain rfl:c=g:=by omega
 have d:Ey (c:Int) (c:Int)=0:=by unfold Ey;rw[if_neg (by omega),if_neg (by omega)]
 have h:=Ar (show Ia a b=ug (lmb a) (lmb b) c by rw[x.out,if_neg j,if_neg o]);rw[d];clear d j o;go_wp2_with fail;go_loopw [6,7] (λi _ wr=>∃(k:Nat) (z:Int),k<=c/\z=(k:Int)-1/\i=.int .i64 z/\Hid (Ia a b=ug (lmb a) (lmb b) k)/\Be w wr) λi _ _=>(intOf i+1).toNat
 case atStart=>exact⟨c,_,Nat.le_refl _,rfl,rfl,h,f⟩
 obtain⟨k,z,hk,P,rfl,ht,l⟩:=hrel;cases k with
 | zero =>
   have S:=Ar (show Ia a b=0 by rw[ht.out];rfl);obtain rfl:z = -1:=by omega
   clear P;go_wp2_with fail;go_ret;exact⟨by rw[S.out];rfl,l⟩
 | succ k =>
   obtain rfl:z=(k:Int):=by omega
   clear P;obtain⟨T,Z,rfl,V⟩:=(G.keep l).at_ (show k<c by omega);obtain⟨U,o2,rfl,W⟩:=(I.keep l).at_ (show k<c by omega);have r:=Ar (show ug (lmb a) (lmb b) (k+1)=if gu (lmb a) k<gu (lmb b) k then -1 else if gu (lmb b) k<gu (lmb a) k then 1 else ug (lmb a) (lmb b) k from rfl);let⟨p,O⟩:=gN (((gu (lmb a) k:Nat):Int):Int)
   let⟨q,hq⟩:=gN (((gu (lmb b) k:Nat):Int):Int)
   rw[O]at V;rw[hq]at W;have z1:(0:Int)<=(k:Int):=by omega
   have z2:(k:Int)<(c:Int):=by omega
   have y:Hid (Ia a b=if p<q then -1 else if q<p then 1 else ug (lmb a) (lmb b) k):=Ar (by
    rw[ht.out,r.out]
    (repeat' split)<;>first|rfl|omega)
   clear O hq ht r;go_wp2_with fail;refine Bh wr [(⟨T,Z+k,none⟩,.int .u32 p),(⟨U,o2+k,none⟩,.int .u32 q)] (by kernel_rfl) (by kernel_rfl) ⟨bl0,by simp only[List.mem_cons,List.not_mem_nil,forall_eq_or_imp,or_false,forall_eq];go_simp⟩ ?_
   repeat
    apply Cx
    .rfl
    .intro w1 v;have d:=v.2;simp only[List.mem_cons,List.not_mem_nil,forall_eq_or_imp,or_false,forall_eq]at d
     go_simp
     first|rfl|exact Bw v (U0 _ _ _)
    go_simp
   refine wpQuiet_nil ?_;intro w8 s;have n:=An l s.1;by_cases j:p<q
   .have d:Ey p q = -1:=by unfold Ey;rw[if_pos j]
    have h:=Ar (show Ia a b = -1 by rw[y.out,if_pos j]);rw[d];clear d;go_wp2_with fail;go_ret;exact⟨by rw[h.out];rfl,n⟩
   by_cases o:q<p
   .have d:Ey p q=1:=by unfold Ey;rw[if_neg j,if_pos (by omega)]
    have h:=Ar (show Ia a b=1 by rw[y.out,if_neg j,if_pos o]);rw[d];clear d;go_wp2_with fail;go_ret;exact⟨by rw[h.out];rfl,n⟩
   have d:Ey p q=0:=by unfold Ey;rw[if_neg j,if_neg (by omega)]
   have h:=Ar (show Ia a b=ug (lmb a) (lmb b) k by rw[y.out,if_neg j,if_neg o]);rw[d];clear d y;go_wp2_with fail;exact⟨⟨k,(k:Int)-1,by omega,rfl,by go_num,h,n⟩,by simp[intOf]⟩
end
section
open Go.RowKit Limb
theorem R7(w:World) (a:Nat):Ce w a (.slice none 0 0) 0:=by
 refine⟨none,0,by rw[Cb];rfl,by rw[Cb];exact Nat.le_refl _,Nat.zero_le _,?_,λ_=>rfl,λp b=>by cases b⟩;rw[Cb];exact⟨rfl,.inl rfl⟩
theorem jm{x:Nat} (e:x<BB) (f:a<BB) (d:g<=1):∃(p q:Int) (c b:Nat),IntKind.u64.wrap ((x:Int)-(g:Int))=p/\IntKind.u64.wrap (p-(a:Int))=q/\q % 4294967296=(c:Int)/\q / 9223372036854775808=(b:Int)/\c<BB/\b<=1/\c+a+g=x+BB*b/\(a=0->q=p):=by
 unfold BB at *
 rw[IntKind.wrap_u64];refine⟨_,_,((((x:Int)-(g:Int)) % 18446744073709551616-(a:Int)) % 18446744073709551616 % 4294967296).toNat,((((x:Int)-(g:Int)) % 18446744073709551616-(a:Int)) % 18446744073709551616 / 9223372036854775808).toNat,rfl,IntKind.wrap_u64 _,?_,?_,?_,?_,?_,?_⟩<;>omega
theorem Aaa(A B:Option Addr) (L M f j a b:Nat) (w:World) (ha:(lmb a).length=f) (hb:(lmb b).length=j) (c4:f<=100000) (c5:j<=100000) (E:f<=L) (F:j<=M) (U:Hn w A f (lmb a)) (V:Hn w B j (lmb b)) :
 Calls Tryz.prog 333 #[.slice A f L,.slice B j M] w λe w'=>∃v,e=.returned (.tuple #[v,.bool (decide (b<=a))])/\Ce w' w.heap.size v (a-b)/\Be w w':=by
 have ta:trl (lmb a) f=f:=by rw[<-ha];exact Gv a
 have tb:trl (lmb b) j=j:=by rw[<-hb];exact Gv b
 have a8:=Ar ta;have ad:=Ar tb;have n:=Ar ha;have m:=Ar hb;clear ta tb ha hb;let⟨Z,b6,hZ⟩:=Fb f (by omega);go_in
 go_upto_region 2 with (first
  | (go_at_call 308;refine(Ci B M j (lmb b) _ (by omega) F (V.keep t)).mono ?_;rintro e w2 ⟨rfl,N⟩;rw[ad.out])
  | (go_at_call 308;refine(Ci A L f (lmb a) _ (by omega) E U).mono ?_;rintro e w1 ⟨rfl,t⟩;rw[a8.out]))
 have d:=An t N;clear t N;by_cases g:b<=a
 .obtain⟨c,hc,Y⟩:∃c,0<=c/\Hid (Ia a b=c):=⟨_,by unfold Ia;rw[if_neg (by omega)];split<;>omega,Ar rfl⟩
  have HD:Hid (decide (b<=a)=true):=Ar (by simpa using g);have HN:Hid (j<=f):=Ar (by rw[<-n.out,<-m.out];exact Hu g);have a6:=Ar g;clear g
  go_upto_region 7 with (go_at_call 254;refine rR (Jo A B L M f j a b _ n.out m.out (by omega) (by omega) E F (U.keep d) (V.keep d)) λJ u=>?_;rw[Y.out])
  have s:=An d u;go_loopw [7,8,9,10,24] (λo _ _ _ i wr=>∃(k b0:Nat) (l:List Nat),k<=f/\i=.int .i64 k/\o=.int .u64 (b0:Int)/\Hid (SubI a b k b0 f l)/\Ka wr J.heap.size l/\Be J wr) λ_ _ _ _ i _=>f-(intOf i).toNat
  case atStart=>exact⟨0,0,_,Nat.zero_le _,rfl,rfl,Ar (SubI.zero a b f),hZ J,blA⟩
  clear b6 hZ;obtain⟨k,b0,l,hk,rfl,rfl,I,h,C⟩:=hrel;have D:=An s C;have b4:=I.out.ole;have r:=I.out.len;have c3:=h.lt;by_cases P:k<f
  .obtain⟨b1,o1,rfl,h1⟩:=(U.keep D).at_ P;let⟨c1,f1⟩:=h.cell (k:=k) (by omega);let⟨p,q,X,hi,P1,P2,P3,P4,P5,P6,P7,T⟩:=jm (Cv a k) (Cv b k) b4;have R:=Cv a k;have S:=Cv b k;have K:=Ar (I.out.step P P5 P6 P7);let⟨x,W⟩:=gN (lim a k)
   have G:gu (lmb a) k=x:=W;rw[G]at h1;rw[W]at R P1;unfold BB at R;have W1:=Ds (z:=(x:Int)) (by omega) (by omega);let⟨y,Q⟩:=gN (lim b k)
   have H:gu (lmb b) k=y:=Q;rw[Q]at S P2 T;unfold BB at S;have W3:=Ds (z:=(y:Int)) (by omega) (by omega);by_cases b5:k<j
   .obtain⟨b2,o2,rfl,h2⟩:=(V.keep D).at_ b5;rw[H]at h2;clear W G Q H P5 P6 P7 T R S r;go_wp2;exact⟨⟨k+1,hi,l.set k X,by omega,by go_num,rfl,K,h.store k X,Ba C (p:=⟨J.heap.size,k,none⟩) (Nat.le_refl _) _⟩,by simp[intOf];omega⟩
   have hq:q=p:=T (by rw[<-Q];exact Sd (by rw[m.out];omega));rw[hq]at P3 P4;clear W G Q H P2 P5 P6 P7 T R S r hq;go_wp2;exact⟨⟨k+1,hi,l.set k X,by omega,by go_num,rfl,K,h.store k X,Ba C (p:=⟨J.heap.size,k,none⟩) (Nat.le_refl _) _⟩,by simp[intOf];omega⟩
  obtain rfl:k=f:=by omega
  have HF:=Ar (I.out.fin (Nat.le_of_eq n.out) (by rw[m.out];exact HN.out) a6.out);have a7:=Ar I.out.lt;have hU:=h.u32s;rw[r]at hU;clear I
  go_wp2_with (go_at_call 308;refine rR (Ci _ k k l _ (by omega) (Nat.le_refl _) hU) λw5 O=>?_)
  go_ret2
  have hN:=(h.keep O).natV (base:=w.heap.size) a7.out r (by omega) s.size HF.out;exact⟨_,by rw[HD.out];rfl,hN,An D O⟩
 have Y:Hid (Ia a b = -1):=Ar (by unfold Ia;rw[if_pos (by omega)]);have HD:Hid (decide (b<=a)=false):=Ar (by simpa using g);have HZ:Hid (a-b=0):=Ar (by omega);clear g
 go_wp2_with (go_at_call 254;refine rR (Jo A B L M f j a b _ n.out m.out (by omega) (by omega) E F (U.keep d) (V.keep d)) λJ u=>?_;rw[Y.out])
 go_ret2
 refine⟨.slice none 0 0,by rw[HD.out];rfl,?_,An d u⟩;rw[HZ.out];exact R7 _ _
end
namespace Limb
theorem x8(d:∀x∈b,x<BB) (h:val b=a) (f:(lmb a).length=g):b.take g=lmb a:=by
 have e:=Xq d b.length (Nat.le_refl _);rw[List.take_length,h]at e;have c:(b.take (trl b b.length)).length=g:=by rw[e,f]
 rw[List.length_take,Nat.min_eq_left (Xr _ _)]at c;rw[<-c,e]
theorem Aac{d:Nat} (A:(lmb a).length=i+1) (s:lim a i=d) (C:g<=31) (o:BB<=2*(d*2 ^ g)) (c:d*2 ^ g<BB):(lmb (a*2 ^ g)).length=i+1/\BB<=2*lim (a*2 ^ g) i/\a*2 ^ g<BB ^ (i+1):=by
 have t:=Vt (l:=lmb a) (j:=i) (Dj a) (λk B=>by rw[List.getD,List.getElem?_eq_none (by omega)];rfl) (by omega);rw[Ep]at t;rw[show (lmb a).getD i 0=d from s]at t;obtain⟨v,w⟩:=t;have u:0<2 ^ g:=Nat.pow_pos (by decide);have f:0<BB ^ i:=Nat.pow_pos (by decide)
 have h:d*2 ^ g*BB ^ i<=a*2 ^ g:=by
  have:=Nat.mul_le_mul_right (2 ^ g) v
  rwa [Nat.mul_right_comm] at this
 have b:a*2 ^ g<BB ^ (i+1):=by
  have:=Nat.mul_lt_mul_of_pos_right w u;rw[Nat.mul_right_comm]at this;have e:=On (s:=g) (by omega)
  have p:d<2 ^ (32-g):=by
   rw[e,Nat.mul_comm]at c;exact Nat.lt_of_mul_lt_mul_left c
  have q:(d+1)*2 ^ g<=BB:=by
   rw[e,Nat.mul_comm];exact Nat.mul_le_mul_left _ p
  have y:=Nat.mul_le_mul_right (BB ^ i) q;rw[Nat.pow_succ,Nat.mul_comm (BB ^ i)];omega
 have x:d*2 ^ g<=a*2 ^ g / BB ^ i:=(Nat.le_div_iff_mul_le f).2 h
 have m:a*2 ^ g / BB ^ i<BB:=by
  rw[Nat.div_lt_iff_lt_mul f,Nat.mul_comm BB,<-Nat.pow_succ];exact b
 refine⟨?_,?_,b⟩
 .have D:=Me b;rcases Nat.lt_or_ge (lmb (a*2 ^ g)).length (i+1) with n|n
  .have:=Mx (a*2 ^ g);have z:BB ^ (lmb (a*2 ^ g)).length<=BB ^ i:=Nat.pow_le_pow_right (by decide) (by omega);have r:1<=d*2 ^ g:=by unfold BB at o;omega
   have:=Nat.mul_le_mul_right (BB ^ i) r;omega
  omega
 rw[Q7,Nat.mod_eq_of_lt m];omega
end Limb
section
open Go.RowKit Limb
theorem Aak(x:Nat) (w:World) (k:0<x) (a:x<BB):Calls Tryz.prog 329 #[.int .u32 (x:Int)] w λe b=>∃s:Nat,s<=31/\BB<=2*(x*2 ^ s)/\x*2 ^ s<BB/\e=.returned (.int .i64 (s:Int))/\b=w:=by
 refine(Any.bits_LeadingZeros32 YtlogblbfbihleaaGreat.lays133 (x:Int) w (by omega) (by unfold BB at a;omega)).mono ?_;rintro e b ⟨rfl,rfl⟩;rw[Int.toNat_natCast];obtain⟨g,d,c⟩:1<=Lib.bitLen x/\2 ^ (Lib.bitLen x-1)<=x/\x<2 ^ Lib.bitLen x:=Lib.bitLenAux_bounds 64 x (by unfold BB at a;omega) (by omega)
 have h:Lib.bitLen x<=32:=by
  apply Classical.byContradiction;intro l;have:2 ^ 32<=2 ^ (Lib.bitLen x-1):=Nat.pow_le_pow_right (by decide) (by omega);unfold BB at a;omega
 have i:2 ^ (Lib.bitLen x-1)*2 ^ (32-Lib.bitLen x)*2=BB:=by
  rw[<-Nat.pow_add,<-Nat.pow_succ,show (Lib.bitLen x-1+(32-Lib.bitLen x)).succ=32 by omega];rfl
 have j:2 ^ Lib.bitLen x*2 ^ (32-Lib.bitLen x)=BB:=by
  rw[<-Nat.pow_add,show Lib.bitLen x+(32-Lib.bitLen x)=32 by omega];rfl
 have f:0<2 ^ (32-Lib.bitLen x):=Nat.pow_pos (by decide);refine⟨32-Lib.bitLen x,by omega,?_,?_,?_,rfl⟩
 .have:=Nat.mul_le_mul_right (2 ^ (32-Lib.bitLen x)) d;omega
 .have:=Nat.mul_lt_mul_of_pos_right c f;omega
 exact Bm (by omega)
theorem Aae(A B:Option Addr) (R cb o f a b:Nat) (w:World) (ha:(lmb a).length=o) (hb:(lmb b).length=f) (kp:o<=100000) (kz:f<=100000) (E:o<=R) (M:f<=cb) (hA:Hn w A o (lmb a)) (hB:Hn w B f (lmb b)) (eg:A=none->R=0) (c4:0<b) :
 Calls Tryz.prog 312 #[.slice A o R,.slice B f cb] w λe w'=>∃q r,e=.returned (.tuple #[q,r,.bool true])/\Ce w' w.heap.size q (a / b)/\Ce w' w.heap.size r (a % b)/\Be w w':=by
 have ta:trl (lmb a) o=o:=by rw[<-ha];exact Gv a
 have tb:trl (lmb b) f=f:=by rw[<-hb];exact Gv b
 have im:0<f:=by
  rcases Nat.eq_zero_or_pos f with g|g
  .rw[g]at hb;have:=Ep b;rw[List.eq_nil_of_length_eq_zero hb]at this;simp[val]at this;omega
  exact g
 have e3:=Ar ta;have e4:=Ar tb;have u:=Ar ha;have t:=Ar hb;have T:=Ar c4;clear ta tb ha hb c4;go_in
 go_upto_region 4 with (first
  | (go_at_call 308;refine(Ci B cb f (lmb b) _ (by omega) M (hB.keep aw)).mono ?_;rintro e w2 ⟨rfl,c5⟩;rw[e4.out])
  | (go_at_call 308;refine(Ci A R o (lmb a) _ (by omega) E hA).mono ?_;rintro e w1 ⟨rfl,aw⟩;rw[e3.out]))
 have h:=An aw c5;clear aw c5;by_cases H:a<b
 .have HC:Hid (Ia a b = -1):=Ar (by unfold Ia;rw[if_pos H]);have HD:Hid (a / b=0):=Ar (Nat.div_eq_of_lt H);have HM:Hid (a % b=a):=Ar (Nat.mod_eq_of_lt H);clear H
  go_wp2_with (first
   | (go_at_call 310;refine(Ui A R o a _ u.out (by omega) E eg ((hA.keep h).keep v)).mono ?_;rintro e w4 ⟨v4,rfl,b4,U⟩)
   | (go_at_call 254;refine rR (Jo A B R cb o f a b _ u.out t.out (by omega) (by omega) E M (hA.keep h) (hB.keep h)) λw3 v=>?_;rw[HC.out]))
  go_ret3
  refine⟨.slice none 0 0,v4,rfl,?_,?_,An (An h v) U⟩
  .rw[HD.out];exact R7 _ _
  rw[HM.out];exact b4.lower (An h v).size
 let⟨c,hc,HC⟩:∃c,0<=c/\Hid (Ia a b=c):=⟨_,by unfold Ia;rw[if_neg H];split<;>omega,Ar rfl⟩
 have HN:Hid (f<=o):=Ar (by rw[<-u.out,<-t.out];exact Hu (by omega));clear H;by_cases h1:f=1
 .subst h1;let⟨d,hd⟩:=gN (lim b 0)
  have N:gu (lmb b) 0=d:=hd
  have b0:b=d:=by
   have e:=Ep b;have hl:=t.out;rw[<-hd];unfold lim
   match lmb b,hl,e with
   | [x],_,e=>rw[<-e];simp[val]
  have bb:=Ar b0;have C:=Cv b 0;rw[hd]at C;have G:0<d:=by rw[<-b0];exact T.out
  have HL:=Ar C;let⟨r,hr⟩:=gN (a % d)
  have HR:=Ar hr;have l1:r<4294967296:=by rw[<-hr];exact Nat.lt_trans (Nat.mod_lt _ G) C
  have W1:=Ds (z:=(r:Int)) (by omega) (by omega);clear hd b0 C hr
  go_upto_region 7 with (go_at_call 254;refine rR (Jo A B R cb o 1 a b _ u.out t.out (by omega) (by omega) E M (hA.keep h) (hB.keep h)) λw3 v=>?_;rw[HC.out])
  have l:=An h v;obtain⟨b2,o2,rfl,z2⟩:=(hB.keep l).at_ (k:=0) (by omega);rw[N,Nat.add_zero]at z2;clear N
  go_wp2_with (first
   | (go_at_call 252;refine(R4 r _ (by omega)).mono ?_;rintro e w5 ⟨v5,rfl,gx,F⟩;have k9:=fb)
   | (go_at_call 328;refine(dv A R o a d _ u.out (by omega) E (hA.keep l) G HL.out).mono ?_;rintro e w4 ⟨v4,rfl,b4,U⟩;rw[HR.out];have fb:=U))
  go_ret3
  have y:=An l U;refine⟨v4,v5,rfl,?_,?_,An y F⟩
  .rw[bb.out];exact(b4.keep F).lower l.size
  rw[bb.out,HR.out];exact gx.lower y.size
 go_upto_region 10 with (go_at_call 254;refine rR (Jo A B R cb o f a b _ u.out t.out (by omega) (by omega) E M (hA.keep h) (hB.keep h)) λw3 v=>?_;rw[HC.out])
 have l:=An h v;clear v h;let⟨I,cj⟩:∃I,I+1=f:=⟨f-1,by omega⟩
 obtain⟨b2,o2,rfl,z2⟩:=(hB.keep l).at_ (k:=I) (by omega);let⟨d,hd⟩:=gN (lim b I)
 have N:gu (lmb b) I=d:=hd;rw[N]at z2;have C:=Cv b I
 have G:0<lim b I:=by
  have:=Sc (n:=b) (by have:=T.out;omega);rw[t.out,show f-1=I by omega]at this;unfold lim;omega
 rw[hd]at C G;have N1:(f:Int)-1=(I:Int):=by omega
 have B1:(I:Int)<(f:Int):=by omega
 have B2:(0:Int)<=(I:Int):=by omega
 have HD:=Ar hd;have D:=Ar cj;clear hd N cj
 go_upto_region 11 with (go_at_call 329;refine(Aak d _ G C).mono ?_;rintro e w4 ⟨s,hs,cw,cx,rfl,rfl⟩)
 have ak:=Ar cw;have bl:=Ar cx;clear cw cx N1 B1 B2 z2 G C
 go_region_with (first
  | (go_at_call 330;refine(Uj (some ⟨b2,o2,none⟩) cb f b s _ t.out (by omega) M (hB.keep (An (Aw l) F)) hs).mono ?_;rintro e w6 ⟨g6,l6,rfl,kk,hy,b1,ch,ai,O,W⟩)
  | (go_at_call 330;refine(Uj A R o a s _ u.out (by omega) E (hA.keep (Aw l)) hs).mono ?_;rintro e w5 ⟨g5,l5,rfl,fs,ho,a6,cf,cg,ad,F⟩))
 have y:=An (Aw l) F;have K:=An y W;have e9:=b1.lt;have e8:=(a6.keep W).lt;have h8:w.heap.size<=g5:=Nat.le_trans (Aw l).size fs;have a8:=a6.keep W;have ek:=hA.keep K;let⟨K1,K2,K3⟩:=Aac (by rw[t.out];exact D.out.symm) HD.out hs ak.out bl.out;rw[D.out]at K1;generalize hV:b*2 ^ s=V at K1 K2 K3 O;have bm:=Ar hV
 have b5:Hn w6 (some ⟨g6,0,none⟩) f (lmb V):=by
  have:=b1.u32s.take (m:=f) (by omega)
  rwa [x8 ai O K1] at this
 let⟨nq,cn⟩:=gN (o+1-f)
 have ey:=HN.out;have NQ:(o:Int)+1-(f:Int)=(nq:Int):=by omega
 let⟨Z,gf,hZ⟩:=Fb nq (by omega);have l0:nq+f=o+1:=by omega
 have ba:Hid (DivI (a*2 ^ s) V nq (List.replicate nq 0) l5):=Ar (by
  have:=tt (b:=b) t.out u.out (by omega) HN.out hs (by rw[show f-1=I by have:=D.out;omega,HD.out];exact ak.out) ad nq
  rwa [hV,cn] at this)
 have ck:g5≠g6:=by have:=a6.lt;omega
 have e6:Hid (0<V):=Ar (by
  rw[<-hV];exact Nat.mul_pos T.out (Nat.pow_pos (by decide)))
 have e0:=Ar K1;have e1:=Ar K2;have bd:=Ar K3;have h6:=D;clear cn ey ad O ai ch b1 a6 K1 K2 K3 hV W F ak bl HD y l;go_wp2;have cd:=K.size;have fv:=b5.at_ (k:=0) (by omega);go_loopw [14] (λi wr=>∃(k:Nat) (z:Int) (S L:List Nat),k<=nq/\z=(k:Int)-1/\i=.int .i64 z/\Hid (DivI (a*2 ^ s) V k S L/\S.length=nq/\(∀x∈S,x<BB)/\L.length=o+1/\(∀x∈L,x<BB))/\Ka wr w6.heap.size S/\Ka wr g5 L/\Hn wr (some ⟨g6,0,none⟩) f (lmb V)/\Be w wr) λi _=>(intOf i+1).toNat
 case atStart=>exact⟨nq,_,_,l5,Nat.le_refl _,rfl,rfl,Ar ⟨ba.out,List.length_replicate,Gh _,cf,cg⟩,hZ w6,a8.keep (Below.alloc bl0 (Nat.le_refl _) _),b5.keep (Below.alloc bl0 (Nat.le_refl _) _),Ao K _⟩
 clear gf hZ ba a8 b5 ek;obtain⟨k,z,S,L,hk,hz,rfl,HI,hq,hu,hv,Y⟩:=hrel;let⟨hI,Q,b3,ev,J⟩:=HI.out;have cc:=hq.lt;have ih:=hu.lt;cases k with
 | zero =>
   obtain rfl:z = -1:=by omega
   have bt:DivI (a*2 ^ s) (b*2 ^ s) 0 S L:=by rw[bm.out];exact hI
   let⟨F1,F2,F3⟩:=bt.fin T.out;have dx:=Ar F1
   have cy:val (L.take f)=val L:=by
    have e:=I3 L f (by omega);rw[drop_zero λj hj=>Ak1 J (m:=f) (Nat.lt_trans F3 (by rw[bm.out,<-D.out];exact bd.out)) j hj,Nat.mul_zero,Nat.add_zero] at e;exact e.symm
   rw[<-cy]at F2;have dy:=Ar F2;have e2:=Ar b3;have e5:=Ar λx (hx:x∈L.take f)=>J x (List.mem_of_mem_take hx);have hU:=hq.u32s;rw[Q]at hU;have fa:=hu.u32s.take (m:=f) (by omega);have z1:f<=o+1:=by omega
   have z2:(f:Int)<=(o:Int)+1:=by omega
   clear hz hI bt HI F1 F2 F3 cy b3 J;go_upto_region 17 with fail
   go_region_with (first
    | (go_at_call 332;refine(dw (some ⟨g5,0,none⟩) (o+1) f s (L.take f) _ (by omega) (fa.keep (An blD X)) e5.out hs).mono ?_;rintro e w8 ⟨v8,rfl,cz,c6⟩)
    | (go_at_call 308;refine rR (Ci _ nq nq S _ (by omega) (Nat.le_refl _) (hU.keep blD)) λw7 X=>?_))
   go_wp2;have fr:=An (An (Aw Y) X) c6;have hN:=((hq.keep blD).keep X).keep c6 |>.natV (base:=w.heap.size) e2.out Q (by omega) cd dx.out
   rw[dy.out]at cz;have hR:=cz.lower (An (Aw Y) X).size
   go_ret3
   exact⟨_,_,rfl,hN,hR,fr⟩
 | succ k =>
   obtain rfl:z=(k:Int):=by omega
   clear hz;have hX:val L<V*BB ^ k*BB:=by rw[Nat.mul_assoc,<-Nat.pow_succ];exact hI.lt
   have da:∀j,k+f<j->L.getD j 0=0:=λj hj=>Ak1 J (m:=k+f+1) (by
    rw[show k+f+1=f+(k+1) by omega,Nat.pow_add];exact Nat.lt_of_lt_of_le hI.lt (Nat.mul_le_mul_right _ (Nat.le_of_lt (by rw[<-D.out];exact bd.out)))) j hj
   let⟨d1,c9⟩:=gN (val L / (V*BB ^ k))
   have HX:=Ar hX;have e7:=Ar da;have bc:=Ar c9;let⟨c1,f1⟩:=hq.cell (k:=k) (by omega);have z1:(0:Int)<=(k:Int):=by omega
   have z2:(k:Int)<(nq:Int):=by omega
   have z3:(k:Int)+(f:Int)+1<=(o:Int)+1:=by omega
   have z4:(k:Int)<=(k:Int)+(f:Int)+1:=by omega
   have z5:(k:Int)+(f:Int)<=(o:Int):=by omega
   have z6:k<o+1:=by omega
   have z7:k+f+1-k=f+1:=by omega
   clear hX da c9
   go_wp2_with (go_at_call 331;refine(ej g5 k f V (o+1-k) (f+1) L (some ⟨g6,0,none⟩) _ (by omega) e0.out (by omega) (by omega) hv (λp P=>by injection P with P;subst P;exact λe=>ck e.symm) hu J e7.out (by rw[show f-1=I by have:=D.out;omega];exact e1.out) HX.out (by omega) (by omega)).mono ?_;rintro e w7 ⟨L',rfl,er,bu,bw,bx,hG⟩;rw[bc.out];have cu:Ka w7 w6.heap.size S:=(hG.block _ cc λe=>by injection e with e;omega).trans hq;let⟨c7,f7⟩:=cu.cell (k:=k) (by omega))
   refine⟨⟨k,(k:Int)-1,S.set k d1,L',by omega,rfl,by go_num,Ar ?_,cu.store k d1,Bf.far er (p:=⟨w6.heap.size,k,none⟩) (Nat.ne_of_lt e8) _,(hv.grown hG λp P=>by injection P with P;subst P;exact λe=>ck e.symm).far (p:=⟨w6.heap.size,k,none⟩) (λp P=>by injection P with P;subst P;exact Nat.ne_of_lt e9) _,Ba (Below.grown Y hG Y.size λj hj=>by injection hj with hj;omega) (p:=⟨w6.heap.size,k,none⟩) cd _⟩,by simp[intOf]⟩;let⟨r1,r2⟩:=hI.step (q:=S) (by omega) e6.out bc.out.symm bx;exact⟨r1,by rw[List.length_set];exact Q,Hq b3 r2,by rw[bu];exact ev,bw⟩
end
section
open Go.RowKit Limb
def SM:Nat:=38
def Sm (a:Nat):Prop:=a<BB ^ SM
theorem Aed(k:Nat):BB ^ k=2 ^ (32*k):=by rw[show BB=2 ^ 32 from rfl,<-Nat.pow_mul]
theorem Sm.len(h:Sm a):(lmb a).length<=100000:=Nat.le_trans (Me h) (by decide)
theorem F7{m:Nat} (h:a<2 ^ m) (b:m<=1216):Sm a:=by
 unfold Sm;rw[Aed];exact Nat.lt_of_lt_of_le h (Nat.pow_le_pow_right (by decide) (Nat.le_trans b (by decide)))
theorem Sm.le(h:Sm g) (b:a<=g):Sm a:=Nat.lt_of_le_of_lt b h
def iv (w:World) (a:Nat) (e:Ending) (b:World):Prop:=∃v,e=.returned v/\Ce b w.heap.size v a/\Be w b
section
variable {w : World} {ba bb a b : Nat} {va vb : Value}
theorem Ald (hA:Ce w ba va a) (hB:Ce w bb vb b) (sa:Sm a) (sb:Sm b):Calls Tryz.prog 314 #[va,vb] w (iv w (a+b)):=by
 obtain⟨A,ca,rfl,a1,a2,a3,a4,a5⟩:=hA;obtain⟨B,cb,rfl,b1,b2,b3,b4,b5⟩:=hB;rcases Nat.lt_or_ge (lmb a).length (lmb b).length with g|g
 ·exact Afu B A cb ca _ _ b a w rfl rfl sb.len g b1 a1 b3 a3
 ·exact Afv A B ca cb _ _ a b w rfl rfl sa.len g a1 b1 a3 b3
theorem Aob (hA:Ce w ba va a) (hB:Ce w bb vb b) (sa:Sm a) (sb:Sm b):Calls Tryz.prog 333 #[va,vb] w fun e w'=>∃v,e=.returned (.tuple #[v,.bool (decide (b<=a))])/\Ce w' w.heap.size v (a-b)/\Be w w':=by
 obtain⟨A,ca,rfl,a1,a2,a3,a4,a5⟩:=hA;obtain⟨B,cb,rfl,b1,b2,b3,b4,b5⟩:=hB;exact Aaa A B ca cb _ _ a b w rfl rfl sa.len sb.len a1 b1 a3 b3
theorem Ahf (hA:Ce w ba va a) (hB:Ce w bb vb b) (sa:Sm a) (sb:Sm b):Calls Tryz.prog 256 #[va,vb] w (iv w (a*b)):=by
 obtain⟨A,ca,rfl,a1,a2,a3,a4,a5⟩:=hA;obtain⟨B,cb,rfl,b1,b2,b3,b4,b5⟩:=hB;exact Aad A B ca cb _ _ a b w rfl rfl sa.len sb.len a1 b1 a3 b3
theorem Aep (hA:Ce w ba va a) (sa:Sm a):Calls Tryz.prog 310 #[va] w (iv w a):=by
 obtain⟨A,ca,rfl,a1,a2,a3,a4,a5⟩:=hA;exact Ui A ca _ a w rfl sa.len a1 a4 a3
theorem Alu (hA:Ce w ba va a) (hB:Ce w bb vb b) (sa:Sm a) (sb:Sm b):Calls Tryz.prog 254 #[va,vb] w (Bz w (Ia a b)):=by
 obtain⟨A,ca,rfl,a1,a2,a3,a4,a5⟩:=hA;obtain⟨B,cb,rfl,b1,b2,b3,b4,b5⟩:=hB;exact Jo A B ca cb _ _ a b w rfl rfl (by have:=sa.len;omega) (by have:=sb.len;omega) a1 b1 a3 b3
theorem Alc (hA:Ce w ba va a) (hB:Ce w bb vb b) (sa:Sm a) (sb:Sm b) (hb:0<b):Calls Tryz.prog 312 #[va,vb] w fun e w'=>∃q r,e=.returned (.tuple #[q,r,.bool true])/\Ce w' w.heap.size q (a / b)/\Ce w' w.heap.size r (a % b)/\Be w w':=by
 obtain⟨A,ca,rfl,a1,a2,a3,a4,a5⟩:=hA;obtain⟨B,cb,rfl,b1,b2,b3,b4,b5⟩:=hB;exact Aae A B ca cb _ _ a b w rfl rfl sa.len sb.len a1 b1 a3 b3 a4 hb
end
theorem Ce.uniq{w:World}   (t:Ce w a h i) (u:Ce w g h j):i=j:=by
 obtain⟨A,H,rfl,x,y,n,z,C⟩:=t;obtain⟨B,I,e,D,E,q,F,G⟩:=u;injection e with e1 e2 e3
 subst e1
 have v:lmb i=lmb j:=by
  apply List.ext_getElem e2;intro k l m;let⟨p,o,s,r⟩:=n.at_ l;let⟨K,J,c,b⟩:=q.at_ m;rw[s]at c;injection c with c
  injection c with c e6
  subst c e6;replace b:=r.symm.trans b;injection b with b
  injection b with _ b
  have d:=Mj l;have f:=Mj m;rw[List.getElem?_eq_getElem l]at d;rw[List.getElem?_eq_getElem m]at f;injection d with d
  injection f with f
  omega
 rw[<-Ep i,<-Ep j,v]
open Classical in
noncomputable def natOf (w:World) (v:Value):Nat:=if h:∃a,Ce w 0 v a then h.choose else 0
theorem Np{w:World}   (b:Ce w a h g):natOf w h=g:=by
 have c:∃g,Ce w 0 h g:=⟨g,b.lower (Nat.zero_le _)⟩
 unfold natOf;rw[dif_pos c];exact Ce.uniq c.choose_spec b
theorem Aoc{w:World}  {T:Value} (N:Ce w a h i) (O:Ce w g T j) (Q:Sm i) (R:Sm j):Calls Tryz.prog 311 #[h,T] w (iv w (Nat.gcd i j)):=by
 go_in
 go_wp2_with (first
  | (go_at_call 310;refine(Aep (O.keep b) R).mono ?_;rintro e w2 ⟨v2,rfl,A,p⟩)
  | (go_at_call 310;refine(Aep N Q).mono ?_;rintro e w1 ⟨v1,rfl,z,b⟩))
 have c:=An b p;have d:=(z.keep p).lower (Nat.le_refl _);have f:=A.lower b.size;clear z A b p N O;go_loopw [0,1,5,6,7,15] (λx y _ _ _ _ wr=>∃m n:Nat,Ce wr w.heap.size x m/\Ce wr w.heap.size y n/\Sm m/\Sm n/\Hid (Nat.gcd i j=Nat.gcd m n)/\Be w wr) λ_ y _ _ _ _ wr=>natOf wr y
 case atStart=>exact⟨i,j,d,f,Q,R,Ar rfl,c⟩
 clear d f c;obtain⟨m,n,P,t,sm,F,C,q⟩:=hrel;have I:=Np t;obtain⟨B,cb,rfl,L,Y,M,Z,b5⟩:=id t;by_cases o:n=0
 .have U:Hid (Nat.gcd i j=m):=Ar (by rw[C.out,o,Nat.gcd_zero_right]);have E:(lmb n).length=0:=by rw[o,Cb];rfl
  generalize D:(lmb n).length=k at E ⊢;clear D I L M t C o F;subst E;go_wp2;go_ret;exact⟨_,rfl,by rw[U.out];exact P,q⟩
 have E:0<(lmb n).length:=by rw[D6 o];simp
 let⟨k,D⟩:=gN ((lmb n).length)
 have G:=Ar (Nat.pos_of_ne_zero o);have u:Hid (Nat.gcd i j=Nat.gcd n (m % n)):=Ar (by rw[C.out,Nat.gcd_comm,Nat.gcd_rec,Nat.gcd_comm]);have l:=Ar (Nat.mod_lt m (Nat.pos_of_ne_zero o));have S:Sm (m % n):=F.le (Nat.le_of_lt l.out);let⟨r,K⟩:=gN (m % n)
 have H:=Ar K;rw[K]at u l S;rw[D]at E I t ⊢;clear D L M o K C
 go_wp2_with (go_at_call 312;refine(Alc P t sm F G.out).mono ?_;rintro e X ⟨q3,W,rfl,V,s,v⟩;rw[H.out]at s)
 refine⟨⟨n,r,t.keep v,s.lower q.size,F,S,u,An q v⟩,?_⟩;have J:=Np s
 show natOf X W<natOf wr _
 rw[J,I];exact l.out
end
namespace Limb
structure SubJ (a b k o:Nat) (l:List Nat):Prop where
 len:l.length=k
 lt:∀x∈l,x<BB
 ole:o<=1
 e:val l+b % BB ^ k=a % BB ^ k+BB ^ k*o
theorem SubJ.zero(a b:Nat):SubJ a b 0 0 []:=⟨rfl,by simp,by omega,by simp[val,Nat.mod_one]⟩
theorem SubJ.step{b s:Nat} {l:List Nat} (h:SubJ a b g i l) (o:s+lim b g+i=BB+lim a g):SubJ a b (g+1) (1-s / BB) (l++[s % BB])/\s / BB<=1:=by
 have k:=Cv a g;have m:=Cv b g;have n:=h.ole;have d:=Nat.div_add_mod s BB;have f:s / BB<=1:=Nat.le_of_lt_succ (Nat.div_lt_of_lt_mul (by omega));refine⟨⟨by simp[h.len],Od h.lt (Nat.mod_lt _ (by decide)),Nat.sub_le _ _,?_⟩,f⟩;rw[Ku,h.len,Bt,Bt,Nat.pow_succ];have e:=h.e;generalize BB ^ g=B at *
 have j:B*(s % BB)+B*lim b g+B*i=B*lim a g+B*BB*(1-s / BB):=by
  rw[<-Nat.mul_add,<-Nat.mul_add,Nat.mul_assoc,<-Nat.mul_add]
  congr 1
  rcases Nat.lt_or_ge (s / BB) 1 with c|c
  .have:=Nat.lt_one_iff.1 c;rw[this]at d ⊢;omega
  have:=Nat.le_antisymm f c;rw[this]at d ⊢;omega
 omega
theorem SubJ.fin(h:SubJ a g i j b) (f:(lmb a).length<=i) (k:(lmb g).length<=i) (l:g<=a):val b=a-g:=by
 have e:=h.e;rw[Di f,Di k]at e;have d:=Ql h.lt;rw[h.len]at d
 have m:j=0:=by
  rcases Nat.eq_zero_or_pos j with c|c
  .exact c
  have:=Nat.mul_le_mul_left (BB ^ i) c;omega
 rw[m,Nat.mul_zero]at e;omega
theorem AddI.fin0(h:AddI a g i 0 b) (c:(lmb a).length<=i) (d:(lmb g).length<=i):val b=a+g:=by
 have e:=h.e;rw[Di c,Di d]at e;simpa using e
def Abs (a b:Nat):Nat->Int
 | 0=>0
 | k+1=>if lim a k<lim b k then -1 else if lim b k<lim a k then 1 else Abs a b k
theorem Zr {a b:Nat}:∀k,Abs a b k=Ia (a % BB ^ k) (b % BB ^ k)
 | 0=>by simp[Abs,Ia,Nat.mod_one]
 | k+1=>by
   rw[Abs,Zr k,Bt,Bt];have d:=Nat.mod_lt a (Nat.pow_pos (n:=k) (show 0<BB by decide));have e:=Nat.mod_lt b (Nat.pow_pos (n:=k) (show 0<BB by decide));generalize a % BB ^ k=x at *
   generalize b % BB ^ k=y at *
   generalize lim a k=p;generalize lim b k=q;generalize BB ^ k=B at *
   unfold Ia;rcases Nat.lt_trichotomy p q with c|c|c
   .have:=Nat.mul_le_mul_left B (show p+1<=q from c);rw[Nat.mul_add,Nat.mul_one]at this;rw[if_pos c,if_pos (by omega)]
   .subst c;rw[if_neg (Nat.lt_irrefl p),if_neg (Nat.lt_irrefl p)];simp only[Nat.add_lt_add_iff_right]
   have:=Nat.mul_le_mul_left B (show q+1<=p from c);rw[Nat.mul_add,Nat.mul_one]at this;rw[if_neg (by omega),if_pos c,if_neg (by omega),if_pos (by omega)]
theorem Abr(b:(lmb a).length<=i) (c:(lmb g).length<=i):Abs a g i=Ia a g:=by rw[Zr,Di b,Di c]
theorem jc(c:∀x∈b,x<BB)  (d:b.length=g) (h:trl b g=a):b.take a=lmb (val b):=by
 have:=Xq c g (by omega)
 rwa [h,List.take_of_length_le (show b.length<=g by omega)] at this
end Limb
section
open Go.RowKit Limb
def Ln (a:Nat):Prop:=(lmb a).length<=100000
theorem Gf{c:Nat}  {w:World} (h:Hn w f a b) (m:∀x∈b,x<BB) (k:Nat):Calls Tryz.prog 273 #[.slice f a c,(k:Int)] w λe n=>e=.returned (.int .u64 (gu b k:Int))/\w=n:=by
 have j:=Ex m k;by_cases l:k<a
 .obtain⟨p,o,rfl,i⟩:=h.at_ l;let⟨z,d⟩:=gN (gu b k)
  rw[d]at i;have W:=Ds (z:=(z:Int)) (by omega) (by unfold gu at d;unfold BB at j;omega);have g:(k:Int)<(a:Int):=by omega
  go_enter Tryz.func273,Tryz.ntmps273;go_wp2_with fail;go_ret;exact⟨by rw[d];rfl,rfl⟩
 have d:gu b k=0:=by unfold gu;rw[List.getD,List.getElem?_eq_none (by rw[h.1];omega)];rfl
 have g:(a:Int)<=(k:Int):=by omega
 go_enter Tryz.func273,Tryz.ntmps273;go_wp2_with fail;go_ret;exact⟨by rw[d];rfl,rfl⟩
theorem Akg(l:List Nat):l.flatMap enU=l.map λx:Nat=>(.int .u32 (x:Int):Value):=by
 induction l with
 | nil=>rfl
 | cons x l ih=>rw[List.flatMap_cons,ih];rfl
theorem N7{w:World} {r:Array Oper} {f:List Oper} {o:Oper} {a:Act} {Q:Exit->Act->World->Prop} (k:o.guard=none) (s x:Operand)
 (J:o.op=.call { callee:=.builtin .append,args:=#[s,x],argTypes:=#[167,167] })
 (b:Nat) (v:Value) (l:List Nat) (K:a.eval s=v) (d:OwU w b v l)
 (A:Option Addr) (m c:Nat) (y:List Nat) (L:a.eval x=.slice A m c) (q:Hn w A m y) (n:A=none->c=0)
 (I:l.length+m<=1000000) (g:b<=w.heap.size)
 (h:∀j t,OwU t b j (l++y)->w.grownBy t v.ownBlock->(j.ownBlock=v.ownBlock\/j.ownBlock=some w.heap.size)->wpList Tryz.prog r Q f (a.put o.dst j) t) :
 wpList Tryz.prog r Q (o::f) a w:=by
 let⟨i,H,E,F,G⟩:=info_parts Pd;cases A with
 | none =>
   have M:=n rfl;subst M
   have O:m=0:=by
    rcases Nat.eq_zero_or_pos m with z|z
    .exact z
    let⟨_,_,e,_⟩:=q.at_ z;cases e
   subst O;have C:y=[]:=List.eq_nil_of_length_eq_zero q.1;subst C;refine wpList_append_own_none k s x 167 J b 280 i 1 Tryz.underlying167 H v l.length (l.flatMap enU) K d L ?_;exact h v w (by rw[List.append_nil];exact d) (World.grownBy.refl _ _) (Or.inl rfl)
 | some ad =>
   refine wpList_append_own_at (P:=Tryz.prog) w k s x 167 J b 280 i (.int .u32 0) 1 4 Tryz.underlying167 H E F G rfl (by omega) v l.length (l.flatMap enU) K d ad m c (y.flatMap enU) L (by rw[Cz Hj,q.1]) (by rw[Akg];exact q.some_addr) ?_ (by unfold maxLen;omega) (by omega) g ?_
   .intro u S;let⟨p,_,R⟩:=List.mem_flatMap.1 S;exact Im p u R
   intro j t D N _ B;refine h j t ?_ N B;unfold OwU OwG;rw[List.length_append,List.flatMap_append,q.1];exact D
theorem OwU.natV{w:World} {base:Nat} {v:Value} (h:OwU w base v (lmb a)):Ce w base v a:=by
 obtain⟨A,c,rfl,b,d,e,f,g⟩:=h.u32s;exact⟨A,c,rfl,b,d,e,f,g⟩
theorem Mu{c:Nat}  {w:World} (h:Hn w f a b) (u:∀x∈b,x<BB) (E:a<=1000000) (D:a<=c) (s:f=none->c=0):Calls Tryz.prog 271 #[.slice f a c] w (iv w (val b)):=by
 go_enter Tryz.func271,Tryz.ntmps271;go_wp2_with fail;go_loopw [3] (λi wr=>∃k:Nat,k<=a/\i=.int .i64 k/\Hid (trl b a=trl b k)/\w=wr) λi _=>(intOf i).toNat
 case atStart=>exact⟨a,Nat.le_refl _,rfl,Ar rfl,rfl⟩
 obtain⟨k,q,rfl,ht,rfl⟩:=hrel;cases k with
 | zero =>
   have m:=Ar (show b.take 0=lmb (val b) from jc u h.1 (ht.out.trans rfl));have C:(0:Int)<=(c:Int):=by omega
   go_wp2_with (at_builtin;refine N7 rfl _ _ rfl w.heap.size (.slice none 0 0) [] rfl OwG.nil f 0 c (b.take 0) rfl (h.take q) s (by rw[List.length_nil];omega) (Nat.le_refl _) ?_;intro A B d g n;rw[List.nil_append,m.out]at d;have e:=Bk bl0 (show OwU w w.heap.size (.slice none 0 0) [] from OwG.nil) g)
   go_ret;exact⟨_,rfl,d.natV,e⟩
 | succ k =>
   obtain⟨v,r,rfl,t⟩:=h.at_ (show k<a by omega);let⟨j,p⟩:=gN (k+1)
   have C:(j:Int)-1=(k:Int):=by omega
   have F:(0:Int)<(j:Int):=by omega
   have G:(k:Int)<(a:Int):=by omega
   have H:(j:Int)<=(c:Int):=by omega
   let⟨z,l⟩:=gN (((gu b k:Nat):Int):Int)
   rw[l]at t;by_cases o:z=0
   .have m:=Ar (show trl b a=trl b k by rw[ht.out];exact Aih (by omega));rw[o]at t;rw[p];clear l o;go_wp2_with fail;exact⟨⟨k,by omega,by go_num,m,trivial⟩,by simp[intOf];omega⟩
   have m:=Ar (jc u h.1 (ht.out.trans (Ac5 (by omega))));have y:(z == 0)=false:=by simpa using o
   rw[p]at m q ⊢;clear l o p
   go_wp2_with (at_builtin;refine N7 rfl _ _ rfl w.heap.size (.slice none 0 0) [] rfl OwG.nil (some ⟨v,r,none⟩) j c (b.take j) rfl (h.take q) s (by rw[List.length_nil];omega) (Nat.le_refl _) ?_;intro A B d g n;rw[List.nil_append,m.out]at d;have e:=Bk bl0 (show OwU w w.heap.size (.slice none 0 0) [] from OwG.nil) g)
   go_ret;exact⟨_,rfl,d.natV,e⟩
theorem Rz{w:World}   (b:Ce w a h g) (e:Ln g):Calls Tryz.prog 271 #[h] w (iv w g):=by
 obtain⟨A,f,rfl,c,-,b,d,-⟩:=b;have:=Mu b (Dj g) (Nat.le_trans e (by omega)) c d
 rwa [Ep] at this
end
end Go.Proofs.YtlogblbfbihleaaGreat

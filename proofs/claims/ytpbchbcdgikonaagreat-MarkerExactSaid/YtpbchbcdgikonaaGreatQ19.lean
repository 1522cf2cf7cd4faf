/- Lean texts of the claim. -/
import Derived.Test.YtpbchbcdgikonaaGreatQ17
import Derived.Test.YtpbchbcdgikonaaGreatQ18
import Derived.Lib.ItoaNum
namespace Go.Proofs.YtpbchbcdgikonaaGreat
set_option linter.unusedVariables false
set_option linter.unusedSimpArgs false
set_option maxRecDepth 100000
set_option maxHeartbeats 4000000
open Go.RowKit
def Q0 (n x:Nat):Nat:=if h:(x+n / x) / 2<x then Q0 n ((x+n / x) / 2) else x
termination_by x
decreasing_by exact h
theorem Ade (n:Nat):∀x,Q0 n x<=x:=by
 intro x;induction x using Nat.strongRecOn with
 | _ x ih =>
   rw[Q0];split
   ·rename_i h;exact Nat.le_trans (ih _ h) (Nat.le_of_lt h)
   ·exact Nat.le_refl _
def Cf (n:Nat):Nat:=if n<2 then n else Q0 n (2 ^ ((Lib.bitLen n+1) / 2))
theorem Xv {n x:Nat} (hx:0<x):n<((x+n / x) / 2+1)*((x+n / x) / 2+1):=by
 have h1:n<(n / x+1)*x:=by
  have:=Nat.lt_mul_div_succ n hx
  rwa [Nat.mul_comm] at this
 generalize n / x=q at *
 obtain⟨y,hy⟩:∃y,(x+q) / 2=y:=⟨_,rfl⟩
 rw[hy];have h2:x+q+1<=2*(y+1):=by omega
 have h3:=Nat.mul_le_mul h2 h2
 have h4:4*((q+1)*x)<=(x+q+1)*(x+q+1):=by
  have key:∀a b:Int,4*(a*b)<=(a+b)*(a+b):=by
   intro a b;have h5:(a+b)*(a+b)-4*(a*b)=(a-b)*(a-b):=by grind
   have h6:0<=(a-b)*(a-b):=by
    rcases Int.le_total 0 (a-b) with h|h
    ·exact Int.mul_nonneg h h
    ·exact Int.mul_nonneg_of_nonpos_of_nonpos h h
   omega
  have:=key ((q+1:Nat):Int) (x:Int);have e:(((q+1:Nat):Int)+(x:Int))=((x+q+1:Nat):Int):=by omega
  rw[e] at this
  exact_mod_cast this
 have e2:2*(y+1)*(2*(y+1))=4*((y+1)*(y+1)):=by grind
 omega
theorem Z3 (n:Nat) (w:World) (hn:n<9223372036854775808):Calls Tryz.prog 234 #[.int .i64 (n:Int)] w fun e w'=>e=.returned (.int .i64 (Cf n:Int))/\Below w.heap.size w w':=by
 by_cases h2:n<2
 ·have HR:=Lib.hid (show Cf n=n by unfold Cf;rw[if_pos h2])
  go_enter Tryz.func234,Tryz.ntmps234;go_wp2_with fail;go_ret;exact⟨by rw[HR.out];rfl,Below.refl _ _⟩
 ·obtain⟨b1,b2,b3⟩:1<=Lib.bitLen n/\2 ^ (Lib.bitLen n-1)<=n/\n<2 ^ Lib.bitLen n:=Lib.bitLenAux_bounds 64 n (by have e:(2:Nat) ^ 64=18446744073709551616:=(by decide);omega) (by omega)
  have HR:=Lib.hid (show Cf n=Q0 n (2 ^ ((Lib.bitLen n+1) / 2)) by unfold Cf;rw[if_neg h2])
  obtain⟨L,hL⟩:∃L,Lib.bitLen n=L:=⟨_,rfl⟩
  rw[hL] at b1 b2 b3 HR
  have hL63:L<=63:=by
   apply Classical.byContradiction;intro hc;have:2 ^ 63<=2 ^ (L-1):=Nat.pow_le_pow_right (by decide) (by omega)
   have e:(2:Nat) ^ 63=9223372036854775808:=by decide
   omega
  obtain⟨k,hk⟩:∃k,(L+1) / 2=k:=⟨_,rfl⟩
  rw[hk] at HR;have hk32:k<=32:=by omega
  obtain⟨X,hX⟩:∃X,2 ^ k=X:=⟨_,rfl⟩
  have hX0:0<X:=by rw[<-hX];exact Nat.pow_pos (by decide)
  have hX1:X<=4294967296:=by rw[<-hX];exact Nat.pow_le_pow_right (by decide) hk32
  have hXn:n<X*X:=by
   rw[<-hX,<-Nat.pow_add];exact Nat.lt_of_lt_of_le b3 (Nat.pow_le_pow_right (by decide) (by omega))
  have HLL:=Lib.hid hL;rw[hX] at HR;have W0:=Eb (z:=(n:Int)) (by omega) (by omega)
  have T0:Int.tdiv ((L:Int)+1) 2=(k:Int):=by rw[Int.tdiv_eq_ediv_of_nonneg (by omega)];omega
  have T1:((L:Int)+1) / 2=(k:Int):=by omega
  have P1:(2:Int) ^ k=(X:Int):=by rw[<-hX];simp
  have P2:IntKind.i64.wrap (2 ^ k)=(X:Int):=by rw[P1,IntKind.wrap_i64];omega
  have P3:IntKind.i64.wrap (1*2 ^ k)=(X:Int):=by rw[Int.one_mul];exact P2
  have P4:((k:Int)).toNat=k:=by omega
  have C0:¬(n:Int)<2:=by omega
  clear hL b1 b2 b3 hL63 hk hX h2;go_enter Tryz.func234,Tryz.ntmps234
  go_wp2_with (go_at_call 159;refine(Any.bits_Len YtpbchbcdgikonaaGreat.lays125 (n:Int) _ (by omega) (by omega)).mono ?_;rintro e w1 ⟨rfl,rfl⟩;rw[Int.toNat_natCast,HLL.out])
  clear W0 T0 T1 P1 P2 P3 P4;go_loopw [3,4] (fun x _ wr=>∃a:Nat,x=.int .i64 (a:Int)/\0<a/\a<=4294967296/\n<(a+1)*(a+1)/\Hid (Q0 n X=Q0 n a)/\wr=w1) (fun x _ _=>(intOf x).toNat)
  case atStart=>exact⟨X,rfl,hX0,hX1,Nat.lt_of_lt_of_le hXn (Nat.mul_le_mul (Nat.le_succ _) (Nat.le_succ _)),Lib.hid rfl,rfl⟩
  case round =>
   obtain⟨a,rfl,ha0,ha1,han,HA,rfl⟩:=hrel
   have hq:n / a<=a+2:=by
    apply Nat.le_of_lt_succ;rw[Nat.div_lt_iff_lt_mul ha0];have e:(a+1)*(a+1)=a*a+2*a+1:=by grind
    have e2:(a+2+1)*a=a*a+3*a:=by grind
    show n<(a+2+1)*a
    rw[e2];rw[e] at han;omega
   have hinv:=Xv (n:=n) ha0
   have hpos:0<(a+n / a) / 2:=by
    rcases Nat.eq_zero_or_pos ((a+n / a) / 2) with g|g
    ·rw[g] at hinv
     omega
    ·exact g
   obtain⟨q,hqe⟩:∃q,n / a=q:=⟨_,rfl⟩
   have HQ:=Lib.hid hqe;rw[hqe] at hq hinv hpos;obtain⟨y,hy⟩:∃y,(a+q) / 2=y:=⟨_,rfl⟩
   have HY:=Lib.hid hy;rw[hy] at hinv hpos;have E1:Int.tdiv (n:Int) (a:Int)=(q:Int):=by rw[Int.tdiv_eq_ediv_of_nonneg (by omega),<-hqe];rfl
   have E2:(n:Int) / (a:Int)=(q:Int):=by rw[<-hqe];rfl
   have E3:Int.tdiv ((a:Int)+(q:Int)) 2=(y:Int):=by rw[Int.tdiv_eq_ediv_of_nonneg (by omega)];omega
   have E4:((a:Int)+(q:Int)) / 2=(y:Int):=by omega
   have E5:¬a=0:=by omega
   by_cases hlt:y<a
   ·have HN:Hid (Q0 n X=Q0 n y):=Lib.hid (by
     have e:Q0 n a=Q0 n ((a+n / a) / 2):=by rw[Q0,dif_pos (by rw[HQ.out,HY.out];exact hlt)]
     rw[HA.out,e,HQ.out,HY.out])
    clear hqe hy;go_wp2_with fail;exact⟨⟨y,rfl,hpos,by omega,hinv,HN,trivial⟩,by simp[intOf];omega⟩
   ·have HN:Hid (Cf n=a):=Lib.hid (by
     have e:Q0 n a=a:=by rw[Q0,dif_neg (by rw[HQ.out,HY.out];exact hlt)]
     rw[HR.out,HA.out,e])
    clear hqe hy;go_wp2_with fail;go_ret;exact⟨by rw[HN.out];rfl,Below.refl _ _⟩
def sqd (p q:Int×Int):Nat:=(((q.1-p.1)*(q.1-p.1)+(q.2-p.2)*(q.2-p.2))).toNat
theorem jv (ax ay:Int) (w:World) :
 Calls Tryz.prog 139 #[.agg #[.int .i64 ax,.int .i64 ay]] w fun e w'=>e=.returned (.bool (Ce 1048576 (ax,ay)))/\Below w.heap.size w w':=by
 go_enter Tryz.func139,Tryz.ntmps139;go_wp2;all_goals go_ret
 all_goals exact⟨Bn (by simp[Ce]<;>omega),An (Below.refl _ _) _⟩
theorem jz (A:Option Addr) (cap n:Nat) (l:List (Int×Int)) (w:World) (hl:n<=1000000) (hs:SpS w A n l) :
 Calls Tryz.prog 82 #[.slice A n cap,.func (.func 139) #[] #[]] w fun e w'=>e=.returned (.int .i64 (Cx (fun i=>Ce 1048576 (gt l i)) n))/\Below w.heap.size w w':=by
 go_enter Tryz.func82,Tryz.ntmps82;go_wp2_with fail;go_loopw [8] (fun i wr=>∃k:Nat,k<=n/\i=.int .i64 k/\Hid (Bq (fun i=>Ce 1048576 (gt l i)) k=false)/\Below w.heap.size w wr) (fun i _=>n-(intOf i).toNat)
 case atStart=>exact⟨0,Nat.zero_le _,rfl,Bq.zero _,Below.refl _ _⟩
 case round =>
  obtain⟨k,hk,rfl,hp,hb⟩:=hrel;by_cases hlt:k<n
  ·obtain⟨b,off,rfl,hbl,hc⟩:=hs.at_ hlt
   have h1:=Aq hb (hc k hlt).1;have h2:=Aq hb (hc k hlt).2;clear hc
   go_wp2_with (go_at_call 139;refine(jv _ _ _).mono ?_;rintro e w1 ⟨rfl,hb1⟩;have hb2:=Ao hb hb1;clear hb1)
   ·go_ret
    exact⟨Bh (Gv hlt hp.out (by assumption)).symm,hb2⟩
   ·go_roundw
    case rel=>exact⟨k+1,by omega,by go_num,Bq.succ hp.out (by simpa using ‹_›),hb2⟩
    case measure=>simp[intOf];omega
  ·obtain rfl:n=k:=by omega
   go_wp2_with fail;go_ret;exact⟨Bh (Fa hp.out).symm,hb⟩
theorem S9 (A:Option Addr) (cap n:Nat) (l:List (Int×Int)) (w:World) (hl:n<=1000000) (hs:SpS w A n l) :
 Calls Tryz.prog 56 #[.slice A n cap,.func (.func 139) #[] #[]] w fun e w'=>e=.returned (.bool (Bq (fun i=>Ce 1048576 (gt l i)) n))/\Below w.heap.size w w':=by
 go_enter Tryz.func56,Tryz.ntmps56
 go_wp2_with (go_at_call 82;refine(jz _ _ _ _ _ hl hs).mono ?_;rintro e w1 ⟨rfl,hb1⟩)
 go_ret;exact⟨Bn (Hg _ _),hb1⟩
def plW (l:List (Int×Int)) (n:Nat):Int :=
 if n > 40 then 5 else if n<2 then 11 else if Bq (fun i=>Ce 1048576 (gt l i)) n then 3 else if Bq (fun i=>eqS (gt l i) (gt l (i+1))) (n-1) then 11 else 0
theorem Hp (A:Option Addr) (cap n:Nat) (l:List (Int×Int)) (w:World) (hl:n<=9223372036854775807) (hs:SpS w A n l) :
 Calls Tryz.prog 109 #[.slice A n cap] w fun e w'=>e=.returned (.int .i64 (plW l n))/\Below w.heap.size w w':=by
 by_cases h1:40<n
 ·have HR:=Lib.hid (show plW l n=5 by unfold plW;rw[if_pos h1])
  go_enter Tryz.func109,Tryz.ntmps109;go_wp2_with fail;go_ret;exact⟨by rw[HR.out];rfl,Below.refl _ _⟩
 by_cases h2:n<2
 ·have HR:=Lib.hid (show plW l n=11 by unfold plW;rw[if_neg h1,if_pos h2])
  go_enter Tryz.func109,Tryz.ntmps109;go_wp2_with fail;go_ret;exact⟨by rw[HR.out];rfl,Below.refl _ _⟩
 have HP:=Lib.hid (show plW l n=if Bq (fun i=>Ce 1048576 (gt l i)) n then 3 else if Bq (fun i=>eqS (gt l i) (gt l (i+1))) (n-1) then 11 else 0 by unfold plW;rw[if_neg h1,if_neg h2])
 have heq:=Gw;cases ho:Bq (fun i=>Ce 1048576 (gt l i)) n with
 | true =>
   have HR:=Lib.hid (show plW l n=3 by rw[HP.out,ho];rfl)
   have HO:=Lib.hid ho;clear ho;go_enter Tryz.func109,Tryz.ntmps109
   go_wp2_with (go_at_call 56;refine(S9 _ _ _ l _ (by omega) hs).mono ?_;rintro e w1 ⟨rfl,hb1⟩;rw[HO.out])
   go_ret;exact⟨by rw[HR.out];rfl,hb1⟩
 | false =>
   have HQ:=Lib.hid (show plW l n=if Bq (fun i=>eqS (gt l i) (gt l (i+1))) (n-1) then 11 else 0 by rw[HP.out,ho];rfl)
   have HO:=Lib.hid ho;clear ho HP;obtain⟨m,hm⟩:∃m,m+1=n:=⟨n-1,by omega⟩
   rw[show n-1=m by omega] at HQ
   have hN:(n:Int)-1=(m:Int):=by omega
   go_enter Tryz.func109,Tryz.ntmps109
   go_upto_region 8 with (go_at_call 56;refine(S9 _ _ _ l _ (by omega) hs).mono ?_;rintro e w1 ⟨rfl,hb1⟩;rw[HO.out])
   go_loopw [3,15] (fun _ i wr=>∃k:Nat,k<=m/\i=.int .i64 k/\Hid (Bq (fun i=>eqS (gt l i) (gt l (i+1))) k=false)/\Below w.heap.size w wr) (fun _ i _=>m-(intOf i).toNat)
   case atStart=>exact⟨0,Nat.zero_le _,rfl,Bq.zero _,hb1⟩
   case round =>
    obtain⟨k,hk,rfl,hp,hb⟩:=hrel;by_cases hlt:k<m
    ·obtain⟨b,off,rfl,hbl,hc⟩:=hs.at_ (k:=0) (by omega)
     have c1:=Aq hb (hc k (by omega)).1
     have c2:=Aq hb (hc k (by omega)).2
     have c3:=Aq hb (hc (k+1) (by omega)).1
     have c4:=Aq hb (hc (k+1) (by omega)).2
     have B1:(k:Int)<(n:Int):=by omega
     have B2:(k:Int)+1<(n:Int):=by omega
     have W1:IntKind.i64.wrap ((k:Int)+1)=(k:Int)+1:=by rw[IntKind.wrap_i64];omega
     have B3:(0:Int)<=(k:Int)+1:=by omega
     have T1:((k:Int)+1).toNat=k+1:=by omega
     clear hc;go_wp2_with fail
     go_quiet (fail)
     have hb2:Below w.heap.size w (wr.drewN nq):=Bg hb _;clear hb B1 B2 W1 B3 T1;cases he:eqS ((gt l k).1,(gt l k).2) ((gt l (k+1)).1,(gt l (k+1)).2) with
     | true =>
       have HR:=Lib.hid (show plW l n=11 by rw[HQ.out,if_pos (Bq.yes (f:=fun i=>eqS (gt l i) (gt l (i+1))) hlt he)])
       go_wp2_with fail;go_ret;exact⟨by rw[HR.out];rfl,hb2⟩
     | false =>
       have HR:=Bq.succ (f:=fun i=>eqS (gt l i) (gt l (i+1))) hp.out he
       go_wp2_with fail;exact⟨⟨k+1,by omega,by go_num,HR,hb2⟩,by simp[intOf];omega⟩
    ·obtain rfl:m=k:=by omega
     have HR:=Lib.hid (show plW l n=0 by rw[HQ.out,hp.out];rfl)
     go_wp2_with fail;go_ret;exact⟨by rw[HR.out];rfl,hb⟩
def Acp (p q:Int×Int):Nat:=Cf (1000000*((q.1-p.1)*(q.1-p.1)+(q.2-p.2)*(q.2-p.2))).toNat
theorem Xm {n:Nat} (hn:n<9223372036854775808):Cf n<=4294967296:=by
 unfold Cf;split
 ·omega
 ·refine Nat.le_trans (Ade _ _) ?_
  have h:=(Lib.bitLenAux_bounds 64 n (by have e:(2:Nat) ^ 64=18446744073709551616:=(by decide);omega) (by omega)).2.1
  have hL:Lib.bitLen n<=63:=by
   apply Classical.byContradiction;intro hc;have:2 ^ 63<=2 ^ (Lib.bitLen n-1):=Nat.pow_le_pow_right (by decide) (by omega)
   have e:(2:Nat) ^ 63=9223372036854775808:=by decide
   have h':2 ^ (Lib.bitLen n-1)<=n:=h;omega
  exact Nat.pow_le_pow_right (by decide) (show (Lib.bitLen n+1) / 2<=32 by omega)
def Vr (p:Int×Int):Prop := -1048576<=p.1/\p.1<=1048576 /\ -1048576<=p.2/\p.2<=1048576
theorem Sj {d M:Int} (h1 : -M<=d) (h2:d<=M):0<=d*d/\d*d<=M*M:=by
 constructor
 ·rcases Int.le_total 0 d with h|h
  ·exact Int.mul_nonneg h h
  ·exact Int.mul_nonneg_of_nonpos_of_nonpos h h
 ·rcases Int.le_total 0 d with h|h
  ·exact Int.mul_le_mul h2 h2 h (by omega)
  ·have:=Int.mul_le_mul (show -d<=M by omega) (show -d<=M by omega) (show 0 <= -d by omega) (show 0<=M by omega)
   rwa [Int.neg_mul_neg] at this
theorem iz {p q:Int×Int} (hp:Vr p) (hq:Vr q):0<=(q.1-p.1)*(q.1-p.1)/\(q.1-p.1)*(q.1-p.1)<=4398046511104/\0<=(q.2-p.2)*(q.2-p.2)/\(q.2-p.2)*(q.2-p.2)<=4398046511104:=by
 obtain⟨p1,p2,p3,p4⟩:=hp;obtain⟨q1,q2,q3,q4⟩:=hq;have a:=Sj (d:=q.1-p.1) (M:=2097152) (by omega) (by omega)
 have b:=Sj (d:=q.2-p.2) (M:=2097152) (by omega) (by omega)
 exact⟨a.1,a.2,b.1,b.2⟩
theorem Aa8 {p q:Int×Int} (hp:Vr p) (hq:Vr q):Acp p q<=4294967296:=by
 obtain⟨a,b,c,d⟩:=iz hp hq;exact Xm (by omega)
theorem ju (x y a b:Int) (w:World) (hp:Vr (x,y)) (hq:Vr (a,b)):Calls Tryz.prog 203 #[.agg #[.int .i64 x,.int .i64 y],.agg #[.int .i64 a,.int .i64 b]] w fun e w'=>e=.returned (.int .i64 (Acp (x,y) (a,b):Int))/\Below w.heap.size w w':=by
 obtain⟨s1,s2,s3,s4⟩:=iz hp hq;obtain⟨p1,p2,p3,p4⟩:=hp;obtain⟨q1,q2,q3,q4⟩:=hq;dsimp only at *
 obtain⟨u,hu⟩:∃u,(a-x)*(a-x)=u:=⟨_,rfl⟩
 obtain⟨v,hv⟩:∃v,(b-y)*(b-y)=v:=⟨_,rfl⟩
 have HS:=Lib.hid (show Acp (x,y) (a,b)=Cf (1000000*(u+v)).toNat by unfold Acp;dsimp only;rw[hu,hv])
 rw[hu] at s1 s2;rw[hv] at s3 s4;obtain⟨t,ht⟩:∃t:Nat,1000000*(u+v)=(t:Int):=⟨(1000000*(u+v)).toNat,by omega⟩
 have htt:(1000000*(u+v)).toNat=t:=by omega
 rw[htt] at HS;have htb:t<9223372036854775808:=by omega
 obtain⟨dx,hdx⟩:∃d,a-x=d:=⟨_,rfl⟩
 obtain⟨dy,hdy⟩:∃d,b-y=d:=⟨_,rfl⟩
 rw[hdx] at hu;rw[hdy] at hv;have D1:IntKind.i64.wrap (a-x)=dx:=by rw[hdx,IntKind.wrap_i64];omega
 have D2:IntKind.i64.wrap (b-y)=dy:=by rw[hdy,IntKind.wrap_i64];omega
 have D3:IntKind.i64.wrap dx=dx:=by rw[IntKind.wrap_i64];omega
 have D4:IntKind.i64.wrap dy=dy:=by rw[IntKind.wrap_i64];omega
 have W1:IntKind.i64.wrap (dx*dx)=u:=by rw[hu,IntKind.wrap_i64];omega
 have W2:IntKind.i64.wrap (dy*dy)=v:=by rw[hv,IntKind.wrap_i64];omega
 have W3:IntKind.i64.wrap (u+v)=u+v:=by rw[IntKind.wrap_i64];omega
 have W4:IntKind.i64.wrap (1000000*(u+v))=(t:Int):=by rw[ht,IntKind.wrap_i64];omega
 clear htt;go_enter Tryz.func203,Tryz.ntmps203;go_wp2_with fail;refine Bi w [(⟨w.heap.size,0,none⟩,.int .i64 x),(⟨w.heap.size,1,none⟩,.int .i64 y),(⟨w.heap.size+1,0,none⟩,.int .i64 a),(⟨w.heap.size+1,1,none⟩,.int .i64 b)] (by kernel_rfl) (by kernel_rfl) ⟨(An (An (Below.refl _ _) _) _),by simp only[List.mem_cons,List.not_mem_nil,forall_eq_or_imp,or_false,forall_eq];go_simp⟩ ?_
 repeat
  apply Cv
  ·rfl
  ·intro w1 hw1
   have hx:=hw1.2;simp only[List.mem_cons,List.not_mem_nil,forall_eq_or_imp,or_false,forall_eq] at hx
   go_simp
   first|rfl
  go_simp
 refine wpQuiet_nil ?_;intro w3 hCw3;have hC:=hCw3.1
 go_wp2_with (go_at_call 234;refine(Z3 t _ htb).mono ?_;rintro e w4 ⟨rfl,hb4⟩)
 go_ret;exact⟨by rw[HS.out];rfl,Ao hC hb4⟩
def tn (l:List (Int×Int)):Nat->Nat
 | 0=>0
 | k+1=>tn l k+Acp (gt l k) (gt l (k+1))
def Pv (l:List (Int×Int)) (n:Nat):Int×Int:=if plW l n=0 then ((tn l (n-1):Int),0) else (0,plW l n)
theorem S8 {l:List (Int×Int)} {n k:Nat} (h:plW l n=0) (hk:k<n):Vr (gt l k)/\2<=n/\n<=40:=by
 unfold plW at h;split at h
 ·cases h
 ·split at h
  ·cases h
  ·split at h
   ·cases h
   ·rename_i h1 h2 h3
    refine⟨?_,by omega,by omega⟩
    have h4:Ce 1048576 (gt l k)=false:=by
     cases ho:Ce 1048576 (gt l k) with
     | false=>rfl
     | true=>exact absurd (Bq.yes (f:=fun i=>Ce 1048576 (gt l i)) hk ho) h3
    unfold Ce at h4;simp at h4;unfold Vr;omega
theorem kx {l:List (Int×Int)} {n:Nat} (h:plW l n=0):∀k,k+1<=n->tn l k<=k*4294967296
 | 0,_=>by simp[tn]
 | k+1,hk=>by
   have ih:=kx h k (by omega)
   have:=Aa8 (S8 h (k:=k) (by omega)).1 (S8 h (k:=k+1) (by omega)).1
   rw[tn];omega
theorem Kh (A:Option Addr) (cap n:Nat) (l:List (Int×Int)) (w:World) (hl:n<=9223372036854775807) (hs:SpS w A n l) :
 Calls Tryz.prog 167 #[.slice A n cap] w fun e w'=>e=.returned (.tuple #[.int .i64 (Pv l n).1,.int .i64 (Pv l n).2])/\Below w.heap.size w w':=by
 by_cases h0:plW l n=0
 ·have HR:=Lib.hid (show Pv l n=((tn l (n-1):Int),0) by unfold Pv;rw[if_pos h0])
  have HP:=Lib.hid h0
  have hn2:2<=n/\n<=40:=by
   unfold plW at h0;split at h0
   ·cases h0
   ·split at h0
    ·cases h0
    ·omega
  obtain⟨m,hm⟩:∃m,m+1=n:=⟨n-1,by omega⟩
  rw[show n-1=m by omega] at HR
  have hN:(n:Int)-1=(m:Int):=by omega
  clear h0;go_enter Tryz.func167,Tryz.ntmps167
  go_upto_region 6 with (go_at_call 109;refine(Hp A cap n l _ hl hs).mono ?_;rintro e w1 ⟨rfl,hb1⟩;rw[HP.out])
  go_loopw [5,6,15] (fun s _ i wr=>∃k:Nat,k<=m/\i=.int .i64 k/\s=.int .i64 (tn l k:Int)/\Below w.heap.size w wr) (fun _ _ i _=>m-(intOf i).toNat)
  case atStart=>exact⟨0,Nat.zero_le _,rfl,rfl,hb1⟩
  case round =>
   obtain⟨k,hk,rfl,rfl,hb⟩:=hrel;by_cases hlt:k<m
   ·obtain⟨b,off,rfl,hbl,hc⟩:=hs.at_ (k:=0) (by omega)
    have c1:=Aq hb (hc k (by omega)).1
    have c2:=Aq hb (hc k (by omega)).2
    have c3:=Aq hb (hc (k+1) (by omega)).1
    have c4:=Aq hb (hc (k+1) (by omega)).2
    have i1:=(S8 HP.out (k:=k) (by omega)).1
    have i2:=(S8 HP.out (k:=k+1) (by omega)).1
    have hse:=Aa8 i1 i2;have hle:=kx HP.out k (by omega)
    have HL:=Lib.hid (show tn l (k+1)=tn l k+Acp (gt l k) (gt l (k+1)) from rfl)
    have B1:(k:Int)<(n:Int):=by omega
    have B2:(k:Int)+1<(n:Int):=by omega
    have W1:IntKind.i64.wrap ((k:Int)+1)=(k:Int)+1:=by rw[IntKind.wrap_i64];omega
    have B3:(0:Int)<=(k:Int)+1:=by omega
    have T1:((k:Int)+1).toNat=k+1:=by omega
    obtain⟨p1,hp1⟩:∃p,gt l k=p:=⟨_,rfl⟩
    obtain⟨p2,hp2⟩:∃p,gt l (k+1)=p:=⟨_,rfl⟩
    obtain⟨x1,y1⟩:=p1;obtain⟨x2,y2⟩:=p2;rw[hp1] at c1 c2 i1;rw[hp2] at c3 c4 i2;rw[hp1,hp2] at hse HL;obtain⟨sg1,hsg⟩:∃s,Acp (x1,y1) (x2,y2)=s:=⟨_,rfl⟩
    rw[hsg] at hse HL;obtain⟨ln,hln⟩:∃s,tn l k=s:=⟨_,rfl⟩
    rw[hln] at hle HL ⊢;have W2:IntKind.i64.wrap ((ln:Int)+(sg1:Int))=(ln:Int)+(sg1:Int):=by rw[IntKind.wrap_i64];omega
    have hcall:∀w2:World,Calls Tryz.prog 203 #[.agg #[.int .i64 x1,.int .i64 y1],.agg #[.int .i64 x2,.int .i64 y2]] w2 fun e w'=>e=.returned (.int .i64 (sg1:Int))/\Below w2.heap.size w2 w':=fun w2=>by have:=ju x1 y1 x2 y2 w2 i1 i2;rwa [hsg] at this
    clear hc hp1 hp2 hsg hln i1 i2;go_wp2_with fail;refine Bi wr [(⟨b,off+k*2,none⟩,.int .i64 x1),(⟨b,off+k*2+1,none⟩,.int .i64 y1),(⟨b,off+(k+1)*2,none⟩,.int .i64 x2),(⟨b,off+(k+1)*2+1,none⟩,.int .i64 y2)] (by kernel_rfl) (by kernel_rfl) ⟨Below.refl _ _,by simp only[List.mem_cons,List.not_mem_nil,forall_eq_or_imp,or_false,forall_eq];go_simp⟩ ?_
    repeat
     apply Cv
     ·rfl
     ·intro w1 hw1
      have hx:=hw1.2;simp only[List.mem_cons,List.not_mem_nil,forall_eq_or_imp,or_false,forall_eq] at hx
      go_simp
      first|rfl|exact Cg hw1 (hcall _)
     go_simp
    refine wpQuiet_nil ?_;intro w5 hCw5;have hb5:=Ao hb hCw5.1;clear W1 B1 B2 B3 T1;go_wp2_with fail;exact⟨⟨k+1,by omega,by go_num,by rw[HL.out];go_num,hb5⟩,by simp[intOf];omega⟩
   ·obtain rfl:m=k:=by omega
    go_wp2_with fail
    go_ret2
    exact⟨by rw[HR.out];rfl,hb⟩
 ·have HR:=Lib.hid (show Pv l n=(0,plW l n) by unfold Pv;rw[if_neg h0])
  obtain⟨p,hp⟩:∃p,plW l n=p:=⟨_,rfl⟩
  have HP:=Lib.hid hp;rw[hp] at HR h0;clear hp;go_enter Tryz.func167,Tryz.ntmps167
  go_wp2_with (go_at_call 109;refine(Hp A cap n l _ hl hs).mono ?_;rintro e w1 ⟨rfl,hb1⟩;rw[HP.out])
  go_ret2
  exact⟨by rw[HR.out];rfl,hb1⟩
def G8 (a b:Int):Int:=if a<0 then -((2 * -a+b) / (2*b)) else (2*a+b) / (2*b)
theorem Ni {a b M:Int} (hb:0<b) (h : -(b*M)<=a) (h2:a<=b*M) (hM:0<=M) : -M<=G8 a b/\G8 a b<=M:=by
 have key:∀x:Int,0<=x->x<=b*M->0<=(2*x+b) / (2*b)/\(2*x+b) / (2*b)<=M:=by
  intro x h0 h1;constructor
  ·exact Int.ediv_nonneg (by omega) (by omega)
  ·have:(2*x+b) / (2*b)<M+1:=by
    apply Int.ediv_lt_of_lt_mul (by omega)
    have e:(M+1)*(2*b)=2*(b*M)+2*b:=by rw[Int.add_mul,Int.mul_comm M,Int.mul_assoc 2 b M,Int.one_mul]
    omega
   omega
 unfold G8;split
 ·have:=key (-a) (by omega) (by omega);omega
 ·have:=key a (by omega) h2;omega
theorem Aia (a b:Int) (w:World) (h0:0<=a) (h1:a<=1152921504606846976) (hb:0<b) (hb2:b<=1152921504606846976):Calls Tryz.prog 75 #[.int .i64 a,.int .i64 b] w fun e w'=>e=.returned (.int .i64 (G8 a b))/\Below w.heap.size w w':=by
 have HR:=Lib.hid (show G8 a b=(2*a+b) / (2*b) by unfold G8;rw[if_neg (by omega)])
 have q1:Int.tdiv (2*a+b) (2*b)=(2*a+b) / (2*b):=Int.tdiv_eq_ediv_of_nonneg (by omega)
 have q0:=Int.ediv_nonneg (show 0<=2*a+b by omega) (show 0<=2*b by omega)
 have q2:(2*a+b) / (2*b)<=2*a+b:=by
  have:=Int.ediv_le_self (a:=2*a+b) (2*b) (by omega)
  omega
 obtain⟨q,hq⟩:∃q,(2*a+b) / (2*b)=q:=⟨_,rfl⟩
 rw[hq] at q0 q1 q2 HR;have W1:IntKind.i64.wrap (Int.tdiv (2*a+b) (2*b))=q:=by rw[q1,IntKind.wrap_i64];omega
 have W2:IntKind.i64.wrap q=q:=by rw[IntKind.wrap_i64];omega
 have hb3:¬2*b=0:=by omega
 go_enter Tryz.func75,Tryz.ntmps75;go_wp2_with fail;go_ret;exact⟨by rw[HR.out];rfl,Below.refl _ _⟩
theorem Za (a b:Int) (w:World) (h0 : -1152921504606846976<=a) (h1:a<=1152921504606846976) (hb:0<b) (hb2:b<=1152921504606846976):Calls Tryz.prog 75 #[.int .i64 a,.int .i64 b] w fun e w'=>e=.returned (.int .i64 (G8 a b))/\Below w.heap.size w w':=by
 by_cases h:a<0
 ·have HR:=Lib.hid (show G8 a b = -(G8 (-a) b) by unfold G8;rw[if_pos h,if_neg (by omega)])
  have hr:=Ni (M:=1152921504606846976) hb (a := -a) (by have:=Int.mul_le_mul_of_nonneg_right (show 1<=b by omega) (show (0:Int)<=1152921504606846976 by omega);omega) (by have:=Int.mul_le_mul_of_nonneg_right (show 1<=b by omega) (show (0:Int)<=1152921504606846976 by omega);omega) (by omega)
  obtain⟨q,hq⟩:∃q,G8 (-a) b=q:=⟨_,rfl⟩
  rw[hq] at hr HR;have HQ:=Lib.hid hq;clear hq;obtain⟨hr1,hr2⟩:=hr;go_enter Tryz.func75,Tryz.ntmps75
  go_wp2_with (go_at_call 75;refine(Aia (-a) b _ (by omega) (by omega) hb hb2).mono ?_;rintro e w1 ⟨rfl,hb1⟩;rw[HQ.out])
  go_ret;exact⟨by rw[HR.out];rfl,hb1⟩
 ·exact Aia a b w (by omega) h1 hb hb2
theorem Ahi (a b:Int) (w:World) (h0:0<=a) (h1:a<=1152921504606846976) (hb:0<b) (hb2:b<=1152921504606846976):Calls Tryz.prog 110 #[.int .i64 a,.int .i64 b] w fun e w'=>e=.returned (.int .i64 (G8 a b))/\Below w.heap.size w w':=by
 have HR:=Lib.hid (show G8 a b=(2*a+b) / (2*b) by unfold G8;rw[if_neg (by omega)])
 have q1:Int.tdiv (2*a+b) (2*b)=(2*a+b) / (2*b):=Int.tdiv_eq_ediv_of_nonneg (by omega)
 have q0:=Int.ediv_nonneg (show 0<=2*a+b by omega) (show 0<=2*b by omega)
 have q2:(2*a+b) / (2*b)<=2*a+b:=by
  have:=Int.ediv_le_self (a:=2*a+b) (2*b) (by omega)
  omega
 obtain⟨q,hq⟩:∃q,(2*a+b) / (2*b)=q:=⟨_,rfl⟩
 rw[hq] at q0 q1 q2 HR;have W1:IntKind.i64.wrap (Int.tdiv (2*a+b) (2*b))=q:=by rw[q1,IntKind.wrap_i64];omega
 have W2:IntKind.i64.wrap q=q:=by rw[IntKind.wrap_i64];omega
 have hb3:¬2*b=0:=by omega
 go_enter Tryz.func110,Tryz.ntmps110;go_wp2_with fail;go_ret;exact⟨by rw[HR.out];rfl,Below.refl _ _⟩
theorem Yj (a b:Int) (w:World) (h0 : -1152921504606846976<=a) (h1:a<=1152921504606846976) (hb:0<b) (hb2:b<=1152921504606846976):Calls Tryz.prog 110 #[.int .i64 a,.int .i64 b] w fun e w'=>e=.returned (.int .i64 (G8 a b))/\Below w.heap.size w w':=by
 by_cases h:a<0
 ·have HR:=Lib.hid (show G8 a b = -(G8 (-a) b) by unfold G8;rw[if_pos h,if_neg (by omega)])
  have hr:=Ni (M:=1152921504606846976) hb (a := -a) (by have:=Int.mul_le_mul_of_nonneg_right (show 1<=b by omega) (show (0:Int)<=1152921504606846976 by omega);omega) (by have:=Int.mul_le_mul_of_nonneg_right (show 1<=b by omega) (show (0:Int)<=1152921504606846976 by omega);omega) (by omega)
  obtain⟨q,hq⟩:∃q,G8 (-a) b=q:=⟨_,rfl⟩
  rw[hq] at hr HR;have HQ:=Lib.hid hq;clear hq;obtain⟨hr1,hr2⟩:=hr;go_enter Tryz.func110,Tryz.ntmps110
  go_wp2_with (go_at_call 110;refine(Ahi (-a) b _ (by omega) (by omega) hb hb2).mono ?_;rintro e w1 ⟨rfl,hb1⟩;rw[HQ.out])
  go_ret;exact⟨by rw[HR.out];rfl,hb1⟩
 ·exact Ahi a b w (by omega) h1 hb hb2
def wI (n b:Int):Bool:=decide (-b<=n)&&decide (n<=b)
theorem Dr (n b:Int) (w:World) (h0:0<=b) (h1:b<=4611686018427387904):Calls Tryz.prog 70 #[.int .i64 n,.int .i64 b] w fun e w'=>e=.returned (.bool (wI n b))/\Below w.heap.size w w':=by
 go_enter Tryz.func70,Tryz.ntmps70;go_wp2;all_goals go_ret
 all_goals exact⟨Bn (by simp[wI]<;>omega),Below.refl _ _⟩
def wS (s:Int×Int) (b:Int):Bool:=wI s.1 b&&wI s.2 b
theorem Ht (x y b:Int) (w:World) (h0:0<=b) (h1:b<=4611686018427387904):Calls Tryz.prog 54 #[.agg #[.int .i64 x,.int .i64 y],.int .i64 b] w fun e w'=>e=.returned (.bool (wS (x,y) b))/\Below w.heap.size w w':=by
 go_enter Tryz.func54,Tryz.ntmps54;go_wp2;all_goals go_ret
 all_goals exact⟨Bn (by first|(simp[wS,wI]<;>omega)|(simp[wS,wI, *];done)|(simp[wS,wI, *];omega)|(simp_all [wS,wI];done)|(simp_all [wS,wI];omega)),An (Below.refl _ _) _⟩
theorem Rs (x y a b:Int) (w:World) (h1 : -4611686018427387904<=x+a) (h2:x+a<=4611686018427387904) (h3 : -4611686018427387904<=y+b) (h4:y+b<=4611686018427387904):Calls Tryz.prog 52 #[.agg #[.int .i64 x,.int .i64 y],.agg #[.int .i64 a,.int .i64 b]] w fun e w'=>e=.returned (.agg #[.int .i64 (x+a),.int .i64 (y+b)])/\Below w.heap.size w w':=by
 go_enter Tryz.func52,Tryz.ntmps52;go_upto_region 1 with fail;refine Ar (fun X=>Below w.heap.size w X/\Bb X w.heap.size 49 #[.int .i64 x,.int .i64 y]/\Bb X (w.heap.size+1) 49 #[.int .i64 a,.int .i64 b]/\Bb X (w.heap.size+1+1) 49 #[.int .i64 0,.int .i64 0]) ⟨An (An (An (Below.refl _ _) _) _) _,Bb.alloc (Bb.alloc (Bb.new _ _ _) _) _,Bb.alloc (Bb.new2 _ _ _ _) _,Bb.new3 _ _ _ _ _⟩ ?_
 rintro X ⟨hbX,hP,hQ,hR⟩;obtain⟨p0,p1,-,-,-⟩:=hP.pair;obtain⟨q0,q1,-,-,-⟩:=hQ.pair;obtain⟨r0,r1,f0,f1,lt⟩:=hR.pair;obtain⟨s0,s1,-,-,-⟩:=Bb.pair ((hR.set_ 0 (.int .i64 (x+a))).set_ 1 (.int .i64 (y+b)));go_wp2_with fail;exact bodyPost_ret (v:=.agg #[.int .i64 (x+a),.int .i64 (y+b)]) (by simp[results,Tryz.results52,go_sem,s0,s1]) rfl ⟨rfl,Bc (Bc hbX (p:=⟨w.heap.size+1+1,0,none⟩) (by simp;omega) _) (p:=⟨w.heap.size+1+1,1,none⟩) (by simp;omega) _⟩
def Gk (f:Nat->Int):Nat->Int
 | 0=>0
 | k+1=>if Gk f k=0 then f k else Gk f k
theorem Iy {f:Nat->Int} {k:Nat} (h:Gk f k=0):Gk f (k+1)=f k:=by rw[Gk,if_pos h]
theorem Tv {f:Nat->Int} {k:Nat} (h:Gk f k≠0):∀m,Gk f (k+m)=Gk f k:=by
 intro m;induction m with
 | zero=>rfl
 | succ m ih=>rw[<-Nat.add_assoc,Gk,if_neg (by rw[ih];exact h),ih]
theorem Re {f:Nat->Int} {k n:Nat} (hk:k<n) (h:Gk f k=0) (h2:f k≠0):Gk f n=f k:=by
 have e:=Iy h;have:=Tv (f:=f) (k:=k+1) (by rw[e];exact h2) (n-(k+1))
 rw[show k+1+(n-(k+1))=n by omega] at this
 rw[this,e]
theorem Gj {f:Nat->Int} {n:Nat}:Gk f n=0↔∀k,k<n->f k=0:=by
 induction n with
 | zero=>simp[Gk]
 | succ n ih =>
   rw[Gk];constructor
   ·intro h k hk
    split at h
    ·rename_i h0
     rcases Nat.lt_or_ge k n with g|g
     ·exact(ih.1 h0) k g
     ·obtain rfl:k=n:=by omega
      exact h
    ·rename_i h0;exact absurd h h0
   ·intro h
    rw[if_pos (ih.2 fun k hk=>h k (by omega))]
    exact h n (by omega)
structure EdgeP where
 nm:ByteArray
 ln:List (Int×Int)
structure PieceP where
 nm:ByteArray
 ed:List EdgeP
 gr:Int
 nt:List (Int×Int)
 cr:List (Int×Int)
 wd:List Int
 mt:Bool
structure UseP where
 pc:Int
 ct:Int
 pr:Bool
structure SeamP where
 pa:Int
 ea:Int
 pb:Int
 eb:Int
 rv:Bool
 es:Int
structure StyleP where
 nm:ByteArray
 sz:List ByteArray
 mu:List Int
 pc:List PieceP
 us:List UseP
 se:List SeamP
 no:Nat
def edg (l:List EdgeP) (k:Nat):EdgeP:=l.getD k ⟨ByteArray.empty,[]⟩
def pce (l:List PieceP) (k:Nat):PieceP:=l.getD k ⟨ByteArray.empty,[],0,[],[],[],false⟩
def use (l:List UseP) (k:Nat):UseP:=l.getD k ⟨0,0,false⟩
def sem (l:List SeamP) (k:Nat):SeamP:=l.getD k ⟨0,0,0,0,false,0⟩
def gb (l:List ByteArray) (k:Nat):ByteArray:=l.getD k ByteArray.empty
def H7 (a b:ByteArray):Bool:=a.toList == b.toList
def Ji (E:List EdgeP) (i:Nat):Int :=
 if Dg (edg E i).nm=false then 1 else if Bq (fun j=>H7 (edg E j).nm (edg E i).nm) i then 7 else plW (edg E i).ln (edg E i).ln.length
def Tc (E:List EdgeP) (i:Nat):Bool:=!eqS (gt (edg E i).ln ((edg E i).ln.length-1)) (gt (edg E ((i+1) % E.length)).ln 0)
def Afl (l:List (Int×Int)):List (Int×Int):=l.take (l.length-1)
def G4 (E:List EdgeP):Nat->List (Int×Int)
 | 0=>[]
 | k+1=>G4 E k++Afl (edg E k).ln
def Ck (E:List EdgeP):List (Int×Int):=G4 E E.length
def Fp (E:List EdgeP):Int :=
 if 16<E.length then 5 else if E.length<2 then 11 else if Gk (Ji E) E.length≠0 then Gk (Ji E) E.length
 else if Bq (Tc E) E.length then 11 else Bf (Ck E) (Ck E).length
theorem Is {E:List EdgeP} (h:Fp E=0):2<=E.length/\E.length<=16/\(∀k,k<E.length->Dg (edg E k).nm=true/\plW (edg E k).ln (edg E k).ln.length=0)/\Bq (Tc E) E.length=false/\Bf (Ck E) (Ck E).length=0:=by
 unfold Fp at h;split at h
 ·cases h
 ·split at h
  ·cases h
  ·split at h
   ·rename_i g;exact absurd h g
   ·rename_i g1 g2 g3
    have g3':Gk (Ji E) E.length=0:=by simpa using g3
    split at h
    ·cases h
    ·rename_i g4
     refine⟨by omega,by omega,fun k hk=>?_,by simpa using g4,h⟩
     have:=Gj.1 g3' k hk;unfold Ji at this;split at this
     ·cases this
     ·split at this
      ·cases this
      ·rename_i q1 q2
       exact⟨by simpa using q1,this⟩
theorem Iq {l:List (Int×Int)} {n:Nat} (h:plW l n=0):2<=n/\n<=40:=by
 unfold plW at h;split at h
 ·cases h
 ·split at h
  ·cases h
  ·omega
theorem Y3 (l:List (Int×Int)):(Afl l).length=l.length-1:=by unfold Afl;rw[List.length_take];omega
theorem O6 {E:List EdgeP} {k:Nat} (h:∀i,i<k->(edg E i).ln.length<=40):(G4 E k).length<=k*40:=by
 induction k with
 | zero=>simp[G4]
 | succ k ih =>
   rw[G4,List.length_append,Y3];have:=ih fun i hi=>h i (by omega)
   have:=h k (by omega)
   omega
def Kv (cr:List (Int×Int)) (m:Int) (i:Nat):Int×Int:=(m*(gt cr (i % cr.length)).1,m*(gt cr (i % cr.length)).2)
def Xz (l:List (Int×Int)) (a b:Int×Int) (k:Nat):Int×Int :=
 ((gt l k).1+G8 (((l.length:Int)-1-k)*a.1+k*b.1) ((l.length:Int)-1),(gt l k).2+G8 (((l.length:Int)-1-k)*a.2+k*b.2) ((l.length:Int)-1))
def Kk (l:List (Int×Int)) (a b:Int×Int):List (Int×Int):=(List.range l.length).map (Xz l a b)
def Ix (p:PieceP) (m:Int):Nat->List EdgeP
 | 0=>[]
 | k+1=>Ix p m k++[⟨(edg p.ed k).nm,Kk (edg p.ed k).ln (Kv p.cr m k) (Kv p.cr m (k+1))⟩]
def G0 (p:PieceP) (m:Int):List EdgeP:=Ix p m p.ed.length
def Cn (p:PieceP) (m:Int):List EdgeP×Int :=
 if wI m 100=false then ([],3) else if p.cr.length≠p.ed.length then ([],1)
 else if Bq (fun i=>!wS (gt p.cr i) 1000) p.cr.length then ([],3)
 else if Fp p.ed≠0 then ([],Fp p.ed)
 else if Fp (G0 p m)≠0 then ([],Fp (G0 p m)) else (G0 p m,0)
def Qx (a b c:Int):Bool:=decide (a<1) || decide (1099511627776<a) || decide (b<0) || decide (1099511627776<b) || decide (c<0) || decide (a<c)
def Uq (p:PieceP) (E:List EdgeP) (i:Nat):Int :=
 if (gt p.nt i).1<0\/(p.ed.length:Int)<=(gt p.nt i).1 then 3
 else if (Pv (edg p.ed (gt p.nt i).1.toNat).ln (edg p.ed (gt p.nt i).1.toNat).ln.length).2≠0 then (Pv (edg p.ed (gt p.nt i).1.toNat).ln (edg p.ed (gt p.nt i).1.toNat).ln.length).2
 else if (Pv (edg E (gt p.nt i).1.toNat).ln (edg E (gt p.nt i).1.toNat).ln.length).2≠0 then (Pv (edg E (gt p.nt i).1.toNat).ln (edg E (gt p.nt i).1.toNat).ln.length).2
 else if Qx (Pv (edg p.ed (gt p.nt i).1.toNat).ln (edg p.ed (gt p.nt i).1.toNat).ln.length).1 (Pv (edg E (gt p.nt i).1.toNat).ln (edg E (gt p.nt i).1.toNat).ln.length).1 (gt p.nt i).2 then 3 else 0
def Hq (p:PieceP) (m:Int):Int :=
 if (Cn p m).2≠0 then (Cn p m).2 else if 16<p.nt.length then 5 else Gk (Uq p (Cn p m).1) p.nt.length
def Ir (P:List PieceP) (i:Nat):Int :=
 if Dg (pce P i).nm=false then 1 else if (pce P i).gr≠1/\(pce P i).gr≠2/\(pce P i).gr≠4 then 1
 else if Bq (fun j=>H7 (pce P j).nm (pce P i).nm) i then 7
 else if (Cn (pce P i) 0).2≠0 then (Cn (pce P i) 0).2 else if Hq (pce P i) 0≠0 then Hq (pce P i) 0
 else if (pce P i).wd.length≠(pce P i).ed.length then 1 else if Bq (fun j=>decide (gi (pce P i).wd j<0) || decide (500<gi (pce P i).wd j)) (pce P i).wd.length then 3 else 0
def szB (s:ByteArray):Bool:=!Bq (fun i=>!(decide (65<=byI s i)&&decide (byI s i<=90))&&!(decide (48<=byI s i)&&decide (byI s i<=57))) s.size&&(decide (1<=s.size)&&decide (s.size<=8))
def Ct (s:StyleP):Int :=
 if Dg s.nm=false\/s.sz.length=0 then 1 else if Bq (fun i=>!szB (gb s.sz i)) s.sz.length then 1
 else if s.mu.length≠s.sz.length\/Bq (fun i=>(0:Int) == gi s.mu i) s.mu.length=false then 1
 else if Bq (fun i=>Bq (fun j=>H7 (gb s.sz j) (gb s.sz i)) i) s.sz.length then 7
 else if 12<s.sz.length\/12<s.pc.length\/12<s.us.length then 5
 else if 24<s.se.length\/16<s.no then 5
 else if Bq (fun i=>decide (gi s.mu i < -100) || decide (100<gi s.mu i)) s.mu.length then 3 else 0
def Us (s:StyleP) (i:Nat):Bool:=decide ((use s.us i).pc<0) || decide ((s.pc.length:Int)<=(use s.us i).pc) || decide ((use s.us i).ct<1) || decide (4<(use s.us i).ct)
def Yh (P:List PieceP) (a e:Int):Bool:=decide (0<=a)&&decide (a<P.length)&&decide (0<=e)&&decide (e<(pce P a.toNat).ed.length)
def Xf (s:StyleP) (i:Nat):Int :=
 if Yh s.pc (sem s.se i).pa (sem s.se i).ea=false\/Yh s.pc (sem s.se i).pb (sem s.se i).eb=false then 3 else if (sem s.se i).es<0 then 1 else 0
def Bt (s:StyleP):Int :=
 if Ct s≠0 then Ct s else if Gk (Ir s.pc) s.pc.length≠0 then Gk (Ir s.pc) s.pc.length
 else if Bq (Us s) s.us.length then 3 else Gk (Xf s) s.se.length
end Go.Proofs.YtpbchbcdgikonaaGreat

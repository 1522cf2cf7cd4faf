/- Lean texts of the claim. -/
import Derived.Test.YtlogblbfbihleaaGreatZr26
import Derived.Test.YtlogblbfbihleaaGreatZr25
import Derived.Deep.CutBlock
namespace Go.Proofs.YtlogblbfbihleaaGreat
set_option linter.all false
set_option maxRecDepth 100000
set_option maxHeartbeats 0
open Go.RowKit
variable{a:Nat}{b:Int}{e:LP}
def Ahd (w:World) (e:Ending) (a:World):Prop:=∃q r:Int,e=.returned (.tuple #[.int .u64 q,.int .u64 r])/\Be w a
theorem Abn(l y:Nat) (w:World) (p:l<18446744073709551616) (b:0<y) (j:y<=1099511627776) :
 Calls Tryz.prog 202 #[.int .u64 0,.int .u64 (l:Int),.int .u64 (y:Int)] w (Ahd w):=by
 let⟨q,hq⟩:=gN (l / y)
 let⟨r,a⟩:=gN (l % y)
 have hq2:q<=l:=by rw[<-hq];exact Nat.div_le_self _ _
 have i:r<y:=by rw[<-a];exact Nat.mod_lt _ b
 have c:Int.tdiv (l:Int) (y:Int)=(q:Int):=by rw[<-hq,Int.tdiv_eq_ediv_of_nonneg (by omega)];rfl
 have d:Int.tmod (l:Int) (y:Int)=(r:Int):=by rw[<-a,Int.ofNat_tmod]
 have e:(l:Int) / (y:Int)=(q:Int):=by rw[<-hq];rfl
 have f:(l:Int) % (y:Int)=(r:Int):=by rw[<-a];rfl
 have g:IntKind.u64.wrap (q:Int)=q:=Ds (by omega) (by omega);have h:IntKind.u64.wrap (r:Int)=r:=Ds (by omega) (by omega);have k:((y:Int) == 0)=false:=Aca b;have m:¬(y:Int)=0:=by omega
 have n:¬y=0:=by omega
 have o:¬(y:Int)<=0:=by omega
 clear hq a;go_in;go_upto_region 6 with fail;go_quiet (fail);clear g h c d e f;go_wp2
 go_ret2
 exact⟨_,_,rfl,Bd bl0 _⟩
def dvm (v:Value):Nat:=if intOf v<4294967296 then (4294967296-intOf v).toNat else 4294967297
theorem tn{V:Int} (g:0<=b) (f:2147483648<=V) (e:V<4294967296) (h:IntKind.u64.wrap (b+V)<4294967296):dvm (.int .u64 (IntKind.u64.wrap (b+V)))<dvm (.int .u64 b):=by
 have d:dvm (.int .u64 (IntKind.u64.wrap (b+V)))=(4294967296-IntKind.u64.wrap (b+V)).toNat:=by unfold dvm;rw[if_pos (show intOf (.int .u64 (IntKind.u64.wrap (b+V)))<4294967296 from h)];rfl
 rw[d];rw[IntKind.wrap_u64]at *
 by_cases a:b<4294967296
 .have c:dvm (.int .u64 b)=(4294967296-b).toNat:=by unfold dvm;rw[if_pos (show intOf (.int .u64 b)<4294967296 from a)];rfl
  rw[c];omega
 have c:dvm (.int .u64 b)=4294967297:=by unfold dvm;rw[if_neg (show ¬intOf (.int .u64 b)<4294967296 from a)]
 rw[c];omega
theorem Hb(z:Int):0<=IntKind.u64.wrap z/\IntKind.u64.wrap z<18446744073709551616:=by rw[IntKind.wrap_u64];omega
theorem Abm(h l y:Nat) (w:World) (hh:0<h) (aw:h<y) (hl:l<18446744073709551616) (b4:y<=1099511627776) :
 Calls Tryz.prog 202 #[.int .u64 (h:Int),.int .u64 (l:Int),.int .u64 (y:Int)] w (Ahd w):=by
 obtain⟨O,E,F⟩:1<=Lib.bitLen y/\2 ^ (Lib.bitLen y-1)<=y/\y<2 ^ Lib.bitLen y:=Lib.bitLenAux_bounds 64 y (by have e:(2:Nat) ^ 64=18446744073709551616:=(by decide);omega) (by omega);obtain⟨L,G⟩:∃L,Lib.bitLen y=L:=⟨_,rfl⟩
 rw[G]at O E F
 have j:L<=41:=by
  apply Classical.byContradiction;intro hc;have:2 ^ 41<=2 ^ (L-1):=Nat.pow_le_pow_right (by decide) (by omega);have e:(2:Nat) ^ 41=2199023255552:=by decide
  omega
 obtain⟨s,hs⟩:∃s,s=64-L:=⟨_,rfl⟩
 have M:23<=s/\s<=63:=by omega
 obtain⟨Y,z⟩:∃Y,y*2 ^ s=Y:=⟨_,rfl⟩
 have ai:9223372036854775808<=Y:=by
  have:2 ^ (L-1)*2 ^ s<=y*2 ^ s:=Nat.mul_le_mul_right _ E;rw[<-Nat.pow_add,show L-1+s=63 by omega,z]at this;have e:(2:Nat) ^ 63=9223372036854775808:=by decide
  omega
 have ak:Y<18446744073709551616:=by
  have:y*2 ^ s<2 ^ L*2 ^ s:=Nat.mul_lt_mul_of_pos_right F (Nat.two_pow_pos _);rw[<-Nat.pow_add,show L+s=64 by omega,z]at this;have e:(2:Nat) ^ 64=18446744073709551616:=by decide
  omega
 have g:=Ar (show (64-(Lib.bitLen (y:Int).toNat:Int))=(s:Int) by rw[Int.toNat_natCast,G];omega);have N:(y:Int)*2 ^ s=(Y:Int):=by rw[<-z];simp
 have P2:IntKind.u64.wrap ((y:Int)*2 ^ s)=(Y:Int):=by rw[N];exact Ds (by omega) (by omega)
 have P4:((s:Int)).toNat=s:=by omega
 have X:¬(y:Int)<=(h:Int):=by omega
 have Z:¬(h:Int)=0:=by omega
 have B6:¬(y:Int)=0:=by omega
 clear G O E F j hs z;go_enter Tryz.func202,Tryz.ntmps202
 go_upto_block 0 with (go_at_call 258;refine(Any.bits_LeadingZeros64 YtlogblbfbihleaaGreat.lays134 (y:Int) _ (by omega) (by omega)).mono ?_;rintro e W ⟨rfl,rfl⟩;rw[g.out])
 clear N P2 P4 X Z B6 M g;obtain⟨V,P⟩:∃V,(Y:Int) / 4294967296=V:=⟨_,rfl⟩
 have A:2147483648<=V/\V<4294967296:=by omega
 rw[P];generalize bits BinOp.and IntKind.u64 (Y:Int) 4294967295=M0;generalize bits BinOp.or IntKind.u64 (IntKind.u64.wrap ((h:Int)*2 ^ s)) ((l:Int) / 2 ^ (64-s))=U;generalize m:IntKind.u64.wrap (U.tdiv V)=v;have Q:0<=v/\v<18446744073709551616:=by rw[<-m,IntKind.wrap_u64];omega
 generalize o:IntKind.u64.wrap (U-IntKind.u64.wrap (v*V))=C;have S:0<=C/\C<18446744073709551616:=by rw[<-o,IntKind.wrap_u64];omega
 clear m o P;generalize IntKind.u64.wrap ((l:Int)*2 ^ s)=X1;generalize bits BinOp.and IntKind.u64 X1 4294967295=X2;generalize X1 / 4294967296=X3;go_cut [15,16] from 67 to 85 (λq r f=>∃a b:Int,q=.int .u64 a/\r=.int .u64 b/\0<=a/\a<18446744073709551616/\f=W)
 case first =>
  rename_i J0 K0 i k;go_upto_region 17 with fail;go_loopw [15,16] (λq r f=>∃a b:Int,q=.int .u64 a/\r=.int .u64 b/\0<=a/\a<18446744073709551616/\0<=b/\b<18446744073709551616/\f=W) λ_ r _=>dvm r
  case atStart=>exact⟨v,C,rfl,rfl,Q.1,Q.2,S.1,S.2,rfl⟩
  obtain⟨a,b,rfl,rfl,t,u,H,ar,rfl⟩:=hrel;go_wp2_with fail
  all_goals (first
   | ((first|refine Met.intro (i _ _ ?_)|refine i _ _ ?_)
      (repeat apply Exists.intro)
      refine⟨?_,rfl⟩;refine⟨_,_,rfl,rfl,?_,?_,?_⟩
      .first|exact(Hb _).1|omega
      .first|exact(Hb _).2|omega
      first|rfl|trivial)
   | (refine⟨⟨_,_,rfl,rfl,?_,?_,(Hb _).1,(Hb _).2,trivial⟩,tn H A.1 A.2 (by assumption)⟩
      .first|exact(Hb _).1|omega
      first|exact(Hb _).2|omega))
 obtain⟨a,b,rfl,rfl,t,u,rfl⟩:=hcut;obtain⟨B,rfl⟩:∃B:World,B=wc:=⟨_,rfl⟩
 go_upto_block 2 with fail
 generalize IntKind.u64.wrap (IntKind.u64.wrap (IntKind.u64.wrap (U*4294967296)+X3)-IntKind.u64.wrap (a*(Y:Int)))=U2;generalize n:IntKind.u64.wrap (U2.tdiv V)=x;have R:0<=x/\x<18446744073709551616:=by rw[<-n];exact Hb _
 generalize p:IntKind.u64.wrap (U2-IntKind.u64.wrap (x*V))=D;have T:0<=D/\D<18446744073709551616:=by rw[<-p];exact Hb _
 clear n p;go_cut [16,18] from 102 to 120 (λr q f=>∃a b:Int,q=.int .u64 a/\r=.int .u64 b/\0<=a/\a<18446744073709551616/\f=B)
 case first =>
  rename_i J0 K0 i k;go_upto_region 24 with fail;go_loopw [16,18] (λr q f=>∃a b:Int,q=.int .u64 a/\r=.int .u64 b/\0<=a/\a<18446744073709551616/\0<=b/\b<18446744073709551616/\f=B) λr _ _=>dvm r
  case atStart=>exact⟨x,D,rfl,rfl,R.1,R.2,T.1,T.2,rfl⟩
  obtain⟨c,d,rfl,rfl,I,J,K,au,rfl⟩:=hrel;clear t u;go_wp2_with fail
  all_goals (first
   | ((first|refine Met.intro (i _ _ ?_)|refine i _ _ ?_)
      (repeat apply Exists.intro)
      refine⟨?_,rfl⟩;refine⟨_,_,rfl,rfl,?_,?_,?_⟩
      .first|exact(Hb _).1|omega
      .first|exact(Hb _).2|omega
      first|rfl|trivial)
   | (refine⟨⟨_,_,rfl,rfl,?_,?_,(Hb _).1,(Hb _).2,trivial⟩,tn K A.1 A.2 (by assumption)⟩
      .first|exact(Hb _).1|omega
      first|exact(Hb _).2|omega))
 obtain⟨c,d,rfl,rfl,I,J,rfl⟩:=hcut;go_wp2_with fail
 go_ret2
 exact⟨_,_,rfl,bl0⟩
theorem Aku(h l y:Nat) (w:World) (a:h<y) (c:l<18446744073709551616) (b:y<=1099511627776) :
 Calls Tryz.prog 202 #[.int .u64 (h:Int),.int .u64 (l:Int),.int .u64 (y:Int)] w (Ahd w):=by
 rcases Nat.eq_zero_or_pos h with rfl|d
 .exact Abn l y w c a b
 exact Abm h l y w d a c b
def Ahb (w:World) (c:Int) (e:Ending) (a:World):Prop:=∃z:Int,e=.returned (.tuple #[z,c])/\Be w a
theorem zp(a b c:Int) (w:World) (h:Mb a b c=true):Calls Tryz.prog 151 #[a,b,.bool false,c] w (Ahb w 3):=by
 have e:a<1\/1099511627776<a\/b<0\/1099511627776<b\/c<0\/a<c:=by unfold Mb at h;simp at h;omega
 have d:=Ar e;clear h e;let⟨i,o⟩:=gN (decide (a<1))
 let⟨j,p⟩:=gN (decide (1099511627776<a))
 let⟨k,q⟩:=gN (decide (b<0))
 let⟨l,r⟩:=gN (decide (1099511627776<b))
 let⟨m,s⟩:=gN (decide (c<0))
 let⟨n,t⟩:=gN (decide (a<c))
 have f:Hid ((i || j || k || l || m || n)=true):=Ar (by
  have:=d.out;rw[<-o,<-p,<-q,<-r,<-s,<-t];simp;omega)
 clear d;go_enter Tryz.func151,Tryz.ntmps151;have g:=f.out;cases i<;>cases j<;>cases k<;>cases l<;>cases m<;>cases n<;>(first|(simp at g;done)|skip)
 all_goals clear g f
 all_goals go_wp2_with fail
 all_goals go_ret2
 all_goals exact⟨_,rfl,bl0⟩
theorem Afg(a b c:Nat) (w:World) (v:1<=a) (n:a<=1099511627776) (o:b<=1099511627776) (p:c<=a):Calls Tryz.prog 151 #[(a:Int),(b:Int),.bool false,(c:Int)] w (Ahb w 0):=by
 let⟨h,f⟩:=gN (c*b / 18446744073709551616)
 let⟨l,i⟩:=gN (c*b % 18446744073709551616)
 have j:l<18446744073709551616:=by rw[<-i];exact Nat.mod_lt _ (by omega)
 have g:h<a:=by
  rw[<-f,Nat.div_lt_iff_lt_mul (by omega)];have:=Nat.mul_le_mul p o;omega
 have s:IntKind.u64.wrap (c:Int)=(c:Int):=Ds (by omega) (by omega);have t:IntKind.u64.wrap (b:Int)=(b:Int):=Ds (by omega) (by omega);have u:IntKind.u64.wrap (a:Int)=(a:Int):=Ds (by omega) (by omega);have k:=Ar f;have m:=Ar i;clear f i;go_enter Tryz.func151,Tryz.ntmps151
 go_wp2_with (first
  | (go_at_call 202;refine(Aku h l a _ g j n).mono ?_;rintro e y ⟨q,r,rfl,d⟩)
  | (go_at_call 201;refine(Any.bits_Mul64 YtlogblbfbihleaaGreat.lays264 c b (by omega) (by omega) _).mono ?_;rintro e x ⟨rfl,rfl⟩;rw[k.out,m.out]))
 all_goals go_ret2
 all_goals exact⟨_,rfl,d⟩
theorem zq (a b c:Int) (w:World):Calls Tryz.prog 151 #[a,b,.bool false,c] w (Ahb w (if Mb a b c then 3 else 0)):=by
 cases h:Mb a b c with
 | true=>exact zp a b c w h
 | false =>
   have g:¬a<1/\¬1099511627776<a/\¬b<0/\¬1099511627776<b/\¬c<0/\¬a<c:=by unfold Mb at h;simp at h;omega
   obtain⟨d,rfl⟩:∃n:Nat,a=n:=⟨a.toNat,by omega⟩
   obtain⟨e,rfl⟩:∃n:Nat,b=n:=⟨b.toNat,by omega⟩
   obtain⟨f,rfl⟩:∃n:Nat,c=n:=⟨c.toNat,by omega⟩
   exact Afg d e f w (by omega) (by omega) (by omega) (by omega)
theorem Sk{p:PieceP}  (h:(Ch p b).2=0):(Ch p b).1=Ej p b/\C7 p.ed=0/\C7 (Ej p b)=0/\wI b 100=true:=by
 unfold Ch at h ⊢;split at h
 .cases h
 rename_i a;split at h
 .cases h
 rename_i e;split at h
 .cases h
 rename_i f;split at h
 .rename_i g;exact absurd h g
 rename_i c;split at h
 .rename_i g;exact absurd h g
 rename_i d;rw[if_neg a,if_neg e,if_neg f,if_neg c,if_neg d];exact⟨rfl,by simpa using c,by simpa using d,by simpa using a⟩
theorem Se(h:plW e a=0):(My e a).2=0:=by unfold My;rw[if_pos h]
def wk (w:World) (c:Int) (e:Ending) (a:World):Prop:=∃v u,e=.returned (.tuple #[v,u,c])/\Be w a
theorem Afo{p:PieceP} {E:List EdgeP} {k:Nat} (d:p.ed.length=a) (b:∀j,j<a->plW (edg p.ed j).ln (edg p.ed j).ln.length=0) (c:∀j,j<a->plW (edg E j).ln (edg E j).ln.length=0) :
 Uh p E k=if (gt p.nt k).1<0\/(a:Int)<=(gt p.nt k).1 then 3 else if Mb (My (edg p.ed (gt p.nt k).1.toNat).ln (edg p.ed (gt p.nt k).1.toNat).ln.length).1 (My (edg E (gt p.nt k).1.toNat).ln (edg E (gt p.nt k).1.toNat).ln.length).1 (gt p.nt k).2 then 3 else 0:=by
 unfold Uh;rw[d];by_cases h:(gt p.nt k).1<0\/(a:Int)<=(gt p.nt k).1
 .rw[if_pos h,if_pos h]
 rw[if_neg h,if_neg h,if_neg (by rw[Se (b _ (by omega))];simp),if_neg (by rw[Se (c _ (by omega))];simp)]
def Ak7 (w:World) (c:Int) (e:Ending) (a:World):Prop:=∃v,e=.returned (.tuple #[v,c])/\Be w a
theorem Aic {f:Nat} {R:World->Int->Ending->World->Prop} (o:f=102/\R=wk\/f=69/\R=Ak7) (k:Array Value) (p:PieceP) (m:Int) (w:World) (j:PcV w k p) (h:(Ch p m).2≠0):Calls Tryz.prog f #[.agg k,m] w (R w (Ch p m).2):=by
 rcases o with⟨rfl,rfl⟩|⟨rfl,rfl⟩
 have d:=@Fz;have s:=trivial
 rotate_left 1
 have d:=@Mi;have t:=trivial
 rotate_left 1
 all_goals
  have i:=j;let⟨r,g⟩:=gN (Ch p m)
  have l:=Ar g;rw[g]at h ⊢;obtain⟨E,c⟩:=r;dsimp only at h ⊢;have q:(c != 0)=true:=by simpa using h
  clear g h;obtain⟨y,D,z,F,A,G,B,H,rfl,⟨Q,S,T⟩,⟨U,V,W⟩,⟨Y,Z,v9⟩,⟨u,v,x⟩⟩:=j;go_in;go_upto_region 1 with fail;refine Bq λX a n=>?_
  let⟨J,K,L,M,N,O,P⟩:=pc7 n
  go_wp2_with ((first|go_at_call 62|go_at_call 68);refine(d _ p m _ (i.keep a)).mono ?_;rintro e w1 ⟨C,I,rfl,-,-,-,b⟩;rw[l.out])
  first|(go_ret3)|(go_ret2)
  first|(exact⟨_,_,rfl,An a b⟩)|(exact⟨_,rfl,An a b⟩)
def Ao7:=@Aic 102 wk (.inl ⟨rfl,rfl⟩)
def Apm:=@Aic 69 Ak7 (.inr ⟨rfl,rfl⟩)
theorem Aib {f:Nat} {R:World->Int->Ending->World->Prop} (hf:f=102/\R=wk\/f=69/\R=Ak7) (vs:Array Value) (p:PieceP) (m:Int) (w:World) (hv:PcV w vs p) (h:(Ch p m).2=0):Calls Tryz.prog f #[.agg vs,m] w (R w (Iy p m)):=by
 rcases hf with⟨rfl,rfl⟩|⟨rfl,rfl⟩
 have ad:=@Fz;have G:=@zq;have H:=@mq;have a7:=trivial
 rotate_left 1
 have ad:=@Mi;have G:=@Amy;have H:=@Ao9;have a8:=trivial
 rotate_left 1
 all_goals
  have cc:=hv;obtain⟨g1,g2,g3,-⟩:=Sk h;have B:=Ar (show Iy p m=if 16<p.nt.length then 5 else Fh (Uh p (Ej p m)) p.nt.length by unfold Iy;rw[if_neg (by rw[h];simp),g1]);have C:=Ar (show Ch p m=(Ej p m,0) from Prod.ext g1 h);have o1:=D5 g2;have o2:=D5 g3;have u:(Ej p m).length=p.ed.length:=by unfold Ej;exact Js p m _
  let⟨E,hE⟩:=gN (Ej p m)
  rw[hE]at C B o2 u;have bc:=Ar (λk=>Afo (p:=p) (E:=E) (k:=k) rfl (λj o=>(o1.2.2.1 j o).2) λj o=>(o2.2.2.1 j (by rw[u];exact o)).2);have bd:=Ar λj (o:j<p.ed.length)=>Er (o1.2.2.1 j o).2;have bl:=Ar (λj (o:j<p.ed.length)=>Er (o2.2.2.1 j (by rw[u];exact o)).2);have ba:=Ar λj (o:j<p.ed.length)=>Se (o1.2.2.1 j o).2;have bb:=Ar (λj (o:j<p.ed.length)=>Se (o2.2.2.1 j (by rw[u];exact o)).2);have b9:=Ar u;have cb:=o1.2.1;clear g1 g2 g3 h o1 o2 hE u;obtain⟨A1,c1,A2,c2,A3,c3,A4,c4,rfl,⟨v1,v2,v3⟩,⟨v4,v5,v6⟩,⟨v7,v8,v9⟩,⟨k0,k1,fa⟩⟩:=hv;go_in;go_upto_region 1 with fail;refine Bq λX t N=>?_
  let⟨p0,p1,p2,p3,p4,p5,p6⟩:=pc7 N;let⟨n1,W⟩:=gN p.ed.length
  let⟨M,Z⟩:=gN p.nt.length
  rw[W]at p1 v1 v3 N bc bd bl ba bb b9 cb;rw[Z]at p3 v4 v6 N B;have ck:=v3.keep t;have cn:=v6.keep t;have K:=cc.keep t;rw[W,Z]at K;clear W Z cc v3 v6 v9 fa;by_cases bq:16<M
  .have HF:=Ar (show Iy p m=5 by rw[B.out,if_pos bq])
   go_wp2_with ((first|go_at_call 62|go_at_call 68);refine(ad _ p m _ K).mono ?_;rintro e w1 ⟨A5,c5,rfl,-,-,-,b⟩;rw[C.out];let⟨q0,P,q2,q3,q4,q5,q6⟩:=pc7 (N.keep b))
   first|(go_ret3)|(go_ret2)
   rw[HF.out]
   first|(exact⟨_,_,rfl,An t b⟩)|(exact⟨_,rfl,An t b⟩)
  have HF:=Ar (show Iy p m=Fh (Uh p E) M by rw[B.out,if_neg bq]);have e7:=N
  go_upto_region 8 with ((first|go_at_call 62|go_at_call 68);refine(ad _ p m _ K).mono ?_;rintro e w1 ⟨A5,c5,rfl,⟨i1,-⟩,i2,i3,b⟩;rw[C.out]at i1 i3 ⊢;dsimp only at i1 i3 ⊢;rw[b9.out]at i1 i3 ⊢;let⟨q0,P,q2,q3,q4,q5,q6⟩:=pc7 (N.keep b))
  have fc:=ck.keep b;have fs:=cn.keep b;have bu:=N.keep b;have HK:=Ar (λk (hk:k<M) (h0:Fh (Uh p E) k=0) (h3:Uh p E k≠0)=>show Iy p m=Uh p E k by rw[HF.out];exact Mk hk h0 h3);have s:=An t b;clear q0 P q2 q3 q4 q5 q6 p0 p1 p2 p3 p4 p5 p6 N e7 K ck cn t b B
  first|(have:=a7;go_loopw [9,11,12,13,14,15,32] (λv _ _ _ _ _ i wr=>∃(k:Nat) (z:List Int),k<=M/\i=.int .i64 k/\Hid (Fh (Uh p E) k=0)/\OwI wr w1.heap.size v z/\z.length=k/\Be w1 wr) λ_ _ _ _ _ _ i _=>M-(intOf i).toNat)|(have:=a8;go_loopw [8,9,10,11,12,13,14,15,16] (λv i _ _ _ _ _ _ _ wr=>∃(k:Nat) (z:List Int),k<=M/\i=.int .i64 k/\Hid (Fh (Uh p E) k=0)/\OwI wr w1.heap.size v z/\z.length=k/\Be w1 wr) λ_ i _ _ _ _ _ _ _ _=>M-(intOf i).toNat)
  case atStart=>exact⟨0,[],Nat.zero_le _,rfl,Ar rfl,OwG.nil,rfl,bl0⟩
  obtain⟨k,z,hk,rfl,L,ho,cg,A⟩:=hrel;by_cases V:k<M
  .obtain⟨b0,j3,rfl,-,hc⟩:=(fs.keep A).at_ V;let⟨e1,e2⟩:=hc k V;have HN:=Ar (bc.out k);have Q:=Ar (HK.out k V L.out);have O:Fh (Uh p E) (k+1)=Uh p E k:=Ga L.out;have e4:=Ar O;let⟨⟨x,y⟩,cf⟩:∃q,gt p.nt k=q:=⟨_,rfl⟩
   rw[cf]at e1 e2 HN;dsimp only at e1 e2 HN;let⟨q0,P,q2,q3,q4,q5,q6⟩:=pc7 (bu.keep A);have e5:=Ar cg;have j2:z.length<=1000:=by omega
   clear hc cf O cg;by_cases cd:x<0
   .have C:=Ar (show Iy p m=3 by
     have e:Uh p E k=3:=by rw[HN.out,if_pos (Or.inl cd)]
     rw[<-e];exact Q.out (by rw[e];decide))
    go_wp2_with fail
    first|(go_ret3)|(go_ret2)
    rw[C.out]
    first|(exact⟨_,_,rfl,An s (Ao A _)⟩)|(exact⟨_,rfl,An s (Ao A _)⟩)
   by_cases a6:(n1:Int)<=x
   .have C:=Ar (show Iy p m=3 by
     have e:Uh p E k=3:=by rw[HN.out,if_pos (Or.inr a6)]
     rw[<-e];exact Q.out (by rw[e];decide))
    obtain⟨j,rfl⟩:∃j:Nat,x=j:=⟨x.toNat,by omega⟩
    have B1:(n1:Int)<=(j:Int):=a6
    first|(have:=a7;go_upto_region 10 with fail)|(have:=a8;go_upto_region 11 with fail)
    refine Bq λY d hV=>?_
    let⟨t0,t1⟩:=Fe hV;have Q1:=Aq d P;clear q0 P q2 q3 q4 q5 q6 e1 e2;go_wp2_with fail;all_goals first|(go_ret3)|(go_ret2)
    all_goals rw[C.out]
    all_goals first|(exact⟨_,_,rfl,An s (An A d)⟩)|(exact⟨_,rfl,An s (An A d)⟩)
   obtain⟨j,rfl⟩:∃j:Nat,x=j:=⟨x.toNat,by omega⟩
   have o:j<n1:=by omega
   obtain⟨b1,o1,rfl,bw⟩:=(fc.keep A).at_ o;obtain⟨b2,o2,rfl,bx⟩:=(i3.keep A).at_ o;obtain⟨-,Al,cl,d1,r1,r2,r3⟩:=bw j o;obtain⟨-,Am,cm,f1,s1,s2,s3⟩:=bx j o;have g:=Ar (show Uh p E k=if Mb (My (edg p.ed j).ln (edg p.ed j).ln.length).1 (My (edg E j).ln (edg E j).ln.length).1 y then 3 else 0 by rw[HN.out,if_neg (by omega)];rfl);have D:=ba.out j o;have F:=bb.out j o;have b:=bd.out j o;have U:=bl.out j o;let⟨l1,c6⟩:=gN ((edg p.ed j).ln)
   let⟨l2,c7⟩:=gN ((edg E j).ln)
   rw[c6]at d1 r1 r3 g D b;rw[c7]at f1 s1 s3 g F U;let⟨m1,c9⟩:=gN l1.length
   let⟨m2,ca⟩:=gN l2.length
   rw[c9]at d1 r1 r3 g D b;rw[ca]at f1 s1 s3 g F U;let⟨⟨L1,z1⟩,S⟩:∃l,My l1 m1=l:=⟨_,rfl⟩
   let⟨⟨L2,z2⟩,T⟩:∃l,My l2 m2=l:=⟨_,rfl⟩
   rw[S]at g D;rw[T]at g F;dsimp only at g D F;subst D F;have HA:=Ar S;have HB:=Ar T;have B1:(j:Int)<(n1:Int):=by omega
   have bs:m1<=9223372036854775807:=by omega
   have bt:m2<=9223372036854775807:=by omega
   let⟨pb,a1⟩:=gN (Mb L1 L2 y)
   have I:=Ar a1;rw[a1]at g;clear bw bx c6 c7 c9 ca S T cd a6 a1 b U r1 s1 HN
   first|(have:=a7;go_upto_region 10 with fail)|(have:=a8;go_upto_region 11 with fail)
   refine Bq λY d hV=>?_
   let⟨t0,t1⟩:=Fe hV;have Q1:=Aq d P;have D1:=Aq d d1;have F1:=Aq d f1;have R3:=r3.keep d;have S3:=s3.keep d;have hO:=OwG.keep ho d;have J:=An A d;clear q0 P q2 q3 q4 q5 q6 d1 f1 r3 s3 ho e1 e2;cases pb with
   | true =>
     have C:=Ar (show Iy p m=3 by
      have e:Uh p E k=3:=by rw[g.out];rfl
      rw[<-e];exact Q.out (by rw[e];decide))
     go_wp2_with (first
      | ((first|go_at_call 151|go_at_call 115);have L:=c;refine(G L1 L2 y _).mono ?_;rintro e w6 ⟨pz,rfl,r⟩;rw[I.out];simp only[if_true])
      | ((first|go_at_call 151|go_at_call 115);have L:=c;refine(G L1 L2 y _).mono ?_;rintro e w6 ⟨⟨pz,rfl⟩,r⟩;rw[I.out];simp only[if_true])
      | ((first|go_at_call 150|go_at_call 114);have L:=a;refine rR (H Am cm m2 l2 _ bt (S3.keep a)) λw5 c=>?_;rw[HB.out];have cj:=Aq c ai)
      | ((first|go_at_call 150|go_at_call 114);refine rR (H Al cl m1 l1 _ bs R3) λw4 a=>?_;rw[HA.out];have ev:=Aq a t0;have ai:=Aq a t1;have e0:=Aq a F1))
     first|(go_ret3)|(go_ret2)
     rw[C.out]
     first|(exact⟨_,_,rfl,An s (An (An (An J a) c) r)⟩)|(exact⟨_,rfl,An s (An (An (An J a) c) r)⟩)
   | false =>
     have e3:=Ar (show Fh (Uh p E) (k+1)=0 by rw[e4.out,g.out];rfl)
     go_wp2_with (first
      | ((first|go_at_call 151|go_at_call 115);have L:=c;refine(G L1 L2 y _).mono ?_;rintro e w6 ⟨pz,rfl,r⟩;rw[I.out];simp only[Bool.false_eq_true,if_false])
      | ((first|go_at_call 151|go_at_call 115);have L:=c;refine(G L1 L2 y _).mono ?_;rintro e w6 ⟨⟨pz,rfl⟩,r⟩;rw[I.out];simp only[Bool.false_eq_true,if_false])
      | ((first|go_at_call 150|go_at_call 114);have L:=a;refine rR (H Am cm m2 l2 _ bt (S3.keep a)) λw5 c=>?_;rw[HB.out];have cj:=Aq c ai)
      | ((first|go_at_call 150|go_at_call 114);refine rR (H Al cl m1 l1 _ bs R3) λw4 a=>?_;rw[HA.out];have ev:=Aq a t0;have ai:=Aq a t1;have e0:=Aq a F1)
      | (at_builtin;refine Kb rfl _ _ rfl w1.heap.size _ z rfl (OwG.alloc (OwG.keep (OwG.keep (OwG.keep hO a) c) r) _) _ 1 1 [pz] rfl (InS.new _ _ _) (λh=>by cases h) (by omega) (Ao (An (An (An J a) c) r) _).size ?_;intro v7 w7 ec e9 ha))
     exact⟨⟨k+1,z++[pz],by omega,by go_num,e3,ec,by rw[List.length_append,e5.out];rfl,Bk (Ao (An (An (An J a) c) r) _) (OwG.alloc (OwG.keep (OwG.keep (OwG.keep hO a) c) r) _) e9⟩,by simp[intOf];omega⟩
  obtain rfl:M=k:=by omega
  let⟨q0,P,q2,q3,q4,q5,q6⟩:=pc7 (bu.keep A);have C:=Ar (show Iy p m=0 by rw[HF.out,L.out])
  go_wp2_with fail
  first|(go_ret3)|(go_ret2)
  rw[C.out]
  first|(exact⟨_,_,rfl,An s A⟩)|(exact⟨_,rfl,An s A⟩)
def Ao6:=@Aib 102 wk (.inl ⟨rfl,rfl⟩)
def Apl:=@Aib 69 Ak7 (.inr ⟨rfl,rfl⟩)
theorem rh(a:Array Value) (p:PieceP) (m:Int) (w:World) (b:PcV w a p):Calls Tryz.prog 69 #[.agg a,m] w (Ak7 w (Iy p m)):=by
 by_cases h:(Ch p m).2=0
 .exact Apl a p m w b h
 have:Iy p m=(Ch p m).2:=by unfold Iy;rw[if_pos h]
 rw[this];exact Apm a p m w b h
theorem dm(a:Array Value) (p:PieceP) (m:Int) (w:World) (b:PcV w a p):Calls Tryz.prog 102 #[.agg a,m] w (wk w (Iy p m)):=by
 by_cases h:(Ch p m).2=0
 .exact Ao6 a p m w b h
 have:Iy p m=(Ch p m).2:=by unfold Iy;rw[if_pos h]
 rw[this];exact Ao7 a p m w b h
theorem Kj(f:Array Value) (p:PieceP) (m:Int) (w:World) (d:PcV w f p):Calls Tryz.prog 63 #[.agg f,m] w λe h=>∃v,e=.returned (.tuple #[v,(Iy p m)])/\Be w h:=by
 have c:=d;obtain⟨i,n,j,o,k,q,l,r,rfl,-⟩:=d;go_in;go_upto_region 1 with fail;refine Bq λX a g=>?_
 let⟨s,t,x,y,z,A,B⟩:=pc7 g
 go_wp2_with (go_at_call 102;refine(dm _ p m _ (c.keep a)).mono ?_;rintro e C ⟨v,u,rfl,b⟩)
 go_ret2
 exact⟨_,rfl,An a b⟩
structure SgR where
 a:Int×Int
 b:Int×Int
 w:Int
 s:Int×Int
def sgV (sg:Int) (p q:Int×Int) (c:Int):SgR:=⟨p,q,c,(sg*F8 (c*(q.2-p.2)) (Ca (sqd p q)),-sg*F8 (c*(q.1-p.1)) (Ca (sqd p q)))⟩
def sgR (E:List EdgeP) (a:List Int) (sg:Int) (i j:Nat):SgR:=sgV sg (gt (edg E i).ln j) (gt (edg E i).ln (j+1)) (gi a i)
def Nb (E:List EdgeP) (a:List Int) (sg:Int):Nat->List SgR
 | 0=>[]
 | i+1=>Nb E a sg i++(List.range ((edg E i).ln.length-1)).map (sgR E a sg i)
def gsr (l:List SgR) (k:Nat):SgR:=l.getD k ⟨(0,0),(0,0),0,(0,0)⟩
theorem K5(E:List EdgeP) (a:List Int) (sg:Int) (k:Nat):(Nb E a sg k).length=(Cn E k).length:=by
 induction k with
 | zero=>rfl
 | succ k ih=>rw[Nb,Cn,List.length_append,List.length_append,ih,Jv,List.length_map,List.length_range]
theorem Age(h:a+1<e.length):gt (ux e) a=gt e a:=by
 unfold ux gt;rw[List.getD,List.getD,List.getElem?_take,if_pos (by omega)]
theorem Tf{E:List EdgeP} {i j:Nat} (c:j+1<(edg E i).ln.length):∀k,i<k->gt (Cn E k) ((Cn E i).length+j)=gt (edg E i).ln j/\(Cn E i).length+j<(Cn E k).length:=by
 intro k;induction k with
 | zero=>intro h;omega
 | succ k ih =>
   intro h;rw[Cn];rcases Nat.lt_or_ge i k with g|g
   .obtain⟨a,b⟩:=ih g;refine⟨?_,by rw[List.length_append];omega⟩;rw[<-a];unfold gt;simp[List.getD,List.getElem?_append_left b]
   obtain rfl:i=k:=by omega
   refine⟨?_,by rw[List.length_append,Jv];omega⟩;rw[<-Age c];unfold gt;simp[List.getD,List.getElem?_append_right]
theorem Ah2{E:List EdgeP} {wd:List Int} {sg:Int}:∀k t,t<(Cn E k).length->∃i j,i<k/\j+1<(edg E i).ln.length/\t=(Cn E i).length+j/\gi (Ek E wd k) t=gi wd i/\gsr (Nb E wd sg k) t=sgR E wd sg i j:=by
 intro k;induction k with
 | zero=>intro t h;simp[Cn]at h
 | succ k ih =>
   intro t h;rw[Cn,List.length_append,Jv]at h;rw[Ek,Nb];rcases Nat.lt_or_ge t (Cn E k).length with g|g
   .obtain⟨i,j,e,a,b,c,d⟩:=ih t g;refine⟨i,j,by omega,a,b,?_,?_⟩
    .rw[<-c];unfold gi;simp[List.getD,List.getElem?_append_left (show t<(Ek E wd k).length by rw[Gt];exact g)]
    rw[<-d];unfold gsr;simp[List.getD,List.getElem?_append_left (show t<(Nb E wd sg k).length by rw[K5];exact g)]
   refine⟨k,t-(Cn E k).length,by omega,by omega,by omega,?_,?_⟩
   .unfold gi;simp[List.getD,List.getElem?_append_right (show (Ek E wd k).length<=t by rw[Gt];exact g),Gt,List.getElem?_replicate,show t-(Cn E k).length<(edg E k).ln.length-1 by omega]
   unfold gsr;simp[List.getD,List.getElem?_append_right (show (Nb E wd sg k).length<=t by rw[K5];exact g),K5,List.getElem?_range (show t-(Cn E k).length<(edg E k).ln.length-1 by omega)]
theorem Aeo{E:List EdgeP} (h:C7 E=0) {j:Nat} (c:a<E.length) (m:j+1<(edg E a).ln.length):gt (Bj E) (((Cn E a).length+j+1) % (Bj E).length)=gt (edg E a).ln (j+1):=by
 obtain⟨q,-,o,p,-⟩:=D5 h;have d:∀k,k<E.length->2<=(edg E k).ln.length:=λk n=>(Er (o k n).2).1
 have r:=Tf m E.length c;unfold Bj;rcases Nat.lt_or_ge (j+2) (edg E a).ln.length with g|g
 .have:=Tf (E:=E) (i:=a) (j:=j+1) g E.length c;rw[Nat.add_assoc,Nat.mod_eq_of_lt this.2];exact this.1
 have l:j+1=(edg E a).ln.length-1:=by omega
 have i:(Cn E a).length+j+1=(Cn E (a+1)).length:=by rw[Cn,List.length_append,Jv];omega
 have hq:J2 E a=false:=Bool.eq_false_iff.2 λhq=>absurd (Bp.yes (f:=J2 E) c hq) (by rw[p];simp)
 unfold J2 at hq;have hq:gt (edg E a).ln ((edg E a).ln.length-1)=gt (edg E ((a+1) % E.length)).ln 0:=(Ge _ _).1 (by simpa using hq);rw[i,l,hq];rcases Nat.lt_or_ge (a+1) E.length with b|b
 .have:=Tf (E:=E) (i:=a+1) (j:=0) (by have:=d (a+1) b;omega) E.length b;rw[Nat.mod_eq_of_lt b,<-this.1,Nat.mod_eq_of_lt (by have:=this.2;omega)];rfl
 have e:a+1=E.length:=by omega
 have:=Tf (E:=E) (i:=0) (j:=0) (by have:=d 0 (by omega);omega) E.length (by omega);rw[e,Nat.mod_self,Nat.mod_self,<-this.1];rfl
theorem Yf{a:Int} (c:0<a):F8 (-b) a = -F8 b a:=by
 unfold F8;rcases Int.lt_trichotomy b 0 with h|h|h
 .rw[if_neg (by omega),if_pos h];omega
 .subst h;have:a / (2*a)=0:=Int.ediv_eq_zero_of_lt (by omega) (by omega);simp[this]
 rw[if_pos (by omega),if_neg (by omega),Int.neg_neg]
theorem Al4{E:List EdgeP} {wd:List Int} {sg:Int} (h:C7 E=0) (n:sg=1\/sg = -1)  (ht:a<(Bj E).length)
 (b:0<Ca (sqd (gt (Bj E) a) (gt (Bj E) ((a+1) % (Bj E).length)))) :
 gsr (Nb E wd sg E.length) a=⟨gt (Bj E) a,gt (Bj E) ((a+1) % (Bj E).length),gi (Hl E wd) a,shP (Bj E) sg (Hl E wd) a⟩:=by
 let⟨i,j,d,e,k,l,m⟩:=Ah2 (E:=E) (wd:=wd) (sg:=sg) E.length a ht;have f:=(Tf e E.length d).1;have g:=Aeo h d e;have c:gi (Hl E wd) a=gi wd i:=l;rw[m,c];unfold shP sgR;rw[c];subst k;rw[g]at b ⊢;unfold Bj at b ⊢;rw[f]at b ⊢;unfold sgV;rcases n with rfl|rfl
 .simp only[Int.one_mul,Int.neg_one_mul,<-Int.neg_mul,Yf (show (0:Int)<(Ca (sqd (gt (edg E i).ln j) (gt (edg E i).ln (j+1))):Int) by omega),Int.neg_mul]
 simp only[Int.neg_one_mul,Int.neg_neg,Int.one_mul,Yf (show (0:Int)<(Ca (sqd (gt (edg E i).ln j) (gt (edg E i).ln (j+1))):Int) by omega),Int.neg_mul]
theorem df(l a b:LP):∀k,k<=b.length->Cw l (a++b) (a.length+k)=Cw (Cw l a a.length) b k:=by
 have c:∀k,k<=a.length->Cw l (a++b) k=Cw l a k:=by
  intro k;induction k with
  | zero=>intro _;rfl
  | succ k ih =>
    intro h;rw[Cw,Cw,ih (by omega)]
    congr 1
    unfold gt;simp[List.getD,List.getElem?_append_left (show k<a.length by omega)]
 intro k;induction k with
 | zero=>intro _;exact c _ (Nat.le_refl _)
 | succ k ih =>
   intro h;rw[<-Nat.add_assoc,Cw,Cw,ih (by omega)]
   congr 1
   unfold gt;simp[List.getD,List.getElem?_append_right]
def ia (V a:LP) (D:List Int):Nat->LP
 | 0=>[]
 | i+1=>ia V a D i++Wy V a D i
theorem mc (V a:LP) (D:List Int):∀k,K7 V a D k=Cw [] (ia V a D k) (ia V a D k).length
 | 0=>rfl
 | k+1=>by rw[K7,mc V a D k,ia,List.length_append,df _ _ _ _ (Nat.le_refl _)]
def pwB (l:List Int) (j:Nat):Bool:=decide (gi l j<0) || decide (500<gi l j)
def pcE (Q:List PieceP) (i:Nat) (p:PieceP):Int :=
 if Cy p.nm=false then 1 else if p.gr≠1/\p.gr≠2/\p.gr≠4 then 1
 else if Bp (λj=>Gq (pce Q j).nm p.nm) i then 7
 else if (Ch p 0).2≠0 then (Ch p 0).2 else if Iy p 0≠0 then Iy p 0
 else if p.wd.length≠p.ed.length then 1 else if Bp (pwB p.wd) p.wd.length then 3 else 0
theorem Adn(P:List PieceP) (i:Nat):Ee P i=pcE (P.take i) i (pce P i):=by
 unfold Ee pcE;rw[Bp.congr (n:=i) (f:=λj=>Gq (pce P j).nm (pce P i).nm) (g:=λj=>Gq (pce (P.take i) j).nm (pce P i).nm) λk a=>by rw[Yn a]];rfl
theorem Aqf(A:Option Addr) (a i:Nat) (d:Array Value) (p:PieceP) (w:World) (j:PcV w d p) (h:Cy p.nm=false):Calls Tryz.prog 36 #[.slice A i a,.agg d] w (Bz w (.int .i64 1)):=by
 have f:=Ar h;clear h;obtain⟨n,s,o,t,q,u,r,v,rfl,⟨F,G,H⟩,⟨I,J,K⟩,⟨L,M,N⟩,⟨k,l,m⟩⟩:=j;go_enter Tryz.func36,Tryz.ntmps36;go_upto_region 1 with fail;refine Bq λX c g=>?_
 let⟨x,y,z,B,C,D,E⟩:=pc7 g
 go_wp2_with (go_at_call 59;refine rR (Hp p.nm _) λO b=>?_;rw[f.out])
 go_ret;exact⟨rfl,An c b⟩
theorem Aqe(A:Option Addr) (c i:Nat) (f:Array Value) (p:PieceP) (w:World) (k:PcV w f p) (h:Cy p.nm=true) (b:p.gr≠1/\p.gr≠2/\p.gr≠4):Calls Tryz.prog 36 #[.slice A i c,.agg f] w (Bz w (.int .i64 1)):=by
 have g:=Ar h;have z:(p.gr != 1)=true:=by simpa using b.1
 have B:(p.gr != 2)=true:=by simpa using b.2.1
 have C:(p.gr != 4)=true:=by simpa using b.2.2
 clear h b;obtain⟨q,u,r,v,s,x,t,y,rfl,⟨K,L,M⟩,⟨N,O,P⟩,⟨Q,R,S⟩,⟨m,n,o⟩⟩:=k;go_enter Tryz.func36,Tryz.ntmps36;go_upto_region 1 with fail;refine Bq λX d j=>?_
 let⟨D,E,l,F,G,H,I⟩:=pc7 j
 go_wp2_with (go_at_call 59;refine rR (Hp p.nm _) λT a=>?_;rw[g.out];have J:=Aq a l)
 all_goals go_ret
 all_goals exact⟨rfl,An d a⟩
theorem Aqd(A:Option Addr) (b7 i:Nat) (Q:List PieceP) (vs:Array Value) (p:PieceP) (w:World) (hi:i<=1000) (hQ:PcS w A i Q) (hv:PcV w vs p) (h:Cy p.nm=true) (E:p.gr=1\/p.gr=2\/p.gr=4):Calls Tryz.prog 36 #[.slice A i b7,.agg vs] w (Bz w (pcE Q i p)):=by
 rcases E with E|E|E
 all_goals (
  have HE:=Ar (show pcE Q i p=if Bp (λj=>Gq (pce Q j).nm p.nm) i then 7
   else if (Ch p 0).2≠0 then (Ch p 0).2 else if Iy p 0≠0 then Iy p 0
   else if p.wd.length≠p.ed.length then 1 else if Bp (pwB p.wd) p.wd.length then 3 else 0 by
   unfold pcE;rw[if_neg (by rw[h];simp),if_neg (by rw[E];decide)])
  have HN:=Ar h;have HG:=Ar E;clear h E;have Z:=hv;obtain⟨A1,c1,A2,c2,A3,c3,A4,c4,rfl,⟨v1,v2,v3⟩,⟨v4,v5,v6⟩,⟨v7,v8,v9⟩,⟨ca,fb,ad⟩⟩:=hv;go_enter Tryz.func36,Tryz.ntmps36;go_upto_region 1 with fail;refine Bq λX I hP=>?_
  let⟨p0,p1,p2,p3,p4,p5,p6⟩:=pc7 hP;rw[HG.out]at p2 hP;let⟨nm,W⟩:=gN p.nm
  have T:=Ar W;clear W
  go_upto_region 6 with (go_at_call 59;refine rR (Hp p.nm _) λw1 u=>?_;rw[HN.out];have q2:=Aq u p2)
  have F:=hP.keep u;have U:=hQ.keep (An I u);clear p0 p1 p2 p3 p4 p5 p6 q2;go_loopw [6,32] (λ_ c wr=>∃k:Nat,k<=i/\c=.int .i64 k/\Hid (Bp (λj=>Gq (pce Q j).nm p.nm) k=false)/\Be w1 wr) λ_ c _=>i-(intOf c).toNat
  case atStart=>exact⟨0,Nat.zero_le _,rfl,Ar (Bp.zero _),bl0⟩
  obtain⟨k,hk,rfl,hz,G⟩:=hrel;by_cases r:k<i
  .obtain⟨b0,eo,rfl,gf,a1,b⟩:=(U.keep G).at_ r;obtain⟨E1,d1,E2,d2,E3,d3,E4,d4,rfl,-⟩:=a1;have k0:=b 0 _ rfl;rw[Nat.add_zero]at k0;have k1:=b 1 _ rfl;have k2:=b 2 _ rfl;have k3:=b 3 _ rfl;have k4:=b 4 _ rfl;have k5:=b 5 _ rfl;have k6:=b 6 _ rfl;clear b;let⟨pk,M⟩:=gN (pce Q k)
   have b4:=Ar M;rw[M]at k0 k1 k2 k3 k4 k5 k6;clear M;have f0:=(pc7 (F.keep G)).1;rw[T.out]at f0;have B1:(k:Int)<(i:Int):=by omega
   go_upto_region 8 with fail;refine Bq λY J hV=>?_
   have g0:=(pc7 hV).1;have f1:=Aq J f0;clear k0 k1 k2 k3 k4 k5 k6 f0;let⟨pn,N⟩:=gN pk.nm
   have b5:=Ar N;rw[N]at g0;clear N;let⟨bb,ba⟩:=gN (pn.toList == nm.toList)
   have HS:Hid (Gq (pce Q k).nm p.nm=bb):=Ar (by rw[b4.out,b5.out,T.out];exact ba);cases bb with
   | true =>
     have m:=Ar (show pcE Q i p=7 by rw[HE.out,if_pos (Bp.yes (f:=λj=>Gq (pce Q j).nm p.nm) r HS.out)])
     go_wp2_with fail;go_ret;exact⟨by rw[m.out];rfl,An I (An u (An G J))⟩
   | false =>
     have HP:=Bp.succ (f:=λj=>Gq (pce Q j).nm p.nm) hz.out HS.out
     go_wp2_with fail;exact⟨⟨k+1,by omega,by go_num,Ar HP,An G J⟩,by simp[intOf];omega⟩
  obtain rfl:i=k:=by omega
  have R:=Ar (show pcE Q i p=if (Ch p 0).2≠0 then (Ch p 0).2 else if Iy p 0≠0 then Iy p 0
   else if p.wd.length≠p.ed.length then 1 else if Bp (pwB p.wd) p.wd.length then 3 else 0 by rw[HE.out,if_neg (by rw[hz.out];simp)])
  have o:=An I (An u G);have d:=F.keep G;let⟨p0,p1,p2,p3,p4,p5,p6⟩:=pc7 d;have l:=Z.keep o;have C:=ad.keep o;clear G U F hP hQ Z v3 v6 v9 ad;let⟨c,b⟩:=gN ((Ch p 0).2)
  by_cases v:c=0
  .subst v
   have S:=Ar (show pcE Q i p=if Iy p 0≠0 then Iy p 0
    else if p.wd.length≠p.ed.length then 1 else if Bp (pwB p.wd) p.wd.length then 3 else 0 by rw[R.out,if_neg (by rw[b];simp)])
   have P:=Ar b;clear b;let⟨c,b⟩:=gN (Iy p 0)
   by_cases v:c=0
   .subst v;have z:=Ar (show pcE Q i p=if p.wd.length≠p.ed.length then 1 else if Bp (pwB p.wd) p.wd.length then 3 else 0 by rw[S.out,if_neg (by rw[b];simp)]);have y:=Ar b;clear b;let⟨n4,L⟩:=gN p.wd.length
    let⟨n1,K⟩:=gN p.ed.length
    rw[L]at z p5 ca C d;rw[K]at z p1 v1 d;have t:Hid (PcV wr #[.string p.nm,.slice A1 n1 c1,p.gr,.slice A2 p.nt.length c2,.slice A3 p.cr.length c3,.slice A4 n4 c4,.bool p.mt] p):=Ar (by rw[L,K]at l;exact l);rw[HG.out]at t;clear K L l;by_cases V:n4=n1
    .have B:((n4:Int) != (n1:Int))=false:=by rw[V];simp
     have D:=Ar (show pcE Q i p=if Bp (pwB p.wd) n4 then 3 else 0 by rw[z.out,if_neg (by simp[V])]);clear V
     go_upto_region 20 with (first
      | (go_at_call 63;have a7:=a;refine(Kj _ p 0 _ (t.out.keep a)).mono ?_;rintro e w4 ⟨pz,rfl,g⟩;rw[y.out];let⟨s0,s1,s2,s3,s4,s5,s6⟩:=pc7 (d.keep (An a g)))
      | (go_at_call 62;refine(Fz _ p 0 _ t.out).mono ?_;rintro e w3 ⟨A5,c5,rfl,-,-,-,a⟩;rw[P.out];let⟨r0,r1,r2,r3,r4,r5,r6⟩:=pc7 (d.keep a)))
     have H:=An o (An a g);have vW:=C.keep (An a g);clear r0 r1 r2 r3 r4 r5 r6 s0 s1 s2 s3 s4 s5 s6 p0 p1 p2 p3 p4 p5 p6 B;go_loopw [12,68] (λ_ c wx=>∃k:Nat,k<=n4/\c=.int .i64 k/\Hid (Bp (pwB p.wd) k=false)/\Hid (w4=wx)) λ_ c _=>n4-(intOf c).toNat
     case atStart=>exact⟨0,Nat.zero_le _,rfl,Ar (Bp.zero _),Ar rfl⟩
     obtain⟨k,hk,rfl,a6,bd⟩:=hrel;obtain rfl:=bd.out;by_cases r:k<n4
     .obtain⟨b9,cy,rfl,bc⟩:=vW.at_ r;have B1:(k:Int)<(n4:Int):=by omega
      let⟨x,O⟩:=gN (gi p.wd k)
      rw[O]at bc;by_cases v:x<0
      .have m:=Ar (show pcE Q i p=3 by rw[D.out,if_pos (Bp.yes (f:=pwB p.wd) r (by unfold pwB;rw[O];simp;omega))]);clear O;go_wp2_with fail;all_goals go_ret
       all_goals exact⟨by rw[m.out];rfl,H⟩
      by_cases h5:500<x
      .have m:=Ar (show pcE Q i p=3 by rw[D.out,if_pos (Bp.yes (f:=pwB p.wd) r (by unfold pwB;rw[O];simp;omega))]);clear O;go_wp2_with fail;all_goals go_ret
       all_goals exact⟨by rw[m.out];rfl,H⟩
      have HP:=Bp.succ (f:=pwB p.wd) a6.out (by unfold pwB;rw[O];simp;omega);clear O;go_wp2_with fail;all_goals exact⟨⟨k+1,by omega,by go_num,Ar HP,by first|exact Ar rfl|exact Ar trivial⟩,by simp[intOf];omega⟩
     obtain rfl:n4=k:=by omega
     have m:=Ar (show pcE Q i p=0 by rw[D.out,if_neg (by rw[a6.out];simp)])
     go_wp2_with fail;go_ret;exact⟨by rw[m.out];rfl,H⟩
    have B:((n4:Int) != (n1:Int))=true:=by rw[bne_iff_ne];omega
    have m:=Ar (show pcE Q i p=1 by rw[z.out,if_pos V]);clear V
    go_wp2_with (first
     | (go_at_call 63;have a7:=a;refine(Kj _ p 0 _ (t.out.keep a)).mono ?_;rintro e w4 ⟨pz,rfl,g⟩;rw[y.out];let⟨s0,s1,s2,s3,s4,s5,s6⟩:=pc7 (d.keep (An a g)))
     | (go_at_call 62;refine(Fz _ p 0 _ t.out).mono ?_;rintro e w3 ⟨A5,c5,rfl,-,-,-,a⟩;rw[P.out];let⟨r0,r1,r2,r3,r4,r5,r6⟩:=pc7 (d.keep a)))
    go_ret;exact⟨by rw[m.out];rfl,An o (An a g)⟩
   have B:(c != 0)=true:=by simpa using v
   have m:=Ar (show pcE Q i p=c by rw[S.out,b,if_pos v]);have y:=Ar b;rw[HG.out]at l;clear b v
   go_wp2_with (first
    | (go_at_call 63;have a7:=a;refine(Kj _ p 0 _ (l.keep a)).mono ?_;rintro e w4 ⟨pz,rfl,g⟩;rw[y.out])
    | (go_at_call 62;refine(Fz _ p 0 _ l).mono ?_;rintro e w3 ⟨A5,c5,rfl,-,-,-,a⟩;rw[P.out];let⟨r0,r1,r2,r3,r4,r5,r6⟩:=pc7 (d.keep a)))
   go_ret;exact⟨by rw[m.out];rfl,An o (An a g)⟩
  have B:(c != 0)=true:=by simpa using v
  have m:=Ar (show pcE Q i p=c by rw[R.out,b,if_pos v]);have P:=Ar b;rw[HG.out]at l;clear b v
  go_wp2_with (go_at_call 62;refine(Fz _ p 0 _ l).mono ?_;rintro e w3 ⟨A5,c5,rfl,-,-,-,a⟩;rw[P.out])
  go_ret;exact⟨by rw[m.out];rfl,An o a⟩)
theorem U8(A:Option Addr) (a i:Nat) (Q:List PieceP) (b:Array Value) (p:PieceP) (w:World) (f:i<=1000) (e:PcS w A i Q) (c:PcV w b p):Calls Tryz.prog 36 #[.slice A i a,.agg b] w (Bz w (pcE Q i p)):=by
 cases hn:Cy p.nm with
 | false =>
   rw[show pcE Q i p=1 by unfold pcE;rw[if_pos hn]];exact Aqf A a i b p w c hn
 | true =>
   by_cases d:p.gr=1\/p.gr=2\/p.gr=4
   .exact Aqd A a i Q b p w f e c hn d
   rw[show pcE Q i p=1 by unfold pcE;rw[if_neg (by rw[hn];simp),if_pos (by omega)]];exact Aqe A a i b p w c hn (by omega)
theorem Aii(A:Option Addr) (R i:Nat) (Q:List PieceP) (vs:Array Value) (p:PieceP) (w:World) (hi:i<=1000) (hQ:PcS w A i Q) (hv:PcV w vs p):Calls Tryz.prog 45 #[.slice A i R,.agg vs] w (Bz w (pcE Q i p)):=by
 let⟨t,s⟩:=gN (!Cy p.nm || (decide (p.gr≠1)&&decide (p.gr≠2)&&decide (p.gr≠4)))
 have N:=Ar s
 have r:=Ar (show pcE Q i p=if t then 1 else if Bp (λj=>Gq (pce Q j).nm p.nm) i then 7
  else if (Ch p 0).2≠0 then (Ch p 0).2 else if Iy p 0≠0 then Iy p 0 else ij p by
  rw[<-s];unfold pcE ij;cases Cy p.nm with
  | false=>rfl
  | true =>
    by_cases h:p.gr≠1/\p.gr≠2/\p.gr≠4
    .rw[if_neg (by simp),if_pos h,if_pos (by simpa[and_assoc] using h)]
    rw[show (!true || (decide (p.gr≠1)&&decide (p.gr≠2)&&decide (p.gr≠4)))=false from Bool.eq_false_iff.2 λe=>h (by simpa[and_assoc] using e),if_neg (by simp),if_neg h];rfl)
 clear s;have F:=hv;obtain⟨A1,c1,A2,c2,A3,c3,A4,c4,rfl,⟨v1,v2,v3⟩,⟨v4,v5,v6⟩,⟨v7,v8,v9⟩,⟨cb,cc,Y⟩⟩:=hv;let⟨x,hgr⟩:=gN p.gr
 let⟨G,D⟩:=gN p.nm
 rw[hgr,D]at F N ⊢;have HN:=Ar D;clear hgr D v3 v6 v9 Y;go_enter Tryz.func45,Tryz.ntmps45;go_upto_region 1 with fail;refine Bq λX B L=>?_
 let⟨p0,p1,p2,p3,p4,p5,p6⟩:=pc7 L;go_cut [28] λv wx=>v=.bool t/\X=wx
 case first =>
  cases hn:Cy G with
  | false =>
    have l:=Ar (show t=true by rw[<-N.out,hn];rfl)
    go_wp2_with (go_at_call 66;refine(Dp G _).mono ?_;rintro e M ⟨rfl,rfl⟩;rw[hn])
    go_meet;exact⟨by rw[l.out],rfl⟩
  | true =>
    have l:=Ar (show t=(decide (x≠1)&&decide (x≠2)&&decide (x≠4)) by rw[<-N.out,hn];rfl);by_cases h1:x=1
    .subst h1
     go_wp2_with (go_at_call 66;refine(Dp G _).mono ?_;rintro e M ⟨rfl,rfl⟩;rw[hn])
     all_goals go_meet
     all_goals exact⟨by rw[l.out];simp[*],rfl⟩
    have n1:(x != 1)=true:=by simpa using h1
    by_cases h2:x=2
    .subst h2
     go_wp2_with (go_at_call 66;refine(Dp G _).mono ?_;rintro e M ⟨rfl,rfl⟩;rw[hn])
     all_goals go_meet
     all_goals exact⟨by rw[l.out];simp[*],rfl⟩
    have n2:(x != 2)=true:=by simpa using h2
    by_cases h4:x=4
    .subst h4
     go_wp2_with (go_at_call 66;refine(Dp G _).mono ?_;rintro e M ⟨rfl,rfl⟩;rw[hn])
     all_goals go_meet
     all_goals exact⟨by rw[l.out];simp[*],rfl⟩
    have n4:(x != 4)=true:=by simpa using h4
    go_wp2_with (go_at_call 66;refine(Dp G _).mono ?_;rintro e M ⟨rfl,rfl⟩;rw[hn])
    all_goals go_meet
    all_goals exact⟨by rw[l.out];simp[*],rfl⟩
 obtain⟨rfl,rfl⟩:=hcut;cases t with
 | true =>
   have u:=Ar (show pcE Q i p=1 by rw[r.out];rfl)
   go_wp2_with fail;go_ret;exact⟨by rw[u.out];rfl,B⟩
 | false =>
   replace r:=Ar (show pcE Q i p=if Bp (λj=>Gq (pce Q j).nm p.nm) i then 7
   else if (Ch p 0).2≠0 then (Ch p 0).2 else if Iy p 0≠0 then Iy p 0 else ij p by rw[r.out];rfl)
   have I:=hQ.keep B;go_upto_region 4 with fail;go_loopw [5] (λc wr=>∃k:Nat,k<=i/\c=.int .i64 k/\Hid (Bp (λj=>Gq (pce Q j).nm p.nm) k=false)/\Be X wr) λc _=>i-(intOf c).toNat
   case atStart=>exact⟨0,Nat.zero_le _,rfl,Ar (Bp.zero _),bl0⟩
   clear p0 p1 p2 p3 p4 p5 p6;obtain⟨k,hk,rfl,V,C⟩:=hrel;by_cases J:k<i
   .obtain⟨b0,bs,rfl,ch,K,d⟩:=(I.keep C).at_ J;obtain⟨E1,d1,E2,d2,E3,d3,E4,d4,rfl,-⟩:=K;have k0:=d 0 _ rfl;rw[Nat.add_zero]at k0;clear d;let⟨pn,E⟩:=gN ((pce Q k).nm)
    have P:=Ar E;rw[E]at k0;clear E;have f0:=(pc7 (L.keep C)).1;have B1:(k:Int)<(i:Int):=by omega
    let⟨t,s⟩:=gN (pn.toList == G.toList)
    have HS:Hid (Gq (pce Q k).nm p.nm=t):=Ar (by rw[P.out,HN.out];exact s);go_upto_region 6 with fail;go_quiet (fail);cases t with
    | true =>
      have u:=Ar (show pcE Q i p=7 by rw[r.out,if_pos (Bp.yes (f:=λj=>Gq (pce Q j).nm p.nm) J HS.out)])
      go_wp2_with fail;go_ret;exact⟨by rw[u.out];rfl,An B (Bd C _)⟩
    | false =>
      have HP:=Bp.succ (f:=λj=>Gq (pce Q j).nm p.nm) V.out HS.out
      go_wp2_with fail;exact⟨⟨k+1,by omega,by go_num,Ar HP,Bd C _⟩,by simp[intOf];omega⟩
   obtain rfl:i=k:=by omega
   replace r:=Ar (show pcE Q i p=if (Ch p 0).2≠0 then (Ch p 0).2 else if Iy p 0≠0 then Iy p 0 else ij p by rw[r.out,if_neg (by rw[V.out];simp)]);have z:=An B C;have m:=L.keep C;let⟨p0,p1,p2,p3,p4,p5,p6⟩:=pc7 m;have o:=F.keep z;clear C I L hQ F V;let⟨c,d⟩:=gN ((Ch p 0).2)
   have O:=Ar d;by_cases y:c=0
   .subst y;have T:p.ed.length<=1000000:=by have:=(D5 (Sk d).2.1).2.1;omega
    replace r:=Ar (show pcE Q i p=if Iy p 0≠0 then Iy p 0 else ij p by rw[r.out,if_neg (by rw[d];simp)]);clear d;let⟨c,d⟩:=gN (Iy p 0)
    have H:=Ar d;by_cases y:c=0
    .subst y;have u:=Ar (show pcE Q i p=ij p by rw[r.out,if_neg (by rw[d];simp)]);clear d
     go_wp2_with (first
      | (go_at_call 70;refine rR (Aer _ p _ (o.keep (An a n)) T) λw5 S=>?_;rw[<-u.out])
      | (go_at_call 69;have W:=a;refine(rh _ p 0 _ (o.keep a)).mono ?_;rintro e w4 ⟨pz,rfl,n⟩;rw[H.out];let⟨s0,s1,s2,s3,s4,s5,s6⟩:=pc7 (m.keep (An a n)))
      | (go_at_call 68;refine(Mi _ p 0 _ o).mono ?_;rintro e w3 ⟨Z,c5,rfl,-,-,-,a⟩;rw[O.out];let⟨r0,r1,r2,r3,r4,r5,r6⟩:=pc7 (m.keep a)))
     go_ret;exact⟨rfl,An z (An (An a n) S)⟩
    have U:(c != 0)=true:=by simpa using y
    have u:=Ar (show pcE Q i p=c by rw[r.out,d,if_pos y]);clear d y
    go_wp2_with (first
     | (go_at_call 69;have W:=a;refine(rh _ p 0 _ (o.keep a)).mono ?_;rintro e w4 ⟨pz,rfl,n⟩;rw[H.out];let⟨s0,s1,s2,s3,s4,s5,s6⟩:=pc7 (m.keep (An a n)))
     | (go_at_call 68;refine(Mi _ p 0 _ o).mono ?_;rintro e w3 ⟨Z,c5,rfl,-,-,-,a⟩;rw[O.out];let⟨r0,r1,r2,r3,r4,r5,r6⟩:=pc7 (m.keep a)))
    go_ret;exact⟨by rw[u.out];rfl,An z (An a n)⟩
   have U:(c != 0)=true:=by simpa using y
   have u:=Ar (show pcE Q i p=c by rw[r.out,d,if_pos y]);clear d y
   go_wp2_with (go_at_call 68;refine(Mi _ p 0 _ o).mono ?_;rintro e w3 ⟨Z,c5,rfl,-,-,-,a⟩;rw[O.out];let⟨r0,r1,r2,r3,r4,r5,r6⟩:=pc7 (m.keep a))
   go_ret;exact⟨by rw[u.out];rfl,An z a⟩
def muB (s:StyleP) (i:Nat):Bool:=decide (gi s.mu i < -100) || decide (100<gi s.mu i)
theorem ya(s:StyleP) (h:SmS s):Bv s=if ik s=false then 1 else if Bp (twB s.sz) s.sz.length then 7 else if Bp (muB s) s.mu.length then 3
 else if Fh (Ee s.pc) s.pc.length≠0 then Fh (Ee s.pc) s.pc.length else Lf s:=by
 obtain⟨f,g,j,k,l,m⟩:=h
 have e:C6 s=if ik s=false then 1 else if Bp (twB s.sz) s.sz.length then 7 else if Bp (muB s) s.mu.length then 3 else 0:=by
  unfold C6 ik;cases Cy s.nm with
  | false=>simp
  | true =>
    by_cases a:s.sz.length=0
    .simp[a]
    cases Bp (λi=>!szB (gb s.sz i)) s.sz.length with
    | true=>simp[a]
    | false =>
      by_cases b:s.mu.length=s.sz.length
      .cases Bp (λi=>(0:Int) == gi s.mu i) s.mu.length with
       | false=>simp[a]
       | true =>
         rw[if_neg (by simp[a]),if_neg (by simp),if_neg (by simp[b]),show (true&&!decide (s.sz.length=0)&&!false&&(true&&decide (s.mu.length=s.sz.length)))=true by simp[a,b]];by_cases d:Bp (twB s.sz) s.sz.length=true
         .exact(if_pos d).trans (if_pos d).symm
         refine(if_neg d).trans (Eq.trans ?_ (if_neg d).symm);rw[if_neg (show ¬(12<s.sz.length\/12<s.pc.length\/12<s.us.length) by omega),if_neg (show ¬(24<s.se.length\/16<s.no) by omega)];rfl
      simp[a,b]
 unfold Bv Lf;rw[e];by_cases a:ik s=false
 .rw[if_pos a,if_pos a];rfl
 rw[if_neg a,if_neg a];by_cases b:Bp (twB s.sz) s.sz.length=true
 .rw[if_pos b,if_pos b];rfl
 rw[if_neg b,if_neg b];by_cases c:Bp (muB s) s.mu.length=true
 .rw[if_pos c,if_pos c];rfl
 rw[if_neg c,if_neg c];rfl
theorem N8 (vs:Array Value) (s:StyleP) (w:World) (a:SmS s) (hv:StV w vs s):Calls Tryz.prog 18 #[.agg vs] w (Bz w (Bv s)):=by
 have p:=Ar (ya s a);let⟨c,t⟩:=gN (Bv s)
 rw[t]at p ⊢;clear t;have ad:=Ar hv;have b9:=Ar a;clear a;obtain⟨A1,c1,A2,c2,A3,c3,A4,c4,A5,c5,A6,c6,rfl,⟨v1,v2,v3⟩,⟨v4,v5,v6⟩,⟨v7,v8,v9⟩,⟨er,ev,bx⟩,⟨ey,fa,c7⟩,fb,fc⟩:=hv;go_enter Tryz.func18,Tryz.ntmps18;go_upto_region 1 with fail;refine Bq λX m A=>?_
 let⟨p0,p1,p2,p3,p4,p5,p6⟩:=st7 A;have a:=b9.out;have N:=ad.out.keep m;have C:=v3.keep m;have W:=v6.keep m;have Y:=v9.keep m;clear v3 v6 v9 bx c7 ad;let⟨n1,K⟩:=gN s.sz.length
 let⟨n2,L⟩:=gN s.mu.length
 let⟨x,M⟩:=gN s.pc.length
 rw[K,L,M]at N A p;have z1:=a.sz;have z2:=a.mu;have z3:=a.pc;rw[K]at p1 C z1;rw[L]at p2 W z2;rw[M]at p3 v7 Y z3;have Z:=Ar N;clear K L M N;let⟨b1,h1⟩:=gN (ik s)
 have H1:=Ar h1;cases b1 with
 | false =>
   have v:=Ar (show c=1 by rw[p.out,if_pos h1]);clear h1
   go_wp2_with (go_at_call 42;refine rR (jb _ s _ a Z.out) λw1 d=>?_;rw[H1.out];let⟨Q,R,S,G,T,U,V⟩:=st7 (A.keep d))
   go_ret;exact⟨by rw[v.out];rfl,An m d⟩
 | true =>
   let⟨b2,h2⟩:=gN (Bp (twB s.sz) n1)
   have H2:=Ar h2;rw[if_neg (by rw[h1];simp),h2] at p;clear h1 h2;cases b2 with
   | true =>
     have v:=Ar (show c=7 by rw[p.out];rfl)
     go_wp2_with (first
      | (go_at_call 43;refine rR (Ac0 _ _ n1 s.sz _ (by omega) (C.keep d)) λw2 r=>?_;rw[H2.out];have g:=An d r;let⟨r0,r1,r2,r3,r4,r5,r6⟩:=st7 (A.keep g))
      | (go_at_call 42;refine rR (jb _ s _ a Z.out) λw1 d=>?_;rw[H1.out];let⟨Q,R,S,G,T,U,V⟩:=st7 (A.keep d)))
     go_ret;exact⟨by rw[v.out];rfl,An m g⟩
   | false =>
     replace p:=Ar (show c=if Bp (muB s) n2 then 3 else if Fh (Ee s.pc) x≠0 then Fh (Ee s.pc) x else Lf s by rw[p.out];rfl)
     go_upto_region 8 with (first
      | (go_at_call 44;refine rR (Alw _ s _ a (Z.out.keep g)) λw3 au=>?_)
      | (go_at_call 43;refine rR (Ac0 _ _ n1 s.sz _ (by omega) (C.keep d)) λw2 r=>?_;rw[H2.out];have g:=An d r;let⟨r0,r1,r2,r3,r4,r5,r6⟩:=st7 (A.keep g))
      | (go_at_call 42;refine rR (jb _ s _ a Z.out) λw1 d=>?_;rw[H1.out];let⟨Q,R,S,G,T,U,V⟩:=st7 (A.keep d)))
     have j:=An g au;have B:=An m j;have ar:=A.keep j;have c9:=W.keep j;have ca:=Y.keep j;have ba:=Ar (Z.out.keep j);clear Q R S G T U V r0 r1 r2 r3 r4 r5 r6 p0 p1 p2 p3 p4 p5 p6 Z A W Y C d r g au j;go_loopw [3] (λi wr=>∃k:Nat,k<=n2/\i=.int .i64 k/\Hid (Bp (muB s) k=false)/\w3=wr) λi _=>n2-(intOf i).toNat
     case atStart=>exact⟨0,Nat.zero_le _,rfl,Ar (Bp.zero _),rfl⟩
     obtain⟨k,hk,rfl,O,rfl⟩:=hrel;let⟨Q,R,S,G,T,U,V⟩:=st7 ar;by_cases u:k<n2
     .obtain⟨b,l,rfl,t⟩:=c9.at_ u;have B1:(k:Int)<(n2:Int):=by omega
      have B0:(0:Int)<=(k:Int):=by omega
      let⟨z,P⟩:=gN (gi s.mu k)
      have HW:=Ar (show muB s k=(decide (z < -100) || decide (100<z)) by unfold muB;rw[P]);rw[P]at t;clear P;by_cases h0:100<z
      .have v:=Ar (show c=3 by rw[p.out,if_pos (Bp.yes (f:=muB s) u (by rw[HW.out];simp;omega))])
       go_wp2_with fail;go_ret;exact⟨by rw[v.out];rfl,B⟩
      by_cases h5:z < -100
      .have v:=Ar (show c=3 by rw[p.out,if_pos (Bp.yes (f:=muB s) u (by rw[HW.out];simp;omega))])
       go_wp2_with fail;go_ret;exact⟨by rw[v.out];rfl,B⟩
      have HS:=Bp.succ (f:=muB s) O.out (by rw[HW.out];simp;omega)
      go_wp2_with fail;exact⟨⟨k+1,by omega,by go_num,Ar HS,trivial⟩,by simp[intOf];omega⟩
     obtain rfl:n2=k:=by omega
     replace p:=Ar (show c=if Fh (Ee s.pc) x≠0 then Fh (Ee s.pc) x else Lf s by rw[p.out,if_neg (by rw[O.out];simp)]);go_upto_region 13 with fail;clear Q R S G T U V O;go_loopw [4,5] (λi _ wr=>∃k:Nat,k<=x/\i=.int .i64 k/\Hid (Fh (Ee s.pc) k=0)/\Be w3 wr) λi _ _=>x-(intOf i).toNat
     case atStart=>exact⟨0,Nat.zero_le _,rfl,Ar rfl,bl0⟩
     obtain⟨k,hk,rfl,O,hb⟩:=hrel;let⟨Q,R,S,G,T,U,V⟩:=st7 (ar.keep hb);by_cases u:k<x
     .have J:=ca.keep hb;obtain⟨D,l,rfl,fs,E,t⟩:=J.at_ u;have b4:=E;obtain⟨E1,d1,E2,d2,E3,d3,E4,d4,rfl,-⟩:=E;have k0:=t 0 _ rfl;rw[Nat.add_zero]at k0;have k1:=t 1 _ rfl;have k2:=t 2 _ rfl;have k3:=t 3 _ rfl;have k4:=t 4 _ rfl;have k5:=t 5 _ rfl;have k6:=t 6 _ rfl;clear t;have I:=Ar (Adn s.pc k);have H:=Ar λ(h2:Ee s.pc k≠0)=>Mk (f:=Ee s.pc) u O.out h2;have a8:=Ar (Ga (f:=Ee s.pc) O.out);let⟨F,b3⟩:=gN (pce s.pc k)
      rw[b3]at k0 k1 k2 k3 k4 k5 k6 b4 I;have bc:=J.take (i:=k) (by omega);have B1:(k:Int)<(x:Int):=by omega
      have S1:(0:Int)<=(k:Int):=by omega
      have S2:(k:Int)<=(c3:Int):=by omega
      let⟨pe,aw⟩:=gN (Ee s.pc k)
      rw[aw]at I H a8;clear b3 aw;go_upto_region 15 with fail;have o:=Aw (Below.refl wr.heap.size wr)
      have HS:=Ar (λy (h:Be wr y)=>show Cq y w.heap.size 3 (.slice (some ⟨D,l,none⟩) x c3)/\Cq y D (l+k*7) (.string F.nm)/\Cq y D (l+k*7+1) (.slice E1 F.ed.length d1)/\Cq y D (l+k*7+2) F.gr/\Cq y D (l+k*7+3) (.slice E2 F.nt.length d2)/\Cq y D (l+k*7+4) (.slice E3 F.cr.length d3)/\Cq y D (l+k*7+5) (.slice E4 F.wd.length d4)/\Cq y D (l+k*7+6) (.bool F.mt) from
       ⟨Aq h G,Aq h k0,Aq h k1,Aq h k2,Aq h k3,Aq h k4,Aq h k5,Aq h k6⟩)
      clear Q R S G T U V k0 k1 k2 k3 k4 k5 k6 J
      go_region_held3 (sB HS.out)
       (with_reducible exact HS.out _ o)
       ((go_at_call 45;refine rR (Aii _ _ k (s.pc.take k) _ F _ (by omega) (bc.keep o) (b4.keep o)) λw2 r=>?_;rw[<-I.out];replace o:=An o r))
      by_cases h0:pe=0
      .subst h0;have b8:=Ar a8.out;go_wp2_with fail;exact⟨⟨k+1,by omega,by go_num,b8,An hb o⟩,by simp[intOf];omega⟩
      have ec:(pe != 0)=true:=by simpa using h0
      have v:=Ar (show c=pe by rw[p.out,if_pos (by rw[H.out h0];exact h0),H.out h0])
      go_wp2_with fail;go_ret;exact⟨by rw[v.out];rfl,An B (An hb o)⟩
     obtain rfl:x=k:=by omega
     have v:=Ar (show Lf s=c by rw[p.out,if_neg (by rw[O.out];simp)])
     go_wp2_with (go_at_call 46;refine rR (Aeu _ s _ a (ba.out.keep hb)) λw4 bd=>?_;rw[v.out])
     go_ret;exact⟨rfl,An B (An hb bd)⟩
end Go.Proofs.YtlogblbfbihleaaGreat

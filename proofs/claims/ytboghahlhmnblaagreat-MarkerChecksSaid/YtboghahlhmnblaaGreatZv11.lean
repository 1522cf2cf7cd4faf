/- Lean texts of the claim. -/
import Derived.Test.YtboghahlhmnblaaGreatZv04
import Derived.Test.YtboghahlhmnblaaGreatZv02
import Derived.Test.YtboghahlhmnblaaGreatZv07
import Derived.Laws.FloatArith
import Derived.Laws.Externs
import Derived.Deep.CutBlock
namespace Go.Proofs.YtboghahlhmnblaaGreat
set_option linter.all false
set_option maxRecDepth 100000
set_option maxHeartbeats 0
open Go.RowKit Go.Proofs.Tryz
variable{a n:World}{b i m:Nat}{c:List Int}{e:Option Addr}{f:Value}{g:List (List Int)}{h:Int}{j:Array Value}{k:TypeId}{l:Int×Int}{o:LP}{V d place:Int}{L base base' drop x:Nat}{w:World}
section
open Ieee
theorem ko{a:Nat}(h:b<2 ^ i):b <<< a<2 ^ (i+a):=by
 rw[Nat.shiftLeft_eq,dJ];exact dD h (Nat.two_pow_pos _)
theorem Rf(h:b<2 ^ (i+m)):b / 2 ^ m<2 ^ i:=by
 rw[dO (Nat.two_pow_pos _),<-dJ];exact h
theorem b2n(b:Bool):b.toNat<=1:=by cases b<;>simp
theorem Akx(w:Toward)(neg:Bool)(h:b<2 ^ (i+drop)):w.cut neg b drop<=2 ^ i:=by
 unfold Toward.cut;dsimp only
 have e:b / 1 <<< min drop (b.log2+2)<2 ^ i:=by
  rw[Nat.shiftLeft_eq,eF];rcases Nat.le_total drop (b.log2+2) with g|g
  .rw[eR g];exact Rf h
  rw[Nat.min_eq_right g];have:b<2 ^ (b.log2+1):=Nat.lt_log2_self;have c:b / 2 ^ (b.log2+2)=0:=dZ (gC this (Nat.pow_lt_pow_right aM aK));rw[c];exact Nat.two_pow_pos _
 have d:∀a:Bool,b / 1 <<< min drop (b.log2+2)+a.toNat<=2 ^ i:=λa=>by have:=b2n a;omega
 exact d _
theorem Ww(neg:Bool)(h:b<2 ^ (i+drop)):Toward.zero.cut neg b drop<2 ^ i:=by
 unfold Toward.cut;dsimp only;rw[Nat.shiftLeft_eq,eF];simp only[Bool.toNat_false,bU];rcases Nat.le_total drop (b.log2+2) with g|g
 .rw[eR g];exact Rf h
 rw[Nat.min_eq_right g];have:b<2 ^ (b.log2+1):=Nat.lt_log2_self;have a:b / 2 ^ (b.log2+2)=0:=dZ (gC this (Nat.pow_lt_pow_right aM aK));rw[a];exact Nat.two_pow_pos _
theorem lp:double.leastPlace = -1074:=aM
theorem bin:double.binade=2 ^ 52:=rfl
theorem sw:double.signWeight=2 ^ 63:=rfl
theorem inf:double.infRung=2047*2 ^ 52:=aM
theorem Afc{e:Nat}(f:e<=2000)(h:b<=e*2 ^ 52+2 ^ 53):∃m i,double.read b=.number false m i/\m<2 ^ 53 /\ -1074<=i/\i <= -1074+e+1:=by
 have a:b<2 ^ 63:=aK
 unfold Format.read;rw[sw,bin,inf,lp,dZ a,cC a];dsimp only;have d:(0 % 2 == 1)=false:=aM
 rw[d];by_cases c:b<2 ^ 52
 .rw[if_pos c];exact⟨_,_,rfl,aK,aK,aK⟩
 rw[if_neg c,if_pos aK];refine⟨_,_,rfl,?_,?_,?_⟩
 .have:=bE b (show 0<2 ^ 52 by decide);omega
 .omega
 have:b / 2 ^ 52<=e+2:=aK
 omega
theorem ei(c:b≠0)(a:b.log2=i)(f : -1074<=h+i-52):double.nearest false b h<=(h+i-52+1074).toNat*2 ^ 52+2 ^ 53:=by
 unfold Format.nearest;rw[if_neg c];dsimp only
 have e:max (h+(b.log2:Int)-(double.fractionBits:Int)) double.leastPlace=h+i-52:=by
  rw[lp,a];show max (h+(i:Int)-52) (-1074)=_;omega
 rw[e,lp,bin,inf];unfold Format.word;rw[if_neg aL];refine bB (Nat.min_le_left _ _) ?_;have d:b<2 ^ (i+1):=by rw[<-a];exact Nat.lt_log2_self
 have g:Toward.even.cut false (b <<< (h-(h+i-52)).toNat) (h+i-52-h).toNat<=2 ^ 53:=by
  apply Akx;refine aZ (ko d) (bJ aM aK)
 have:(h+↑i-52 - -1074).toNat=(h+↑i-52+1074).toNat:=aK
 rw[this];omega
theorem V8(n:Nat):∀b a,Datum.rootFrom n b a<a+2 ^ b:=by
 intro b;induction b with
 | zero=>intro a;simp[Datum.rootFrom]
 | succ t ih =>
   intro a;rw[Datum.rootFrom];have e:1 <<< t=2 ^ t:=by rw[Nat.shiftLeft_eq,eF]
   rw[e];have:=ih (a+2 ^ t);have:=ih a;rw[bZ];split<;>omega
theorem Qv(g:b≠0)(l:b.log2<=L)(k:place+L<=500)(j: -1074<=place+b.log2-52:=by omega):∃m i,double.read (double.write (.number false b place))=.number false m i/\m<2 ^ 53 /\ -1074<=i/\i<=place+L-51:=by
 have h:=ei g rfl j;let⟨m,i,a,f,c,d⟩:=Afc (e:=(place+b.log2-52+1074).toNat) aK h;exact⟨m,i,a,f,c,aK⟩
theorem iw(a:Int):double.write (.number false 0 a)=0:=rfl
theorem Ai7:double.read 0=.number false 0 (-1074):=aM
theorem Jp(h:b<2 ^ (i+1)):b.log2<=i:=by
 rcases bK b with rfl|a
 .simp
 have:=(Nat.log2_lt (by omega:b≠0)).2 h;omega
theorem ag{n:Nat}(D:n<2 ^ 50):∃r,double.sqrt (double.write (.number false n 0))=some r/\∃z:Nat,(double.read r).toInt .zero=some (z:Int)/\z<2 ^ 30:=by
 have zero:∃z:Nat,(double.read 0).toInt .zero=some (z:Int)/\z<2 ^ 30:=⟨0,by rw[Ai7];rfl,aM⟩
 by_cases k:n=0
 .subst k;refine⟨0,?_,zero⟩;rw[iw];unfold Format.sqrt;rw[Ai7];rfl
 let⟨m,i,E,l,w,x⟩:=Qv (L:=49) k (Jp D) (by omega:(0:Int)+(49:Nat)<=500);unfold Format.sqrt;rw[E];unfold Datum.root;by_cases d:m=0
 .subst d;exact⟨_,by simp only[if_true,Option.map_some,iw],zero⟩
 simp only[if_neg d,Bool.false_eq_true,if_false];have C:m.log2<=52:=Jp l;have f:2*(double.fractionBits+2)=108:=rfl;rw[f];let⟨c,h⟩:=gN (108-m.log2+((i-((108-m.log2:Nat):Int)) % 2).toNat)
 have o:c<=109:=aK
 rw[h];generalize s:m <<< c=N;have t:N.log2<=52+c:=Jp (by rw[<-s];have:=ko (a:=c) l;rw[show 52+c+1=53+c by omega];exact this);have F:=V8 N (N.log2 / 2+1) 0;generalize H:Datum.rootFrom N (N.log2 / 2+1) 0=W at F ⊢;have u:=b2n (W*W != N);generalize v:(W*W != N).toNat=b at u ⊢;have e:2*W+b<2 ^ (N.log2 / 2+1+1):=by rw[bZ];omega
 by_cases p:2*W+b=0
 .rw[p];exact⟨_,rfl,by rw[iw];exact zero⟩
 refine⟨_,rfl,?_⟩;have B:=Jp e;let⟨G,q,j,g,y,A⟩:=Qv (L:=N.log2 / 2+1) (place:=(i-(c:Int)) / 2-1) p B aK;rw[j];refine⟨Toward.zero.cut false (G <<< q.toNat) (-q).toNat,?_,?_⟩
 .unfold Datum.toInt Datum.integral;simp[signed]
 apply Ww;refine aZ (ko g) (bJ aM aK)
def TB:Nat:=4294967296
theorem tb:TB=4294967296:=rfl
end
def xj(c:Int):Bool:=decide (48<=c)&&decide (c<=57)
theorem G1:Calls prog 351 #[.int .u8 h] w λe a=>e=.returned (.bool (xj h))/\w=a:=by
 go_enter func351,ntmps351;go_wp2;all_goals go_ret
 all_goals exact⟨Bn (by first|(simp[xj]<;>omega)|(simp[xj, *];done)),rfl⟩
def byI(s:ByteArray)(i:Nat):Int:=if h:i<s.size then (s[i].toNat:Int) else 0
def chB(i:Nat)(c:Int):Bool:=(decide (97<=c)&&decide (c<=122)) || (!(i == 0)&&(c == 95 || xj c))
def Ow(s:ByteArray):Bool:=decide (s.size=0) || decide (24<s.size) || s.toList == [109,105,110] || s.toList == [109,97,120]
def Cy(s:ByteArray):Bool:=!Ow s&&!Bp (λi=>!chB i (byI s i)) s.size
theorem fe(s:ByteArray)(w:World)(h:Ow s=true):Calls prog 308 #[.string s] w (Bz w (.bool false)):=by
 unfold Ow at h;simp at h;go_enter func308,ntmps308;go_upto_region 4 with fail
 all_goals first
  | (go_ret;exact⟨rfl,bl0⟩)
  | (exfalso;simp_all;done)
  | (exfalso;simp_all;omega)
theorem Wm(s:ByteArray)(w:World)(h:Ow s=false):Calls prog 308 #[.string s] w (Bz w (.bool (Cy s))):=by
 have z:=Ar (show Cy s=!Bp (fun i=>!chB i (byI s i)) s.size by unfold Cy;rw[h];rfl);unfold Ow at h;simp only[Bool.or_eq_false_iff,decide_eq_false_iff_not]at h;obtain⟨⟨⟨E,F⟩,L⟩,M⟩:=h;have G:(s.size:Int)<=24:=aK
 have J:((s.size:Int) == 0)=false:=by rw[eP];omega
 have K:decide (24<(s.size:Int))=false:=by rw[decide_eq_false_iff_not];omega
 clear E F;go_enter func308,ntmps308;go_upto_region 4 with fail;go_loopw [3,4,5,24] (fun _ _ _ i wr=>∃k:Nat,k<=s.size/\i=k/\Hid (Bp (fun i=>!chB i (byI s i)) k=false)/\wr=w) (fun _ _ _ i _=>s.size-(intOf i).toNat)
 case atStart=>exact⟨0,aB,rfl,Bp.zero _,rfl⟩
 obtain⟨k,N,rfl,v,rfl⟩:=hrel;by_cases o:k<s.size
 ·have I:(k:Int)<(s.size:Int):=aK
  obtain⟨c,H⟩:∃c:Int,(s[k].toNat:Int)=c:=⟨_,rfl⟩
  have n:byI s k=c:=by unfold byI;rw[iI o,H]
  obtain⟨t,A⟩:∃t,((k:Int) == 0)=t:=⟨_,rfl⟩
  have j:(k == 0)=t:=by rw[<-A];cases k<;>rfl
  obtain⟨C,q⟩:∃d,xj c=d:=⟨_,rfl⟩
  obtain⟨B,p⟩:∃u,(c == 95)=u:=⟨_,rfl⟩
  have r:(c != 95)=!B:=by rw[<-p];rfl
  have g:=Ar n;rcases(show (97<=c/\c<=122)\/(c<97\/97<=c/\decide (c<=122)=false) by rw[decide_eq_false_iff_not];omega) with⟨l1,l2⟩|a
  ·have b:=Ar (show chB k c=true by unfold chB;simp[l1,l2]);clear n j q r p;have m:=Bp.succ (f:=fun i=>!chB i (byI s i)) v.out (by rw[g.out,b.out];rfl)
   skip
   all_goals go_wp2_with (go_at_call 351;refine aG (G1) ?_)
   all_goals (first|exact aE ⟨m,trivial⟩|(go_roundw;(case rel=>exact⟨k+1,aK,aP,m,rfl⟩);(case measure=>simp[intOf];omega)))
  have b:=Ar (show chB k c=(!t&&(B || C)) by
   have:(decide (97<=c)&&decide (c<=122))=false:=by rcases a with h|⟨_,h⟩<;>simp at h ⊢<;>omega
   unfold chB;rw[this,j,p,q];rfl)
  clear n j;cases t with
  | true =>
    have y:=Ar (show Cy s=false by rw[z.out,Bp.yes (f:=fun i=>!chB i (byI s i)) o (by rw[g.out,b.out];rfl)];rfl);rcases a with a|⟨a,l⟩
    all_goals go_wp2_with (go_at_call 351;refine aG (G1) ?_)
    all_goals (go_ret;exact⟨by rw[y.out];rfl,bl0⟩)
  | false =>
    cases B with
    | true =>
      have m:=Bp.succ (f:=fun i=>!chB i (byI s i)) v.out (by rw[g.out,b.out];rfl);rcases a with a|⟨a,l⟩
      all_goals go_wp2_with (go_at_call 351;refine aG (G1) ?_)
      all_goals (first|exact aE ⟨m,trivial⟩|(go_roundw;(case rel=>exact⟨k+1,aK,aP,m,rfl⟩);(case measure=>simp[intOf];omega)))
    | false =>
      cases C with
      | true =>
        have m:=Bp.succ (f:=fun i=>!chB i (byI s i)) v.out (by rw[g.out,b.out];rfl);rcases a with a|⟨a,l⟩
        all_goals go_wp2_with (go_at_call 351;refine aG (G1) ?_)
        all_goals (first|exact aE ⟨m,trivial⟩|(go_roundw;(case rel=>exact⟨k+1,aK,aP,m,rfl⟩);(case measure=>simp[intOf];omega)))
      | false =>
        have y:=Ar (show Cy s=false by rw[z.out,Bp.yes (f:=fun i=>!chB i (byI s i)) o (by rw[g.out,b.out];rfl)];rfl);rcases a with a|⟨a,l⟩
        all_goals go_wp2_with (go_at_call 351;refine aG (G1) ?_)
        all_goals (go_ret;exact⟨by rw[y.out];rfl,bl0⟩)
 obtain rfl:k=s.size:=aK
 have D:=Ar (show Cy s=true by rw[z.out,v.out];rfl)
 go_wp2;go_ret;exact⟨by rw[D.out];rfl,bl0⟩
def iq(p q:Int×Int):Nat:=Ca (1000000*((q.1-p.1)*(q.1-p.1)+(q.2-p.2)*(q.2-p.2))).toNat
theorem Yj(f:b<9223372036854775808:=by omega):Ca b<=4294967296:=by
 unfold Ca;split
 .omega
 refine bB (Afs _) ?_;have h:=(Lib.bitLenAux_bounds 64 b (by have e:(2:Nat) ^ 64=18446744073709551616:= aM;omega) aK).2.1
 have c:Lib.bitLen b<=63:=by
  apply bT;intro d;have:2 ^ 63<=2 ^ (Lib.bitLen b-1):=bJ aM aK;have e:(2:Nat) ^ 63=9223372036854775808:=aM
  have a:2 ^ (Lib.bitLen b-1)<=b:=h;omega
 exact bJ aM (show (Lib.bitLen b+1) / 2<=32 by omega)
def Nd(p:Int×Int):Prop := -1048576<=p.1/\p.1<=1048576 /\ -1048576<=p.2/\p.2<=1048576
theorem Na{d M:Int}(b: -M<=d:=by omega)(a:d<=M:=by omega):0<=d*d/\d*d<=M*M:=by
 constructor
 .rcases iH 0 d with h|h
  .exact dT h h
  exact eN h h
 rcases iH 0 d with h|h
 .exact Int.mul_le_mul a a h aK
 have:=Int.mul_le_mul (show -d<=M by omega) (show -d<=M by omega) (show 0 <= -d by omega) (show 0<=M by omega)
 rwa [Int.neg_mul_neg] at this
theorem V6{q:Int×Int}(c:Nd l)(hq:Nd q):0<=(q.1-l.1)*(q.1-l.1)/\(q.1-l.1)*(q.1-l.1)<=4398046511104/\0<=(q.2-l.2)*(q.2-l.2)/\(q.2-l.2)*(q.2-l.2)<=4398046511104:=by
 obtain⟨e,f,g,h⟩:=c;obtain⟨i,j,k,m⟩:=hq;have a:=Na (d:=q.1-l.1) (M:=2097152);have b:=Na (d:=q.2-l.2) (M:=2097152);exact⟨a.1,a.2,b.1,b.2⟩
theorem kx{q:Int×Int}(e:Nd l)(hq:Nd q):iq l q<=4294967296:=by
 let⟨a,b,c,d⟩:=V6 e hq;exact Yj
theorem mj(x y a b:Int)(w:World)(q:Nd (x,y))(hq:Nd (a,b)):Calls prog 252 #[.agg #[x,y],.agg #[a,b]] w (Bz w (iq (x,y) (a,b):Int)):=by
 let⟨A,s2,B,C⟩:=V6 q hq;obtain⟨L,M,N,O⟩:=q;obtain⟨P,Q,R,S⟩:=hq;dsimp only at *
 let⟨u,k⟩:=gN ((a-x)*(a-x))
 let⟨v,l⟩:=gN ((b-y)*(b-y))
 have p:=Ar (show iq (x,y) (a,b)=Ca (1000000*(u+v)).toNat by unfold iq;dsimp only;rw[k,l]);rw[k]at A s2;rw[l]at B C;let⟨t,s⟩:∃t:Nat,1000000*(u+v)=(t:Int):=⟨(1000000*(u+v)).toNat,aK⟩
 have j:(1000000*(u+v)).toNat=t:=aK
 rw[j]at p;have n:t<9223372036854775808:=aK
 let⟨c,h⟩:=gN (a-x)
 let⟨f,i⟩:=gN (b-y)
 rw[h]at k;rw[i]at l
 go_enter func252,ntmps252;go_wp2_with fail;refine Bh w [(⟨w,0,none⟩,x),(⟨w,1,none⟩,y),(⟨w+1,0,none⟩,a),(⟨w+1,1,none⟩,b)] ⟨(Ao (Ao (aV _ _))),aR⟩ ?_
 repeat
  apply Cx
  .rfl
  .intro T o;have z:=o.2;simp only[AC]at z
   go_simp
   first|rfl
  go_simp
 refine cH ?_;intro U g;have r:=g.1
 go_wp2_with (go_at_call 316;refine rR (dh t n) λV m=>?_)
 go_ret;exact⟨by rw[p.out];rfl,An r m⟩
def Vm(l:LP):Nat->Nat
 | 0=>0
 | k+1=>Vm l k+iq (gt l k) (gt l (k+1))
def My(l:LP)(n:Nat):Int×Int:=if plW l n=0 then ((Vm l (n-1):Int),0) else (0,plW l n)
theorem Lb{k:Nat}(h:plW o b=0)(hk:k<b:=by omega):Nd (gt o k)/\2<=b/\b<=40:=by
 unfold plW at h;split at h
 .cases h
 split at h
 .cases h
 split at h
 .cases h
 rename_i d e c;refine⟨?_,aK,aK⟩
 have a:Cc 1048576 (gt o k)=false:=by
  cases ho:Cc 1048576 (gt o k) with
  | false=>rfl
  | true=>exact absurd (Bp.yes (f:=λi=>Cc 1048576 (gt o i)) hk ho) c
 unfold Cc at a;simp at a;unfold Nd;omega
theorem Wh{l:LP}{n:Nat}(h:plW l n=0):∀k,k+1<=n->Vm l k<=k*4294967296
 | 0,_=>by simp[Vm]
 | k+1,hk=>by
   have ih:=Wh h k (by omega);have:=kx (Lb h (k:=k)).1 (Lb h (k:=k+1)).1;rw[Vm];omega
theorem mq(A:Option Addr)(d n:Nat)(l:LP)(w:World)(O:n<=9223372036854775807)(N:SpS w A n l):Calls prog 198 #[.slice A n d] w (Bz w (.tuple #[(My l n).1,(My l n).2])):=by
 by_cases a:plW l n=0
 .have u:=Ar (show My l n=((Vm l (n-1):Int),0) by unfold My;rw[if_pos a]);have r:=Ar a
  have a6:2<=n/\n<=40:=by
   unfold plW at a;split at a
   .cases a
   split at a
   .cases a
   omega
  let⟨m,hm⟩:∃m,m+1=n:=⟨n-1,aK⟩
  rw[show n-1=m by omega]at u;have hN:(n:Int)-1=(m:Int):=aK
  clear a;go_enter func198,ntmps198
  go_upto_region 6 with (go_at_call 195;refine rR (Ih A d n l O N) λP f=>?_;rw[r.out])
  go_loopw [5,6,15] (λs _ i wr=>∃k:Nat,k<=m/\i=k/\s=.int .i64 (Vm l k:Int)/\Be w wr) λ_ _ i _=>m-(intOf i).toNat
  case atStart=>exact⟨0,aB,rfl,rfl,f⟩
  obtain⟨k,hk,rfl,rfl,t⟩:=hrel;by_cases a1:k<m
  .obtain⟨b,c,rfl,Z,x⟩:=N.at_ (k:=0) aK;have V:=Aq t (x k aK).1;have W:=Aq t (x k aK).2;have X:=Aq t (x (k+1) aK).1;have Y:=Aq t (x (k+1) aK).2;have D:=(Lb r.out (k:=k)).1;have E:=(Lb r.out (k:=k+1)).1;have z:=kx D E;have L:=Wh r.out k aK;have C:=Ar (show Vm l (k+1)=Vm l k+iq (gt l k) (gt l (k+1)) from rfl);have Q:(k:Int)<(n:Int):=aK
   have R:(k:Int)+1<(n:Int):=aK
   have U:IntKind.i64.wrap ((k:Int)+1)=(k:Int)+1:=aD
   have S:(0:Int)<=(k:Int)+1:=aK
   have T:((k:Int)+1).toNat=k+1:=aK
   let⟨p1,h⟩:=gN (gt l k)
   let⟨p2,j⟩:=gN (gt l (k+1))
   obtain⟨G,I⟩:=p1;obtain⟨H,J⟩:=p2;rw[h]at V W D;rw[j]at X Y E;rw[h,j]at z C;let⟨q,o⟩:=gN (iq (G,I) (H,J))
   rw[o]at z C;let⟨ln,y⟩:=gN (Vm l k)
   rw[y]at L C ⊢;have W2:IntKind.i64.wrap ((ln:Int)+(q:Int))=(ln:Int)+(q:Int):=aD
   have g:∀F:World,Calls prog 252 #[.agg #[G,I],.agg #[H,J]] F (Bz F (q:Int)):=λF=>by have:=mj G I H J F D E;rwa [o] at this
   clear x h j o y D E;go_wp2_with fail;refine Bh wr [(⟨b,c+k*2,none⟩,G),(⟨b,c+k*2+1,none⟩,I),(⟨b,c+(k+1)*2,none⟩,H),(⟨b,c+(k+1)*2+1,none⟩,J)] ⟨bl0,aR⟩ ?_
   repeat
    apply Cx
    .rfl
    .intro P B;have hx:=B.2;simp only[AC]at hx
     go_simp
     first|rfl|exact Bw B (g _)
    go_simp
   refine cH ?_;intro w5 v;have K:=An t v.1;clear U Q R S T;go_wp2_with fail;exact aE ⟨by rw[C.out];go_num,K⟩
  obtain rfl:m=k:=aK
  go_wp2
  go_ret2
  exact⟨by rw[u.out];rfl,t⟩
 have u:=Ar (show My l n=(0,plW l n) by unfold My;rw[if_neg a]);let⟨p,M⟩:=gN (plW l n)
 have r:=Ar M;rw[M]at u a;clear M;go_enter func198,ntmps198
 go_wp2_with (go_at_call 195;refine rR (Ih A d n l O N) λP f=>?_;rw[r.out])
 go_ret2
 exact⟨by rw[u.out];rfl,f⟩
theorem Afr(i:0<b):∀x,0<x->b<(x+1)*(x+1)->R5 b x*R5 b x<=b/\b<(R5 b x+1)*(R5 b x+1):=by
 intro x;induction x using Nat.strongRecOn with
 | _ x ih =>
   intro d f;rw[R5];split
   .rename_i h;have hinv:=Ys (n:=b) d
    have a:0<(x+b / x) / 2:=by
     rcases bK ((x+b / x) / 2) with g|g
     .have c:x=1/\b / x=0:=by
       generalize b / x=q at g ⊢;omega
      obtain⟨rfl,e⟩:=c;rw[Nat.div_one]at e;omega
     exact g
    exact ih _ h a hinv
   rename_i h;refine⟨?_,f⟩
   have hq:x<=b / x:=by
    generalize b / x=q at h ⊢;omega
   exact(fC d).1 hq
theorem Jn{n:Nat}(hn:n<9223372036854775808:=by omega):Ca n*Ca n<=n/\n<(Ca n+1)*(Ca n+1):=by
 unfold Ca;split
 .rename_i h;have:n=0\/n=1:=aK
  rcases this with rfl|rfl<;>simp
 rename_i h;have a:=(Lib.bitLenAux_bounds 64 n (by have e:(2:Nat) ^ 64=18446744073709551616:= aM;omega) aK).2.2;refine Afr aK _ (Nat.two_pow_pos _) ?_;have b:n<2 ^ Lib.bitLen n:=a
 have:2 ^ Lib.bitLen n<=2 ^ ((Lib.bitLen n+1) / 2)*2 ^ ((Lib.bitLen n+1) / 2):=by
  rw[<-dJ];exact bJ aM aK
 have c:2 ^ ((Lib.bitLen n+1) / 2)*2 ^ ((Lib.bitLen n+1) / 2)<=(2 ^ ((Lib.bitLen n+1) / 2)+1)*(2 ^ ((Lib.bitLen n+1) / 2)+1):=cJ (dU _) (dU _);omega
theorem Og{n a b:Nat}(c:a*a<=n)(d:n<(a+1)*(a+1))(e:b*b<=n)(f:n<(b+1)*(b+1)):a=b:=by
 rcases fV a b with g|g|g
 .have:=cJ (show a+1<=b by omega) (show a+1<=b by omega);omega
 .exact g
 have:=cJ (show b+1<=a by omega) (show b+1<=a by omega);omega
theorem yg: ((f318).name == "runtime.NumGoroutine") = false := by kernel_rfl
theorem yi:(f318).body.isNone=true:=aN
theorem ye:Extern.findNext f318=none:=aN
theorem yh:Extern.find f318=some Extern.MathSqrt.sqrt:=aN
theorem yw(h:Ieee.double.sqrt x=some b)(w:World):(callFunc 318 #[.float .f64 x]).run prog w=.ok (.value (.float .f64 b)) w:=by
 rw[run_callFunc_extern func318 yg yi ye yh];have a:FloatKind.f64.format.sqrt x=some b:=h;have e:Extern.MathSqrt.sqrt #[.float .f64 x]=(match FloatKind.f64.format.sqrt x with|some b=>pure (.float .f64 b)|none=>do pure (.float .f64 (<-choose (.nanBits .f64 x x)))):=rfl;rw[e,a];rfl
theorem po(h:Ieee.double.sqrt x=some b):Calls prog 255 #[.float .f64 x] w λe a=>e=.returned (.float .f64 b)/\w=a:=by
 have c:=yw h;clear h;go_in;go_wp2;go_ret;exact⟨rfl,rfl⟩
theorem vh(n:Nat)(Q:n<1125899906842624):Calls prog 200 #[(n:Int)] w λe M=>e=.returned (.int .i64 (Ca n:Int))/\w=M:=by
 let⟨p,d⟩:=Jn (n:=n);generalize I:Ca n=R at p d ⊢;have D:=Ar λa G H=>Og (n:=n) (a:=a) (b:=R) G H p d;let⟨r,u,z,B,v⟩:=ag (n:=n) (by have e:(2:Nat) ^ 50=1125899906842624:= aM;omega);have h:(2:Nat) ^ 30=1073741824:=aM
 rw[h]at v;have c:=λ(w:World)=>run_convert_int_float (P:=prog) w 3 292 .i64 .f64 (n:Int) (by rw[underlying3];rfl) underlying292
 have k:floatOfInt .f64 (n:Int)=Ieee.double.write (.number false n 0):=by
  unfold floatOfInt FloatKind.nearest FloatKind.encode FloatKind.format;simp[show ¬((n:Int)<0) by omega]
 rw[k]at c;generalize L:Ieee.double.write (.number false n 0)=x at u c
 have j:floatToIntVal .f64 r .i64=some (z:Int):=by
  unfold floatToIntVal FloatKind.decode FloatKind.format;have E:IntKind.i64.min = -9223372036854775808:=aM
  have F:IntKind.i64.max=9223372036854775807:=aM
  rw[B];simp only[E,F];rw[if_pos aK]
 have t:=λ(w:World)=>run_convert_float_int (P:=prog) w 292 3 .f64 .i64 r (z:Int) (by rw[underlying292];rfl) underlying3 j
 have f:=Ar u;go_in
 go_upto_region 2 with (go_at_call 255;refine aG (po f.out) ?_)
 go_loop [3] (λi=>∃a:Nat,i=a/\a<=1073741824) λi=>(intOf i).toNat
 case atStart=>exact⟨z,rfl,aK⟩
 obtain⟨a,rfl,s⟩:=hrel;let⟨q,hq⟩:=gN (a*a)
 have m:q<=1152921504606846976:=by rw[<-hq];exact cJ s s
 have y:(a:Int)*(a:Int)=(q:Int):=by rw[<-hq];simp
 have A:IntKind.i64.wrap (q:Int)=q:=aD
 by_cases l:n<q
 .have J:0<a:=by
   rcases bK a with g|g
   .subst g;omega
   exact g
  have o:=Ar hq;go_wp2;exact⟨⟨a-1,by rw[show ((a-1:Nat):Int)=(a:Int)-1 by omega],aK⟩,aI⟩
 have o:=Ar (show a*a<=n by omega);go_wp2
 go_loop [3] (λi=>∃b:Nat,i=b/\b<=1073741824/\Hid (b*b<=n)) λi=>1073741825-(intOf i).toNat
 case atStart=>exact⟨a,rfl,s,o⟩
 obtain⟨b,rfl,N,d⟩:=hrel;let⟨q,hq⟩:=gN ((b+1)*(b+1))
 have m:q<=1152921506754330625:=by rw[<-hq];exact cJ (show b+1<=1073741825 by omega) (show b+1<=1073741825 by omega)
 have y:((b:Int)+1)*((b:Int)+1)=(q:Int):=by rw[<-hq];simp
 by_cases l:q<=n
 .have K:b<1073741824:=by
   apply bT;intro O;have:=cJ (show 1073741824<=b by omega) (show 1073741824<=b by omega);have:=d.out;omega
  have o:=Ar (show (b+1)*(b+1)<=n by omega);go_wp2;exact⟨⟨b+1,aP,aK,o⟩,aI⟩
 have C:=Ar (D.out b d.out aK);go_wp2;go_ret;exact⟨by rw[C.out];rfl,rfl⟩
theorem Ahk(z:Int):Calls prog 289 #[z] w λe a=>e=.returned (.bool (decide (1048576<z) || decide (z < -1048576)))/\w=a:=by
 go_enter func289,ntmps289;go_wp2;all_goals go_ret
 all_goals exact⟨rfl,rfl⟩
theorem zw(x y:Int):((decide (1048576<x) || decide (x < -1048576)) || (decide (1048576<y) || decide (y < -1048576)))=Cc 1048576 (x,y):=by
 unfold Cc;rw[Bool.or_comm (decide (1048576<x)),Bool.or_comm (decide (1048576<y))];simp[Bool.or_assoc]
theorem Anx(l:LP)(E:SpS w e i l)(K:i<=1000000:=by omega):Calls prog 219 #[.slice e i b] w λg G=>g=.returned (.bool (Bp (λa=>Cc 1048576 (gt l a)) i))/\w=G:=by
 go_enter func219,ntmps219;go_wp2;go_loopw [3] (λa wr=>∃k:Nat,k<=i/\a=k/\Hid (Bp (λa=>Cc 1048576 (gt l a)) k=false)/\w=wr) λa _=>i-(intOf a).toNat
 case atStart=>exact⟨0,aB,rfl,Bp.zero _,rfl⟩
 obtain⟨k,J,rfl,A,rfl⟩:=hrel;by_cases d:k<i
 .obtain⟨I,F,rfl,D,z⟩:=E.at_ d;let⟨u,v⟩:=z k d;let⟨⟨x,y⟩,m⟩:∃p,gt l k=p:=⟨_,rfl⟩
  rw[m]at u v;dsimp only at u v;have H:(k:Int)<(i:Int):=aK
  have o:=Ar (zw x y);have t:=Ar m;let⟨p,h⟩:=gN (decide (1048576<x) || decide (x < -1048576))
  let⟨q,j⟩:=gN (decide (1048576<y) || decide (y < -1048576))
  rw[h,j]at o;have r:=Ar h;have s:=Ar j;clear m h j z;cases p with
  | true =>
    have n:=Ar (Bp.yes (f:=λa=>Cc 1048576 (gt l a)) d (show Cc 1048576 (gt l k)=true by rw[t.out,<-o.out];rfl))
    go_wp2_with (first
     | (go_at_call 289;have hq2:=c;refine aG (Ahk y) ?_;rw[s.out])
     | (go_at_call 289;refine aG (Ahk x) ?_;rw[r.out];have c:=trivial))
    go_ret;exact⟨by rw[n.out];rfl,rfl⟩
  | false =>
    cases q with
    | true =>
      have n:=Ar (Bp.yes (f:=λa=>Cc 1048576 (gt l a)) d (show Cc 1048576 (gt l k)=true by rw[t.out,<-o.out];rfl))
      go_wp2_with (first
      | (go_at_call 289;have hq2:=c;refine aG (Ahk y) ?_;rw[s.out])
      | (go_at_call 289;refine aG (Ahk x) ?_;rw[r.out];have c:=trivial))
      go_ret;exact⟨by rw[n.out];rfl,rfl⟩
    | false =>
      have n:=Ar (Bp.succ (f:=λa=>Cc 1048576 (gt l a)) A.out (show Cc 1048576 (gt l k)=false by rw[t.out,<-o.out];rfl))
      go_wp2_with (first
      | (go_at_call 289;have hq2:=c;refine aG (Ahk y) ?_;rw[s.out])
      | (go_at_call 289;refine aG (Ahk x) ?_;rw[r.out];have c:=trivial))
      exact aE ⟨n,trivial⟩
 obtain rfl:i=k:=aK
 go_wp2;go_ret;exact⟨by rw[A.out];rfl,rfl⟩
def RtI(n j r:Nat):Prop:=r*r<=n/\n<(r+2 ^ j)*(r+2 ^ j)/\r+2 ^ j<=4294967296
theorem RtI.yes{k:Nat}(h:RtI b (k+1) i)(d:(i+2 ^ k)*(i+2 ^ k)<=b):RtI b k (i+2 ^ k):=by
 obtain⟨-,a,c⟩:=h;have e:i+2 ^ (k+1)=i+2 ^ k+2 ^ k:=by rw[bZ];omega
 rw[e]at a c;exact⟨d,a,c⟩
theorem RtI.no(h:RtI b (i+1) m)(d:b<(m+2 ^ i)*(m+2 ^ i)):RtI b i m:=by
 obtain⟨a,-,c⟩:=h;rw[bZ]at c;exact⟨a,d,aK⟩
theorem Aml(n:Nat)(l:n<9223372036854775808):Calls prog 367 #[(n:Int)] w λe D=>e=.returned (.int .i64 (Ca n:Int))/\w=D:=by
 have g:=Ar (Jn (hn:=l))
 go_enter func367,ntmps367;go_wp2;go_loopw [3,4,5] (λo k _ wr=>∃j r:Nat,j<=32/\o=r/\k=.int .i64 ((j:Int)-1)/\Hid (RtI n j r)/\w=wr) λ_ k _ _=>(intOf k+1).toNat
 case atStart=>exact⟨32,0,aK,rfl,aP,Ar ⟨aK,aO,aM⟩,rfl⟩
 obtain⟨j,r,L,rfl,rfl,a,rfl⟩:=hrel;cases j with
 | zero =>
   have b:=Ar (Og a.out.1 a.out.2.1 g.out.1 g.out.2);go_wp2;go_ret;exact⟨by rw[<-b.out];rfl,rfl⟩
 | succ k =>
   have x:((k+1:Nat):Int)-1=(k:Int):=aK
   rw[x];let⟨z,A,i⟩:=a.out;rw[bZ]at i;have d:=Ar λh=>a.out.yes h;have c:=Ar λh=>a.out.no h;let⟨m,f⟩:=gN (2 ^ k)
   have s:(2:Int) ^ k=(m:Int):=by rw[<-f,Int.natCast_pow];rfl
   rw[f]at i d c;let⟨t,v⟩:=gN (r+m)
   rw[v]at d c;have B:0<m:=by rw[<-f];exact dE aM
   let⟨q,hq⟩:=gN (t*t)
   have C:q<18446744073709551616:=by
    rw[<-hq];have:=cJ (show t<=4294967295 by omega) (show t<=4294967295 by omega);omega
   have u:(t:Int)*(t:Int)=(q:Int):=by rw[<-Int.natCast_mul,hq]
   rw[hq]at d c
   have G:IntKind.i64.wrap ((r:Int)+(m:Int))=(t:Int):=aD
   by_cases p:q<=n
   .have b:=Ar (d.out p);have y:(q:Int)<=(n:Int):=aK
    go_wp2;exact⟨⟨k,t,aK,rfl,aP,b,trivial⟩,aJ⟩
   have b:=Ar (c.out aK)
   go_wp2;exact⟨⟨k,r,aK,rfl,aP,b,trivial⟩,aJ⟩
theorem Q8(A:Option Addr)(x n:Nat)(l:LP)(B:SpS w A n l)(hl:n<=9223372036854775807:=by omega):Calls prog 164 #[.slice A n x] w (Bz w (plW l n)):=by
 by_cases s:40<n
 .have a:=Ar (show plW l n=5 by unfold plW;rw[if_pos s]);go_enter func164,ntmps164;go_wp2;go_ret;exact⟨by rw[a.out];rfl,bl0⟩
 by_cases y:n<2
 .have a:=Ar (show plW l n=11 by unfold plW;rw[if_neg s,if_pos y]);go_enter func164,ntmps164;go_wp2;go_ret;exact⟨by rw[a.out];rfl,bl0⟩
 have u:=Ar (show plW l n=if Bp (λi=>Cc 1048576 (gt l i)) n then 3 else if Bp (λi=>eqS (gt l i) (gt l (i+1))) (n-1) then 11 else 0 by unfold plW;rw[if_neg s,if_neg y]);have R:=Ea;have X:n<=40:=aK
 have Y:2<=n:=aK
 clear s y;cases ho:Bp (λi=>Cc 1048576 (gt l i)) n with
 | true =>
   have a:=Ar (show plW l n=3 by rw[u.out,ho];rfl);have t:=Ar ho;clear ho;go_enter func164,ntmps164
   go_wp2_with (go_at_call 219;refine(Anx l B).mono ?_;rintro e V ⟨rfl,rfl⟩;rw[t.out])
   go_ret;exact⟨by rw[a.out];rfl,bl0⟩
 | false =>
   have v:=Ar (show plW l n=if Bp (λi=>eqS (gt l i) (gt l (i+1))) (n-1) then 11 else 0 by rw[u.out,ho];rfl);have t:=Ar ho;clear ho u;let⟨m,I⟩:∃m,m+1=n:=⟨n-1,aK⟩
   rw[show n-1=m by omega]at v;have C:=Ar I;clear I;go_enter func164,ntmps164
   go_upto_region 8 with (go_at_call 219;refine(Anx l B).mono ?_;rintro e V ⟨rfl,rfl⟩;rw[t.out])
   go_loopw [3] (λi wr=>∃j:Nat,1<=j/\j<=n/\i=j/\Hid (Bp (λi=>eqS (gt l i) (gt l (i+1))) (j-1)=false)/\Be w wr) λi _=>n-(intOf i).toNat
   case atStart=>exact⟨1,aA,aK,rfl,Bp.zero _,bl0⟩
   obtain⟨j,S,W,rfl,z,c⟩:=hrel;by_cases T:j<n
   .obtain⟨k,H⟩:∃k,j-1=k:=⟨_,rfl⟩
    rw[H]at z;obtain⟨b,U,rfl,Q,q⟩:=B.at_ (k:=0) aK;have D:=Aq c (q k aK).1;have E:=Aq c (q k aK).2;have F:=Aq c (q j aK).1;have G:=Aq c (q j aK).2;let⟨⟨J,L⟩,d⟩:∃p,gt l k=p:=⟨_,rfl⟩
    let⟨⟨K,M⟩,g⟩:∃p,gt l j=p:=⟨_,rfl⟩
    rw[d]at D E;rw[g]at F G;dsimp only at D E F G;have N:(j:Int)<(n:Int):=aK
    have P:IntKind.i64.wrap ((j:Int)-1)=(k:Int):=aD
    have O:(k:Int)<(n:Int):=aK
    have r:Hid (k<m/\j=k+1):=Ar ⟨by have:=C.out;omega,aK⟩;have o:Hid (eqS (gt l k) (gt l (k+1))=eqS (K,M) (J,L)):=Ar (by rw[show k+1=j by omega,d,g];unfold eqS;rw[cZ];simp;omega);clear q d g H;go_wp2;go_quiet (fail);have h:Be w (wr.drewN nq):=Bd c _;clear c N O P;cases he:eqS (K,M) (J,L) with
    | true =>
      have a:=Ar (show plW l n=11 by rw[v.out,if_pos (Bp.yes (f:=λi=>eqS (gt l i) (gt l (i+1))) r.out.1 (o.out.trans he))])
      go_wp2;go_ret;exact⟨by rw[a.out];rfl,h⟩
    | false =>
      have a:=Bp.succ (f:=λi=>eqS (gt l i) (gt l (i+1))) z.out (o.out.trans he)
      go_wp2;exact⟨⟨j+1,aK,aK,aP,by rw[show j+1-1=k+1 by have:=r.out.2;omega];exact a,h⟩,aI⟩
   obtain rfl:j=n:=aK
   have a:=Ar (show plW l j=0 by rw[v.out,show m=j-1 by have:=C.out;omega,z.out];rfl)
   go_wp2;go_ret;exact⟨by rw[a.out];rfl,c⟩
theorem Ao8(x y a b:Int)(w:World)(p:Nd (x,y))(hq:Nd (a,b)):Calls prog 347 #[.agg #[x,y],.agg #[a,b]] w (Bz w (iq (x,y) (a,b):Int)):=by
 let⟨z,s2,A,B⟩:=V6 p hq;obtain⟨K,L,M,N⟩:=p;obtain⟨O,P,Q,R⟩:=hq;dsimp only at *
 let⟨u,k⟩:=gN ((a-x)*(a-x))
 let⟨v,l⟩:=gN ((b-y)*(b-y))
 have o:=Ar (show iq (x,y) (a,b)=Ca (1000000*(u+v)).toNat by unfold iq;dsimp only;rw[k,l]);rw[k]at z s2;rw[l]at A B;let⟨t,r⟩:∃t:Nat,1000000*(u+v)=(t:Int):=⟨(1000000*(u+v)).toNat,aK⟩
 have j:(1000000*(u+v)).toNat=t:=aK
 rw[j]at o;have m:t<9223372036854775808:=aK
 let⟨c,h⟩:=gN (a-x)
 let⟨f,i⟩:=gN (b-y)
 rw[h]at k;rw[i]at l
 go_enter func347,ntmps347;go_wp2_with fail;refine Bh w [(⟨w,0,none⟩,x),(⟨w,1,none⟩,y),(⟨w+1,0,none⟩,a),(⟨w+1,1,none⟩,b)] ⟨(Ao (Ao (aV _ _))),aR⟩ ?_
 repeat
  apply Cx
  .rfl
  .intro S n;have s:=n.2;simp only[AC]at s
   go_simp
   first|rfl
  go_simp
 refine cH ?_;intro T g;have q:=g.1
 go_wp2_with (go_at_call 367;refine aG (Aml t m) ?_)
 go_ret;exact⟨by rw[o.out];rfl,q⟩
theorem Ajk(A:Option Addr)(I n:Nat)(l:LP)(W:SpS w A n l)(c:plW l n=0):Calls prog 287 #[.slice A n I] w (Bz w (Vm l (n-1):Int)):=by
 have H:=Ar c
 have V:2<=n/\n<=40:=by
  unfold plW at c;split at c
  .cases c
  split at c
  .cases c
  omega
 clear c;go_enter func287,ntmps287;go_upto_region 3 with fail;go_loopw [3,4] (λs i wr=>∃j k:Nat,k+1=j/\j<=n/\i=j/\s=.int .i64 (Vm l k:Int)/\Be w wr) λ_ i _=>n-(intOf i).toNat
 case atStart=>exact⟨1,0,rfl,aK,rfl,rfl,bl0⟩
 obtain⟨j,k,e,U,rfl,rfl,o⟩:=hrel;have G:=Ar e;by_cases L:j<n
 .obtain⟨b,a,rfl,T,r⟩:=W.at_ (k:=0) aK;have P:=Aq o (r k aK).1;have Q:=Aq o (r k aK).2;have R:=Aq o (r j aK).1;have S:=Aq o (r j aK).2;have y:=(Lb H.out (k:=k)).1;have z:=(Lb H.out (k:=j)).1;have u:=kx y z;have K:=Wh H.out k aK;have x:=Ar (show Vm l j=Vm l k+iq (gt l k) (gt l j) by rw[<-e];rfl);have M:(j:Int)<(n:Int):=aK
  have N:(k:Int)<(n:Int):=aK
  have O:IntKind.i64.wrap ((j:Int)-1)=(k:Int):=aD
  let⟨⟨C,E⟩,f⟩:∃p,gt l k=p:=⟨_,rfl⟩
  let⟨⟨D,F⟩,g⟩:∃p,gt l j=p:=⟨_,rfl⟩
  rw[f]at P Q y;rw[g]at R S z;rw[f,g]at u x;let⟨m,h⟩:=gN (iq (C,E) (D,F))
  rw[h]at u x;let⟨ln,t⟩:=gN (Vm l k)
  rw[t]at K x ⊢;have Y:IntKind.i64.wrap ((ln:Int)+(m:Int))=(ln:Int)+(m:Int):=aD
  have d:∀B:World,Calls prog 347 #[.agg #[C,E],.agg #[D,F]] B (Bz B (m:Int)):=λB=>by have:=Ao8 C E D F B y z;rwa [h] at this
  clear r f g h t y z e;go_wp2_with fail;refine Bh wr [(⟨b,a+k*2,none⟩,C),(⟨b,a+k*2+1,none⟩,E),(⟨b,a+j*2,none⟩,D),(⟨b,a+j*2+1,none⟩,F)] ⟨bl0,aR⟩ ?_
  repeat
   apply Cx
   .rfl
   .intro Z v;have X:=v.2;simp only[AC]at X
    go_simp
    first|rfl|exact Bw v (d _)
   go_simp
  refine cH ?_;intro w5 q;have J:=An o q.1;clear O M N;go_wp2;exact⟨⟨j+1,j,rfl,aK,aP,by rw[x.out];go_num,J⟩,aI⟩
 obtain rfl:j=n:=aK
 clear L U;go_wp2;go_ret;exact⟨by rw[show j-1=k by have:=G.out;omega];rfl,o⟩
theorem Ao9(A:Option Addr)(a n:Nat)(l:LP)(w:World)(d:n<=9223372036854775807)(h:SpS w A n l):Calls prog 217 #[.slice A n a] w (Bz w (.tuple #[(My l n).1,(My l n).2])):=by
 by_cases c:plW l n=0
 .have f:=Ar (show My l n=((Vm l (n-1):Int),0) by unfold My;rw[if_pos c]);have i:=Ar c;clear c;go_in
  go_wp2_with (first
   | (go_at_call 287;refine rR (Ajk A a n l (h.keep b) i.out) λk g=>?_)
   | (go_at_call 164;refine rR (Q8 A a n l (hl:=d) h) λj b=>?_;rw[i.out]))
  go_ret2
  exact⟨by rw[f.out];rfl,An b g⟩
 have f:=Ar (show My l n=(0,plW l n) by unfold My;rw[if_neg c]);have q:(plW l n != 0)=true:=by simpa using c
 clear c;go_in
 go_wp2_with (go_at_call 164;refine rR (Q8 A a n l (hl:=d) h) λj b=>?_)
 go_ret2
 exact⟨by rw[f.out];rfl,b⟩
def gi(l:List Int)(k:Nat):Int:=l.getD k 0
theorem Wr(h:b<c.length):c[b]? = some (gi c b):=by
 unfold gi;rw[List.getD,aW h];rfl
def InS(w:World)(A:Option Addr)(n:Nat)(l:List Int):Prop:=l.length=n/\(n=0\/∃b a,A=some ⟨b,a,none⟩/\∀k,k<n->Cq w b (a+k) (gi l k))
theorem InS.keep(h:InS w e b c)(i:Be w a):InS a e b c:=by
 refine⟨h.1,?_⟩;obtain⟨_,d⟩:=h;rcases d with d|⟨g,f,rfl,d⟩
 .exact .inl d
 exact .inr ⟨g,f,rfl,λk j=>Aq i (d k j)⟩
theorem InS.at_(h:InS w e b c){k:Nat}(g:k<b):∃d a,e=some ⟨d,a,none⟩/\Cq w d (a+k) (gi c k):=by
 obtain⟨_,f⟩:=h;rcases f with f|⟨d,a,rfl,f⟩
 .omega
 exact⟨d,a,rfl,f k g⟩
def enI(z:Int):List Value:=[z]
theorem Ml(z:Int):(enI z).length=1:=rfl
theorem Agr(z:Int):∀u∈enI z,u.oneCell'=true:=by
 intro u a;simp[enI]at a;subst a;rfl
def OwI(w:World)(a:Nat)(v:Value)(l:List Int):Prop:=OwG 3 1 enI w a v l
theorem Aj5:(prog.info? 3).map (λi=>(i.zero,i.size,i.bytes))=some (some (.int .i64 0),1,8):=aN
theorem OwI.ins(h:OwI w b f c):∃A a,f=.slice A c.length a/\c.length<=a/\InS w A c.length c/\(0<c.length->∃g,A=some ⟨g,0,none⟩/\b<=g/\g<w.heap.size):=by
 rcases OwG.form h with⟨rfl,rfl⟩|⟨g,a,rfl,i,j,l,n⟩
 .exact⟨none,0,rfl,aA,⟨rfl,.inl rfl⟩,λh=>absurd h aL⟩
 refine⟨_,a,rfl,l,⟨rfl,.inr ⟨g,0,rfl,λk m=>?_⟩⟩,λ_=>⟨g,rfl,i,j⟩⟩;have d:=OwG.cells h k aK;have e:=Bu Ml c k 0 _ (Wr m) aK;rw[dM,bU]at e;rw[e]at d;rw[dB];exact d
def ElI(w:World)(b:Nat)(v:Value)(l:List Int):Prop:=∃A c,v=.slice A l.length c/\l.length<=c/\InS w A l.length l/\(A=none->c=0)/\(∀a,A=some a->b<=a.block/\∃d e,w.heap[a.block]? = some (.cells d 3 e))
def Ax7(w:World)(a:Nat)(v:Value)(c:List (List Int)):Prop :=
 ∃b:List Value,OwG 23 1 enV w a v b/\b.length=c.length/\(∀u∈b,u.oneCell'=true)/\∀(i:Nat) (u:Value) (l:List Int),b[i]? = some u->c[i]? = some l->ElI w a u l
theorem ElI.keepAbove{w w':World}(h:ElI w b f c)(p:∀k e g,b<=k->w.heap[k]? = some (.cells e 3 g)->w'.heap[k]? = w.heap[k]?):ElI w' b f c:=by
 obtain⟨A,q,rfl,r,d,s,o⟩:=h;refine⟨A,q,rfl,r,⟨d.1,?_⟩,s,λa t=>?_⟩
 .obtain⟨_,d⟩:=d;rcases d with d|⟨m,i,rfl,d⟩
  .exact .inl d
  let⟨j,e,g,l⟩:=o _ rfl;have u:=p m e g j l;exact .inr ⟨m,i,rfl,λk n=>(World.cell?_of_block (w:=w) (a:=⟨m,i+k,none⟩) u).trans (d k n)⟩
 let⟨j,e,g,l⟩:=o _ t;exact⟨j,e,g,(p _ e g j l).trans l⟩
theorem ElI.keep(h:ElI w base f c)(b:Be w a):ElI a base f c:=h.keepAbove λk _ _ _ d=>b.block k (D9 d)
theorem ElI.grown{d:Option Nat}(h:ElI w b f c)(j:w.grownBy a d)(m:∀k e g,b<=k->w.heap[k]? = some (.cells e 3 g)->some k≠d):ElI a b f c:=h.keepAbove λk e g l i=>j.block k (D9 i) (m k e g l i)
theorem ElI.lower(h:ElI w b f c)(m:base'<=b):ElI w base' f c:=by
 obtain⟨A,i,e,j,k,l,d⟩:=h;exact⟨A,i,e,j,k,l,λa g=>⟨bB m (d a g).1,(d a g).2⟩⟩
theorem Ax7.nil:Ax7 w b (.slice none 0 0) []:=⟨[],OwG.nil,rfl,aL,aL⟩
theorem Ax7.keep(h:Ax7 w base f g)(b:Be w a):Ax7 a base f g:=by
 obtain⟨n,c,d,e,j⟩:=h;exact⟨n,c.keep b,d,e,λi u l m k=>(j i u l m k).keep b⟩
theorem Ax7.alloc(h:Ax7 w b f g)(o:Obj):Ax7 (w.alloc o) b f g:=h.keep blA
theorem Ax7.lower(h:Ax7 w b f g)(a:base'<=b):Ax7 w base' f g:=by
 obtain⟨n,c,d,e,j⟩:=h;exact⟨n,c.lower a,d,e,λi u l m k=>(j i u l m k).lower a⟩
def li(a:List (List Int))(k:Nat):List Int:=a.getD k []
def Ay1(w:World)(A:Option Addr)(n:Nat)(a:List (List Int)):Prop :=
 a.length=n/\(n=0\/∃b c,A=some ⟨b,c,none⟩/\∀k,k<n->∃d e,Cq w b (c+k) (.slice d (li a k).length e)/\(li a k).length<=e/\InS w d (li a k).length (li a k)/\(d=none->e=0))
theorem Ay1.at_(h:Ay1 w e b g){k:Nat}(n:k<b):∃f a c d,e=some ⟨f,a,none⟩/\Cq w f (a+k) (.slice c (li g k).length d)/\(li g k).length<=d/\InS w c (li g k).length (li g k)/\(c=none->d=0):=by
 obtain⟨o,h⟩:=h;rcases h with rfl|⟨f,a,rfl,h⟩
 .omega
 let⟨c,d,i,j,l,m⟩:=h k n;exact⟨f,a,c,d,rfl,i,j,l,m⟩
theorem Ay1.keep(h:Ay1 w e b g)(d:Be w a):Ay1 a e b g:=by
 refine⟨h.1,?_⟩;obtain⟨q,h⟩:=h;rcases h with rfl|⟨i,c,rfl,h⟩
 .exact .inl rfl
 refine .inr ⟨i,c,rfl,λk p=>?_⟩;let⟨f,j,l,m,n,o⟩:=h k p;exact⟨f,j,Aq d l,m,n.keep d,o⟩
theorem Amj{k:Addr}(h:InS w (some k) b c):∀j u,(c.flatMap enI)[j]? = some u->w.cell? (k.add j)=some u:=by
 intro j u i
 have a:j<(c.flatMap enI).length:=by
  rcases bG j (c.flatMap enI).length with g|g
  .exact g
  rw[bI g]at i;cases i
 rw[Cz Ml,h.1,dM]at a;let⟨l,f,e,o⟩:=h.at_ a;injection e with e
 subst e;have d:=Bu Ml c j 0 _ (Wr (by rw[h.1];exact a)) aK;rw[dM,bU,i]at d
 have n:(⟨l,f,none⟩:Addr).add j=⟨l,f+j,none⟩:=by
  unfold Addr.add;by_cases m:j=0
  .subst m;simp
  simp[m]
 rw[n,o,d];rfl
theorem Kb{t:Array Oper}{g:List Oper}{o:Oper}{a:Act}{Q:Exit->Act->World->Prop}{s x:Operand}
 (J:o.op=.call { callee:=.builtin .append,args:=#[s,x],argTypes:=#[23,23] })
 (b:Nat)  (l:List Int)  (d:OwI w b f l)
 (A:Option Addr) (m c:Nat) (y:List Int)  (r:InS w A m y) (q:A=none->c=0)
 (I:l.length+m<=1000000) (j:b<=w.heap.size)
 (h:∀k v,OwI v b k (l++y)->w.grownBy v f.ownBlock->(k.ownBlock=f.ownBlock\/k.ownBlock=some w)->wpList prog t Q g (a.put o.dst k) v)  (n:o.guard=none:=by rfl) (K:a.eval s=f:=by rfl) (L:a.eval x=.slice A m c:=by rfl) :
 wpList prog t Q (o::g) a w:=by
 let⟨i,H,E,F,G⟩:=dW Aj5;cases A with
 | none =>
   have M:=q rfl;subst M
   have O:m=0:=by
    rcases bK m with z|z
    .exact z
    let⟨_,_,e,_⟩:=r.at_ z;cases e
   subst O;have C:y=[]:=bL r.1;subst C;refine gM n s x 23 J b 3 i 1 underlying23 H f l.length (l.flatMap enI) K d L ?_;exact h f w (by rw[eM];exact d) (dA _ _) (Or.inl rfl)
 | some ad =>
   refine eX (P:=prog) w n s x 23 J b 3 i (.int .i64 0) 1 8 underlying23 H E F G rfl (by omega) f l.length (l.flatMap enI) K d ad m c (y.flatMap enI) L (by rw[Cz Ml,r.1]) (Amj r) ?_ (by unfold maxLen;omega) (by omega) j ?_
   .intro u S;let⟨p,_,R⟩:=gB.1 S;exact Agr p u R
   intro k v D N _ B;refine h k v ?_ N B;unfold OwI OwG;rw[bA,dH,r.1];exact D
theorem InS.new(w:World)(t:TypeId)(z:Int):InS (w.alloc (.cells #[z] t)) (some ⟨w,0,none⟩) 1 [z]:=by
 refine⟨rfl,.inr ⟨_,0,rfl,λk a=>?_⟩⟩;obtain rfl:k=0:=aK
 simp[gi]
theorem fg{x:Int}(o:i<=1000000)(h:InS w e i c):Calls prog 130 #[.slice e i b,x] w (Bz w (Db (λa=>x == gi c a) i)):=by
 go_in;go_wp2;go_loopw [8] (λa wr=>∃k:Nat,k<=i/\a=k/\Hid (Bp (λa=>x == gi c a) k=false)/\Be w wr) λa _=>i-(intOf a).toNat
 case atStart=>exact⟨0,aB,rfl,Bp.zero _,bl0⟩
 obtain⟨k,n,rfl,g,f⟩:=hrel;by_cases d:k<i
 .obtain⟨l,j,rfl,m⟩:=(h.keep f).at_ d;go_wp2
  .go_ret;exact⟨Bm (Hf d g.out aQ).symm,f⟩
  go_roundw
  case rel=>exact⟨k+1,aK,aP,Bp.succ g.out aQ,f⟩
  case measure=>simp[intOf];omega
 obtain rfl:i=k:=aK
 go_wp2;go_ret;exact⟨Bm (Fy g.out).symm,f⟩
theorem Ll{x:Int}(f:InS w e i c)(d:i<=1000000:=by omega):Calls prog 87 #[.slice e i b,x] w (Bz w (.bool (Bp (λg=>x == gi c g) i))):=by
 go_in
 go_wp2_with (go_at_call 130;refine rR (fg d f) λj a=>?_)
 go_ret;exact⟨Bn (Hy _ _),a⟩
def Alq(w:World)(l:List Int)(e:Ending)(a:World):Prop:=∃v,e=.returned v/\OwI a w v l/\Be w a
theorem Xc(b:Addr)(a n:Nat)(l:List Int)(w:World)(k:n<=1000000)(i:InS w (some b) n l):Calls prog 34 #[.slice (some b) n a] w (Alq w l):=by
 have g:=λ(w:World)=>Lib.run_eql_slice_nil (P:=prog) w 23 3 (some b) n a 0 0 underlying23
 have e:OwI (w.alloc (.cells #[] 3)) w (.slice (some ⟨w,0,none⟩) 0 0) []:=World.ownsRow_lit w #[] 0 aA aB rfl;go_in
 go_wp2_with (at_builtin;refine Kb rfl w [] e (some b) n a l (i.keep blA) (λh=>by cases h) aO blA.size ?_;intro j m d c f)
 go_ret;exact⟨j,rfl,by simpa using d,Bk blA e c⟩
theorem Xd(w:World):Calls prog 34 #[.slice none 0 0] w (Alq w []):=by
 have a:=λ(w:World)=>Lib.run_eql_slice_nil (P:=prog) w 23 3 none 0 0 0 0 underlying23
 go_in;go_wp2;go_ret;exact⟨_,rfl,OwG.nil,bl0⟩
theorem gq(A:Option Addr)(a n:Nat)(l:List Int)(w:World)(f:n<=1000000)(c:InS w A n l)(g:A=none->a=0):Calls prog 34 #[.slice A n a] w (Alq w l):=by
 cases A with
 | some ad=>exact Xc ad a n l w f c
 | none =>
   have d:=g rfl
   have b:n=0:=by
    rcases bK n with h|h
    .exact h
    let⟨_,_,e,_⟩:=c.at_ h;cases e
   subst b d;rw[bL c.1];exact Xd w
def Fh(f:Nat->Int):Nat->Int
 | 0=>0
 | k+1=>if Fh f k=0 then f k else Fh f k
theorem Ga{f:Nat->Int}(h:Fh f b=0):Fh f (b+1)=f b:=by rw[Fh,if_pos h]
theorem Uv{f:Nat->Int}{k:Nat}(h:Fh f k≠0):∀m,Fh f (k+m)=Fh f k:=by
 intro m;induction m with
 | zero=>rfl
 | succ m ih=>rw[<-cQ,Fh,if_neg (by rw[ih];exact h),ih]
theorem Mk{f:Nat->Int}(c:b<i)(h:Fh f b=0)(a:f b≠0):Fh f i=f b:=by
 have e:=Ga h;have:=Uv (f:=f) (k:=b+1) (by rw[e];exact a) (i-(b+1));rw[show b+1+(i-(b+1))=i by omega]at this;rw[this,e]
theorem Ph{f:Nat->Int}:Fh f b=0↔∀k,k<b->f k=0:=by
 induction b with
 | zero=>simp[Fh]
 | succ b ih =>
   rw[Fh];constructor
   .intro h k c;split at h
    .rename_i a;rcases bG k b with g|g
     .exact(ih.1 a) k g
     obtain rfl:k=b:=aK
     exact h
    rename_i a;exact absurd h a
   intro h;rw[if_pos (ih.2 λk c=>h k aK)];exact h b aK
structure EdgeP where
 nm:ByteArray
 ln:LP
structure PieceP where
 nm:ByteArray
 ed:List EdgeP
 gr:Int
 nt:LP
 cr:LP
 wd:List Int
 mt:Bool
structure UseP where
 pc:Int
 ct:Int
 pr:Bool
structure SeamP where
 pa:Int
 ea:Int
 pb:Int
 eb:Int
 rv:Bool
 es:Int
structure StyleP where
 nm:ByteArray
 sz:List ByteArray
 mu:List Int
 pc:List PieceP
 us:List UseP
 se:List SeamP
 no:Nat
def edg(l:List EdgeP)(k:Nat):EdgeP:=l.getD k ⟨ByteArray.empty,[]⟩
def pce(l:List PieceP)(k:Nat):PieceP:=l.getD k ⟨ByteArray.empty,[],0,[],[],[],false⟩
def use(l:List UseP)(k:Nat):UseP:=l.getD k ⟨0,0,false⟩
def sem(l:List SeamP)(k:Nat):SeamP:=l.getD k ⟨0,0,0,0,false,0⟩
def gb(l:List ByteArray)(k:Nat):ByteArray:=l.getD k ByteArray.empty
def Gq(a b:ByteArray):Bool:=a.toList == b.toList
def Hk(E:List EdgeP)(i:Nat):Int :=
 if Cy (edg E i).nm=false then 1 else if Bp (λj=>Gq (edg E j).nm (edg E i).nm) i then 7 else plW (edg E i).ln (edg E i).ln.length
def J2(E:List EdgeP)(i:Nat):Bool:=!eqS (gt (edg E i).ln ((edg E i).ln.length-1)) (gt (edg E ((i+1) % E.length)).ln 0)
def ux(l:LP):LP:=l.take (l.length-1)
def Cn(E:List EdgeP):Nat->LP
 | 0=>[]
 | k+1=>Cn E k++ux (edg E k).ln
def Bj(E:List EdgeP):LP:=Cn E E.length
def C7(E:List EdgeP):Int :=
 if 16<E.length then 5 else if E.length<2 then 11 else if Fh (Hk E) E.length≠0 then Fh (Hk E) E.length
 else if Bp (J2 E) E.length then 11 else Bg (Bj E) (Bj E).length
theorem D5{E:List EdgeP}(h:C7 E=0):2<=E.length/\E.length<=16/\(∀k,k<E.length->Cy (edg E k).nm=true/\plW (edg E k).ln (edg E k).ln.length=0)/\Bp (J2 E) E.length=false/\Bg (Bj E) (Bj E).length=0:=by
 unfold C7 at h;split at h
 .cases h
 split at h
 .cases h
 split at h
 .rename_i g;exact absurd h g
 rename_i f i b;have a:Fh (Hk E) E.length=0:=by simpa using b
 split at h
 .cases h
 rename_i c;refine⟨aK,aK,λk d=>?_,by simpa using c,h⟩;have:=Ph.1 a k d;unfold Hk at this;split at this
 .cases this
 split at this
 .cases this
 rename_i e j;exact⟨by simpa using e,this⟩
theorem Er(h:plW o b=0):2<=b/\b<=40:=by
 unfold plW at h;split at h
 .cases h
 split at h
 .cases h
 omega
theorem Jv(l:LP):(ux l).length=l.length-1:=by unfold ux;rw[bC];omega
theorem Lt{E:List EdgeP}{k:Nat}(h:∀i,i<k->(edg E i).ln.length<=40):(Cn E k).length<=k*40:=by
 induction k with
 | zero=>simp[Cn]
 | succ k ih =>
   rw[Cn,bA,Jv];have:=ih λi a=>h i aK
   have:=h k aK;omega
def Iq(cr:LP)(m:Int)(i:Nat):Int×Int:=(m*(gt cr (i % cr.length)).1,m*(gt cr (i % cr.length)).2)
def Mw(l:LP)(a b:Int×Int)(k:Nat):Int×Int :=
 ((gt l k).1+F8 (((l.length:Int)-1-k)*a.1+k*b.1) ((l.length:Int)-1),(gt l k).2+F8 (((l.length:Int)-1-k)*a.2+k*b.2) ((l.length:Int)-1))
def He(l:LP)(a b:Int×Int):LP:=(List.range l.length).map (Mw l a b)
def Fl(p:PieceP)(m:Int):Nat->List EdgeP
 | 0=>[]
 | k+1=>Fl p m k++[⟨(edg p.ed k).nm,He (edg p.ed k).ln (Iq p.cr m k) (Iq p.cr m (k+1))⟩]
def Ej(p:PieceP)(m:Int):List EdgeP:=Fl p m p.ed.length
def Ch(p:PieceP)(m:Int):List EdgeP×Int :=
 if wI m 100=false then ([],3) else if p.cr.length≠p.ed.length then ([],1)
 else if Bp (λi=>!wS (gt p.cr i) 1000) p.cr.length then ([],3)
 else if C7 p.ed≠0 then ([],C7 p.ed)
 else if C7 (Ej p m)≠0 then ([],C7 (Ej p m)) else (Ej p m,0)
def Mb(a b c:Int):Bool:=decide (a<1) || decide (1099511627776<a) || decide (b<0) || decide (1099511627776<b) || decide (c<0) || decide (a<c)
def Uh(p:PieceP)(E:List EdgeP)(i:Nat):Int :=
 if (gt p.nt i).1<0\/(p.ed.length:Int)<=(gt p.nt i).1 then 3
 else if (My (edg p.ed (gt p.nt i).1.toNat).ln (edg p.ed (gt p.nt i).1.toNat).ln.length).2≠0 then (My (edg p.ed (gt p.nt i).1.toNat).ln (edg p.ed (gt p.nt i).1.toNat).ln.length).2
 else if (My (edg E (gt p.nt i).1.toNat).ln (edg E (gt p.nt i).1.toNat).ln.length).2≠0 then (My (edg E (gt p.nt i).1.toNat).ln (edg E (gt p.nt i).1.toNat).ln.length).2
 else if Mb (My (edg p.ed (gt p.nt i).1.toNat).ln (edg p.ed (gt p.nt i).1.toNat).ln.length).1 (My (edg E (gt p.nt i).1.toNat).ln (edg E (gt p.nt i).1.toNat).ln.length).1 (gt p.nt i).2 then 3 else 0
def Iy(p:PieceP)(m:Int):Int :=
 if (Ch p m).2≠0 then (Ch p m).2 else if 16<p.nt.length then 5 else Fh (Uh p (Ch p m).1) p.nt.length
def Ee(P:List PieceP)(i:Nat):Int :=
 if Cy (pce P i).nm=false then 1 else if (pce P i).gr≠1/\(pce P i).gr≠2/\(pce P i).gr≠4 then 1
 else if Bp (λj=>Gq (pce P j).nm (pce P i).nm) i then 7
 else if (Ch (pce P i) 0).2≠0 then (Ch (pce P i) 0).2 else if Iy (pce P i) 0≠0 then Iy (pce P i) 0
 else if (pce P i).wd.length≠(pce P i).ed.length then 1 else if Bp (λj=>decide (gi (pce P i).wd j<0) || decide (500<gi (pce P i).wd j)) (pce P i).wd.length then 3 else 0
def szB(s:ByteArray):Bool:=!Bp (λi=>!(decide (65<=byI s i)&&decide (byI s i<=90))&&!(decide (48<=byI s i)&&decide (byI s i<=57))) s.size&&(decide (1<=s.size)&&decide (s.size<=8))
def C6(s:StyleP):Int :=
 if Cy s.nm=false\/s.sz.length=0 then 1 else if Bp (λi=>!szB (gb s.sz i)) s.sz.length then 1
 else if s.mu.length≠s.sz.length\/Bp (λi=>(0:Int) == gi s.mu i) s.mu.length=false then 1
 else if Bp (λi=>Bp (λj=>Gq (gb s.sz j) (gb s.sz i)) i) s.sz.length then 7
 else if 12<s.sz.length\/12<s.pc.length\/12<s.us.length then 5
 else if 24<s.se.length\/16<s.no then 5
 else if Bp (λi=>decide (gi s.mu i < -100) || decide (100<gi s.mu i)) s.mu.length then 3 else 0
def Ni(s:StyleP)(i:Nat):Bool:=decide ((use s.us i).pc<0) || decide ((s.pc.length:Int)<=(use s.us i).pc) || decide ((use s.us i).ct<1) || decide (4<(use s.us i).ct)
def Td(P:List PieceP)(a e:Int):Bool:=decide (0<=a)&&decide (a<P.length)&&decide (0<=e)&&decide (e<(pce P a.toNat).ed.length)
def Ly(s:StyleP)(i:Nat):Int :=
 if Td s.pc (sem s.se i).pa (sem s.se i).ea=false\/Td s.pc (sem s.se i).pb (sem s.se i).eb=false then 3 else if (sem s.se i).es<0 then 1 else 0
def Bv(s:StyleP):Int :=
 if C6 s≠0 then C6 s else if Fh (Ee s.pc) s.pc.length≠0 then Fh (Ee s.pc) s.pc.length
 else if Bp (Ni s) s.us.length then 3 else Fh (Ly s) s.se.length
def szC(c:Int):Bool:=!(decide (65<=c)&&decide (c<=90))&&!(decide (48<=c)&&decide (c<=57))
theorem Y9(s:ByteArray)(D:s.size<=9223372036854775807):Calls prog 188 #[.string s] w λe z=>e=.returned (.bool (szB s))/\w=z:=by
 have r:=Ar (show szB s=(!Bp (λi=>szC (byI s i)) s.size&&(decide (1<=s.size)&&decide (s.size<=8))) from rfl);go_in;go_upto_region 2 with fail;go_loopw [3,4,5,8] (λ_ _ _ i wr=>∃k:Nat,k<=s.size/\i=k/\Hid (Bp (λi=>szC (byI s i)) k=false)/\wr=w) λ_ _ _ i _=>s.size-(intOf i).toNat
 case atStart=>exact⟨0,aB,rfl,Bp.zero _,rfl⟩
 obtain⟨k,C,rfl,t,rfl⟩:=hrel;by_cases p:k<s.size
 .have A:(k:Int)<(s.size:Int):=aK
  let⟨c,y⟩:=gN ((s[k].toNat:Int):Int)
  have l:=Ar (show byI s k=c by unfold byI;rw[iI p,y]);let⟨a,g⟩:=gN (decide (65<=c))
  let⟨v,x⟩:=gN (decide (c<=90))
  let⟨d,j⟩:=gN (decide (48<=c))
  let⟨n,o⟩:=gN (decide (c<=57))
  have B:=Ar (show szC c=(!(a&&v)&&!(d&&n)) by unfold szC;rw[g,x,j,o]);rcases(show (c<48\/(57<c/\c<65)\/90<c)\/((48<=c/\c<=57)\/(65<=c/\c<=90)) by omega) with hno|hyes
  .have u:=Ar (show szB s=false by
    rw[r.out,Bp.yes (f:=λi=>szC (byI s i)) p (by rw[l.out];unfold szC;rcases hno with h|h|h<;>simp<;>omega)];rfl)
   rcases hno with h|h|h
   .obtain rfl:a=false:=by rw[<-g];simp;omega
    obtain rfl:d=false:=by rw[<-j];simp;omega
    go_wp2
    (go_ret;exact⟨by rw[u.out];rfl,rfl⟩)
   .obtain rfl:a=false:=by rw[<-g];simp;omega
    obtain rfl:d=true:=by rw[<-j];simp;omega
    obtain rfl:n=false:=by rw[<-o];simp;omega
    go_wp2
    (go_ret;exact⟨by rw[u.out];rfl,rfl⟩)
   obtain rfl:a=true:=by rw[<-g];simp;omega
   obtain rfl:v=false:=by rw[<-x];simp;omega
   obtain rfl:d=true:=by rw[<-j];simp;omega
   obtain rfl:n=false:=by rw[<-o];simp;omega
   go_wp2
   (go_ret;exact⟨by rw[u.out];rfl,rfl⟩)
  have q:=Bp.succ (f:=λi=>szC (byI s i)) t.out (by rw[l.out];unfold szC;rcases hyes with h|h<;>simp<;>omega);rcases hyes with h|h
  .obtain rfl:a=false:=by rw[<-g];simp;omega
   obtain rfl:d=true:=by rw[<-j];simp;omega
   obtain rfl:n=true:=by rw[<-o];simp;omega
   go_wp2
   (first|exact aE ⟨q,trivial⟩|(go_roundw;(case rel=>exact⟨k+1,aK,aP,q,rfl⟩);(case measure=>simp[intOf];omega)))
  obtain rfl:a=true:=by rw[<-g];simp;omega
  obtain rfl:v=true:=by rw[<-x];simp;omega
  obtain rfl:d=true:=by rw[<-j];simp;omega
  obtain rfl:n=false:=by rw[<-o];simp;omega
  go_wp2
  (first|exact aE ⟨q,trivial⟩|(go_roundw;(case rel=>exact⟨k+1,aK,aP,q,rfl⟩);(case measure=>simp[intOf];omega)))
 obtain rfl:k=s.size:=aK
 rcases(show (s.size:Int)<1\/(1<=(s.size:Int)/\(s.size:Int)<=8)\/8<(s.size:Int) by omega) with h|h|h
 .have m:=Ar (show szB s=false by rw[r.out,t.out];simp;omega);go_wp2
  (go_ret;exact⟨by rw[m.out];simp<;>omega,rfl⟩)
 .have m:=Ar (show szB s=true by rw[r.out,t.out];simp;omega);go_wp2
  (go_ret;exact⟨by rw[m.out];simp<;>omega,rfl⟩)
 have m:=Ar (show szB s=false by rw[r.out,t.out];simp;omega);go_wp2
 (go_ret;exact⟨by rw[m.out];simp<;>omega,rfl⟩)
section
def StS(w:World)(A:Option Addr)(n:Nat)(l:List ByteArray):Prop:=l.length=n/\(n=0\/∃b a,A=some ⟨b,a,none⟩/\∀k,k<n->Cq w b (a+k) (.string (gb l k))/\(gb l k).size<=9223372036854775807)
def Ala(w:World)(b o:Nat)(e:EdgeP):Prop:=Cq w b o (.string e.nm)/\∃A c,Cq w b (o+1) (.slice A e.ln.length c)/\e.ln.length<=c/\c<=9223372036854775807/\SpS w A e.ln.length e.ln
def EdS(w:World)(A:Option Addr)(n:Nat)(E:List EdgeP):Prop:=E.length=n/\(n=0\/∃b a,A=some ⟨b,a,none⟩/\∀k,k<n->Ala w b (a+k*2) (edg E k))
def PcV(w:World)(i:Array Value)(p:PieceP):Prop:=∃e a f b g c h d,i=#[.string p.nm,.slice e p.ed.length a,.int .i64 p.gr,.slice f p.nt.length b,.slice g p.cr.length c,.slice h p.wd.length d,.bool p.mt] /\
 (p.ed.length<=a/\a<=9223372036854775807/\EdS w e p.ed.length p.ed)/\(p.nt.length<=b/\b<=9223372036854775807/\SpS w f p.nt.length p.nt)/\(p.cr.length<=c/\c<=9223372036854775807/\SpS w g p.cr.length p.cr)/\(p.wd.length<=d/\d<=9223372036854775807/\InS w h p.wd.length p.wd)
def PcS(w:World)(A:Option Addr)(n:Nat)(P:List PieceP):Prop:=P.length=n/\(n=0\/∃b a,A=some ⟨b,a,none⟩/\∀k,k<n->∃c,PcV w c (pce P k)/\∀j u,c[j]? = some u->Cq w b (a+k*7+j) u)
def UsS(w:World)(A:Option Addr)(n:Nat)(U:List UseP):Prop:=U.length=n/\(n=0\/∃b a,A=some ⟨b,a,none⟩/\∀k,k<n->Cq w b (a+k*3) (use U k).pc/\Cq w b (a+k*3+1) (use U k).ct/\Cq w b (a+k*3+2) (.bool (use U k).pr))
def SeS(w:World)(A:Option Addr)(n:Nat)(U:List SeamP):Prop:=U.length=n/\(n=0\/∃b a,A=some ⟨b,a,none⟩/\∀k,k<n->Cq w b (a+k*6) (sem U k).pa/\Cq w b (a+k*6+1) (sem U k).ea/\Cq w b (a+k*6+2) (sem U k).pb/\Cq w b (a+k*6+3) (sem U k).eb/\Cq w b (a+k*6+4) (.bool (sem U k).rv)/\Cq w b (a+k*6+5) (sem U k).es)
def StV(w:World)(m:Array Value)(s:StyleP):Prop:=∃g a h b i c j d k e l f,m=#[.string s.nm,.slice g s.sz.length a,.slice h s.mu.length b,.slice i s.pc.length c,.slice j s.us.length d,.slice k s.se.length e,.slice l s.no f] /\
 (s.sz.length<=a/\a<=9223372036854775807/\StS w g s.sz.length s.sz)/\(s.mu.length<=b/\b<=9223372036854775807/\InS w h s.mu.length s.mu)/\(s.pc.length<=c/\c<=9223372036854775807/\PcS w i s.pc.length s.pc)/\(s.us.length<=d/\d<=9223372036854775807/\UsS w j s.us.length s.us)/\(s.se.length<=e/\e<=9223372036854775807/\SeS w k s.se.length s.se)/\(s.no<=f/\f<=9223372036854775807)
section
variable {w w' : World} {A : Option Addr} {n : Nat}
theorem StS.keep{l:List ByteArray}(h:StS w A n l)(hb:Be w w'):StS w' A n l:=by
 refine⟨h.1,?_⟩;rcases h.2 with h2|⟨b,off,rfl,h2⟩
 ·exact .inl h2
 ·exact .inr ⟨b,off,rfl,fun k hk=>⟨Aq hb (h2 k hk).1,(h2 k hk).2⟩⟩
theorem StS.at_{l:List ByteArray}(h:StS w A n l){k:Nat}(hk:k<n):∃b off,A=some ⟨b,off,none⟩/\Cq w b (off+k) (.string (gb l k))/\(gb l k).size<=9223372036854775807:=by
 rcases h.2 with h2|⟨b,off,rfl,h2⟩
 ·omega
 ·exact⟨b,off,rfl,h2 k hk⟩
theorem Ala.keep{b o:Nat}{e:EdgeP}(h:Ala w b o e)(hb:Be w w'):Ala w' b o e:=by
 obtain⟨h1,A,c,h2,h3,h4,h5⟩:=h;exact⟨Aq hb h1,A,c,Aq hb h2,h3,h4,h5.keep hb⟩
theorem EdS.keep{E:List EdgeP}(h:EdS w A n E)(hb:Be w w'):EdS w' A n E:=by
 refine⟨h.1,?_⟩;rcases h.2 with h2|⟨b,off,rfl,h2⟩
 ·exact .inl h2
 ·exact .inr ⟨b,off,rfl,fun k hk=>(h2 k hk).keep hb⟩
theorem EdS.at_{E:List EdgeP}(h:EdS w A n E){k:Nat}(hk:k<n):∃b off,A=some ⟨b,off,none⟩/\∀k,k<n->Ala w b (off+k*2) (edg E k):=by
 rcases h.2 with h2|⟨b,off,rfl,h2⟩
 ·omega
 ·exact⟨b,off,rfl,h2⟩
theorem PcV.keep{vs:Array Value}{p:PieceP}(h:PcV w vs p)(hb:Below w w w'):PcV w' vs p:=by
 obtain⟨A1,c1,A2,c2,A3,c3,A4,c4,e,⟨h1,h1',h1''⟩,⟨h2,h2',h2''⟩,⟨h3,h3',h3''⟩,h4,h4',h4''⟩:=h;exact⟨A1,c1,A2,c2,A3,c3,A4,c4,e,⟨h1,h1',h1''.keep hb⟩,⟨h2,h2',h2''.keep hb⟩,⟨h3,h3',h3''.keep hb⟩,h4,h4',h4''.keep hb⟩
theorem PcS.keep{P:List PieceP}(h:PcS w A n P)(hb:Be w w'):PcS w' A n P:=by
 refine⟨h.1,?_⟩;rcases h.2 with h2|⟨b,off,rfl,h2⟩
 ·exact .inl h2
 ·refine .inr ⟨b,off,rfl,fun k hk=>?_⟩
  obtain⟨vs,g1,g2⟩:=h2 k hk;exact⟨vs,g1.keep hb,fun j u hu=>Aq hb (g2 j u hu)⟩
theorem c7{b o:Nat}{v0 v1 v2 v3 v4 v5 v6:Value}(h:∀j u,(#[v0,v1,v2,v3,v4,v5,v6]:Array Value)[j]? = some u->Cq w b (o+j) u):Cq w b o v0/\Cq w b (o+1) v1/\Cq w b (o+2) v2/\Cq w b (o+3) v3/\Cq w b (o+4) v4/\Cq w b (o+5) v5/\Cq w b (o+6) v6:=⟨h 0 _ rfl,h 1 _ rfl,h 2 _ rfl,h 3 _ rfl,h 4 _ rfl,h 5 _ rfl,h 6 _ rfl⟩
theorem PcS.at_{P:List PieceP}(h:PcS w A n P){k:Nat}(hk:k<n):∃b off,A=some ⟨b,off,none⟩/\∃vs,PcV w vs (pce P k)/\∀j u,vs[j]? = some u->Cq w b (off+k*7+j) u:=by
 rcases h.2 with h2|⟨b,off,rfl,h2⟩
 ·omega
 ·exact⟨b,off,rfl,h2 k hk⟩
theorem UsS.keep{U:List UseP}(h:UsS w A n U)(hb:Be w w'):UsS w' A n U:=by
 refine⟨h.1,?_⟩;rcases h.2 with h2|⟨b,off,rfl,h2⟩
 ·exact .inl h2
 ·exact .inr ⟨b,off,rfl,fun k hk=>⟨Aq hb (h2 k hk).1,Aq hb (h2 k hk).2.1,Aq hb (h2 k hk).2.2⟩⟩
theorem UsS.at_{U:List UseP}(h:UsS w A n U){k:Nat}(hk:k<n):∃b off,A=some ⟨b,off,none⟩/\Cq w b (off+k*3) (use U k).pc/\Cq w b (off+k*3+1) (use U k).ct/\Cq w b (off+k*3+2) (.bool (use U k).pr):=by
 rcases h.2 with h2|⟨b,off,rfl,h2⟩
 ·omega
 ·exact⟨b,off,rfl,h2 k hk⟩
theorem SeS.keep{U:List SeamP}(h:SeS w A n U)(hb:Be w w'):SeS w' A n U:=by
 refine⟨h.1,?_⟩;rcases h.2 with h2|⟨b,off,rfl,h2⟩
 ·exact .inl h2
 ·refine .inr ⟨b,off,rfl,fun k hk=>?_⟩
  obtain⟨g1,g2,g3,g4,g5,g6⟩:=h2 k hk;exact⟨Aq hb g1,Aq hb g2,Aq hb g3,Aq hb g4,Aq hb g5,Aq hb g6⟩
theorem SeS.at_{U:List SeamP}(h:SeS w A n U){k:Nat}(hk:k<n):∃b off,A=some ⟨b,off,none⟩/\Cq w b (off+k*6) (sem U k).pa/\Cq w b (off+k*6+1) (sem U k).ea/\Cq w b (off+k*6+2) (sem U k).pb/\Cq w b (off+k*6+3) (sem U k).eb/\Cq w b (off+k*6+4) (.bool (sem U k).rv)/\Cq w b (off+k*6+5) (sem U k).es:=by
 rcases h.2 with h2|⟨b,off,rfl,h2⟩
 ·omega
 ·exact⟨b,off,rfl,h2 k hk⟩
theorem StV.keep{vs:Array Value}{s:StyleP}(h:StV w vs s)(hb:Be w w'):StV w' vs s:=by
 obtain⟨A1,c1,A2,c2,A3,c3,A4,c4,A5,c5,A6,c6,e,⟨h1,h1',h1''⟩,⟨h2,h2',h2''⟩,⟨h3,h3',h3''⟩,⟨h4,h4',h4''⟩,⟨h5,h5',h5''⟩,h6⟩:=h;exact⟨A1,c1,A2,c2,A3,c3,A4,c4,A5,c5,A6,c6,e,⟨h1,h1',h1''.keep hb⟩,⟨h2,h2',h2''.keep hb⟩,⟨h3,h3',h3''.keep hb⟩,⟨h4,h4',h4''.keep hb⟩,⟨h5,h5',h5''.keep hb⟩,h6⟩
theorem Abj{E:List EdgeP}{i k:Nat}(h:k<i):edg (E.take i) k=edg E k:=by
 unfold edg;simp[List.getD,fN,h]
theorem EdS.take{E:List EdgeP}(h:EdS w A n E)(hi:i<=n):EdS w A i (E.take i):=by
 refine⟨by rw[bC,h.1];omega,?_⟩
 rcases h.2 with h2|⟨b,off,rfl,h2⟩
 ·exact .inl aK
 ·refine .inr ⟨b,off,rfl,fun k hk=>?_⟩
  rw[Abj hk];exact h2 k aK
theorem Yn{E:List PieceP}{i k:Nat}(h:k<i):pce (E.take i) k=pce E k:=by
 unfold pce;simp[List.getD,fN,h]
theorem PcS.take{E:List PieceP}(h:PcS w A n E)(hi:i<=n):PcS w A i (E.take i):=by
 refine⟨by rw[bC,h.1];omega,?_⟩
 rcases h.2 with h2|⟨b,off,rfl,h2⟩
 ·exact .inl aK
 ·refine .inr ⟨b,off,rfl,fun k hk=>?_⟩
  rw[Yn hk];exact h2 k aK
end
end
theorem ch3{a c:Value}(h:Bf w b k #[f,a,c]):Cq w b 0 f/\Cq w b 1 a/\Cq w b 2 c:=⟨(h.cell 0).trans rfl,(h.cell 1).trans rfl,(h.cell 2).trans rfl⟩
theorem Apj(A:Option Addr)(a:Nat)(x:ByteArray):Calls prog 248 #[.slice A 0 a,.string x] w λe b=>e=.returned (.int .i64 (-1))/\w=b:=by
 go_in;go_wp2;go_loopw [8] (λi wr=>i=.int .i64 0/\wr=w) λ_ _=>0
 case atStart=>exact⟨rfl,rfl⟩
 obtain⟨rfl,rfl⟩:=hrel;go_wp2;go_ret;exact⟨rfl,rfl⟩
theorem Aqg(x:ByteArray):Calls prog 191 #[.slice e 0 b,.string x] w λa c=>a=.returned (.bool false)/\w=c:=by
 go_in
 go_wp2_with (go_at_call 248;refine aG (Apj e b x) ?_)
 go_ret;exact⟨rfl,rfl⟩
theorem Aas(g:Nat):Calls prog 193 #[.agg #[.slice (some ⟨g,0,none⟩) 1 1,.int .i64 0,.slice none 0 0],.int .i64 0] w (Bz w (.bool true)):=by
 go_in;go_upto_region 1 with fail;refine Bq λX a b=>?_
 let⟨c,d,e⟩:=ch3 b;go_wp2;go_ret;exact⟨rfl,a⟩
theorem Va(g:Nat)(s:ByteArray)(l:s.size<=9223372036854775807)(j:Cq w g 0 (.string s)):Calls prog 129 #[.agg #[.slice (some ⟨g,0,none⟩) 1 1,.int .i64 0,.slice none 0 0]] w λe q=>e=.returned (.int .i64 (if szB s then 0 else 1))/\Be w q:=by
 let⟨b,c⟩:=gN (szB s)
 have h:=Ar c;rw[c];clear c;go_in;go_upto_region 1 with fail;refine Bq λX a m=>?_
 let⟨r,t,u⟩:=ch3 m;have n:=Aq a j;clear j;go_upto_region 6 with fail;cases b with
 | false =>
   go_loopw [4,28] (λ_ i wr=>i=.int .i64 0/\X=wr) λ_ _ _=>0
   case atStart=>exact⟨rfl,rfl⟩
   obtain⟨rfl,rfl⟩:=hrel
   go_wp2_with (go_at_call 188;refine aG (Y9 s l) ?_;rw[h.out])
   go_ret;exact⟨rfl,a⟩
 | true =>
   go_loopw [4,28] (λ_ i wr=>∃k:Nat,k<=1/\i=k/\X=wr) λ_ i _=>1-(intOf i).toNat
   case atStart=>exact⟨0,aK,rfl,rfl⟩
   obtain⟨k,o,rfl,rfl⟩:=hrel;rcases(show k=0\/k=1 by omega) with rfl|rfl
   .go_wp2_with (go_at_call 188;refine aG (Y9 s l) ?_;rw[h.out])
    exact⟨⟨1,aK,aP,by first|rfl|trivial⟩,aJ⟩
   go_upto_region 12 with fail;go_loopw [6,39] (λ_ i wr=>i=.int .i64 0/\X=wr) λ_ _ _=>0
   case atStart=>exact⟨rfl,rfl⟩
   obtain⟨rfl,rfl⟩:=hrel;go_upto_region 18 with fail;go_loopw [7,8,69] (λ_ _ i wr=>∃k:Nat,k<=1/\i=k/\Hid (X=wr)) λ_ _ i _=>1-(intOf i).toNat
   case atStart=>exact⟨0,aK,rfl,Ar rfl⟩
   obtain⟨k,o,rfl,p⟩:=hrel;obtain rfl:=p.out;rcases(show k=0\/k=1 by omega) with rfl|rfl
   .go_wp2_with (go_at_call 191;refine aG (Aqg s) ?_)
    exact⟨⟨_,_,_,_,_,_,_,_,_,_,_,_,_,_,_,⟨1,aK,aP,Ar trivial⟩,rfl⟩,aJ⟩
   go_upto_region 24 with fail;go_loopw [9,10,84] (λ_ _ i wr=>i=.int .i64 0/\X=wr) λ_ _ _ _=>0
   case atStart=>exact⟨rfl,rfl⟩
   obtain⟨rfl,rfl⟩:=hrel
   go_wp2_with (go_at_call 193;refine rR (Aas g) λf d=>?_)
   go_ret;exact⟨rfl,An a d⟩
theorem Tn(s:ByteArray)(f:s.size<=9223372036854775807):Calls prog 86 #[.string s] w (Bz w (.bool (szB s))):=by
 let⟨b,c⟩:=gN (szB s)
 have d:=Ar c;rw[c];clear c;go_in;cases b with
 | false =>
   go_wp2_with (go_at_call 129;refine rR (Va w s f (((Bf.new _ _ _).cell 0).trans rfl)) λg a=>?_;rw[d.out];simp only[Bool.false_eq_true,if_false])
   go_ret;exact⟨rfl,An blA a⟩
 | true =>
   go_wp2_with (go_at_call 129;refine rR (Va w s f (((Bf.new _ _ _).cell 0).trans rfl)) λg a=>?_;rw[d.out];simp only[if_true])
   go_ret;exact⟨rfl,An blA a⟩
theorem Kt{E:List EdgeP}{n:Nat}(a:∀b,b<n->1<=(edg E b).ln.length/\(edg E b).ln.length<=40)(d:b<=n):(Cn E b).length<=b*40:=Lt λi c=>(a i aK).2
theorem Uc(j n:Nat)(E:List EdgeP)(D:EdS w e n E)(o:∀k,k<n->1<=(edg E k).ln.length/\(edg E k).ln.length<=40)(V:n<=16:=by omega):Calls prog 196 #[.slice e n j] w (Vi w (Bj E)):=by
 have N:=Ar (show Bj E=Cn E n by unfold Bj;rw[D.1]);have L:=Ar o;have M:=Ar λk (q:k<=n)=>Kt o q;go_in;go_upto_region 3 with fail;go_loopw [3,5,8] (λv _ i wr=>∃k:Nat,k<=n/\i=.int .i64 k/\OwS wr w v (Cn E k)/\Be w wr) λ_ _ i _=>n-(intOf i).toNat
 case atStart=>exact⟨0,aB,rfl,OwG.nil,bl0⟩
 obtain⟨k,q,rfl,t,f⟩:=hrel;by_cases c:k<n
 .obtain⟨b,Q,rfl,H⟩:=(D.keep f).at_ c;let⟨O,S,A,z,K,Z,g⟩:=H k c;have d:=Ar (show Cn E (k+1)=Cn E k++ux (edg E k).ln from rfl);let⟨B,C⟩:=L.out k c;have I:=M.out k q;generalize P:(edg E k).ln=l at z K g B C d;let⟨m,r⟩:∃m,l.length=m+1:=⟨l.length-1,aK⟩
  have x:=Ar (show ux l=l.take m by unfold ux;rw[r];rfl);rw[r]at z K g B C;rw[x.out]at d;generalize s:(edg E k).nm=nm at O;obtain⟨y,J,rfl,-,-⟩:=g.at_ (show 0<m+1 by omega);have R:=g.take (show m<=m+1 by omega)
  go_upto_region 5 with fail;refine Bq λX a F=>?_
  have Y:Cq X wr 1 (.slice (some ⟨y,J,none⟩) (m+1) A):=(F.cell 1).trans rfl
  go_wp2_with (at_builtin;refine Et rfl w (Cn E k) (OwG.keep t a) (some ⟨y,J,none⟩) m A (l.take m) (R.keep a) (λh=>by cases h) aK (An f a).size ?_;intro v' w' u p G)
  exact aE ⟨by rw[d.out];exact u,Bk (An f a) (OwG.keep t a) p⟩
 obtain rfl:n=k:=aK
 go_wp2;go_ret;exact⟨_,rfl,by rw[N.out];exact t,f⟩
theorem Yt{a:Int}(f : -100<=h)(g:h<=100)(i : -1000<=a)(j:a<=1000): -100000<=h*a/\h*a<=100000:=by
 have b:=dT (show 0<=100-h by omega) (show 0<=1000+a by omega);have c:=dT (show 0<=100+h by omega) (show 0<=1000-a by omega);have d:=dT (show 0<=100-h by omega) (show 0<=1000-a by omega);have e:=dT (show 0<=100+h by omega) (show 0<=1000+a by omega);simp only[gJ,Int.sub_mul,Int.mul_add,Int.mul_sub]at b c d e;omega
theorem rq(A:Option Addr)(e n k:Nat)(l:LP)(m:Int)(w:World)(P:SpS w A n l)(O:0<n)(hn:n<=1000)(hk:k<=1000)(u : -100<=m)(B:m<=100)(E:∀i,i<n -> -1000<=(gt l i).1/\(gt l i).1<=1000 /\ -1000<=(gt l i).2/\(gt l i).2<=1000):Calls prog 133 #[.agg #[.slice A n e,m],(k:Int)] w (Bz w (.agg #[(Iq l m k).1,(Iq l m k).2])):=by
 let⟨r,C⟩:=gN (k % n)
 have D:r<n:=by rw[<-C];exact bE _ O
 have G:=Ar (show Iq l m k=(m*(gt l r).1,m*(gt l r).2) by unfold Iq;rw[P.1,C]);obtain⟨H,d,rfl,b1,hc⟩:=P.at_ O;let⟨K,L⟩:=hc r D;let⟨Q,R,S,T⟩:=E r D;let⟨⟨x,y⟩,F⟩:∃p,gt l r=p:=⟨_,rfl⟩
 rw[F]at K L Q R S T G;dsimp only at K L Q R S T G;have m1:=Yt u B Q R;have m2:=Yt u B S T;have V:Int.tmod (k:Int) (n:Int)=(r:Int):=by rw[<-C,gK]
 have W:IntKind.i64.wrap (r:Int)=(r:Int):=aD
 have B5:¬n=0:=aK
 let⟨q,f⟩:=gN (m*x)
 let⟨s,g⟩:=gN (m*y)
 rw[f,g]at G;rw[f]at m1;rw[g]at m2;have V1:IntKind.i64.wrap q=q:=aD
 have V2:IntKind.i64.wrap s=s:=aD
 go_in;go_upto_region 1 with fail;refine Eo λX h Z hR=>?_
 have U:Cq X w 0 (.slice (some ⟨H,d,none⟩) n e):=(Z.cell 0).trans rfl;have I:Cq X w 1 m:=(Z.cell 1).trans rfl;have M:=Aq h K;have N:=Aq h L;have c:=Aw (aV X X);have b:=λo=>Aw (Ao (aV X X) (o:=o))
 have a:=λo=>Ao c (o:=o)
 go_region_held3 (λJ=>Cq J w 0 (.slice (some ⟨H,d,none⟩) n e)/\Cq J w 1 m/\Cq J H (d+r*2) x/\Cq J H (d+r*2+1) y)
  (first
   | with_reducible exact⟨Aq c U,Aq c I,Aq c M,Aq c N⟩
   | with_reducible exact⟨Aq (b _) U,Aq (b _) I,Aq (b _) M,Aq (b _) N⟩
   | with_reducible exact⟨Aq (a _) U,Aq (a _) I,Aq (a _) M,Aq (a _) N⟩)
  (fail)
 go_upto_region 2 with fail;refine Cj (λY=>Be X Y/\Bf Y X 65 #[x,y]) ⟨b _,Bf.new _ _ _⟩ ?_;rintro Y ⟨j,hV⟩;have q1:=Aq j I;have q2:Cq Y X 0 x:=(hV.cell 0).trans rfl;have q3:Cq Y X 1 y:=(hV.cell 1).trans rfl;have t:=hR.keep j;let⟨r0,r1,f0,f1,lt⟩:=t.pair;obtain⟨s0,s1,-,-,-⟩:=Bf.pair ((t.set_ 0 q).set_ 1 s);go_wp2;exact cB (v:=.agg #[q,s]) (by simp[results,results133,go_sem,s0,s1]) rfl ⟨by rw[G.out],Ba (Ba (An h j) (p:=⟨w+1,0,none⟩) aL) (p:=⟨w+1,1,none⟩) aL⟩
theorem tl{s:ByteArray}(h:s.size≠0):s.toList.isEmpty=false/\¬s.toList=[]:=by
 have:¬s.toList=[]:=by
  rw[ByteArray.toList_eq];intro e;have:=eB List.length e;exact h (by simpa using this)
 exact⟨by simpa using this,this⟩
theorem tk{s:ByteArray}(h:s.size=0):s.toList=[]:=by
 rw[ByteArray.toList_eq];exact bL (by simpa using h)
theorem Tv(s:ByteArray)(M:s.size<=9223372036854775807):Calls prog 159 #[.string s] w λe G=>e=.returned (.bool (szB s))/\w=G:=by
 have l:=Ar (show szB s=(!Bp (λi=>szC (byI s i)) s.size&&(decide (1<=s.size)&&decide (s.size<=8))) from rfl);by_cases a:1<=s.size/\s.size<=8
 .have K:(s.size:Int)<=8:=aK
  let⟨A,E⟩:=tl (s:=s) aK;have y:=Ar (show szB s=!Bp (λi=>szC (byI s i)) s.size by rw[l.out,bV a.1,bV a.2];simp);clear a l;go_in;go_upto_region 4 with fail;go_loopw [3] (λi wr=>∃k:Nat,k<=s.size/\i=k/\Hid (Bp (λi=>szC (byI s i)) k=false)/\wr=w) λi _=>s.size-(intOf i).toNat
  case atStart=>exact⟨0,aB,rfl,Bp.zero _,rfl⟩
  obtain⟨k,L,rfl,C,rfl⟩:=hrel;by_cases h:k<s.size
  .have I:(k:Int)<(s.size:Int):=aK
   let⟨c,F⟩:=gN ((s[k].toNat:Int):Int)
   have q:=Ar (show byI s k=c by unfold byI;rw[iI h,F]);let⟨r,m⟩:=gN (decide (65<=c))
   let⟨t,n⟩:=gN (decide (c<=90))
   let⟨u,o⟩:=gN (decide (48<=c))
   let⟨x,p⟩:=gN (decide (c<=57))
   have j:=Ar (show szC (byI s k)=(!(r&&t)&&!(u&&x)) by rw[q.out];unfold szC;rw[m,n,o,p]);let⟨z,g⟩:=gN (!(r&&t)&&!(u&&x))
   go_upto_region 6 with fail;go_cut [39] λv H=>v=.bool z/\H=wr
   case first =>
    subst g;cases r<;>cases t<;>cases u<;>cases x<;>(try (simp at m n o p;omega))
    go_wp2;all_goals go_meet
    all_goals exact⟨rfl,rfl⟩
   obtain⟨rfl,rfl⟩:=hcut;cases z with
   | true =>
     have d:=Ar (show szB s=false by rw[y.out,Bp.yes (f:=λi=>szC (byI s i)) h (j.out.trans g)];rfl);clear m n o p g j;go_wp2;go_ret;exact⟨by rw[d.out];rfl,rfl⟩
   | false =>
     have D:=Bp.succ (f:=λi=>szC (byI s i)) C.out (j.out.trans g);clear m n o p g j;go_wp2;exact aE ⟨D,trivial⟩
  obtain rfl:k=s.size:=aK
  have d:=Ar (show szB s=true by rw[y.out,C.out];rfl);go_wp2;go_ret;exact⟨by rw[d.out];rfl,rfl⟩
 have d:=Ar (show szB s=false by rw[l.out];simp;omega);clear l;go_in;by_cases B:s.size=0
 .have A:=tk B;go_wp2;go_ret;exact⟨by rw[d.out];rfl,rfl⟩
 let⟨A,J⟩:=tl B;have E:¬(s.size:Int)<=8:=aK
 go_wp2;go_ret;exact⟨by rw[d.out];rfl,rfl⟩
theorem cq:Calls prog 216 #[.int .u8 h] w λe a=>e=.returned (.bool (xj h))/\w=a:=by
 go_enter func216,ntmps216;go_wp2;all_goals go_ret
 all_goals exact⟨Bn (by first|(simp[xj]<;>omega)|(simp[xj, *];done)),rfl⟩
def Ajn(c:Int):Bool:=!(decide (c<97) || decide (122<c))
theorem Dp(s:ByteArray):Calls prog 158 #[.string s] w fun e w'=>e=.returned (.bool (Cy s))/\w=w':=by
 obtain⟨b1,hb1⟩:∃b,(Ow s || !Ajn (byI s 0))=b:=⟨_,rfl⟩
 have HB:=Ar hb1
 go_in
 go_upto_region 1 with fail;go_cut [28] (fun v wx=>v=.bool b1/\wx=w)
 case first =>
  unfold Ow at hb1;by_cases h0:s.size=0
  ·have e1:=tk h0
   rw[bV h0] at hb1;simp only[Bool.true_or] at hb1;subst hb1;clear h0;go_wp2;go_meet;exact⟨rfl,rfl⟩
  ·obtain⟨e1,e3⟩:=tl h0
   rw[decide_eq_false h0] at hb1;by_cases h1:24<s.size
   ·have e2:(24:Int)<(s.size:Int):=aK
    rw[bV h1] at hb1;simp only[Bool.true_or,Bool.or_true] at hb1;subst hb1;clear h0 h1;go_wp2;go_meet;exact⟨rfl,rfl⟩
   ·have e2:¬(24:Int)<(s.size:Int):=aK
    have z0:0<s.size:=aK
    have z1:(0:Int)<(s.size:Int):=aK
    rw[decide_eq_false h1] at hb1;obtain⟨a1,g1⟩:∃b,(s.toList == [109,105,110])=b:=⟨_,rfl⟩
    obtain⟨a2,g2⟩:∃b,(s.toList == [109,97,120])=b:=⟨_,rfl⟩
    obtain⟨c,hc⟩:∃c:Int,(s[0].toNat:Int)=c:=⟨_,rfl⟩
    rw[g1,g2,show byI s 0=c by unfold byI;rw[iI z0,hc]] at hb1
    unfold Ajn at hb1;subst hb1;clear h0 h1 HB;cases a1<;>cases a2
    go_wp2;all_goals go_meet
    all_goals exact⟨eB Value.bool (by first|rfl|(simp;done)|(simp;omega)),rfl⟩
 case rest =>
  obtain⟨rfl,rfl⟩:=hcut;cases b1 with
  | true =>
    have HF:Hid (Cy s=false):=Ar (by
     have h:=HB.out;rw[Bool.or_eq_true] at h;unfold Cy;rcases h with h|h
     ·rw[h];rfl
     ·by_cases h0:Ow s=true
      ·rw[h0];rfl
      ·have hz:0<s.size:=by
        rcases bK s.size with g|g
        ·exact absurd (by unfold Ow;rw[bV g];rfl) h0
        ·exact g
       rw[Bp.yes (f:=fun i=>!chB i (byI s i)) hz (by
        unfold Ajn at h;unfold chB;simp at h ⊢;omega)]
       simp)
    go_wp2;go_ret;exact⟨by rw[HF.out];rfl,rfl⟩
  | false =>
    have h:=HB.out;rw[Bool.or_eq_false_iff] at h;have HN:=Ar (show Cy s=!Bp (fun i=>!chB i (byI s i)) s.size by unfold Cy;rw[h.1];rfl)
    have HL:=Ar (show Ajn (byI s 0)=true by have:=h.2;simpa using this)
    have h24:(s.size:Int)<=24:=by
     have:=h.1;unfold Ow at this;simp at this;omega
    clear h HB hb1;go_upto_region 4 with fail;go_loopw [3] (fun i wr=>∃k:Nat,k<=s.size/\i=k/\Hid (Bp (fun i=>!chB i (byI s i)) k=false)/\wr=wc) (fun i _=>s.size-(intOf i).toNat)
    case atStart=>exact⟨0,aB,rfl,Bp.zero _,rfl⟩
    case round =>
     obtain⟨k,hk,rfl,hp,rfl⟩:=hrel;by_cases hlt:k<s.size
     ·have B1:(k:Int)<(s.size:Int):=aK
      obtain⟨c,hc⟩:∃c:Int,(s[k].toNat:Int)=c:=⟨_,rfl⟩
      have HBY:=Ar (show byI s k=c by unfold byI;rw[iI hlt,hc])
      obtain⟨dg,hdg⟩:∃d,xj c=d:=⟨_,rfl⟩
      obtain⟨us,hus⟩:∃u,(c == 95)=u:=⟨_,rfl⟩
      have hus2:(c != 95)=!us:=by rw[<-hus];rfl
      obtain⟨bb,hbb⟩:∃b,(!dg&&!us&&(decide (c<97) || decide (122<c)))=b:=⟨_,rfl⟩
      have HCH:Hid (chB k c=!bb):=Ar (by
       rw[<-hbb,<-hdg,<-hus];unfold chB;by_cases l:97<=c/\c<=122
       ·rw[decide_eq_false (show ¬c<97 by omega),decide_eq_false (show ¬122<c by omega),bV l.1,bV l.2]
        simp
       ·have hk0:(k == 0)=false:=by
         rw[eP];intro hk0;have:=HL.out;rw[<-hk0,HBY.out] at this;unfold Ajn at this;simp at this;omega
        rw[hk0,show (decide (97<=c)&&decide (c<=122))=false by simp;omega,show (decide (c<97) || decide (122<c))=true by simp;omega]
        cases xj c<;>cases (c == 95)<;>rfl)
      have HDG:=Ar hdg;go_upto_region 6 with fail;go_cut [57] (fun v wx=>v=.bool bb/\wx=wr)
      case first =>
       subst hbb;clear HCH hdg hus;cases dg<;>cases us
       go_wp2_with (go_at_call 216;refine aG (cq) ?_;rw[HDG.out])
       all_goals go_meet
       all_goals exact⟨eB Value.bool (by first|rfl|(simp;done)|(simp;omega)),rfl⟩
      case rest =>
       obtain⟨rfl,rfl⟩:=hcut;clear hbb hus2 hus;cases bb with
       | true =>
         have HF:=Ar (show Cy s=false by rw[HN.out,Bp.yes (f:=fun i=>!chB i (byI s i)) hlt (by rw[HBY.out,HCH.out];rfl)];rfl)
         go_wp2;go_ret;exact⟨by rw[HF.out];rfl,rfl⟩
       | false =>
         have HS:=Bp.succ (f:=fun i=>!chB i (byI s i)) hp.out (by rw[HBY.out,HCH.out];rfl)
         go_wp2;exact aE ⟨HS,trivial⟩
     ·obtain rfl:k=s.size:=aK
      have HR:=Ar (show Cy s=true by rw[HN.out,hp.out];rfl)
      go_wp2;go_ret;exact⟨by rw[HR.out];rfl,rfl⟩
def Ahd(w:World)(e:Ending)(a:World):Prop:=∃q r:Int,e=.returned (.tuple #[.int .u64 q,.int .u64 r])/\Be w a
theorem Abn(l y:Nat)(w:World)(p:l<18446744073709551616)(b:0<y)(j:y<=1099511627776):Calls prog 254 #[.int .u64 0,.int .u64 (l:Int),.int .u64 (y:Int)] w (Ahd w):=by
 let⟨q,hq⟩:=gN (l / y)
 let⟨r,a⟩:=gN (l % y)
 go_in;go_upto_region 6 with fail;go_quiet (fail);go_wp2
 go_ret2
 exact⟨_,_,rfl,Bd bl0 _⟩
def dvm(v:Value):Nat:=if intOf v<4294967296 then (4294967296-intOf v).toNat else 4294967297
theorem tn(g:0<=h)(f:2147483648<=V)(e:V<4294967296)(d:IntKind.u64.wrap (h+V)<4294967296):dvm (.int .u64 (IntKind.u64.wrap (h+V)))<dvm (.int .u64 h):=by
 have c:dvm (.int .u64 (IntKind.u64.wrap (h+V)))=(4294967296-IntKind.u64.wrap (h+V)).toNat:=by unfold dvm;rw[if_pos (show intOf (.int .u64 (IntKind.u64.wrap (h+V)))<4294967296 from d)];rfl
 rw[c];rw[dG]at *
 by_cases a:h<4294967296
 .have b:dvm (.int .u64 h)=(4294967296-h).toNat:=by unfold dvm;rw[if_pos (show intOf (.int .u64 h)<4294967296 from a)];rfl
  rw[b];omega
 have b:dvm (.int .u64 h)=4294967297:=by unfold dvm;rw[if_neg (show ¬intOf (.int .u64 h)<4294967296 from a)]
 rw[b];omega
theorem Hb:0<=IntKind.u64.wrap h/\IntKind.u64.wrap h<18446744073709551616:=by rw[dG];omega
theorem Abm(h l y:Nat)(w:World)(hh:0<h)(b0:h<y)(hl:l<18446744073709551616)(b5:y<=1099511627776):Calls prog 254 #[.int .u64 (h:Int),.int .u64 (l:Int),.int .u64 (y:Int)] w (Ahd w):=by
 obtain⟨O,E,F⟩:1<=Lib.bitLen y/\2 ^ (Lib.bitLen y-1)<=y/\y<2 ^ Lib.bitLen y:=Lib.bitLenAux_bounds 64 y (by have e:(2:Nat) ^ 64=18446744073709551616:= aM;omega) aK;obtain⟨L,G⟩:∃L,Lib.bitLen y=L:=⟨_,rfl⟩
 rw[G]at O E F
 have j:L<=41:=by
  apply bT;intro hc;have:2 ^ 41<=2 ^ (L-1):=bJ aM aK;have e:(2:Nat) ^ 41=2199023255552:=aM
  omega
 obtain⟨s,hs⟩:∃s,s=64-L:=⟨_,rfl⟩
 have M:23<=s/\s<=63:=aK
 obtain⟨Y,z⟩:∃Y,y*2 ^ s=Y:=⟨_,rfl⟩
 have ai:9223372036854775808<=Y:=by
  have:2 ^ (L-1)*2 ^ s<=y*2 ^ s:=bQ _ E;rw[<-dJ,show L-1+s=63 by omega,z]at this;have e:(2:Nat) ^ 63=9223372036854775808:=aM
  omega
 have ak:Y<18446744073709551616:=by
  have:y*2 ^ s<2 ^ L*2 ^ s:=dD F (Nat.two_pow_pos _);rw[<-dJ,show L+s=64 by omega,z]at this;have e:(2:Nat) ^ 64=18446744073709551616:=aM
  omega
 have g:=Ar (show (64-(Lib.bitLen (y:Int).toNat:Int))=(s:Int) by rw[cT,G];omega);have N:(y:Int)*2 ^ s=(Y:Int):=by rw[<-z];simp
 have P2:IntKind.u64.wrap ((y:Int)*2 ^ s)=(Y:Int):=by rw[N];exact Ds
 have P4:((s:Int)).toNat=s:=aK
 have X:¬(y:Int)<=(h:Int):=aK
 have Z:¬(h:Int)=0:=aK
 have B6:¬(y:Int)=0:=aK
 clear G O E F j hs z;go_enter func254,ntmps254
 go_upto_block 0 with (go_at_call 317;refine(Any.bits_LeadingZeros64 YtboghahlhmnblaaGreat.lays134 (y:Int) _ aK aK).mono ?_;rintro e W ⟨rfl,rfl⟩;rw[g.out])
 clear N P2 P4 X Z B6 M g;obtain⟨V,P⟩:∃V,(Y:Int) / 4294967296=V:=⟨_,rfl⟩
 have A:2147483648<=V/\V<4294967296:=aK
 rw[P];generalize bits BinOp.and IntKind.u64 (Y:Int) 4294967295=M0;generalize bits BinOp.or IntKind.u64 (IntKind.u64.wrap ((h:Int)*2 ^ s)) ((l:Int) / 2 ^ (64-s))=U;generalize m:IntKind.u64.wrap (U.tdiv V)=v;have Q:0<=v/\v<18446744073709551616:=by rw[<-m,dG];omega
 generalize o:IntKind.u64.wrap (U-IntKind.u64.wrap (v*V))=C;have S:0<=C/\C<18446744073709551616:=by rw[<-o,dG];omega
 clear m o P;generalize IntKind.u64.wrap ((l:Int)*2 ^ s)=X1;generalize bits BinOp.and IntKind.u64 X1 4294967295=X2;generalize X1 / 4294967296=X3;go_cut [15,16] from 67 to 85 (λq r f=>∃a b:Int,q=.int .u64 a/\r=.int .u64 b/\0<=a/\a<18446744073709551616/\f=W)
 case first =>
  rename_i J0 K0 i k;go_upto_region 17 with fail;go_loopw [15,16] (λq r f=>∃a b:Int,q=.int .u64 a/\r=.int .u64 b/\0<=a/\a<18446744073709551616/\0<=b/\b<18446744073709551616/\f=W) λ_ r _=>dvm r
  case atStart=>exact⟨v,C,rfl,rfl,Q.1,Q.2,S.1,S.2,rfl⟩
  obtain⟨a,b,rfl,rfl,t,u,H,au,rfl⟩:=hrel;go_wp2_with fail
  all_goals (first
   | ((first|refine Met.intro (i _ _ ?_)|refine i _ _ ?_)
      (repeat apply Exists.intro)
      refine⟨?_,rfl⟩;refine⟨_,_,rfl,rfl,?_,?_,?_⟩
      .first|exact(Hb).1|omega
      .first|exact(Hb).2|omega
      first|rfl|trivial)
   | (refine⟨⟨_,_,rfl,rfl,?_,?_,(Hb).1,(Hb).2,trivial⟩,tn H A.1 A.2 aQ⟩
      .first|exact(Hb).1|omega
      first|exact(Hb).2|omega))
 obtain⟨a,b,rfl,rfl,t,u,rfl⟩:=hcut;obtain⟨B,rfl⟩:∃B:World,B=wc:=⟨_,rfl⟩
 go_upto_block 2 with fail
 generalize IntKind.u64.wrap (IntKind.u64.wrap (IntKind.u64.wrap (U*4294967296)+X3)-IntKind.u64.wrap (a*(Y:Int)))=U2;generalize n:IntKind.u64.wrap (U2.tdiv V)=x;have R:0<=x/\x<18446744073709551616:=by rw[<-n];exact Hb
 generalize p:IntKind.u64.wrap (U2-IntKind.u64.wrap (x*V))=D;have T:0<=D/\D<18446744073709551616:=by rw[<-p];exact Hb
 clear n p;go_cut [16,18] from 102 to 120 (λr q f=>∃a b:Int,q=.int .u64 a/\r=.int .u64 b/\0<=a/\a<18446744073709551616/\f=B)
 case first =>
  rename_i J0 K0 i k;go_upto_region 24 with fail;go_loopw [16,18] (λr q f=>∃a b:Int,q=.int .u64 a/\r=.int .u64 b/\0<=a/\a<18446744073709551616/\0<=b/\b<18446744073709551616/\f=B) λr _ _=>dvm r
  case atStart=>exact⟨x,D,rfl,rfl,R.1,R.2,T.1,T.2,rfl⟩
  obtain⟨c,d,rfl,rfl,I,J,K,aw,rfl⟩:=hrel;clear t u;go_wp2_with fail
  all_goals (first
   | ((first|refine Met.intro (i _ _ ?_)|refine i _ _ ?_)
      (repeat apply Exists.intro)
      refine⟨?_,rfl⟩;refine⟨_,_,rfl,rfl,?_,?_,?_⟩
      .first|exact(Hb).1|omega
      .first|exact(Hb).2|omega
      first|rfl|trivial)
   | (refine⟨⟨_,_,rfl,rfl,?_,?_,(Hb).1,(Hb).2,trivial⟩,tn K A.1 A.2 aQ⟩
      .first|exact(Hb).1|omega
      first|exact(Hb).2|omega))
 obtain⟨c,d,rfl,rfl,I,J,rfl⟩:=hcut;go_wp2
 go_ret2
 exact⟨_,_,rfl,bl0⟩
theorem Aku(h l y:Nat)(a:h<y)(c:l<18446744073709551616)(b:y<=1099511627776):Calls prog 254 #[.int .u64 (h:Int),.int .u64 (l:Int),.int .u64 (y:Int)] w (Ahd w):=by
 rcases bK h with rfl|d
 .exact Abn l y w c a b
 exact Abm h l y w d a c b
def Ahb(w:World)(c:Int)(e:Ending)(a:World):Prop:=∃z:Int,e=.returned (.tuple #[z,c])/\Be w a
theorem zp(a b c:Int)(w:World)(h:Mb a b c=true):Calls prog 199 #[a,b,.bool false,c] w (Ahb w 3):=by
 have e:a<1\/1099511627776<a\/b<0\/1099511627776<b\/c<0\/a<c:=by unfold Mb at h;simp at h;omega
 have d:=Ar e;clear h e;let⟨i,o⟩:=gN (decide (a<1))
 let⟨j,p⟩:=gN (decide (1099511627776<a))
 let⟨k,q⟩:=gN (decide (b<0))
 let⟨l,r⟩:=gN (decide (1099511627776<b))
 let⟨m,s⟩:=gN (decide (c<0))
 let⟨n,t⟩:=gN (decide (a<c))
 have f:Hid ((i || j || k || l || m || n)=true):=Ar (by
  have:=d.out;rw[<-o,<-p,<-q,<-r,<-s,<-t];simp;omega)
 clear d;go_enter func199,ntmps199;have g:=f.out;cases i<;>cases j<;>cases k<;>cases l<;>cases m<;>cases n<;>(first|(simp at g;done)|skip)
 all_goals clear g f
 all_goals go_wp2
 all_goals go_ret2
 all_goals exact⟨_,rfl,bl0⟩
theorem Afg(a b c:Nat)(w:World)(v:1<=a)(n:a<=1099511627776)(o:b<=1099511627776)(p:c<=a):Calls prog 199 #[(a:Int),(b:Int),.bool false,(c:Int)] w (Ahb w 0):=by
 let⟨h,f⟩:=gN (c*b / 18446744073709551616)
 let⟨l,i⟩:=gN (c*b % 18446744073709551616)
 have j:l<18446744073709551616:=by rw[<-i];exact bE _ aK
 have g:h<a:=by
  rw[<-f,dO aK];have:=cJ p o;omega
 have k:=Ar f;have m:=Ar i;go_enter func199,ntmps199
 go_wp2_with (first
  | (go_at_call 254;refine(Aku h l a g j n).mono ?_;rintro e y ⟨q,r,rfl,d⟩)
  | (go_at_call 253;refine(Any.bits_Mul64 YtboghahlhmnblaaGreat.lays264 c b aK aK _).mono ?_;rintro e x ⟨rfl,rfl⟩;rw[k.out,m.out]))
 all_goals go_ret2
 all_goals exact⟨_,rfl,d⟩
theorem zq(a b c:Int)(w:World):Calls prog 199 #[a,b,.bool false,c] w (Ahb w (if Mb a b c then 3 else 0)):=by
 cases h:Mb a b c with
 | true=>exact zp a b c w h
 | false =>
   have g:¬a<1/\¬1099511627776<a/\¬b<0/\¬1099511627776<b/\¬c<0/\¬a<c:=by unfold Mb at h;simp at h;omega
   obtain⟨d,rfl⟩:∃n:Nat,a=n:=⟨a.toNat,aK⟩
   obtain⟨e,rfl⟩:∃n:Nat,b=n:=⟨b.toNat,aK⟩
   obtain⟨f,rfl⟩:∃n:Nat,c=n:=⟨c.toNat,aK⟩
   exact Afg d e f w aK aK aK aK
def Af9(p:Int×Int):Prop := -100000<=p.1/\p.1<=100000 /\ -100000<=p.2/\p.2<=100000
theorem Mv(a:0<=d)(g:d<=40)(b : -100000<=h)(c:h<=100000): -4000000<=d*h/\d*h<=4000000:=by
 have e:=Int.mul_le_mul_of_nonneg_left c a;have f:=Int.mul_le_mul_of_nonneg_left b a;omega
theorem Ye{u s:Int}(a:1<=s:=by omega)(b: -8000000<=u:=by omega)(c:u<=8000000:=by omega): -8000000<=F8 u s/\F8 u s<=8000000:=by
 have:=fI a (show (0:Int)<=8000000 by omega);exact L4 (M:=8000000) aK aK aK
theorem Al3{a c d e g:Value}(h:Bf w b k #[f,a])(j:Bf w i k #[c,d])(l:Bf w m k #[e,g]):
 Cq w b 0 f/\Cq w b 1 a/\Cq w i 0 c/\Cq w i 1 d/\Cq w m 0 e/\Cq w m 1 g :=
 ⟨(h.cell 0).trans rfl,(h.cell 1).trans rfl,(j.cell 0).trans rfl,(j.cell 1).trans rfl,(l.cell 0).trans rfl,(l.cell 1).trans rfl⟩
theorem Bf.farS(h:Bf w i k j)(a:i≠b)(u v:Value):Bf ((w.setCell ⟨b,m,none⟩ u).setCell ⟨b,m+1,none⟩ v) i k j:=(h.far (p:=⟨b,m,none⟩) a u).far (p:=⟨b,m+1,none⟩) a v
theorem fp(A:Option Addr)(au n:Nat)(l:LP)(a b:Int×Int)(w:World)(hs:SpS w A n l)(G:plW l n=0)(ha:Af9 a)(Q:Af9 b):Calls prog 134 #[.slice A n au,.agg #[a.1,a.2],.agg #[b.1,b.2]] w (Vi w (He l a b)):=by
 let⟨ec,ee⟩:=Er G;have a8:=Ar λk (hk:k<n)=>(Lb G (hk:=hk)).1;have o:=Ar hs.1;obtain⟨C,D⟩:=a;obtain⟨F,E⟩:=b;obtain⟨a1,a2,a3,a4⟩:=ha;obtain⟨b1,b2,b3,b4⟩:=Q;dsimp only at a1 a2 a3 a4 b1 b2 b3 b4;let⟨s,bd⟩:∃s,s+1=n:=⟨n-1,aK⟩
 have hN:(n:Int)-1=(s:Int):=aK
 have eg:1<=s:=aK
 have ek:s<=39:=aK
 have eo:s<n:=aK
 have ad:=Ar (λk=>show Mw l (C,D) (F,E) k=((gt l k).1+F8 (((s:Int)-k)*C+k*F) s,(gt l k).2+F8 (((s:Int)-k)*D+k*E) s) by unfold Mw;rw[o.out,hN]);let⟨Z,bb,hZ⟩:=Ht n aK;clear bd G;go_enter func134,ntmps134;go_upto_region 4 with fail;go_loopw [9,10,19] (λ_ _ i wr=>∃(k:Nat) (z:LP),k<=n/\i=k/\z.length=n/\(∀p,p<k->gt z p=Mw l (C,D) (F,E) p)/\Bf wr w 65 #[C,D]/\Bf wr (w+1) 65 #[F,E]/\OwS wr (w+1+1) (.slice (some ⟨w+1+1,0,none⟩) n n) z/\Be w wr) λ_ _ i _=>n-(intOf i).toNat
 case atStart=>exact⟨0,_,aB,rfl,List.length_replicate,λp G=>absurd G (Nat.not_lt_zero _),((Bf.new _ _ _).alloc _).alloc _,(Bf.new2 _ _ _ _).alloc _,by have:=hZ ((w.alloc (.cells #[C,D] 65)).alloc (.cells #[F,E] 65));simpa using this,Ao (Ao blA)⟩
 clear bb hZ;obtain⟨k,z,hk,rfl,O,G,hA,hB,ho,hb⟩:=hrel;by_cases g:k<n
 .obtain⟨b0,er,rfl,e7,hc⟩:=(hs.keep hb).at_ g;let⟨h1,P⟩:=hc k g;let⟨i1,i2,i3,i4⟩:=a8.out k g;have f:=ad.out k;let⟨⟨x,y⟩,a6⟩:∃p,gt l k=p:=⟨_,rfl⟩
  rw[a6]at h1 P i1 i2 i3 i4 f;dsimp only at h1 P i1 i2 i3 i4 f;let⟨c1,c2,f1,f2⟩:=ho.cells O g;have e8:w.heap.size+1+1<wr.heap.size:=Bi c1;have e9:k<=s:=aK
  let⟨d,hd⟩:=gN ((s:Int)-(k:Int):Int)
  have j:0<=d/\d<=40:=aK
  have m1:=Mv j.1 j.2 a1 a2;have m2:=Mv (show (0:Int)<=(k:Int) by omega) aK b1 b2;have m3:=Mv j.1 j.2 a3 a4;have m4:=Mv (show (0:Int)<=(k:Int) by omega) aK b3 b4;rw[hd]at f;let⟨u1,K⟩:=gN (d*C)
  let⟨u2,L⟩:=gN ((k:Int)*F)
  let⟨u3,M⟩:=gN (d*D)
  let⟨u4,N⟩:=gN ((k:Int)*E)
  rw[K]at m1 f;rw[L]at m2 f;rw[M]at m3 f;rw[N]at m4 f;let⟨u,hu⟩:=gN (u1+u2)
  let⟨v,hv⟩:=gN (u3+u4)
  rw[hu,hv]at f;have r1:=Ye (u:=u) (s:=(s:Int));have r2:=Ye (u:=v) (s:=(s:Int));have R:∀m:World,Calls prog 197 #[u,(s:Int)] m (Bz m (F8 u s)):=λm=>Zc u s m aK aK aK aK
  have S:∀m:World,Calls prog 197 #[v,(s:Int)] m (Bz m (F8 v s)):=λm=>Zc v s m aK aK aK aK
  let⟨rx,V⟩:=gN (F8 u s)
  let⟨ry,X⟩:=gN (F8 v s)
  rw[V]at R r1 f;rw[X]at S r2 f;let⟨X',I⟩:=gN (x+rx)
  let⟨Y',J⟩:=gN (y+ry)
  rw[I,J]at f;have HM:=Ar f;have W1:IntKind.i64.wrap ((s:Int)-(k:Int))=d:=by rw[hd,bH];omega
  have W2:IntKind.i64.wrap (d*C)=u1:=by rw[K,bH];omega
  have W3:IntKind.i64.wrap ((k:Int)*F)=u2:=by rw[L,bH];omega
  have W4:IntKind.i64.wrap (u1+u2)=u:=by rw[hu,bH];omega
  have W5:IntKind.i64.wrap (d*D)=u3:=by rw[M,bH];omega
  have W6:IntKind.i64.wrap ((k:Int)*E)=u4:=by rw[N,bH];omega
  have W7:IntKind.i64.wrap (u3+u4)=v:=by rw[hv,bH];omega
  have W8:IntKind.i64.wrap (x+rx)=X':=by rw[I,bH];omega
  have W9:IntKind.i64.wrap (y+ry)=Y':=by rw[J,bH];omega
  have B1:(0:Int)<=(k:Int):=aK
  have B2:(k:Int)<(n:Int):=aK
  clear hc a6 hd K L M N hu hv V X I J f m1 m2 m3 m4 r1 r2 j;go_upto_region 6 with fail;refine Bq λY B hV=>?_
  have q:=hA.keep B;have t:=hB.keep B;have H:OwS Y (w+1+1) (.slice (some ⟨w+1+1,0,none⟩) n n) z:=OwG.keep ho B;have T:w.heap.size≠w.heap.size+1+1:=aK
  have U:w.heap.size+1≠w.heap.size+1+1:=aK
  have bc:wr.heap.size≠w.heap.size+1+1:=aK
  have c:=Aw (aV Y Y);clear h1 P c1 c2 f1 f2 hA hB ho
  go_region_held3 (sB λW h=>Al3 (hV.keep h) (q.keep h) (t.keep h))
   (first
    | with_reducible exact Al3 (hV.keep c) (q.keep c) (t.keep c)
    | with_reducible exact Al3 ((hV.keep c).farS bc _ _) ((q.keep c).farS T _ _) ((t.keep c).farS U _ _))
   ((first
     | (go_at_call 197;(with_reducible refine(R _).mono ?_);rintro e m ⟨rfl,b7⟩;replace c:=An c b7;let⟨z1,z2,z3,z4⟩:=OwS.cells (OwG.keep H c) O g)
     | (go_at_call 197;(with_reducible refine(S _).mono ?_);rintro e w3 ⟨rfl,b8⟩;replace c:=An c b8;let⟨z1,z2,z3,z4⟩:=OwS.cells (OwG.keep H c) O g)))
  all_goals clear W1 W2 W3 W4 W5 W6 W7 W8 W9
  all_goals go_wp2_with fail
  all_goals (refine⟨⟨k+1,z.set k (X',Y'),aK,aP,by rw[cD];exact O,λp h=>?_,(q.keep c).farS T _ _,(t.keep c).farS U _ _,OwS.store (OwG.keep H c) O g X' Y',Ba (Ba (An hb (An B c)) (p:=⟨w+1+1,k*2,none⟩) aO) (p:=⟨w+1+1,k*2+1,none⟩) aO⟩,aI⟩
             rw[Lg (by rw[O];exact g)];by_cases P:k=p
             .subst P;rw[if_pos rfl,HM.out]
             rw[if_neg P];exact G p aK)
 obtain rfl:n=k:=aK
 go_wp2;go_ret;refine⟨_,rfl,?_,hb⟩
 rw[show He l (C,D) (F,E)=z from Gn (by unfold He;rw[List.length_map,List.length_range,o.out,O]) (λp h=>by
  unfold He at h;rw[List.length_map,List.length_range,o.out]at h;rw[G p h];unfold He gt;rw[List.getD,dC,fH (by rw[o.out];exact h)];rfl)]
 exact ho.lower aK
end Go.Proofs.YtboghahlhmnblaaGreat

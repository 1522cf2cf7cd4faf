/- Lean texts of the claim. -/
import Derived.Test.YtlogblbfbihleaaGreatZr20
namespace Go.Proofs.YtlogblbfbihleaaGreat
set_option linter.all false
set_option maxRecDepth 100000
set_option maxHeartbeats 0
open Go.RowKit
variable{a h m:Nat}{b:World}{e:Value}{f:List PieceP}{g:List EdgeP}{i:Array Value}{j:List SeamP}{k:List UseP}{l:TypeId}{n:Rat}
section
open Go.RowKit Limb
theorem O9{w:World} {d:Nat} {O:Value} (p:Bool) (hz:Ce w a e m) (W:Ce w h O d) (M:Sm m) (L:Sm d) (G:d≠0):Calls Tryz.prog 214 #[.bool p,e,O] w (Xi w (mkRat (sg p m) d)):=by
 let⟨D,u,N⟩:=R9 (n:=sg p m) G;rw[ku]at D u;have I:0<Nat.gcd m d:=Nat.gcd_pos_of_pos_right _ (Nat.pos_of_ne_zero G);have t:Sm (Nat.gcd m d):=L.le (Nat.gcd_le_right _ (Nat.pos_of_ne_zero G));have k:=Ar (Aiy (b:=p) D N λV=>Nat.lt_of_lt_of_le V (Nat.div_le_self _ _));generalize hr:mkRat (sg p m) d=r at u k ⊢;clear hr;generalize z:Nat.gcd m d=g at D u I t k;have R:=Ar z;have E:=Ar u;have K:Sm (m / g):=M.le (Nat.div_le_self _ _);clear D u N z;go_in;go_upto_region 1 with fail;refine Bq λX o H=>?_
 have C:=hz.keep o;have y:=W.keep o;have A:=H.lt
 go_wp2_with (first
  | (go_at_call 220;have a1:=i;refine(Af5 p (hq2.keep i) K).mono ?_;rintro F w4 ⟨v4,rfl,⟨m4,rfl,q⟩,x⟩;obtain⟨Q,n4,U,rfl⟩:=q.sl;obtain⟨P,n3,T,rfl⟩:=B.sl;have l:=An (An (An c f) i) x;let⟨r0,r1,r2,f0,f1,f2,lt⟩:=(H.keep l).triple)
  | (go_at_call 222;have Z:=f;refine(Aab ((y.keep c).keep f) (s.keep f) L t I).mono ?_;rintro F w3 ⟨q3,r3,rfl,B,a8,i⟩)
  | (go_at_call 222;have Y:=c;refine(Aab (C.keep c) s M t I).mono ?_;rintro F w2 ⟨q2,r2,rfl,hq2,a7,f⟩;obtain⟨A2,n2,c2,rfl⟩:=hq2.sl)
  | (go_at_call 272;refine(Amg C y M L).mono ?_;rintro F w1 ⟨v1,rfl,s,c⟩;rw[R.out]at s))
 have J:=k.out;rw[J]at q ⊢;have j:=B.keep x;rw[<-E.out]at j;let⟨s0,K,s2,S⟩:=Dn (w:=w) (H.keep l) (q.lower i.size) j (Nat.lt_of_lt_of_le A (An c f).size) (Nat.le_refl _) (An o l);exact bR S rfl (by simp[results,Tryz.results214,go_sem,s0,K,s2])
theorem jof(n:Int) (w:World) (D : -4611686018427387904<=n) (E:n<=4611686018427387904):Calls Tryz.prog 226 #[n] w (wm w n):=by
 let⟨a,f⟩:=gN n.natAbs
 have p:a<18446744073709551616:=by omega
 have h:=Ar f;by_cases t:n<0
 .have q:IntKind.i64.wrap (n+1)=n+1:=by rw[IntKind.wrap_i64];omega
  have A:IntKind.i64.wrap (-(n+1)) = -(n+1):=by rw[IntKind.wrap_i64];omega
  have B:IntKind.u64.wrap (-(n+1)) = -(n+1):=by rw[IntKind.wrap_u64];omega
  have C:IntKind.u64.wrap (-(n+1)+1)=(a:Int):=by rw[IntKind.wrap_u64];omega
  clear f;go_in;go_upto_region 2 with fail;refine Bq λX g d=>?_
  go_wp2_with (go_at_call 221;refine(All a _ p).mono ?_;rintro e z ⟨y,rfl,c,b⟩;obtain⟨l,o,m,rfl⟩:=c.sl;let⟨u,x,r,s,lt⟩:=(d.keep b).pair)
  rw[<-h.out]at c;let⟨j,k,i⟩:=Gd (w:=w) (d.keep b) c d.lt (Nat.le_refl _) (An g b);rw[decide_eq_true t]at j k i;exact bR i rfl (by simp[results,Tryz.results226,go_sem,j,k])
 have q:IntKind.u64.wrap n=(a:Int):=by rw[IntKind.wrap_u64];omega
 clear f;go_in;go_upto_region 3 with fail;refine Bq λX g d=>?_
 go_wp2_with (go_at_call 221;refine(All a _ p).mono ?_;rintro e z ⟨y,rfl,c,b⟩;obtain⟨l,o,m,rfl⟩:=c.sl;let⟨u,x,r,s,lt⟩:=(d.keep b).pair)
 rw[<-h.out]at c;let⟨j,k,i⟩:=Gd (w:=w) (d.keep b) c d.lt (Nat.le_refl _) (An g b);rw[decide_eq_false (show ¬n<0 by omega)]at j k i;exact bR i rfl (by simp[results,Tryz.results226,go_sem,j,k])
theorem Adw(n:Int) (w:World) (t : -4611686018427387904<=n) (u:n<=4611686018427387904):Calls Tryz.prog 173 #[n] w (Xi w (n:Rat)):=by
 let⟨z,g⟩:=gN ((n:Rat):Rat)
 have k:z.num=n:=by rw[<-g];rfl
 have l:z.den=1:=by rw[<-g];rfl
 rw[g];have j:=Ar k;have p:=Ar l;clear g k l;go_in;go_upto_region 1 with fail;refine Bq λX i h=>?_
 go_wp2_with (first
  | (go_at_call 221;refine(All 1 _ (by omega)).mono ?_;rintro e M ⟨K,rfl,c,f⟩;obtain⟨o,y,s,rfl⟩:=c.sl;have a:=An d f;let⟨G,H,I,C,D,E,lt⟩:=(h.keep a).triple)
  | (go_at_call 226;refine(jof n _ t u).mono ?_;rintro e L ⟨J,rfl,⟨F,rfl,b⟩,d⟩;obtain⟨m,x,r,rfl⟩:=b.sl))
 rw[<-j.out]at b;rw[<-p.out]at c;let⟨A,B,s2,q⟩:=Dn (w:=w) (h.keep a) (b.keep f) (c.lower d.size) h.lt (Nat.le_refl _) (An i a);rw[<-j.out];exact bR q rfl (by simp[results,Tryz.results173,go_sem,A,B,s2])
theorem Aal{w:World}  {x:Rat} {vx:Value} (I:Ib w a vx x) (z:RB 600 x):Calls Tryz.prog 212 #[vx] w (Bz w (.bool (decide (x.num=0)))):=by
 let⟨t,E⟩:=Qe z;obtain⟨m,d,rfl,j,q⟩:=I;obtain⟨R,Y,U,rfl⟩:=j.sl;obtain⟨S,Z,V,rfl⟩:=q.sl;generalize L:decide (x.num<0)=p;have i:=x.den_nz;let⟨g,B⟩:=gN x.num.natAbs
 let⟨b,C⟩:=gN x.den
 rw[B]at j t;rw[C]at q E i
 have y:Hid (decide (x.num=0)=decide ((lmb g).length=0)):=Ar (decide_eq_decide.2 (by
  by_cases h:g=0
  .rw[h,Cb];exact⟨λ_=>rfl,λ_=>by omega⟩
  rw[D6 h];exact⟨λe=>absurd (show g=0 by omega) h,λe=>by simp at e⟩))
 have u:Hid (0<(lmb b).length):=Ar (by rw[D6 i];simp);clear L B C i z;rw[y.out];let⟨k,r⟩:=gN ((lmb g).length)
 let⟨l,D⟩:=gN ((lmb b).length)
 have v:=Ar r;have G:=Ar D;have s:¬((l:Int)=0):=by have:=u.out;omega
 rw[r];clear r D u y;go_in;go_upto_region 1 with fail;refine Bq λX f A=>?_
 obtain⟨p0,p1,p2,-⟩:=A.triple;by_cases n:k=0
 .subst n
  go_wp2_with (go_at_call 271;refine(xl (j.keep f) t).mono ?_;rintro e Q ⟨P,rfl,⟨F,H,rfl,-⟩,c⟩;rw[v.out])
  go_ret;exact⟨rfl,An f c⟩
 have K:¬((k:Int)=0):=by omega
 have hq:((k:Int) == 0)=false:=by simpa using n
 have hq2:((l:Int) == 0)=false:=by simpa using s
 go_wp2_with (first
  | (go_at_call 271;have J:=c;refine(xl ((q.keep f).keep c) E).mono ?_;rintro e w2 ⟨v2,rfl,⟨T,W,rfl,-⟩,o⟩;rw[G.out])
  | (go_at_call 271;refine(xl (j.keep f) t).mono ?_;rintro e Q ⟨P,rfl,⟨F,H,rfl,-⟩,c⟩;rw[v.out];obtain⟨M,N,O,-⟩:=(A.keep c).triple))
 go_ret;exact⟨by rw[decide_eq_false n];rfl,An f (An c o)⟩
end
section
open Go.RowKit Limb
theorem Aam{w:World}  {x:Rat} {vx:Value} (G:Ib w a vx x) (y:RB 600 x):Calls Tryz.prog 213 #[vx] w (Xi w x):=by
 have r:=G;let⟨sn,Z⟩:=Qe y;obtain⟨m,d,rfl,I,H⟩:=G;obtain⟨A1,n1,c1,rfl⟩:=I.sl;obtain⟨A2,n2,c2,rfl⟩:=H.sl;have E:=Ar (show mkRat (sg (decide (x.num<0)) x.num.natAbs) x.den=x by rw[I7];exact Rat.mkRat_self x);have K:=Ar x.den_nz;have j:=r;generalize Q:decide (x.num<0)=p at E j ⊢;clear Q r;go_in;go_upto_region 1 with fail;refine Eo λX f F q=>?_
 obtain⟨p0,p1,p2,-⟩:=F.triple;have i:=q.lt;by_cases n:x.num=0
 .have J:((0:Int):Rat)=x:=by rw[Rat.num_eq_zero.1 n];rfl
  have L:=Ar J;have l:=decide_eq_true n;clear J n
  go_upto_region 2 with (go_at_call 212;refine rR (Aal (j.keep f) y) λw1 b=>?_;rw[l])
  go_wp2_with (go_at_call 173;refine(Adw 0 _ (by omega) (by omega)).mono ?_;rintro e w2 ⟨v2,rfl,o,k⟩;rw[L.out]at o;obtain⟨R,M,rfl,h,g⟩:=o;obtain⟨t,n4,A,rfl⟩:=h.sl;obtain⟨s,B,z,rfl⟩:=g.sl;have c:=An b k;let⟨V,W,Y,N,O,P,lt⟩:=(q.keep c).triple)
  let⟨C,D,s2,u⟩:=Dn (w:=w) (q.keep c) h g (Nat.lt_of_lt_of_le i b.size) (by omega) (An f c);exact bR u rfl (by simp[results,Tryz.results213,go_sem,C,D,s2])
 have l:=decide_eq_false n;clear n
 go_upto_region 3 with (go_at_call 212;refine rR (Aal (j.keep f) y) λw1 b=>?_;rw[l])
 obtain⟨S,T,U,-⟩:=(F.keep b).triple
 go_wp2_with (go_at_call 214;refine(O9 p ((I.keep f).keep b) ((H.keep f).keep b) sn Z K.out).mono ?_;rintro e w2 ⟨v2,rfl,o,k⟩;rw[E.out]at o;obtain⟨R,M,rfl,h,g⟩:=o;obtain⟨t,n4,A,rfl⟩:=h.sl;obtain⟨s,B,z,rfl⟩:=g.sl;have c:=An b k;let⟨V,W,Y,N,O,P,lt⟩:=(q.keep c).triple)
 let⟨C,D,s2,u⟩:=Dn (w:=w) (q.keep c) h g (Nat.lt_of_lt_of_le i b.size) (by omega) (An f c);exact bR u rfl (by simp[results,Tryz.results213,go_sem,C,D,s2])
end
theorem Ahk(z:Int) (w:World):Calls Tryz.prog 269 #[z] w λe a=>e=.returned (.bool (decide (1048576<z) || decide (z < -1048576)))/\w=a:=by
 go_enter Tryz.func269,Tryz.ntmps269;go_wp2;all_goals go_ret
 all_goals exact⟨rfl,rfl⟩
theorem zw(x y:Int):((decide (1048576<x) || decide (x < -1048576)) || (decide (1048576<y) || decide (y < -1048576)))=Cc 1048576 (x,y):=by
 unfold Cc;rw[Bool.or_comm (decide (1048576<x)),Bool.or_comm (decide (1048576<y))];simp[Bool.or_assoc]
theorem Anx(A:Option Addr) (t n:Nat) (l:LP) (w:World) (K:n<=1000000) (F:SpS w A n l):Calls Tryz.prog 210 #[.slice A n t] w λe H=>e=.returned (.bool (Bp (λi=>Cc 1048576 (gt l i)) n))/\w=H:=by
 go_enter Tryz.func210,Tryz.ntmps210;go_wp2_with fail;go_loopw [3] (λi wr=>∃k:Nat,k<=n/\i=.int .i64 k/\Hid (Bp (λi=>Cc 1048576 (gt l i)) k=false)/\w=wr) λi _=>n-(intOf i).toNat
 case atStart=>exact⟨0,Nat.zero_le _,rfl,Bp.zero _,rfl⟩
 obtain⟨k,J,rfl,B,rfl⟩:=hrel;by_cases c:k<n
 .obtain⟨b,G,rfl,E,z⟩:=F.at_ c;let⟨u,v⟩:=z k c;let⟨⟨x,y⟩,h⟩:∃p,gt l k=p:=⟨_,rfl⟩
  rw[h]at u v;dsimp only at u v;have I:(k:Int)<(n:Int):=by omega
  have m:=Ar (zw x y);have s:=Ar h;let⟨p,d⟩:=gN (decide (1048576<x) || decide (x < -1048576))
  let⟨q,g⟩:=gN (decide (1048576<y) || decide (y < -1048576))
  rw[d,g]at m;have o:=Ar d;have r:=Ar g;clear h d g z;cases p with
  | true =>
    have j:=Ar (Bp.yes (f:=λi=>Cc 1048576 (gt l i)) c (show Cc 1048576 (gt l k)=true by rw[s.out,<-m.out];rfl))
    go_wp2_with (first
     | (go_at_call 269;have hq2:=a;refine(Ahk y _).mono ?_;rintro e D ⟨rfl,rfl⟩;rw[r.out])
     | (go_at_call 269;refine(Ahk x _).mono ?_;rintro e C ⟨rfl,rfl⟩;rw[o.out];have a:=trivial))
    go_ret;exact⟨by rw[j.out];rfl,rfl⟩
  | false =>
    cases q with
    | true =>
      have j:=Ar (Bp.yes (f:=λi=>Cc 1048576 (gt l i)) c (show Cc 1048576 (gt l k)=true by rw[s.out,<-m.out];rfl))
      go_wp2_with (first
      | (go_at_call 269;have hq2:=a;refine(Ahk y _).mono ?_;rintro e D ⟨rfl,rfl⟩;rw[r.out])
      | (go_at_call 269;refine(Ahk x _).mono ?_;rintro e C ⟨rfl,rfl⟩;rw[o.out];have a:=trivial))
      go_ret;exact⟨by rw[j.out];rfl,rfl⟩
    | false =>
      have j:=Ar (Bp.succ (f:=λi=>Cc 1048576 (gt l i)) B.out (show Cc 1048576 (gt l k)=false by rw[s.out,<-m.out];rfl))
      go_wp2_with (first
      | (go_at_call 269;have hq2:=a;refine(Ahk y _).mono ?_;rintro e D ⟨rfl,rfl⟩;rw[r.out])
      | (go_at_call 269;refine(Ahk x _).mono ?_;rintro e C ⟨rfl,rfl⟩;rw[o.out];have a:=trivial))
      exact⟨⟨k+1,by omega,by go_num,j,trivial⟩,by simp[intOf];omega⟩
 obtain rfl:n=k:=by omega
 go_wp2_with fail;go_ret;exact⟨by rw[B.out];rfl,rfl⟩
def RtI (n j r:Nat):Prop:=r*r<=n/\n<(r+2 ^ j)*(r+2 ^ j)/\r+2 ^ j<=4294967296
theorem RtI.yes(d:RtI a (h+1) m) (ht:(m+2 ^ h)*(m+2 ^ h)<=a):RtI a h (m+2 ^ h):=by
 obtain⟨-,b,c⟩:=d;have e:m+2 ^ (h+1)=m+2 ^ h+2 ^ h:=by rw[Nat.pow_succ];omega
 rw[e]at b c;exact⟨ht,b,c⟩
theorem RtI.no(b:RtI a (h+1) m) (ht:a<(m+2 ^ h)*(m+2 ^ h)):RtI a h m:=by
 obtain⟨c,-,d⟩:=b;rw[Nat.pow_succ]at d;exact⟨c,ht,by omega⟩
theorem Aml(n:Nat) (w:World) (u:n<9223372036854775808):Calls Tryz.prog 270 #[(n:Int)] w λe C=>e=.returned (.int .i64 (Ca n:Int))/\w=C:=by
 have g:=Ar (Jn u);have D:IntKind.u64.wrap (n:Int)=(n:Int):=by rw[IntKind.wrap_u64];omega
 go_enter Tryz.func270,Tryz.ntmps270;go_wp2_with fail;go_loopw [3,4,5] (λo k _ wr=>∃j r:Nat,j<=32/\o=.int .i64 (r:Int)/\k=.int .i64 ((j:Int)-1)/\Hid (RtI n j r)/\w=wr) λ_ k _ _=>(intOf k+1).toNat
 case atStart=>exact⟨32,0,by omega,rfl,by go_num,Ar ⟨by omega,by simp;omega,by decide⟩,rfl⟩
 obtain⟨j,r,L,rfl,rfl,a,rfl⟩:=hrel;cases j with
 | zero =>
   have b:=Ar (Og a.out.1 a.out.2.1 g.out.1 g.out.2);clear a g u;go_wp2_with fail;go_ret;exact⟨by rw[<-b.out];rfl,rfl⟩
 | succ k =>
   have v:((k+1:Nat):Int)-1=(k:Int):=by omega
   rw[v];let⟨y,z,i⟩:=a.out;rw[Nat.pow_succ]at i;have d:=Ar λh=>a.out.yes h;have c:=Ar λh=>a.out.no h;let⟨m,f⟩:=gN (2 ^ k)
   have p:(2:Int) ^ k=(m:Int):=by rw[<-f,Int.natCast_pow];rfl
   rw[f]at i d c;let⟨t,ht⟩:=gN (r+m)
   rw[ht]at d c;have A:0<m:=by rw[<-f];exact Nat.pow_pos (by decide)
   let⟨q,hq⟩:=gN (t*t)
   have B:q<18446744073709551616:=by
    rw[<-hq];have:=Nat.mul_le_mul (show t<=4294967295 by omega) (show t<=4294967295 by omega);omega
   have s:(t:Int)*(t:Int)=(q:Int):=by rw[<-Int.natCast_mul,hq]
   rw[hq]at d c;have E:IntKind.i64.wrap ((2:Int) ^ k)=(m:Int):=by rw[p,IntKind.wrap_i64];omega
   have F:IntKind.i64.wrap ((r:Int)+(m:Int))=(t:Int):=by rw[IntKind.wrap_i64];omega
   have G:IntKind.u64.wrap (t:Int)=(t:Int):=by rw[IntKind.wrap_u64];omega
   have H:IntKind.u64.wrap ((t:Int)*(t:Int))=(q:Int):=by rw[s,IntKind.wrap_u64];omega
   have I:IntKind.i64.wrap (t:Int)=(t:Int):=by rw[IntKind.wrap_i64];omega
   have J:IntKind.i64.wrap ((k:Int)-1)=(k:Int)-1:=by rw[IntKind.wrap_i64];omega
   have K:IntKind.u64.wrap (k:Int)=(k:Int):=by rw[IntKind.wrap_u64];omega
   clear v f p ht hq s a y z i;by_cases l:q<=n
   .have b:=Ar (d.out l);have x:(q:Int)<=(n:Int):=by omega
    go_wp2_with fail;exact⟨⟨k,t,by omega,rfl,by go_num,b,trivial⟩,by simp[intOf]⟩
   have b:=Ar (c.out (by omega));have x:(n:Int)<(q:Int):=by omega
   go_wp2_with fail;exact⟨⟨k,r,by omega,rfl,by go_num,b,trivial⟩,by simp[intOf]⟩
theorem Q8(A:Option Addr) (x n:Nat) (l:LP) (w:World) (X:n<=9223372036854775807) (B:SpS w A n l) :
 Calls Tryz.prog 159 #[.slice A n x] w (Bz w (plW l n)):=by
 by_cases s:40<n
 .have a:=Ar (show plW l n=5 by unfold plW;rw[if_pos s]);go_enter Tryz.func159,Tryz.ntmps159;go_wp2_with fail;go_ret;exact⟨by rw[a.out];rfl,bl0⟩
 by_cases y:n<2
 .have a:=Ar (show plW l n=11 by unfold plW;rw[if_neg s,if_pos y]);go_enter Tryz.func159,Tryz.ntmps159;go_wp2_with fail;go_ret;exact⟨by rw[a.out];rfl,bl0⟩
 have u:=Ar (show plW l n=if Bp (λi=>Cc 1048576 (gt l i)) n then 3 else if Bp (λi=>eqS (gt l i) (gt l (i+1))) (n-1) then 11 else 0 by unfold plW;rw[if_neg s,if_neg y]);have R:=Ea;have Y:n<=40:=by omega
 have Z:2<=n:=by omega
 clear s y;cases ho:Bp (λi=>Cc 1048576 (gt l i)) n with
 | true =>
   have a:=Ar (show plW l n=3 by rw[u.out,ho];rfl);have t:=Ar ho;clear ho;go_enter Tryz.func159,Tryz.ntmps159
   go_wp2_with (go_at_call 210;refine(Anx _ _ _ l _ (by omega) B).mono ?_;rintro e V ⟨rfl,rfl⟩;rw[t.out])
   go_ret;exact⟨by rw[a.out];rfl,bl0⟩
 | false =>
   have v:=Ar (show plW l n=if Bp (λi=>eqS (gt l i) (gt l (i+1))) (n-1) then 11 else 0 by rw[u.out,ho];rfl);have t:=Ar ho;clear ho u;let⟨m,I⟩:∃m,m+1=n:=⟨n-1,by omega⟩
   rw[show n-1=m by omega]at v;have C:=Ar I;clear I;go_enter Tryz.func159,Tryz.ntmps159
   go_upto_region 8 with (go_at_call 210;refine(Anx _ _ _ l _ (by omega) B).mono ?_;rintro e V ⟨rfl,rfl⟩;rw[t.out])
   go_loopw [3] (λi wr=>∃j:Nat,1<=j/\j<=n/\i=.int .i64 (j:Int)/\Hid (Bp (λi=>eqS (gt l i) (gt l (i+1))) (j-1)=false)/\Be w wr) λi _=>n-(intOf i).toNat
   case atStart=>exact⟨1,Nat.le_refl _,by omega,rfl,Bp.zero _,bl0⟩
   obtain⟨j,S,W,rfl,z,c⟩:=hrel;by_cases T:j<n
   .obtain⟨k,H⟩:∃k,j-1=k:=⟨_,rfl⟩
    rw[H]at z;obtain⟨b,U,rfl,Q,q⟩:=B.at_ (k:=0) (by omega);have D:=Aq c (q k (by omega)).1;have E:=Aq c (q k (by omega)).2;have F:=Aq c (q j (by omega)).1;have G:=Aq c (q j (by omega)).2;let⟨⟨J,L⟩,d⟩:∃p,gt l k=p:=⟨_,rfl⟩
    let⟨⟨K,M⟩,g⟩:∃p,gt l j=p:=⟨_,rfl⟩
    rw[d]at D E;rw[g]at F G;dsimp only at D E F G;have N:(j:Int)<(n:Int):=by omega
    have P:IntKind.i64.wrap ((j:Int)-1)=(k:Int):=by rw[IntKind.wrap_i64];omega
    have O:(k:Int)<(n:Int):=by omega
    have r:Hid (k<m/\j=k+1):=Ar ⟨by have:=C.out;omega,by omega⟩;have o:Hid (eqS (gt l k) (gt l (k+1))=eqS (K,M) (J,L)):=Ar (by rw[show k+1=j by omega,d,g];unfold eqS;rw[Bool.eq_iff_iff];simp;omega);clear q d g H;go_wp2_with fail;go_quiet (fail);have h:Be w (wr.drewN nq):=Bd c _;clear c N O P;cases he:eqS (K,M) (J,L) with
    | true =>
      have a:=Ar (show plW l n=11 by rw[v.out,if_pos (Bp.yes (f:=λi=>eqS (gt l i) (gt l (i+1))) r.out.1 (o.out.trans he))])
      go_wp2_with fail;go_ret;exact⟨by rw[a.out];rfl,h⟩
    | false =>
      have a:=Bp.succ (f:=λi=>eqS (gt l i) (gt l (i+1))) z.out (o.out.trans he)
      go_wp2_with fail;exact⟨⟨j+1,by omega,by omega,by go_num,by rw[show j+1-1=k+1 by have:=r.out.2;omega];exact a,h⟩,by simp[intOf];omega⟩
   obtain rfl:j=n:=by omega
   have a:=Ar (show plW l j=0 by rw[v.out,show m=j-1 by have:=C.out;omega,z.out];rfl)
   go_wp2_with fail;go_ret;exact⟨by rw[a.out];rfl,c⟩
theorem Ao8(x y a b:Int) (w:World) (p:Nd (x,y)) (hq:Nd (a,b)):Calls Tryz.prog 211 #[.agg #[x,y],.agg #[a,b]] w (Bz w (iq (x,y) (a,b):Int)):=by
 let⟨s,s2,z,A⟩:=V6 p hq;obtain⟨J,K,L,M⟩:=p;obtain⟨N,O,P,Q⟩:=hq;dsimp only at *
 let⟨u,k⟩:=gN ((a-x)*(a-x))
 let⟨v,l⟩:=gN ((b-y)*(b-y))
 have o:=Ar (show iq (x,y) (a,b)=Ca (1000000*(u+v)).toNat by unfold iq;dsimp only;rw[k,l]);rw[k]at s s2;rw[l]at z A;let⟨t,ht⟩:∃t:Nat,1000000*(u+v)=(t:Int):=⟨(1000000*(u+v)).toNat,by omega⟩
 have j:(1000000*(u+v)).toNat=t:=by omega
 rw[j]at o;have m:t<9223372036854775808:=by omega
 let⟨c,h⟩:=gN (a-x)
 let⟨f,i⟩:=gN (b-y)
 rw[h]at k;rw[i]at l;have B:IntKind.i64.wrap (a-x)=c:=by rw[h,IntKind.wrap_i64];omega
 have C:IntKind.i64.wrap (b-y)=f:=by rw[i,IntKind.wrap_i64];omega
 have D:IntKind.i64.wrap c=c:=by rw[IntKind.wrap_i64];omega
 have E:IntKind.i64.wrap f=f:=by rw[IntKind.wrap_i64];omega
 have F:IntKind.i64.wrap (c*c)=u:=by rw[k,IntKind.wrap_i64];omega
 have G:IntKind.i64.wrap (f*f)=v:=by rw[l,IntKind.wrap_i64];omega
 have H:IntKind.i64.wrap (u+v)=u+v:=by rw[IntKind.wrap_i64];omega
 have I:IntKind.i64.wrap (1000000*(u+v))=(t:Int):=by rw[ht,IntKind.wrap_i64];omega
 clear j;go_enter Tryz.func211,Tryz.ntmps211;go_wp2_with fail;refine Bh w [(⟨w.heap.size,0,none⟩,.int .i64 x),(⟨w.heap.size,1,none⟩,.int .i64 y),(⟨w.heap.size+1,0,none⟩,.int .i64 a),(⟨w.heap.size+1,1,none⟩,.int .i64 b)] (by kernel_rfl) (by kernel_rfl) ⟨(Ao (Ao (Below.refl _ _) _) _),by simp only[List.mem_cons,List.not_mem_nil,forall_eq_or_imp,or_false,forall_eq];go_simp⟩ ?_
 repeat
  apply Cx
  .rfl
  .intro R n;have r:=n.2;simp only[List.mem_cons,List.not_mem_nil,forall_eq_or_imp,or_false,forall_eq]at r
   go_simp
   first|rfl
  go_simp
 refine wpQuiet_nil ?_;intro S g;have q:=g.1
 go_wp2_with (go_at_call 270;refine(Aml t _ m).mono ?_;rintro e T ⟨rfl,rfl⟩)
 go_ret;exact⟨by rw[o.out];rfl,q⟩
theorem Ajk(A:Option Addr) (I n:Nat) (l:LP) (w:World) (W:SpS w A n l) (c:plW l n=0) :
 Calls Tryz.prog 161 #[.slice A n I] w (Bz w (Vm l (n-1):Int)):=by
 have H:=Ar c
 have V:2<=n/\n<=40:=by
  unfold plW at c;split at c
  .cases c
  split at c
  .cases c
  omega
 clear c;go_enter Tryz.func161,Tryz.ntmps161;go_upto_region 3 with fail;go_loopw [3,4] (λs i wr=>∃j k:Nat,k+1=j/\j<=n/\i=.int .i64 (j:Int)/\s=.int .i64 (Vm l k:Int)/\Be w wr) λ_ i _=>n-(intOf i).toNat
 case atStart=>exact⟨1,0,rfl,by omega,rfl,rfl,bl0⟩
 obtain⟨j,k,e,U,rfl,rfl,o⟩:=hrel;have G:=Ar e;by_cases L:j<n
 .obtain⟨b,a,rfl,T,r⟩:=W.at_ (k:=0) (by omega);have P:=Aq o (r k (by omega)).1;have Q:=Aq o (r k (by omega)).2;have R:=Aq o (r j (by omega)).1;have S:=Aq o (r j (by omega)).2;have y:=(Lb H.out (k:=k) (by omega)).1;have z:=(Lb H.out (k:=j) (by omega)).1;have u:=kx y z;have K:=Wh H.out k (by omega);have x:=Ar (show Vm l j=Vm l k+iq (gt l k) (gt l j) by rw[<-e];rfl);have M:(j:Int)<(n:Int):=by omega
  have N:(k:Int)<(n:Int):=by omega
  have O:IntKind.i64.wrap ((j:Int)-1)=(k:Int):=by rw[IntKind.wrap_i64];omega
  let⟨⟨C,E⟩,f⟩:∃p,gt l k=p:=⟨_,rfl⟩
  let⟨⟨D,F⟩,g⟩:∃p,gt l j=p:=⟨_,rfl⟩
  rw[f]at P Q y;rw[g]at R S z;rw[f,g]at u x;let⟨m,h⟩:=gN (iq (C,E) (D,F))
  rw[h]at u x;let⟨ln,t⟩:=gN (Vm l k)
  rw[t]at K x ⊢;have Y:IntKind.i64.wrap ((ln:Int)+(m:Int))=(ln:Int)+(m:Int):=by rw[IntKind.wrap_i64];omega
  have d:∀B:World,Calls Tryz.prog 211 #[.agg #[C,E],.agg #[D,F]] B (Bz B (m:Int)):=λB=>by have:=Ao8 C E D F B y z;rwa [h] at this
  clear r f g h t y z e;go_wp2_with fail;refine Bh wr [(⟨b,a+k*2,none⟩,.int .i64 C),(⟨b,a+k*2+1,none⟩,.int .i64 E),(⟨b,a+j*2,none⟩,.int .i64 D),(⟨b,a+j*2+1,none⟩,.int .i64 F)] (by kernel_rfl) (by kernel_rfl) ⟨bl0,by simp only[List.mem_cons,List.not_mem_nil,forall_eq_or_imp,or_false,forall_eq];go_simp⟩ ?_
  repeat
   apply Cx
   .rfl
   .intro Z v;have X:=v.2;simp only[List.mem_cons,List.not_mem_nil,forall_eq_or_imp,or_false,forall_eq]at X
    go_simp
    first|rfl|exact Bw v (d _)
   go_simp
  refine wpQuiet_nil ?_;intro w5 q;have J:=An o q.1;clear O M N;go_wp2_with fail;exact⟨⟨j+1,j,rfl,by omega,by go_num,by rw[x.out];go_num,J⟩,by simp[intOf];omega⟩
 obtain rfl:j=n:=by omega
 clear L U;go_wp2_with fail;go_ret;exact⟨by rw[show j-1=k by have:=G.out;omega];rfl,o⟩
theorem Ao9 (A:Option Addr) (a n:Nat) (l:LP) (w:World) (i:n<=9223372036854775807) (g:SpS w A n l) :
 Calls Tryz.prog 114 #[.slice A n a] w (Bz w (.tuple #[(My l n).1,(My l n).2])):=by
 by_cases c:plW l n=0
 .have d:=Ar (show My l n=((Vm l (n-1):Int),0) by unfold My;rw[if_pos c]);have h:=Ar c;clear c;go_in
  go_wp2_with (first
   | (go_at_call 161;refine rR (Ajk A a n l _ (g.keep b) h.out) λk f=>?_)
   | (go_at_call 159;refine rR (Q8 A a n l _ i g) λj b=>?_;rw[h.out]))
  go_ret2
  exact⟨by rw[d.out];rfl,An b f⟩
 have d:=Ar (show My l n=(0,plW l n) by unfold My;rw[if_neg c]);have q:(plW l n != 0)=true:=by simpa using c
 clear c;go_in
 go_wp2_with (go_at_call 159;refine rR (Q8 A a n l _ i g) λj b=>?_)
 go_ret2
 exact⟨by rw[d.out];rfl,b⟩
def szC (c:Int):Bool:=!(decide (65<=c)&&decide (c<=90))&&!(decide (48<=c)&&decide (c<=57))
theorem Y9(s:ByteArray) (w:World) (D:s.size<=9223372036854775807):Calls Tryz.prog 140 #[.string s] w λe z=>e=.returned (.bool (szB s))/\w=z:=by
 have r:=Ar (show szB s=(!Bp (λi=>szC (byI s i)) s.size&&(decide (1<=s.size)&&decide (s.size<=8))) from rfl);go_in;go_upto_region 2 with fail;go_loopw [3,4,5,8] (λ_ _ _ i wr=>∃k:Nat,k<=s.size/\i=.int .i64 k/\Hid (Bp (λi=>szC (byI s i)) k=false)/\wr=w) λ_ _ _ i _=>s.size-(intOf i).toNat
 case atStart=>exact⟨0,Nat.zero_le _,rfl,Bp.zero _,rfl⟩
 obtain⟨k,C,rfl,t,rfl⟩:=hrel;by_cases p:k<s.size
 .have A:(k:Int)<(s.size:Int):=by omega
  let⟨c,y⟩:=gN ((s[k].toNat:Int):Int)
  have l:=Ar (show byI s k=c by unfold byI;rw[dif_pos p,y]);let⟨a,g⟩:=gN (decide (65<=c))
  let⟨v,x⟩:=gN (decide (c<=90))
  let⟨d,j⟩:=gN (decide (48<=c))
  let⟨n,o⟩:=gN (decide (c<=57))
  have B:=Ar (show szC c=(!(a&&v)&&!(d&&n)) by unfold szC;rw[g,x,j,o]);rcases(show (c<48\/(57<c/\c<65)\/90<c)\/((48<=c/\c<=57)\/(65<=c/\c<=90)) by omega) with hno|hyes
  .have u:=Ar (show szB s=false by
    rw[r.out,Bp.yes (f:=λi=>szC (byI s i)) p (by rw[l.out];unfold szC;rcases hno with h|h|h<;>simp<;>omega)];rfl)
   rcases hno with h|h|h
   .obtain rfl:a=false:=by rw[<-g];simp;omega
    obtain rfl:d=false:=by rw[<-j];simp;omega
    go_wp2
    (go_ret;exact⟨by rw[u.out];rfl,rfl⟩)
   .obtain rfl:a=false:=by rw[<-g];simp;omega
    obtain rfl:d=true:=by rw[<-j];simp;omega
    obtain rfl:n=false:=by rw[<-o];simp;omega
    go_wp2
    (go_ret;exact⟨by rw[u.out];rfl,rfl⟩)
   obtain rfl:a=true:=by rw[<-g];simp;omega
   obtain rfl:v=false:=by rw[<-x];simp;omega
   obtain rfl:d=true:=by rw[<-j];simp;omega
   obtain rfl:n=false:=by rw[<-o];simp;omega
   go_wp2
   (go_ret;exact⟨by rw[u.out];rfl,rfl⟩)
  have q:=Bp.succ (f:=λi=>szC (byI s i)) t.out (by rw[l.out];unfold szC;rcases hyes with h|h<;>simp<;>omega);rcases hyes with h|h
  .obtain rfl:a=false:=by rw[<-g];simp;omega
   obtain rfl:d=true:=by rw[<-j];simp;omega
   obtain rfl:n=true:=by rw[<-o];simp;omega
   go_wp2
   (first|exact⟨⟨k+1,by omega,by go_num,q,trivial⟩,by simp[intOf];omega⟩|(go_roundw;(case rel=>exact⟨k+1,by omega,by go_num,q,rfl⟩);(case measure=>simp[intOf];omega)))
  obtain rfl:a=true:=by rw[<-g];simp;omega
  obtain rfl:v=true:=by rw[<-x];simp;omega
  obtain rfl:d=true:=by rw[<-j];simp;omega
  obtain rfl:n=false:=by rw[<-o];simp;omega
  go_wp2
  (first|exact⟨⟨k+1,by omega,by go_num,q,trivial⟩,by simp[intOf];omega⟩|(go_roundw;(case rel=>exact⟨k+1,by omega,by go_num,q,rfl⟩);(case measure=>simp[intOf];omega)))
 obtain rfl:k=s.size:=by omega
 rcases(show (s.size:Int)<1\/(1<=(s.size:Int)/\(s.size:Int)<=8)\/8<(s.size:Int) by omega) with h|h|h
 .have m:=Ar (show szB s=false by rw[r.out,t.out];simp;omega);go_wp2
  (go_ret;exact⟨by rw[m.out];simp<;>omega,rfl⟩)
 .have m:=Ar (show szB s=true by rw[r.out,t.out];simp;omega);go_wp2
  (go_ret;exact⟨by rw[m.out];simp<;>omega,rfl⟩)
 have m:=Ar (show szB s=false by rw[r.out,t.out];simp;omega);go_wp2
 (go_ret;exact⟨by rw[m.out];simp<;>omega,rfl⟩)
theorem tl{s:ByteArray} (h:s.size≠0):s.toList.isEmpty=false/\¬s.toList=[]:=by
 have:¬s.toList=[]:=by
  rw[ByteArray.toList_eq];intro e;have:=congrArg List.length e;exact h (by simpa using this)
 exact⟨by simpa using this,this⟩
theorem tk{s:ByteArray} (h:s.size=0):s.toList=[]:=by
 rw[ByteArray.toList_eq];exact List.eq_nil_of_length_eq_zero (by simpa using h)
theorem Tv(s:ByteArray) (w:World) (M:s.size<=9223372036854775807):Calls Tryz.prog 67 #[.string s] w λe G=>e=.returned (.bool (szB s))/\w=G:=by
 have l:=Ar (show szB s=(!Bp (λi=>szC (byI s i)) s.size&&(decide (1<=s.size)&&decide (s.size<=8))) from rfl);by_cases a:1<=s.size/\s.size<=8
 .have K:(s.size:Int)<=8:=by omega
  let⟨A,E⟩:=tl (s:=s) (by omega);have y:=Ar (show szB s=!Bp (λi=>szC (byI s i)) s.size by rw[l.out,decide_eq_true a.1,decide_eq_true a.2];simp);clear a l;go_in;go_upto_region 4 with fail;go_loopw [3] (λi wr=>∃k:Nat,k<=s.size/\i=.int .i64 k/\Hid (Bp (λi=>szC (byI s i)) k=false)/\wr=w) λi _=>s.size-(intOf i).toNat
  case atStart=>exact⟨0,Nat.zero_le _,rfl,Bp.zero _,rfl⟩
  obtain⟨k,L,rfl,C,rfl⟩:=hrel;by_cases h:k<s.size
  .have I:(k:Int)<(s.size:Int):=by omega
   let⟨c,F⟩:=gN ((s[k].toNat:Int):Int)
   have q:=Ar (show byI s k=c by unfold byI;rw[dif_pos h,F]);let⟨r,m⟩:=gN (decide (65<=c))
   let⟨t,n⟩:=gN (decide (c<=90))
   let⟨u,o⟩:=gN (decide (48<=c))
   let⟨x,p⟩:=gN (decide (c<=57))
   have j:=Ar (show szC (byI s k)=(!(r&&t)&&!(u&&x)) by rw[q.out];unfold szC;rw[m,n,o,p]);let⟨z,g⟩:=gN (!(r&&t)&&!(u&&x))
   go_upto_region 6 with fail;go_cut [39] λv H=>v=.bool z/\H=wr
   case first =>
    subst g;cases r<;>cases t<;>cases u<;>cases x<;>(try (simp at m n o p;omega))
    go_wp2;all_goals go_meet
    all_goals exact⟨rfl,rfl⟩
   obtain⟨rfl,rfl⟩:=hcut;cases z with
   | true =>
     have d:=Ar (show szB s=false by rw[y.out,Bp.yes (f:=λi=>szC (byI s i)) h (j.out.trans g)];rfl);clear m n o p g j;go_wp2;go_ret;exact⟨by rw[d.out];rfl,rfl⟩
   | false =>
     have D:=Bp.succ (f:=λi=>szC (byI s i)) C.out (j.out.trans g);clear m n o p g j;go_wp2;exact⟨⟨k+1,by omega,by go_num,D,trivial⟩,by simp[intOf];omega⟩
  obtain rfl:k=s.size:=by omega
  have d:=Ar (show szB s=true by rw[y.out,C.out];rfl);go_wp2;go_ret;exact⟨by rw[d.out];rfl,rfl⟩
 have d:=Ar (show szB s=false by rw[l.out];simp;omega);clear l;go_in;by_cases B:s.size=0
 .have A:=tk B;go_wp2;go_ret;exact⟨by rw[d.out];rfl,rfl⟩
 let⟨A,J⟩:=tl B;have E:¬(s.size:Int)<=8:=by omega
 go_wp2;go_ret;exact⟨by rw[d.out];rfl,rfl⟩
theorem cq(c:Int) (w:World):Calls Tryz.prog 110 #[.int .u8 c] w λe a=>e=.returned (.bool (xj c))/\w=a:=by
 go_enter Tryz.func110,Tryz.ntmps110;go_wp2;all_goals go_ret
 all_goals exact⟨Bn (by first|(simp[xj]<;>omega)|(simp[xj, *];done)),rfl⟩
def Ajn (c:Int):Bool:=!(decide (c<97) || decide (122<c))
theorem Dp (s:ByteArray) (w:World):Calls Tryz.prog 66 #[.string s] w fun e w'=>e=.returned (.bool (Cy s))/\w=w':=by
 obtain⟨b1,hb1⟩:∃b,(Ow s || !Ajn (byI s 0))=b:=⟨_,rfl⟩
 have HB:=Ar hb1
 go_in
 go_upto_region 1 with fail;go_cut [28] (fun v wx=>v=.bool b1/\wx=w)
 case first =>
  unfold Ow at hb1;by_cases h0:s.size=0
  ·have e1:=tk h0
   rw[decide_eq_true h0] at hb1;simp only[Bool.true_or] at hb1;subst hb1;clear h0;go_wp2;go_meet;exact⟨rfl,rfl⟩
  ·obtain⟨e1,e3⟩:=tl h0
   rw[decide_eq_false h0] at hb1;by_cases h1:24<s.size
   ·have e2:(24:Int)<(s.size:Int):=by omega
    rw[decide_eq_true h1] at hb1;simp only[Bool.true_or,Bool.or_true] at hb1;subst hb1;clear h0 h1;go_wp2;go_meet;exact⟨rfl,rfl⟩
   ·have e2:¬(24:Int)<(s.size:Int):=by omega
    have z0:0<s.size:=by omega
    have z1:(0:Int)<(s.size:Int):=by omega
    rw[decide_eq_false h1] at hb1;obtain⟨a1,g1⟩:∃b,(s.toList == [109,105,110])=b:=⟨_,rfl⟩
    obtain⟨a2,g2⟩:∃b,(s.toList == [109,97,120])=b:=⟨_,rfl⟩
    obtain⟨c,hc⟩:∃c:Int,(s[0].toNat:Int)=c:=⟨_,rfl⟩
    rw[g1,g2,show byI s 0=c by unfold byI;rw[dif_pos z0,hc]] at hb1
    unfold Ajn at hb1;subst hb1;clear h0 h1 HB;cases a1<;>cases a2
    go_wp2;all_goals go_meet
    all_goals exact⟨congrArg Value.bool (by first|rfl|(simp;done)|(simp;omega)),rfl⟩
 case rest =>
  obtain⟨rfl,rfl⟩:=hcut;cases b1 with
  | true =>
    have HF:Hid (Cy s=false):=Ar (by
     have h:=HB.out;rw[Bool.or_eq_true] at h;unfold Cy;rcases h with h|h
     ·rw[h];rfl
     ·by_cases h0:Ow s=true
      ·rw[h0];rfl
      ·have hz:0<s.size:=by
        rcases Nat.eq_zero_or_pos s.size with g|g
        ·exact absurd (by unfold Ow;rw[decide_eq_true g];rfl) h0
        ·exact g
       rw[Bp.yes (f:=fun i=>!chB i (byI s i)) hz (by
        unfold Ajn at h;unfold chB;simp at h ⊢;omega)]
       simp)
    go_wp2;go_ret;exact⟨by rw[HF.out];rfl,rfl⟩
  | false =>
    have h:=HB.out;rw[Bool.or_eq_false_iff] at h;have HN:=Ar (show Cy s=!Bp (fun i=>!chB i (byI s i)) s.size by unfold Cy;rw[h.1];rfl)
    have HL:=Ar (show Ajn (byI s 0)=true by have:=h.2;simpa using this)
    have h24:(s.size:Int)<=24:=by
     have:=h.1;unfold Ow at this;simp at this;omega
    clear h HB hb1;go_upto_region 4 with fail;go_loopw [3] (fun i wr=>∃k:Nat,k<=s.size/\i=.int .i64 k/\Hid (Bp (fun i=>!chB i (byI s i)) k=false)/\wr=wc) (fun i _=>s.size-(intOf i).toNat)
    case atStart=>exact⟨0,Nat.zero_le _,rfl,Bp.zero _,rfl⟩
    case round =>
     obtain⟨k,hk,rfl,hp,rfl⟩:=hrel;by_cases hlt:k<s.size
     ·have B1:(k:Int)<(s.size:Int):=by omega
      obtain⟨c,hc⟩:∃c:Int,(s[k].toNat:Int)=c:=⟨_,rfl⟩
      have HBY:=Ar (show byI s k=c by unfold byI;rw[dif_pos hlt,hc])
      obtain⟨dg,hdg⟩:∃d,xj c=d:=⟨_,rfl⟩
      obtain⟨us,hus⟩:∃u,(c == 95)=u:=⟨_,rfl⟩
      have hus2:(c != 95)=!us:=by rw[<-hus];rfl
      obtain⟨bb,hbb⟩:∃b,(!dg&&!us&&(decide (c<97) || decide (122<c)))=b:=⟨_,rfl⟩
      have HCH:Hid (chB k c=!bb):=Ar (by
       rw[<-hbb,<-hdg,<-hus];unfold chB;by_cases l:97<=c/\c<=122
       ·rw[decide_eq_false (show ¬c<97 by omega),decide_eq_false (show ¬122<c by omega),decide_eq_true l.1,decide_eq_true l.2]
        simp
       ·have hk0:(k == 0)=false:=by
         rw[beq_eq_false_iff_ne];intro hk0;have:=HL.out;rw[<-hk0,HBY.out] at this;unfold Ajn at this;simp at this;omega
        rw[hk0,show (decide (97<=c)&&decide (c<=122))=false by simp;omega,show (decide (c<97) || decide (122<c))=true by simp;omega]
        cases xj c<;>cases (c == 95)<;>rfl)
      have HDG:=Ar hdg;go_upto_region 6 with fail;go_cut [57] (fun v wx=>v=.bool bb/\wx=wr)
      case first =>
       subst hbb;clear HCH hdg hus;cases dg<;>cases us
       go_wp2_with (go_at_call 110;refine(cq _ _).mono ?_;rintro e w1 ⟨rfl,rfl⟩;rw[HDG.out])
       all_goals go_meet
       all_goals exact⟨congrArg Value.bool (by first|rfl|(simp;done)|(simp;omega)),rfl⟩
      case rest =>
       obtain⟨rfl,rfl⟩:=hcut;clear hbb hus2 hus;cases bb with
       | true =>
         have HF:=Ar (show Cy s=false by rw[HN.out,Bp.yes (f:=fun i=>!chB i (byI s i)) hlt (by rw[HBY.out,HCH.out];rfl)];rfl)
         go_wp2;go_ret;exact⟨by rw[HF.out];rfl,rfl⟩
       | false =>
         have HS:=Bp.succ (f:=fun i=>!chB i (byI s i)) hp.out (by rw[HBY.out,HCH.out];rfl)
         go_wp2;exact⟨⟨k+1,by omega,by go_num,HS,trivial⟩,by simp[intOf];omega⟩
     ·obtain rfl:k=s.size:=by omega
      have HR:=Ar (show Cy s=true by rw[HN.out,hp.out];rfl)
      go_wp2;go_ret;exact⟨by rw[HR.out];rfl,rfl⟩
section
def StS (w:World) (A:Option Addr) (n:Nat) (l:List ByteArray):Prop:=l.length=n/\(n=0\/∃b a,A=some ⟨b,a,none⟩/\∀k,k<n->Cq w b (a+k) (.string (gb l k))/\(gb l k).size<=9223372036854775807)
def Ala (w:World) (b o:Nat) (e:EdgeP):Prop:=Cq w b o (.string e.nm)/\∃A c,Cq w b (o+1) (.slice A e.ln.length c)/\e.ln.length<=c/\c<=9223372036854775807/\SpS w A e.ln.length e.ln
def EdS (w:World) (A:Option Addr) (n:Nat) (E:List EdgeP):Prop:=E.length=n/\(n=0\/∃b a,A=some ⟨b,a,none⟩/\∀k,k<n->Ala w b (a+k*2) (edg E k))
def PcV (w:World) (i:Array Value) (p:PieceP):Prop:=∃e a f b g c h d,i=#[.string p.nm,.slice e p.ed.length a,.int .i64 p.gr,.slice f p.nt.length b,.slice g p.cr.length c,.slice h p.wd.length d,.bool p.mt] /\
 (p.ed.length<=a/\a<=9223372036854775807/\EdS w e p.ed.length p.ed)/\(p.nt.length<=b/\b<=9223372036854775807/\SpS w f p.nt.length p.nt)/\(p.cr.length<=c/\c<=9223372036854775807/\SpS w g p.cr.length p.cr)/\(p.wd.length<=d/\d<=9223372036854775807/\InS w h p.wd.length p.wd)
def PcS (w:World) (A:Option Addr) (n:Nat) (P:List PieceP):Prop:=P.length=n/\(n=0\/∃b a,A=some ⟨b,a,none⟩/\∀k,k<n->∃c,PcV w c (pce P k)/\∀j u,c[j]? = some u->Cq w b (a+k*7+j) u)
def UsS (w:World) (A:Option Addr) (n:Nat) (U:List UseP):Prop:=U.length=n/\(n=0\/∃b a,A=some ⟨b,a,none⟩/\∀k,k<n->Cq w b (a+k*3) (use U k).pc/\Cq w b (a+k*3+1) (use U k).ct/\Cq w b (a+k*3+2) (.bool (use U k).pr))
def SeS (w:World) (A:Option Addr) (n:Nat) (U:List SeamP):Prop:=U.length=n/\(n=0\/∃b a,A=some ⟨b,a,none⟩/\∀k,k<n->Cq w b (a+k*6) (sem U k).pa/\Cq w b (a+k*6+1) (sem U k).ea/\Cq w b (a+k*6+2) (sem U k).pb/\Cq w b (a+k*6+3) (sem U k).eb/\Cq w b (a+k*6+4) (.bool (sem U k).rv)/\Cq w b (a+k*6+5) (sem U k).es)
def StV (w:World) (m:Array Value) (s:StyleP):Prop:=∃g a h b i c j d k e l f,m=#[.string s.nm,.slice g s.sz.length a,.slice h s.mu.length b,.slice i s.pc.length c,.slice j s.us.length d,.slice k s.se.length e,.slice l s.no f] /\
 (s.sz.length<=a/\a<=9223372036854775807/\StS w g s.sz.length s.sz)/\(s.mu.length<=b/\b<=9223372036854775807/\InS w h s.mu.length s.mu)/\(s.pc.length<=c/\c<=9223372036854775807/\PcS w i s.pc.length s.pc)/\(s.us.length<=d/\d<=9223372036854775807/\UsS w j s.us.length s.us)/\(s.se.length<=e/\e<=9223372036854775807/\SeS w k s.se.length s.se)/\(s.no<=f/\f<=9223372036854775807)
section
variable {w w' : World} {A : Option Addr} {n : Nat}
theorem StS.keep {l:List ByteArray} (h:StS w A n l) (hb:Be w w'):StS w' A n l:=by
 refine⟨h.1,?_⟩;rcases h.2 with h2|⟨b,off,rfl,h2⟩
 ·exact .inl h2
 ·exact .inr ⟨b,off,rfl,fun k hk=>⟨Aq hb (h2 k hk).1,(h2 k hk).2⟩⟩
theorem StS.at_ {l:List ByteArray} (h:StS w A n l) {k:Nat} (hk:k<n):∃b off,A=some ⟨b,off,none⟩/\Cq w b (off+k) (.string (gb l k))/\(gb l k).size<=9223372036854775807:=by
 rcases h.2 with h2|⟨b,off,rfl,h2⟩
 ·omega
 ·exact⟨b,off,rfl,h2 k hk⟩
theorem Ala.keep {b o:Nat} {e:EdgeP} (h:Ala w b o e) (hb:Be w w'):Ala w' b o e:=by
 obtain⟨h1,A,c,h2,h3,h4,h5⟩:=h;exact⟨Aq hb h1,A,c,Aq hb h2,h3,h4,h5.keep hb⟩
theorem EdS.keep {E:List EdgeP} (h:EdS w A n E) (hb:Be w w'):EdS w' A n E:=by
 refine⟨h.1,?_⟩;rcases h.2 with h2|⟨b,off,rfl,h2⟩
 ·exact .inl h2
 ·exact .inr ⟨b,off,rfl,fun k hk=>(h2 k hk).keep hb⟩
theorem EdS.at_ {E:List EdgeP} (h:EdS w A n E) {k:Nat} (hk:k<n):∃b off,A=some ⟨b,off,none⟩/\∀k,k<n->Ala w b (off+k*2) (edg E k):=by
 rcases h.2 with h2|⟨b,off,rfl,h2⟩
 ·omega
 ·exact⟨b,off,rfl,h2⟩
theorem PcV.keep {vs:Array Value} {p:PieceP} (h:PcV w vs p) (hb:Below w.heap.size w w'):PcV w' vs p:=by
 obtain⟨A1,c1,A2,c2,A3,c3,A4,c4,e,⟨h1,h1',h1''⟩,⟨h2,h2',h2''⟩,⟨h3,h3',h3''⟩,h4,h4',h4''⟩:=h;exact⟨A1,c1,A2,c2,A3,c3,A4,c4,e,⟨h1,h1',h1''.keep hb⟩,⟨h2,h2',h2''.keep hb⟩,⟨h3,h3',h3''.keep hb⟩,h4,h4',h4''.keep hb⟩
theorem PcS.keep {P:List PieceP} (h:PcS w A n P) (hb:Be w w'):PcS w' A n P:=by
 refine⟨h.1,?_⟩;rcases h.2 with h2|⟨b,off,rfl,h2⟩
 ·exact .inl h2
 ·refine .inr ⟨b,off,rfl,fun k hk=>?_⟩
  obtain⟨vs,g1,g2⟩:=h2 k hk;exact⟨vs,g1.keep hb,fun j u hu=>Aq hb (g2 j u hu)⟩
theorem PcS.at_ {P:List PieceP} (h:PcS w A n P) {k:Nat} (hk:k<n):∃b off,A=some ⟨b,off,none⟩/\∃vs,PcV w vs (pce P k)/\∀j u,vs[j]? = some u->Cq w b (off+k*7+j) u:=by
 rcases h.2 with h2|⟨b,off,rfl,h2⟩
 ·omega
 ·exact⟨b,off,rfl,h2 k hk⟩
theorem UsS.keep {U:List UseP} (h:UsS w A n U) (hb:Be w w'):UsS w' A n U:=by
 refine⟨h.1,?_⟩;rcases h.2 with h2|⟨b,off,rfl,h2⟩
 ·exact .inl h2
 ·exact .inr ⟨b,off,rfl,fun k hk=>⟨Aq hb (h2 k hk).1,Aq hb (h2 k hk).2.1,Aq hb (h2 k hk).2.2⟩⟩
theorem UsS.at_ {U:List UseP} (h:UsS w A n U) {k:Nat} (hk:k<n):∃b off,A=some ⟨b,off,none⟩/\Cq w b (off+k*3) (use U k).pc/\Cq w b (off+k*3+1) (use U k).ct/\Cq w b (off+k*3+2) (.bool (use U k).pr):=by
 rcases h.2 with h2|⟨b,off,rfl,h2⟩
 ·omega
 ·exact⟨b,off,rfl,h2 k hk⟩
theorem SeS.keep {U:List SeamP} (h:SeS w A n U) (hb:Be w w'):SeS w' A n U:=by
 refine⟨h.1,?_⟩;rcases h.2 with h2|⟨b,off,rfl,h2⟩
 ·exact .inl h2
 ·refine .inr ⟨b,off,rfl,fun k hk=>?_⟩
  obtain⟨g1,g2,g3,g4,g5,g6⟩:=h2 k hk;exact⟨Aq hb g1,Aq hb g2,Aq hb g3,Aq hb g4,Aq hb g5,Aq hb g6⟩
theorem SeS.at_ {U:List SeamP} (h:SeS w A n U) {k:Nat} (hk:k<n):∃b off,A=some ⟨b,off,none⟩/\Cq w b (off+k*6) (sem U k).pa/\Cq w b (off+k*6+1) (sem U k).ea/\Cq w b (off+k*6+2) (sem U k).pb/\Cq w b (off+k*6+3) (sem U k).eb/\Cq w b (off+k*6+4) (.bool (sem U k).rv)/\Cq w b (off+k*6+5) (sem U k).es:=by
 rcases h.2 with h2|⟨b,off,rfl,h2⟩
 ·omega
 ·exact⟨b,off,rfl,h2 k hk⟩
theorem StV.keep {vs:Array Value} {s:StyleP} (h:StV w vs s) (hb:Be w w'):StV w' vs s:=by
 obtain⟨A1,c1,A2,c2,A3,c3,A4,c4,A5,c5,A6,c6,e,⟨h1,h1',h1''⟩,⟨h2,h2',h2''⟩,⟨h3,h3',h3''⟩,⟨h4,h4',h4''⟩,⟨h5,h5',h5''⟩,h6⟩:=h;exact⟨A1,c1,A2,c2,A3,c3,A4,c4,A5,c5,A6,c6,e,⟨h1,h1',h1''.keep hb⟩,⟨h2,h2',h2''.keep hb⟩,⟨h3,h3',h3''.keep hb⟩,⟨h4,h4',h4''.keep hb⟩,⟨h5,h5',h5''.keep hb⟩,h6⟩
theorem Abj {E:List EdgeP} {i k:Nat} (h:k<i):edg (E.take i) k=edg E k:=by
 unfold edg;simp[List.getD,List.getElem?_take,h]
theorem EdS.take {E:List EdgeP} (h:EdS w A n E) {i:Nat} (hi:i<=n):EdS w A i (E.take i):=by
 refine⟨by rw[List.length_take,h.1];omega,?_⟩
 rcases h.2 with h2|⟨b,off,rfl,h2⟩
 ·exact .inl (by omega)
 ·refine .inr ⟨b,off,rfl,fun k hk=>?_⟩
  rw[Abj hk];exact h2 k (by omega)
theorem Yn {E:List PieceP} {i k:Nat} (h:k<i):pce (E.take i) k=pce E k:=by
 unfold pce;simp[List.getD,List.getElem?_take,h]
theorem PcS.take {E:List PieceP} (h:PcS w A n E) {i:Nat} (hi:i<=n):PcS w A i (E.take i):=by
 refine⟨by rw[List.length_take,h.1];omega,?_⟩
 rcases h.2 with h2|⟨b,off,rfl,h2⟩
 ·exact .inl (by omega)
 ·refine .inr ⟨b,off,rfl,fun k hk=>?_⟩
  rw[Yn hk];exact h2 k (by omega)
end
end
theorem Kt{E:List EdgeP} {n:Nat} (b:∀a,a<n->1<=(edg E a).ln.length/\(edg E a).ln.length<=40)  (d:a<=n):(Cn E a).length<=a*40:=Lt λi c=>(b i (by omega)).2
theorem Uc(A:Option Addr) (g n:Nat) (E:List EdgeP) (w:World) (V:n<=16) (D:EdS w A n E) (j:∀k,k<n->1<=(edg E k).ln.length/\(edg E k).ln.length<=40) :
 Calls Tryz.prog 148 #[.slice A n g] w (Vi w (Bj E)):=by
 have N:=Ar (show Bj E=Cn E n by unfold Bj;rw[D.1]);have L:=Ar j;have M:=Ar λk (p:k<=n)=>Kt j p;clear j;go_in;go_upto_region 3 with fail;go_loopw [3,5,8] (λv _ i wr=>∃k:Nat,k<=n/\i=.int .i64 k/\OwS wr w.heap.size v (Cn E k)/\Be w wr) λ_ _ i _=>n-(intOf i).toNat
 case atStart=>exact⟨0,Nat.zero_le _,rfl,OwG.nil,bl0⟩
 obtain⟨k,p,rfl,s,e⟩:=hrel;by_cases c:k<n
 .obtain⟨b,Q,rfl,H⟩:=(D.keep e).at_ c;let⟨c0,S,z,y,K,Z,f⟩:=H k c;have d:=Ar (show Cn E (k+1)=Cn E k++ux (edg E k).ln from rfl);let⟨B,C⟩:=L.out k c;have I:=M.out k p;generalize O:(edg E k).ln=l at y K f B C d;let⟨m,q⟩:∃m,l.length=m+1:=⟨l.length-1,by omega⟩
  have u:=Ar (show ux l=l.take m by unfold ux;rw[q];rfl);rw[q]at y K f B C;rw[u.out]at d;generalize r:(edg E k).nm=P at c0;clear H O q r u;obtain⟨x,J,rfl,-,-⟩:=f.at_ (show 0<m+1 by omega);have R:=f.take (show m<=m+1 by omega);have T:((m+1:Nat):Int)-1=(m:Int):=by omega
  have U:IntKind.i64.wrap (((m+1:Nat):Int)-1)=(m:Int):=by rw[IntKind.wrap_i64];omega
  go_upto_region 5 with fail;refine Bq λX a F=>?_
  have W:Cq X wr.heap.size 0 (.string P):=(F.cell 0).trans rfl;have Y:Cq X wr.heap.size 1 (.slice (some ⟨x,J,none⟩) (m+1) z):=(F.cell 1).trans rfl
  go_wp2_with (at_builtin;refine Et rfl _ _ rfl w.heap.size _ (Cn E k) rfl (OwG.keep s a) (some ⟨x,J,none⟩) m z (l.take m) rfl (R.keep a) (λh=>by cases h) (by omega) (An e a).size ?_;intro v' w' t o G)
  exact⟨⟨k+1,by omega,by go_num,by rw[d.out];exact t,Bk (An e a) (OwG.keep s a) o⟩,by simp[intOf];omega⟩
 obtain rfl:n=k:=by omega
 go_wp2;go_ret;exact⟨_,rfl,by rw[N.out];exact s,e⟩
section
open Go.RowKit Limb
theorem Anv(w:World) (a:Nat):Ce w a (.slice none 0 0) 0:=by
 have e:lmb 0=[]:=by rw[lmb];rfl
 refine⟨none,0,?_,?_,by unfold maxLen;omega,⟨rfl,?_⟩,λ_=>rfl,λp b=>by cases b⟩
 .rw[e];rfl
 .rw[e];exact Nat.le_refl _
 rw[e];exact .inl rfl
theorem k8(w:World):Calls Tryz.prog 192 #[.agg #[.bool false,.slice none 0 0,.slice none 0 0]] w λe q=>∃v,e=.returned (.agg #[.bool false,.slice none 0 0,v])/\Ce q w.heap.size v 1/\Be w q:=by
 have s:Sm 0:=F7 (m:=1) (by decide) (by decide);go_in;go_upto_region 1 with fail;refine Eo λX f r o=>?_
 obtain⟨z,A,B,-,-,-,-⟩:=r.triple;have g:=o.lt
 go_wp2_with (first
  | (go_at_call 252;have y:=a;refine(R4 1 _ (by omega)).mono ?_;rintro e H ⟨F,rfl,n,d⟩;have b:=(o.keep a).keep d;let⟨C,D,E,t,u,x,lt⟩:=b.triple;obtain⟨k,p,l,rfl⟩:=n.sl)
  | (go_at_call 251;refine rR (yv (Anv _ 0) s) λG a=>?_))
 obtain⟨h,i,j,-,-,-,-⟩:=(b.set3 (u':=.bool false) (v':=.slice none 0 0) (x':=.slice k p l)).triple;have c:=An a d;exact bR ⟨_,rfl,(n.far3 (Nat.lt_of_lt_of_le g a.size) _ _ _).lower (Nat.le_trans f.size a.size),Dw (An f c) (by omega) _ _ _⟩ rfl (by simp[results,Tryz.results192,go_sem,h,i,j])
theorem Ce.fr2{w:World}    (c:Ce w a e h) (b:m<a) (u x:Value):Ce ((w.setCell ⟨m,0,none⟩ u).setCell ⟨m,1,none⟩ x) a e h :=
 (c.far (p:=⟨m,0,none⟩) b u).far (p:=⟨m,1,none⟩) b x
theorem Ael{w:World} (h:Be b w)  (c:b.heap.size<=a) (u v:Value):Be b ((w.setCell ⟨a,0,none⟩ u).setCell ⟨a,1,none⟩ v) :=
 Ba (Ba h (p:=⟨a,0,none⟩) c u) (p:=⟨a,1,none⟩) c v
theorem Ale:decide (sg false 0<0)=false:=rfl
theorem Aj9{w:World}  {G:Value} (B:Ce w a e 0) (C:Ce w h G 0):Calls Tryz.prog 193 #[.agg #[.bool false,e],.agg #[.bool false,G]] w (Bz w (.int .i64 0)):=by
 have k:Sm 0:=F7 (m:=1) (by decide) (by decide);go_enter Tryz.func193,Tryz.ntmps193;go_upto_region 1 with fail;obtain⟨Ax,nx,cx,rfl⟩:=B.sl;obtain⟨Ay,ny,cy,rfl⟩:=C.sl;refine Eo λX l u v=>?_
 have n:=B.keep l;have o:=C.keep l;have f:=u.lt;have g:=v.lt;have E:w.heap.size≠w.heap.size+1:=by omega
 have F:w.heap.size+1≠w.heap.size:=by omega
 have b:=Aw (Below.refl X.heap.size X);obtain⟨x,y,-,-,-⟩:=u.pair;obtain⟨z,A,-,-,-⟩:=v.pair;clear B C
 go_region_with (first
  | (go_at_call 253;have P:=c;refine(Wo false (n.keep b) k).mono ?_;rintro t w2 ⟨Y,rfl,⟨T,rfl,j⟩,i⟩;obtain⟨I,V,K,rfl⟩:=j.sl;rw[Ale];replace c:=c.keep i;replace b:=An b i;clear p q r s;have p:=Aq b x;have q:=Aq b y;have r:=Aq b z;have s:=Aq b A;obtain⟨-,-,L,M,Q⟩:=(u.keep b).pair;obtain⟨-,-,N,O,R⟩:=(v.keep b).pair)
  | (go_at_call 253;have P:=c;refine(Wo false (o.keep b) k).mono ?_;rintro t w2 ⟨Y,rfl,⟨T,rfl,j⟩,i⟩;obtain⟨I,V,K,rfl⟩:=j.sl;rw[Ale];replace c:=c.keep i;replace b:=An b i;clear p q r s;have p:=Aq b x;have q:=Aq b y;have r:=Aq b z;have s:=Aq b A;obtain⟨-,-,L,M,Q⟩:=(u.keep b).pair;obtain⟨-,-,N,O,R⟩:=(v.keep b).pair)
  | (go_at_call 253;refine(Wo false (n.keep b) k).mono ?_;rintro t Z ⟨W,rfl,⟨S,rfl,c⟩,d⟩;obtain⟨H,U,J,rfl⟩:=c.sl;rw[Ale];replace b:=An b d;have p:=Aq b x;have q:=Aq b y;have r:=Aq b z;have s:=Aq b A)
  | (go_at_call 253;refine(Wo false (o.keep b) k).mono ?_;rintro t Z ⟨W,rfl,⟨S,rfl,c⟩,d⟩;obtain⟨H,U,J,rfl⟩:=c.sl;rw[Ale];replace b:=An b d;have p:=Aq b x;have q:=Aq b y;have r:=Aq b z;have s:=Aq b A))
 all_goals go_wp2_with (go_at_call 254;(first|refine(Alu ((c.fr2 f _ _).fr2 g _ _) ((j.fr2 (Nat.lt_of_lt_of_le f d.size) _ _).fr2 (Nat.lt_of_lt_of_le g d.size) _ _) k k).mono ?_|refine(Alu ((j.fr2 (Nat.lt_of_lt_of_le f d.size) _ _).fr2 (Nat.lt_of_lt_of_le g d.size) _ _) ((c.fr2 f _ _).fr2 g _ _) k k).mono ?_);rintro t w3 ⟨rfl,D⟩)
 all_goals go_ret
 all_goals exact⟨rfl,An (Ael (Ael (An l b) (Nat.le_refl _) _ _) (by omega) _ _) D⟩
end
section
open Go.RowKit Limb
theorem Air{w:World}   {x:Value} (b:Bf w a l #[.bool false,.slice none 0 0,x]) (k:Bf w h l #[.bool false,.slice none 0 0,e]) :
 Cq w a 0 (.bool false)/\Cq w a 1 (.slice none 0 0)/\Cq w a 2 x/\Cq w h 0 (.bool false)/\Cq w h 1 (.slice none 0 0)/\Cq w h 2 e :=
 ⟨(b.cell 0).trans rfl,(b.cell 1).trans rfl,(b.cell 2).trans rfl,(k.cell 0).trans rfl,(k.cell 1).trans rfl,(k.cell 2).trans rfl⟩
theorem An4(w:World):P9 w 0 (.agg #[.bool false,.slice none 0 0]) 0:=⟨_,rfl,Anv w 0⟩
theorem An3{w:World}   (h:Ce w a e 1):P9 w a (.agg #[.bool false,e]) 1:=⟨_,rfl,h⟩
theorem Ajx{w:World}   (h:P9 w a e (0*1)):∃m,e=.agg #[.bool false,m]/\Ce w a m 0:=by
 obtain⟨m,b,c⟩:=h;exact⟨m,b,c⟩
theorem Ai8(w:World):Calls Tryz.prog 142 #[.agg #[.bool false,.slice none 0 0,.slice none 0 0],.agg #[.bool false,.slice none 0 0,.slice none 0 0]] w (Bz w (.int .i64 0)):=by
 have A:Sm 0:=F7 (m:=1) (by decide) (by decide);have Q:Sm 1:=F7 (m:=1) (by decide) (by decide);go_in;go_upto_region 1 with fail;refine Eo λX l j k=>?_
 have c:=j.lt;have d:=k.lt;have g:w.heap.size≠w.heap.size+1:=by omega
 have i:w.heap.size+1≠w.heap.size:=by omega
 go_cut [6] λv6 z=>∃p v r q x s,Be w z/\Bf z w.heap.size 171 #[.bool false,.slice none 0 0,.slice p v r]/\Bf z (w.heap.size+1) 171 #[.bool false,.slice none 0 0,.slice q x s]/\Ce z 0 (.slice p v r) 1/\Ce z 0 (.slice q x s) 1
 case first =>
  have a:=Aw (Below.refl X.heap.size X);let⟨p0,p1,p2,q0,q1,q2⟩:=Air j k
  go_region_with (first
   | (go_at_call 192;have J:=t;refine(k8 _).mono ?_;rintro e U ⟨S,rfl,u,f⟩;obtain⟨q,x,s,rfl⟩:=u.sl;replace t:=t.keep f;replace a:=An a f;clear K L M N O P;let⟨K,L,M,N,O,P⟩:=Air (j.keep a) (k.keep a);obtain⟨-,-,-,V,Y,Z,l0⟩:=(j.keep a).triple;obtain⟨-,-,-,f3,f4,f5,l1⟩:=(k.keep a).triple)
   | (go_at_call 192;refine(k8 _).mono ?_;rintro e T ⟨v1,rfl,t,b⟩;obtain⟨p,v,r,rfl⟩:=t.sl;replace a:=An a b;let⟨K,L,M,N,O,P⟩:=Air (j.keep a) (k.keep a)))
  go_wp2;all_goals go_meet
  all_goals (first
   | exact⟨p,v,r,q,x,s,Dw (Dw (An l a) (Nat.le_refl _) _ _ _) (by omega) _ _ _,(j.keep a).set3.far3 g _ _ _,((k.keep a).far3 i _ _ _).set3,((t.far3 c _ _ _).far3 d _ _ _).lower (Nat.zero_le _),((u.far3 (Nat.lt_of_lt_of_le c b.size) _ _ _).far3 (Nat.lt_of_lt_of_le d b.size) _ _ _).lower (Nat.zero_le _)⟩
   | exact⟨q,x,s,p,v,r,Dw (Dw (An l a) (Nat.le_refl _) _ _ _) (by omega) _ _ _,(j.keep a).set3.far3 g _ _ _,((k.keep a).far3 i _ _ _).set3,((u.far3 (Nat.lt_of_lt_of_le c b.size) _ _ _).far3 (Nat.lt_of_lt_of_le d b.size) _ _ _).lower (Nat.zero_le _),((t.far3 c _ _ _).far3 d _ _ _).lower (Nat.zero_le _)⟩)
 obtain⟨p,v,r,q,x,s,l,j,k,H,I⟩:=hcut;go_upto_region 2 with fail;have a:=Aw (Below.refl wc.heap.size wc);have D:=H.keep a;have E:=I.keep a
 go_region_held3 (sB λW h=>Air (j.keep h) (k.keep h))
  (with_reducible exact Air (j.keep a) (k.keep a))
  ((first
    | (go_at_call 193;refine rR (Aj9 (u.keep (An n y)) R) λw5 F=>?_;replace a:=An a F)
    | (go_at_call 194;have J:=n;refine(Aga (An4 _) (An3 (D.keep G)) A Q A).mono ?_;rintro e w4 ⟨v4,rfl,C,y⟩;obtain⟨m4,rfl,R⟩:=Ajx C;replace a:=An a y)
    | (go_at_call 195;have J:=u;refine rR (Alh _ _ _ _) λw3 o=>?_;have n:=o;have G:=An (An b f) o;replace a:=An a o)
    | (go_at_call 194;refine(Aga (An4 _) (An3 (E.keep b)) A Q A).mono ?_;rintro e U ⟨S,rfl,B,f⟩;obtain⟨m2,rfl,u⟩:=Ajx B;replace a:=An a f)
    | (go_at_call 195;refine(Alh _ _ _ _).mono ?_;rintro e T ⟨rfl,b⟩;replace a:=An a b)))
 go_wp2;go_ret;exact⟨rfl,An l a⟩
end
theorem An6(w:World):Calls Tryz.prog 248 #[.int .i64 2] w λe a=>e=.returned (.tuple #[.int .i64 0,.int .i64 0])/\w=a:=by
 go_in;go_wp2
 go_ret2
 exact⟨rfl,rfl⟩
def exV (s:ByteArray):Array Value:=#[.int .i64 2,.bool false,.slice none 0 0,.slice none 0 0,.string s,.slice none 0 0]
theorem Jd{w:World}   {s:ByteArray} (h:Bf w a l #[.int .i64 2,.bool false,.slice none 0 0,.slice none 0 0,.string s,.slice none 0 0]) :
 Cq w a 0 (.int .i64 2)/\Cq w a 1 (.bool false)/\Cq w a 2 (.slice none 0 0)/\Cq w a 3 (.slice none 0 0)/\Cq w a 4 (.string s)/\Cq w a 5 (.slice none 0 0) :=
 ⟨(h.cell 0).trans rfl,(h.cell 1).trans rfl,(h.cell 2).trans rfl,(h.cell 3).trans rfl,(h.cell 4).trans rfl,(h.cell 5).trans rfl⟩
theorem Ra(s:ByteArray) (w:World):Calls Tryz.prog 249 #[.string s] w (Bz w (.bool (Cy s))):=by
 cases h:Ow s with
 | true =>
   have:Cy s=false:=by unfold Cy;rw[h];rfl
   rw[this];exact fe s w h
 | false=>exact Wm s w h
theorem Ad8(s:ByteArray) (w:World):Calls Tryz.prog 191 #[.agg (exV s)] w (Bz w (.bool (Cy s))):=by
 let⟨b,d⟩:=gN (Cy s)
 have g:=Ar d;rw[d];clear d;unfold exV;go_in;go_upto_region 1 with fail;refine Bq λX c h=>?_
 let⟨c0,k,l,m,n,o⟩:=Jd h;cases b with
 | false =>
   go_wp2_with (first
    | (go_at_call 249;refine rR (Ra s _) λj a=>?_;rw[g.out])
    | (go_at_call 248;refine(An6 _).mono ?_;rintro e i ⟨rfl,rfl⟩))
   go_ret;exact⟨rfl,An c a⟩
 | true =>
   go_wp2_with (first
    | (go_at_call 142;have x:=a;refine rR (Ai8 _) λy f=>?_)
    | (go_at_call 249;refine rR (Ra s _) λj a=>?_;rw[g.out];let⟨p,q,r,t,u,v⟩:=Jd (h.keep a))
    | (go_at_call 248;refine(An6 _).mono ?_;rintro e i ⟨rfl,rfl⟩))
   go_ret;exact⟨rfl,An (An c a) f⟩
theorem Akk (s:ByteArray) (w:World):Calls Tryz.prog 139 #[.agg (exV s),.int .i64 1] w (Bz w (if Cy s then 0 else 1:Int)):=by
 obtain⟨b,hb⟩:∃b,Cy s=b:=⟨_,rfl⟩
 have HB:=Ar hb;rw[hb];clear hb
 go_in
 go_upto_region 1 with fail;refine Bq fun X hbX hP=>?_
 obtain⟨c0,c1,c2,c3,c4,c5⟩:=Jd hP;have HC:Hid (exV s=#[.int .i64 2,.bool false,.slice none 0 0,.slice none 0 0,.string s,.slice none 0 0]):=Ar rfl;cases b with
 | false =>
   go_wp2_with (go_at_call 191;refine(Ad8 s _).mono ?_;rintro e w1 ⟨rfl,hb1⟩;rw[HB.out])
   go_ret;exact⟨rfl,An hbX hb1⟩
 | true =>
   go_upto_region 6 with (go_at_call 191;refine(Ad8 s _).mono ?_;rintro e w1 ⟨rfl,hb1⟩;rw[HB.out];obtain⟨d0,d1,d2,d3,d4,d5⟩:=Jd (hP.keep hb1))
   go_loopw [6,7,16] (fun _ _ i wr=>i=.int .i64 0/\wr=w1) (fun _ _ _ _=>0)
   case atStart=>exact⟨rfl,rfl⟩
   case round =>
    obtain⟨rfl,rfl⟩:=hrel;go_wp2;go_ret;exact⟨rfl,An hbX hb1⟩
theorem Ze(s:ByteArray) (w:World):Calls Tryz.prog 95 #[.agg (exV s)] w (Bz w (if Cy s then 0 else 1:Int)):=by
 let⟨b,a⟩:=gN (if Cy s then (0:Int) else 1)
 have f:=Ar a;rw[a];clear a;go_in;go_upto_region 1 with fail;refine Bq λX d g=>?_
 let⟨c0,h,i,j,k,l⟩:=Jd g
 go_wp2_with (go_at_call 139;refine rR (Akk s _) λm c=>?_;rw[f.out])
 go_ret;exact⟨rfl,An d c⟩
theorem Aid {f:Nat} (g:f=146\/f=59) (s:ByteArray) (w:World):Calls Tryz.prog f #[.string s] w (Bz w (.bool (Cy s))):=by
 rcases g with rfl|rfl
 all_goals
  let⟨b,c⟩:=gN (Cy s)
  have d:=Ar (show (if Cy s then (0:Int) else 1)=if b then 0 else 1 by rw[c]);rw[c];clear c;go_in;cases b with
  | false =>
    go_wp2_with (go_at_call 95;refine rR (Ze s _) λh a=>?_;rw[d.out];simp only[Bool.false_eq_true,if_false])
    go_ret;exact⟨rfl,a⟩
  | true =>
    go_wp2_with (go_at_call 95;refine rR (Ze s _) λh a=>?_;rw[d.out];simp only[if_true])
    go_ret;exact⟨rfl,a⟩
def Uf:=@Aid 146 (.inl rfl)
def Hp:=@Aid 59 (.inr rfl)
end Go.Proofs.YtlogblbfbihleaaGreat

/- Lean texts of the claim. -/
import Derived.Test.YtlogblbfbihleaaGreatZr07
namespace Go.Proofs.YtlogblbfbihleaaGreat
set_option linter.all false
set_option maxRecDepth 100000
set_option maxHeartbeats 0
open Go.RowKit
variable{a g h i:Nat}{b:World}{e j:Value}{f:List Nat}{k:Int}
section
open Go.RowKit Limb
theorem Ami{w:World}   (E:Ce w a e h) (F:Ce w g j i) (sa:Ln h) (sb:Ln i):Calls Tryz.prog 223 #[e,j] w (iv w (h+i)):=by
 have la:(lmb h).length<=100000:=sa;have lb:(lmb i).length<=100000:=sb;obtain⟨A,ca,rfl,-,-,E,-,-⟩:=E;obtain⟨B,cb,rfl,-,-,F,-,-⟩:=F;let⟨na,ha⟩:=gN ((lmb h).length)
 let⟨nb,hb⟩:=gN ((lmb i).length)
 rw[ha]at la E ⊢;rw[hb]at lb F ⊢;let⟨M,hM⟩:=gN (max na nb)
 have b5:max (na:Int) (nb:Int)=(M:Int):=by omega
 have I:=Ar (λ(k:Nat) (l:List Nat) (hk:M<=k) (b3:AddI h i k 0 l)=>(b3.fin0 (by omega) (by omega):val l=h+i));have K:=Ar (λ(k:Nat) (hk:M<=k)=>(⟨Sd (by omega),Sd (by omega)⟩:lim h k=0/\lim i k=0));clear ha hb;go_enter Tryz.func223,Tryz.ntmps223;go_upto_region 4 with fail;go_loopw [5,6,7,8] (λo c W _ wr=>∃(k b:Nat) (l:List Nat),k<=M+1/\(M<k->b=0)/\W=.int .i64 k/\c=.int .u64 (b:Int)/\Hid (AddI h i k b l)/\OwU wr w.heap.size o l/\Be w wr) λ_ _ W _ _=>M+2-(intOf W).toNat
 case atStart=>exact⟨0,0,[],Nat.zero_le _,λ_=>rfl,rfl,rfl,Ar (AddI.zero h i),OwG.nil,bl0⟩
 obtain⟨k,b,l,hk,S,rfl,rfl,f,q,d⟩:=hrel;have b6:=f.out.cle;have T:=f.out.len;go_upto_region 4 with fail;go_cut [19] λv wx=>v=.bool (decide (k<M\/0<b))/\wx=wr
 case first =>
  by_cases h1:k<M
  .have B1:(k:Int)<(M:Int):=by omega
   go_wp2_with fail;go_meet;exact⟨by rw[decide_eq_true (Or.inl h1)],rfl⟩
  have B1:(M:Int)<=(k:Int):=by omega
  go_wp2_with fail;all_goals go_meet
  all_goals exact⟨congrArg Value.bool (decide_eq_decide.2 (by omega)),rfl⟩
 obtain⟨rfl,hw⟩:=hcut;rw[hw];clear hw;by_cases P:k<M\/0<b
 .rw[decide_eq_true P];let⟨x,G⟩:=gN (lim h k)
  let⟨y,H⟩:=gN (lim i k)
  have Y:=Cv h k;have Z:=Cv i k;have u:gu (lmb h) k=x:=G;have C:gu (lmb i) k=y:=H;have L:=Ar u;have N:=Ar C;rw[G]at Y;rw[H]at Z;unfold BB at Y Z;have X:=Ar (f.out.step (s:=x+y+b) (by rw[G,H];omega));have b7:k<=M:=by omega
  have W1:=Ds (z:=(x:Int)+(y:Int)) (by omega) (by omega);have W2:=Ds (z:=(x:Int)+(y:Int)+(b:Int)) (by omega) (by omega);let⟨D,p⟩:=gN ((x+y+b) % BB:Nat)
  let⟨r,m⟩:=gN ((x+y+b) / BB:Nat)
  rw[p,m]at X;unfold BB at p m;have E1:((x:Int)+(y:Int)+(b:Int)) % 4294967296=(D:Int):=by omega
  have E2:((x:Int)+(y:Int)+(b:Int)) / 4294967296=(r:Int):=by omega
  have Q:M<k+1->r=0:=by
   intro hq;let⟨b8,b9⟩:=K.out k (by omega);omega
  clear p m f G H u C P S
  go_wp2_with (first
   | (at_builtin;refine Co rfl _ _ 167 rfl enU w.heap.size 280 (.int .u32 0) 1 4 Tryz.underlying167 Pd rfl (by omega) Hj Im _ l rfl (q.alloc _) wr.heap.size 1 D 280 rfl (Bf.new _ _ _) (by unfold maxLen;omega) (by omega) (Ao d _).size ?_;intro v' w' U R a7)
   | (go_at_call 273;have hq2:=V;refine(Gf (F.keep d) (Dj i) k).mono ?_;rintro a1 w8 ⟨rfl,rfl⟩;rw[N.out])
   | (go_at_call 273;refine(Gf (E.keep d) (Dj h) k).mono ?_;rintro a1 w7 ⟨rfl,rfl⟩;rw[L.out];have V:=trivial))
  exact⟨⟨k+1,r,l++[D],by omega,Q,by go_num,by rw[E2],X,U,Bk (Ao d _) (q.alloc _) R⟩,by simp[intOf];omega⟩
 rw[decide_eq_false P];obtain rfl:b=0:=by omega
 have HV:=Ar (I.out k l (by omega) f.out);have J:=Ar f.out.lt;clear f;obtain⟨Al,cl,rfl,q1,q2,q3,q4,q5⟩:=OwU.u32s q;rw[T]at q1 q3 ⊢
 go_wp2_with (go_at_call 271;refine(Mu q3 J.out (by omega) q1 q4).mono ?_;rintro a1 w8 ⟨v8,rfl,t,O⟩;rw[HV.out]at t)
 go_ret;exact⟨_,rfl,t.lower d.size,An d O⟩
theorem Amh{w:World}   (l:Ce w a e h) (m:Ce w g j i) (K:Ln h) (L:Ln i):Calls Tryz.prog 317 #[e,j] w λf N=>f=.returned (.int .i64 (Ia h i))/\w=N:=by
 have I:(lmb h).length<=100000:=K;have J:(lmb i).length<=100000:=L;obtain⟨A,Q,rfl,-,-,l,-,-⟩:=l;obtain⟨B,R,rfl,-,-,m,-,-⟩:=m;let⟨v,t⟩:=gN ((lmb h).length)
 let⟨z,u⟩:=gN ((lmb i).length)
 rw[t]at I l ⊢;rw[u]at J m ⊢;let⟨M,T⟩:=gN (max v z)
 have H:max (v:Int) (z:Int)=(M:Int):=by omega
 have F:Hid (Ia h i=Abs h i M):=Ar (Abr (by omega) (by omega)).symm;have O:IntKind.i64.wrap ((M:Int)-1)=(M:Int)-1:=by rw[IntKind.wrap_i64];omega
 clear t u;go_enter Tryz.func317,Tryz.ntmps317;go_wp2_with fail;go_loopw [5] (λs wr=>∃k:Nat,k<=M/\s=.int .i64 ((k:Int)-1)/\Hid (Ia h i=Abs h i k)/\w=wr) λs _=>(intOf s+1).toNat
 case atStart=>exact⟨M,Nat.le_refl _,rfl,F,rfl⟩
 obtain⟨k,U,rfl,ht,rfl⟩:=hrel;cases k with
 | zero =>
   go_wp2_with fail;go_ret;exact⟨by rw[ht.out];rfl,rfl⟩
 | succ k =>
   have E:((k+1:Nat):Int)-1=(k:Int):=by omega
   have V:(0:Int)<=(k:Int):=by omega
   rw[E];let⟨x,q⟩:=gN (lim h k)
   let⟨y,r⟩:=gN (lim i k)
   have p:Hid (Ia h i=if x<y then -1 else if y<x then 1 else Abs h i k):=Ar (by rw[ht.out,Abs,q,r]);have c:=Ar (show gu (lmb h) k=x from q);have d:=Ar (show gu (lmb i) k=y from r);clear q r ht E;have P:IntKind.i64.wrap ((k:Int)-1)=(k:Int)-1:=by rw[IntKind.wrap_i64];omega
   rcases Nat.lt_trichotomy x y with o|o|o
   .have G:(x:Int)<(y:Int):=by omega
    go_wp2_with (first
     | (go_at_call 273;have hq2:=b;refine(Gf m (Dj i) k).mono ?_;rintro f D ⟨rfl,rfl⟩;rw[d.out];clear b)
     | (go_at_call 273;refine(Gf l (Dj h) k).mono ?_;rintro f C ⟨rfl,rfl⟩;rw[c.out];have b:=trivial))
    go_ret;exact⟨by rw[p.out,if_pos o];rfl,rfl⟩
   .subst o
    go_wp2_with (first
     | (go_at_call 273;have hq2:=b;refine(Gf m (Dj i) k).mono ?_;rintro f D ⟨rfl,rfl⟩;rw[d.out];clear b)
     | (go_at_call 273;refine(Gf l (Dj h) k).mono ?_;rintro f C ⟨rfl,rfl⟩;rw[c.out];have b:=trivial))
    exact⟨⟨k,by omega,by go_num,Ar (by rw[p.out,if_neg (Nat.lt_irrefl _),if_neg (Nat.lt_irrefl _)]),trivial⟩,by simp[intOf]⟩
   have G:(y:Int)<(x:Int):=by omega
   have S:¬(x:Int)<(y:Int):=by omega
   go_wp2_with (first
    | (go_at_call 273;have hq2:=b;refine(Gf m (Dj i) k).mono ?_;rintro f D ⟨rfl,rfl⟩;rw[d.out];clear b)
    | (go_at_call 273;refine(Gf l (Dj h) k).mono ?_;rintro f C ⟨rfl,rfl⟩;rw[c.out];have b:=trivial))
   go_ret;exact⟨by rw[p.out,if_neg (by omega),if_pos o];rfl,rfl⟩
theorem Afm{w:World}   (C:Ce w a e h) (D:Ce w g j i) (sa:Ln h) (sb:Ln i):Calls Tryz.prog 278 #[e,j] w λu W=>∃v,u=.returned (.tuple #[v,.bool (decide (i<=h))])/\Ce W w.heap.size v (h-i)/\Be w W:=by
 have H:=Ar (Amh C D sa sb);have la:(lmb h).length<=100000:=sa;have lb:(lmb i).length<=100000:=sb;obtain⟨A,ca,rfl,-,-,C,-,-⟩:=C;obtain⟨B,cb,rfl,-,-,D,-,-⟩:=D;let⟨na,ha⟩:=gN ((lmb h).length)
 let⟨nb,hb⟩:=gN ((lmb i).length)
 rw[ha]at la C H ⊢;rw[hb]at lb D H ⊢;let⟨M,hM⟩:=gN (max na nb)
 have b4:max (na:Int) (nb:Int)=(M:Int):=by omega
 by_cases d:i<=h
 .have L:=Ar (λ(k o:Nat) (l:List Nat) (hk:M<=k) (b3:SubJ h i k o l)=>(b3.fin (by omega) (by omega) d:val l=h-i));have K:¬Ia h i<0:=by unfold Ia;split<;>(try split)<;>omega
  rw[decide_eq_true d];clear ha hb d;go_enter Tryz.func278,Tryz.ntmps278
  go_upto_region 6 with (go_at_call 317;refine H.out.mono ?_;rintro u w7 ⟨rfl,rfl⟩)
  go_loopw [6,7,8,9] (λo c V _ wr=>∃(k t:Nat) (l:List Nat),k<=M/\V=.int .i64 k/\c=.int .u64 (t:Int)/\Hid (SubJ h i k t l)/\OwU wr w.heap.size o l/\Be w wr) λ_ _ V _ _=>M-(intOf V).toNat
  case atStart=>exact⟨0,0,[],Nat.zero_le _,rfl,rfl,Ar (SubJ.zero h i),OwG.nil,bl0⟩
  obtain⟨k,t,l,hk,rfl,rfl,f,r,b⟩:=hrel;have b5:=f.out.ole;have S:=f.out.len;by_cases b7:k<M
  .have B1:(k:Int)<(M:Int):=by omega
   let⟨x,I⟩:=gN (lim h k)
   let⟨y,J⟩:=gN (lim i k)
   have X:=Cv h k;have Y:=Cv i k;have O:=Ar (show gu (lmb h) k=x from I);have P:=Ar (show gu (lmb i) k=y from J);rw[I]at X;rw[J]at Y;let⟨s,hs⟩:=gN (BB+x-y-t)
   have m:=f.out.step (s:=s) (by rw[I,J];omega);let⟨G,p⟩:=gN (s % BB:Nat)
   let⟨q,hq⟩:=gN (s / BB:Nat)
   rw[p,hq]at m;obtain⟨m,b8⟩:=m;let⟨Z,E⟩:=gN (1-q)
   rw[E]at m;have m:=Ar m;unfold BB at p hq hs X Y;have W0:=Ds (z:=4294967296+(x:Int)) (by omega) (by omega);have W1:=Ds (z:=4294967296+(x:Int)-(y:Int)) (by omega) (by omega);have W2:IntKind.u64.wrap (4294967296+(x:Int)-(y:Int)-(t:Int))=(s:Int):=by rw[Ds (by omega) (by omega)];omega
   have E1:(s:Int) % 4294967296=(G:Int):=by omega
   have E2:(s:Int) / 4294967296=(q:Int):=by omega
   have W3:IntKind.u64.wrap (1-(q:Int))=(Z:Int):=by rw[Ds (by omega) (by omega)];omega
   clear p hq E hs f I J
   go_wp2_with (first
    | (at_builtin;refine Co rfl _ _ 167 rfl enU w.heap.size 280 (.int .u32 0) 1 4 Tryz.underlying167 Pd rfl (by omega) Hj Im _ l rfl (r.alloc _) wr.heap.size 1 G 280 rfl (Bf.new _ _ _) (by unfold maxLen;omega) (by omega) (Ao b _).size ?_;intro v' W T R a7)
    | (go_at_call 273;have hq2:=U;refine(Gf (D.keep b) (Dj i) k).mono ?_;rintro u w8 ⟨rfl,rfl⟩;rw[P.out])
    | (go_at_call 273;refine(Gf (C.keep b) (Dj h) k).mono ?_;rintro u w7 ⟨rfl,rfl⟩;rw[O.out];have U:=trivial))
   exact⟨⟨k+1,Z,l++[G],by omega,by go_num,rfl,m,T,Bk (Ao b _) (r.alloc _) R⟩,by simp[intOf];omega⟩
  have B1:(M:Int)<=(k:Int):=by omega
  have HV:=Ar (L.out k t l (by omega) f.out);have N:=Ar f.out.lt;clear f;obtain⟨Al,cl,rfl,K,q2,q3,q4,q5⟩:=OwU.u32s r;rw[S]at K q3 ⊢
  go_wp2_with (go_at_call 271;refine(Mu q3 N.out (by omega) K q4).mono ?_;rintro u w8 ⟨v8,rfl,F,Q⟩;rw[HV.out]at F)
  go_ret2
  exact⟨_,rfl,F.lower b.size,An b Q⟩
 have K:Ia h i<0:=by unfold Ia;rw[if_pos (by omega)];decide
 have h0:h-i=0:=by omega
 rw[decide_eq_false d,h0];clear d h0;go_enter Tryz.func278,Tryz.ntmps278
 go_wp2_with (go_at_call 317;refine H.out.mono ?_;rintro u w7 ⟨rfl,rfl⟩)
 go_ret2
 exact⟨_,rfl,OwU.natV (by rw[Cb];exact OwG.nil),bl0⟩
theorem All(n:Nat) (w:World) (y:n<18446744073709551616):Calls Tryz.prog 221 #[.int .u64 (n:Int)] w (iv w n):=by
 go_enter Tryz.func221,Tryz.ntmps221;go_wp2_with fail;go_loopw [0,3] (λi o wr=>∃(m:Nat) (l:List Nat),m<18446744073709551616/\l.length<=2/\i=.int .u64 (m:Int)/\Hid (lmb n=l++lmb m/\(l.length<=1\/m=0)/\(l.length=0\/m<4294967296))/\OwU wr w.heap.size o l/\Be w wr) λi _ _=>(intOf i).toNat
 case atStart=>exact⟨n,[],y,by simp,rfl,Ar ⟨rfl,by simp,by simp⟩,OwG.nil,bl0⟩
 obtain⟨m,l,E,x,rfl,h,b,d⟩:=hrel;by_cases r:m=0
 .have q:=h.out.1;subst r;rw[Cb,List.append_nil]at q;rw[<-q]at b;go_wp2_with fail;go_ret;exact⟨_,rfl,b.natV,d⟩
 let⟨g,z,A⟩:=h.out;rw[D6 r]at g;let⟨c,f⟩:=gN (m % BB:Nat)
 let⟨a,e⟩:=gN (m / BB:Nat)
 rw[f,e]at g;unfold BB at f e;have B:(0:Int)<(m:Int):=by omega
 have C:(m:Int) % 4294967296=(c:Int):=by omega
 have D:(m:Int) / 4294967296=(a:Int):=by omega
 have u:=Ar (show lmb n=(l++[c])++lmb a/\((l++[c]).length<=1\/a=0)/\((l++[c]).length=0\/a<4294967296) from ⟨by rw[g];simp,by rw[List.length_append,List.length_singleton];omega,by omega⟩);have v:l.length<=1:=by omega
 have k:a<18446744073709551616:=by omega
 have t:a<m:=by omega
 clear g z A f e h
 go_wp2_with (at_builtin;refine Co rfl _ _ 167 rfl enU w.heap.size 280 (.int .u32 0) 1 4 Tryz.underlying167 Pd rfl (by omega) Hj Im _ l rfl (b.alloc _) wr.heap.size 1 c 280 rfl (Bf.new _ _ _) (by unfold maxLen;omega) (by omega) (Ao d _).size ?_;intro F G p j s)
 exact⟨⟨a,l++[c],k,by simp;omega,rfl,u,p,Bk (Ao d _) (b.alloc _) j⟩,by simp[intOf];omega⟩
end
section
open Go.RowKit Limb
theorem Amf{w:World}   (N:Ce w a e h) (O:Ce w g j i) (sa:Ln h) (sb:Ln i):Calls Tryz.prog 215 #[e,j] w (iv w (h*i)):=by
 have la:(lmb h).length<=100000:=sa;have lb:(lmb i).length<=100000:=sb;obtain⟨A,ca,rfl,-,-,N,-,-⟩:=N;obtain⟨B,cb,rfl,-,-,O,-,-⟩:=O;let⟨o,ha⟩:=gN ((lmb h).length)
 let⟨q,hb⟩:=gN ((lmb i).length)
 rw[ha]at la N ⊢;rw[hb]at lb O ⊢;have R:=Ar ha;have S:=Ar hb;clear ha hb;let⟨Z,u,hZ⟩:=Fb (o+q) (by omega);have ai:∀w,(Instr.makeSlice 167 (.int .i64 ((o:Int)+(q:Int))) (.int .i64 ((o:Int)+(q:Int)))).run Tryz.prog w=.ok (.slice (some ⟨w.heap.size,0,none⟩) (o+q) (o+q)) (w.alloc (.cells Z 280)):=λw=>by have:=u w;rwa [Int.natCast_add] at this
 clear u;go_in;go_upto_region 3 with fail;go_loopw [6,7,8,9] (λb1 _ _ _ wr=>∃(k:Nat) (l:List Nat),k<=o/\b1=.int .i64 k/\Hid (MulO h i k o q l)/\Ka wr w.heap.size l/\Be w wr) λb1 _ _ _ _=>o-(intOf b1).toNat
 case atStart=>exact⟨0,_,Nat.zero_le _,rfl,Ar (MulO.zero h i o q),hZ w,blA⟩
 clear ai hZ;obtain⟨k,l,hk,rfl,r,f,d⟩:=hrel;have t:=r.out.len;by_cases K:k<o
 .have B1:(k:Int)<(o:Int):=by omega
  have F:=Ar r.out.inner;clear r t;go_upto_region 7 with fail;obtain⟨wa,rfl⟩:∃wa:World,wa=wr:=⟨_,rfl⟩
  go_loopw [7,8,9] (λc b _ wr=>∃(m c0:Nat) (l:List Nat),m<=q/\b=.int .i64 m/\c=.int .u64 (c0:Int)/\Hid (MulN h i k m c0 o q l)/\Ka wr w.heap.size l/\Be w wr) λ_ b _ _=>q-(intOf b).toNat
  case atStart=>exact⟨0,0,l,Nat.zero_le _,rfl,rfl,F,f,d⟩
  clear F f d;obtain⟨b,c0,l,hj,rfl,rfl,r,f,d⟩:=hrel;have t:=r.out.len;have C:=r.out.cl;by_cases a8:b<q
  .have T:=Ar r.out.lt;let⟨z1,f1⟩:=f.cell (k:=k+b) (by omega);have I:=f.u32s;rw[t]at I;let⟨s,P⟩:∃s,s=c0+(lim h k*lim i b+l.getD (k+b) 0):=⟨_,rfl⟩
   let⟨v,ar⟩:=r.out.step K a8 P;let⟨x,hx⟩:=gN (lim h k)
   let⟨y,hy⟩:=gN (lim i b)
   let⟨z,hz⟩:=gN (l.getD (k+b) 0)
   have W:=Ar (show gu (lmb h) k=x from hx);have X:=Ar (show gu (lmb i) b=y from hy);have H:=Ar (show gu l (k+b)=z from hz);rw[H.out]at z1;rw[hx,hy,hz]at P;generalize hm:x*y=m at P;have ad:(x:Int)*(y:Int)=(m:Int):=by rw[<-Int.natCast_mul,hm]
   have W4:=Ds (z:=(x:Int)*(y:Int)) (by omega) (by omega);have W6:=Ds (z:=(x:Int)*(y:Int)+(z:Int)) (by omega) (by omega);have W7:IntKind.u64.wrap ((x:Int)*(y:Int)+(z:Int)+(c0:Int))=(s:Int):=by rw[Ds (by omega) (by omega)];omega
   let⟨M,E⟩:=gN (s % BB:Nat)
   let⟨J,D⟩:=gN (s / BB:Nat)
   rw[E,D]at v;have V:=Ar v;unfold BB at E D;have E1:(s:Int) % 4294967296=(M:Int):=by omega
   have E2:(s:Int) / 4294967296=(J:Int):=by omega
   have W8:=Ds (z:=(J:Int)) (by omega) (by omega);have B2:(b:Int)<(q:Int):=by omega
   have B3:((k:Int)+(b:Int))<((o+q:Nat):Int):=by omega
   have G:=Ar (Gf (c:=o+q) I T.out (k+b));rw[H.out,Int.natCast_add]at G;have W5:IntKind.i64.wrap ((k:Int)+(b:Int))=(k:Int)+(b:Int):=by rw[IntKind.wrap_i64];omega
   clear E D r v P ar hm ad hx hy hz C t
   go_wp2_with (first
    | (go_at_call 273;have bc:=hq2;refine G.out.mono ?_;rintro Y w8 ⟨rfl,rfl⟩)
    | (go_at_call 273;have hq2:=ak;refine(Gf (O.keep d) (Dj i) b).mono ?_;rintro Y w8 ⟨rfl,rfl⟩;rw[X.out])
    | (go_at_call 273;refine(Gf (N.keep d) (Dj h) k).mono ?_;rintro Y w7 ⟨rfl,rfl⟩;rw[W.out];have ak:=trivial))
   exact⟨⟨b+1,J,l.set (k+b) M,by omega,by go_num,rfl,V,f.store (k+b) M,Ba d (p:=⟨w.heap.size,k+b,none⟩) (Nat.le_refl _) _⟩,by simp[intOf];omega⟩
  obtain rfl:b=q:=by omega
  let⟨z1,f1⟩:=f.cell (k:=k+b) (by omega);have Q:=Ar (r.out.fin K S.out);have E1:(c0:Int) % 4294967296=(c0:Int):=by unfold BB at C;omega
  have B1:((k:Int)+(b:Int))<((o+b:Nat):Int):=by omega
  clear r t C;go_wp2;exact⟨⟨k+1,l.set (k+b) c0,by omega,by go_num,Q,f.store (k+b) c0,Ba d (p:=⟨w.heap.size,k+b,none⟩) (Nat.le_refl _) _⟩,by simp[intOf];omega⟩
 obtain rfl:k=o:=by omega
 have Q:=Ar (r.out.fin R.out);have U:=Ar r.out.lt;have I:=f.u32s;rw[t]at I;clear r
 go_wp2_with (go_at_call 271;refine(Mu I U.out (by omega) (Nat.le_refl _) λb9=>by cases b9).mono ?_;rintro Y w5 ⟨v5,rfl,L,a7⟩;rw[Q.out]at L)
 go_ret;exact⟨_,rfl,L.lower d.size,An d a7⟩
end
namespace Limb
theorem An7(k:Nat):0<BB ^ k:=Nat.pow_pos (by decide)
structure LowI (x k:Nat) (l:List Nat):Prop where
 len:l.length=k
 lt:∀y∈l,y<BB
 e:val l=x % BB ^ k
theorem LowI.zero(x:Nat):LowI x 0 []:=⟨rfl,by simp,by simp[val,Nat.mod_one]⟩
theorem LowI.half{d:Nat}  (h:LowI (a / 2) g f) (b:d=lim a g / 2+lim a (g+1) % 2*2147483648):LowI (a / 2) (g+1) (f++[d]):=by
 have e:d=lim (a / 2) g:=by
  rw[b,Q7,Q7,Q7,Nat.pow_succ,<-Nat.div_div_eq_div_mul,Nat.div_div_eq_div_mul a 2,Nat.mul_comm 2,<-Nat.div_div_eq_div_mul];generalize a / BB ^ g=t;unfold BB;omega
 rw[e];exact⟨by simp[h.len],Od h.lt (Cv _ _),by rw[Ku,h.len,h.e,Bt]⟩
theorem LowI.fin{x:Nat}  (h:LowI x a f) (b:(lmb x).length<=a):val f=x:=by rw[h.e,Di b]
structure ShfI (a s i c:Nat) (l:List Nat):Prop where
 len:l.length=i
 lt:∀y∈l,y<BB
 cl:c<2 ^ s
 e:val l+BB ^ i*c=a % BB ^ i*2 ^ s
theorem ShfI.zero(a s:Nat):ShfI a s 0 0 []:=⟨rfl,by simp,Nat.pow_pos (by decide),by simp[val,Nat.mod_one]⟩
theorem ShfI.step{s c:Nat}  (b:ShfI a s g c f) (m:s<32) (ht:h=lim a g*2 ^ s+c):ShfI a s (g+1) (h / BB) (f++[h % BB])/\h<18446744073709551616:=by
 have i:=Cv a g;have k:=b.cl
 have d:h<BB*2 ^ s:=by
  have:=Nat.mul_le_mul_right (2 ^ s) (show lim a g+1<=BB from i);rw[Nat.add_mul]at this;omega
 have j:2 ^ s<=BB:=Nat.le_trans (Nat.pow_le_pow_right (by decide) (show s<=32 by omega)) (by decide);refine⟨⟨by simp[b.len],Od b.lt (Nat.mod_lt _ (by decide)),Nat.div_lt_of_lt_mul d,?_⟩,Nat.lt_of_lt_of_le d (Nat.le_trans (Nat.mul_le_mul_left _ j) (by decide))⟩;have e:=b.e;have l:=Nat.div_add_mod h BB;rw[Ku,b.len,Bt,Nat.pow_succ];generalize BB ^ g=B at *
 rw[Nat.add_mul,<-e,Nat.mul_assoc B BB,Nat.add_assoc,<-Nat.mul_add,show h % BB+BB*(h / BB)=h by omega,ht,Nat.mul_add,Nat.mul_assoc];omega
theorem ShfI.fin{c:Nat}  (d:ShfI a g h c f) (o:g<32) (l:(lmb a).length+1<=h) (q:Nat):val (List.replicate q 0++f)=a*2 ^ (32*q+g):=by
 have e:=d.e;rw[Di (by omega)]at e
 have b:c=0:=by
  apply Classical.byContradiction;intro b;have i:=Mx a
  have m:a*2 ^ g<BB ^ h:=by
   have j:BB ^ ((lmb a).length+1)<=BB ^ h:=Nat.pow_le_pow_right (by decide) l;have k:2 ^ g<=BB:=Nat.le_trans (Nat.pow_le_pow_right (by decide) (show g<=32 by omega)) (by decide);rw[Nat.pow_succ]at j;have n:=Nat.mul_lt_mul_of_lt_of_le i k (show 0<BB by decide);omega
  have:=Nat.mul_le_mul_left (BB ^ h) (show 1<=c by omega);omega
 rw[b,Nat.mul_zero,Nat.add_zero]at e;rw[Ho,E7,List.length_replicate,e,Nat.zero_add,show BB=2 ^ 32 from rfl,<-Nat.pow_mul,Nat.pow_add,<-Nat.mul_assoc,Nat.mul_comm _ a,<-Nat.mul_assoc]
def IsB (a n:Nat):Prop:=a<2 ^ n/\(n=0\/2 ^ (n-1)<=a)
theorem Aat:IsB 0 0:=⟨by decide,.inl rfl⟩
theorem Af6{x c:Nat} (d:(lmb a).length=g+1) (j:lim a g=x) (h:x<2 ^ c) (l:c=0\/2 ^ (c-1)<=x):IsB a (32*g+c)/\0<32*g+c:=by
 have k:a≠0:=by intro e;rw[e,Cb]at d;simp at d
 have i:=Sc k;rw[d,Nat.add_sub_cancel]at i;have m:x≠0:=by rw[<-j];exact i
 have e:=Bt a g;rw[Di (by omega),j]at e;have n:=Nat.mod_lt a (An7 g);have o:0<c:=by rcases Nat.eq_zero_or_pos c with b|b;(subst b;simp at h;omega);exact b
 generalize a % BB ^ g=y at *
 have f:∀z,2 ^ (32*g+z)=BB ^ g*2 ^ z:=λz=>by rw[Nat.pow_add,Nat.pow_mul];rfl
 refine⟨⟨?_,.inr ?_⟩,by omega⟩
 .rw[f];have:=Nat.mul_le_mul_left (BB ^ g) (show x+1<=2 ^ c from h);rw[Nat.mul_add]at this;omega
 rw[show 32*g+c-1=32*g+(c-1) by omega,f];have:=Nat.mul_le_mul_left (BB ^ g) (l.resolve_left (by omega));omega
theorem Ajv{x:Nat} (c:IsB a x) (d:IsB g h) (e:x<h):a<g:=by
 have b:=d.2.resolve_left (by omega);exact Nat.lt_of_lt_of_le c.1 (Nat.le_trans (Nat.pow_le_pow_right (by decide) (by omega)) b)
def BtI (x c t:Nat):Prop:=t=x / 2 ^ c/\(c=0\/2 ^ (c-1)<=x)/\c<=32
theorem BtI.step{x c:Nat} (h:BtI x c a) (e:x<4294967296) (b:0<a):BtI x (c+1) (a / 2):=by
 obtain⟨rfl,-,-⟩:=h
 have d:2 ^ c<=x:=by
  have:=(Nat.le_div_iff_mul_le (Nat.pow_pos (n:=c) (show 0<2 by decide))).1 (show 1<=x / 2 ^ c from b);omega
 refine⟨by rw[Nat.div_div_eq_div_mul,Nat.pow_succ],.inr d,?_⟩;have:=(Nat.pow_lt_pow_iff_right (show 1<2 by decide)).1 (show 2 ^ c<2 ^ 32 by omega);omega
theorem BtI.fin{x c:Nat} (h:BtI x c 0):x<2 ^ c:=by
 have:=Nat.lt_div_mul_add (a:=x) (Nat.pow_pos (n:=c) (show 0<2 by decide));rw[<-h.1]at this;omega
structure DvI (a b j n r:Nat) (l:List Nat):Prop where
 len:l.length=n / 32+1
 lt:∀y∈l,y<BB
 e:a=val l*b+r
 r:r<b*2 ^ j
 d:2 ^ j ∣ val l
theorem DvI.zero{x:Nat} (c:IsB a x) (d:IsB g h) (f:0<h) (e:h<=x):DvI a g (x-h+1) (x-h) a (List.replicate ((x-h) / 32+1) 0):=by
 refine⟨by simp,Gh _,by rw[E7];simp,?_,by rw[E7];exact Nat.dvd_zero _⟩;have b:=d.2.resolve_left (by omega);refine Nat.lt_of_lt_of_le c.1 (Nat.le_trans ?_ (Nat.mul_le_mul_right _ b));rw[<-Nat.pow_add];exact Nat.pow_le_pow_right (by decide) (by omega)
theorem Zl(d:∀y∈f,y<BB)  (h:2 ^ (a+1) ∣ val f):f.getD (a / 32) 0+2 ^ (a % 32)<BB:=by
 obtain⟨m,g⟩:=h
 have e:2 ^ (a+1)=BB ^ (a / 32)*2 ^ (a % 32+1):=by
  rw[show BB=2 ^ 32 from rfl,<-Nat.pow_mul,<-Nat.pow_add];congr 1;omega
 rw[Sl d,g,e,Nat.mul_assoc,Nat.mul_div_cancel_left _ (An7 _)];have i:=On (s:=a % 32+1) (by omega);rw[i,Nat.mul_mod_mul_left,Nat.pow_succ];have b:=Nat.mod_lt m (show 0<2 ^ (32-(a % 32+1)) from Nat.pow_pos (by decide));have c:=Nat.mul_le_mul_left (2 ^ (a % 32)*2) (show m % 2 ^ (32-(a % 32+1))+1<=2 ^ (32-(a % 32+1)) from b);have j:0<2 ^ (a % 32):=Nat.pow_pos (by decide);rw[Nat.mul_add]at c;omega
theorem DvI.yes{r:Nat}  (b:DvI a g (h+1) i r f) (k:h<=i) (o:g*2 ^ h<=r):DvI a g h i (r-g*2 ^ h) (f.set (h / 32) (f.getD (h / 32) 0+2 ^ (h % 32))):=by
 have l:=b.len;have hq:h / 32<f.length:=by have:=Nat.div_le_div_right (c:=32) k;omega
 have m:=Fp (x:=f.getD (h / 32) 0+2 ^ (h % 32)) hq
 have e:BB ^ (h / 32)*2 ^ (h % 32)=2 ^ h:=by
  rw[show BB=2 ^ 32 from rfl,<-Nat.pow_mul,<-Nat.pow_add];congr 1;omega
 rw[Nat.mul_add,e]at m;have d:val (f.set (h / 32) (f.getD (h / 32) 0+2 ^ (h % 32)))=val f+2 ^ h:=by omega
 have j:=b.r;have n:=b.e;refine⟨by rw[List.length_set];exact l,Hq b.lt (Zl b.lt b.d),?_,?_,?_⟩
 .rw[d,Nat.add_mul,Nat.mul_comm (2 ^ h)];omega
 .rw[Nat.pow_succ,<-Nat.mul_assoc]at j;omega
 rw[d];exact Nat.dvd_add (Nat.dvd_trans (Nat.pow_dvd_pow 2 (Nat.le_succ h)) b.d) (Nat.dvd_refl _)
theorem DvI.no{r:Nat}  (b:DvI a g (h+1) i r f) (c:r<g*2 ^ h):DvI a g h i r f :=
 ⟨b.len,b.lt,b.e,c,Nat.dvd_trans (Nat.pow_dvd_pow 2 (Nat.le_succ h)) b.d⟩
theorem DvI.fin(c:DvI a g 0 h i f):val f=a / g/\i=a % g:=by
 have e:=c.e;have b:=c.r;rw[Nat.pow_zero,Nat.mul_one]at b;rw[e,Nat.mul_comm];exact⟨by rw[Nat.mul_add_div (by omega),Nat.div_eq_of_lt b,Nat.add_zero],by rw[Nat.mul_add_mod,Nat.mod_eq_of_lt b]⟩
end Limb
section
open Go.RowKit Limb
theorem Adr{w:World}   (q:Ce w a e g) (V:Ln g):Calls Tryz.prog 279 #[e] w (iv w (g / 2)):=by
 have T:(lmb g).length<=100000:=V;obtain⟨A,R,rfl,-,-,q,-,-⟩:=q;let⟨p,C⟩:=gN ((lmb g).length)
 rw[C]at T q ⊢;have u:=Ar (λ(l:List Nat) (h:LowI (g / 2) p l)=>(h.fin (by rw[<-C];exact Hu (Nat.div_le_self _ _)):val l=g / 2));clear C;go_enter Tryz.func279,Tryz.ntmps279;go_upto_region 3 with fail;go_loopw [3,4] (λo i wr=>∃(k:Nat) (l:List Nat),k<=p/\i=.int .i64 k/\Hid (LowI (g / 2) k l)/\OwU wr w.heap.size o l/\Be w wr) λ_ i _=>p-(intOf i).toNat
 case atStart=>exact⟨0,[],Nat.zero_le _,rfl,Ar (LowI.zero _),OwG.nil,bl0⟩
 obtain⟨k,l,hk,rfl,m,j,b⟩:=hrel;have F:=m.out.len;by_cases S:k<p
 .have Y:(k:Int)<(p:Int):=by omega
  let⟨x,t⟩:=gN (lim g k)
  let⟨y,I⟩:=gN (lim g (k+1))
  have K:=Cv g k;have B:=Ar (show gu (lmb g) k=x from t);have J:=Ar (Gf (c:=R) (q.keep b) (Dj g) (k+1));rw[show gu (lmb g) (k+1)=y from I,Int.natCast_add]at J;let⟨s,f⟩:=gN (lim g k / 2+lim g (k+1) % 2*2147483648)
  have P:=Ar (m.out.half f.symm);rw[t,I]at f;rw[t]at K;unfold BB at K;have Z:=Ds (z:=(y:Int) % 2*2147483648) (by omega) (by omega);have W2:IntKind.u64.wrap ((x:Int) / 2+(y:Int) % 2*2147483648)=(s:Int):=by rw[Ds (by omega) (by omega)];omega
  have W3:(s:Int) % 4294967296=(s:Int):=by omega
  have W4:IntKind.i64.wrap ((k:Int)+1)=(k:Int)+1:=by rw[IntKind.wrap_i64];omega
  clear t I f m
  go_wp2_with (first
   | (at_builtin;refine Co rfl _ _ 167 rfl enU w.heap.size 280 (.int .u32 0) 1 4 Tryz.underlying167 Pd rfl (by omega) Hj Im _ l rfl (j.alloc _) wr.heap.size 1 s 280 rfl (Bf.new _ _ _) (by unfold maxLen;omega) (by omega) (Ao b _).size ?_;intro v' w' G E M)
   | (go_at_call 273;have hq2:=H;refine J.out.mono ?_;rintro L W ⟨rfl,rfl⟩)
   | (go_at_call 273;refine(Gf (q.keep b) (Dj g) k).mono ?_;rintro L w7 ⟨rfl,rfl⟩;rw[B.out];have H:=trivial))
  exact⟨⟨k+1,l++[s],by omega,by go_num,P,G,Bk (Ao b _) (j.alloc _) E⟩,by simp[intOf];omega⟩
 obtain rfl:k=p:=by omega
 have Q:=Ar (u.out l m.out);have v:=Ar m.out.lt;clear m;obtain⟨X,cl,rfl,N,q2,O,U,q5⟩:=OwU.u32s j;rw[F]at N O ⊢
 go_wp2_with (go_at_call 271;refine(Mu O v.out (by omega) N U).mono ?_;rintro L W ⟨v8,rfl,r,D⟩;rw[Q.out]at r)
 go_ret;exact⟨_,rfl,r.lower b.size,An b D⟩
theorem pf{w:World}   (s:Ce w a e g) (U:Ln g):Calls Tryz.prog 276 #[e] w λC W=>∃n:Nat,C=.returned (.int .i64 (n:Int))/\IsB g n/\n<=4000000/\(n=0->g=0)/\Be w W:=by
 have S:(lmb g).length<=100000:=U;obtain⟨A,ca,rfl,H,-,s,P,-⟩:=s;generalize k:(lmb g).length=f at S H s ⊢;have v:=Ar (Mu s (Dj g) (by omega) H P);rw[Ep]at v;by_cases o:g=0
 .have D:f=0:=by rw[<-k,o,Cb];rfl
  subst D;clear k;go_in
  go_wp2_with (go_at_call 271;refine v.out.mono ?_;rintro C w8 ⟨V,rfl,d,b⟩;obtain⟨M,c8,rfl,-⟩:=id d;rw[o,Cb])
  go_ret;exact⟨0,rfl,o ▸ Aat,by omega,λ_=>o,b⟩
 let⟨m,I⟩:∃m,f=m+1:=⟨f-1,by rw[D6 o,List.length_cons]at k;omega⟩
 have O:=Ar λ(x c:Nat) (l:lim g m=x) (D:x<2 ^ c) (Q:c=0\/2 ^ (c-1)<=x)=>Af6 (k.trans I) l D Q;let⟨x,l⟩:=gN (lim g m)
 have r:=Cv g m;have p:gu (lmb g) m=x:=l;have z:=Ar p;rw[l]at r;unfold BB at r;have B:=Ar l;have u:=Ar k;have z1:(f:Int)-1=(m:Int):=by omega
 have z2:¬((f:Int)=0):=by omega
 have z3:(0:Int)<=(m:Int):=by omega
 have Y:m<f:=by omega
 have z5:(m:Int)<(f:Int):=by omega
 clear k l p I;go_in
 go_upto_region 4 with (go_at_call 271;refine v.out.mono ?_;rintro C X ⟨V,rfl,d,b⟩;obtain⟨M,c8,rfl,T,o2,G,-⟩:=id d;rw[u.out]at T G ⊢)
 obtain⟨b8,f8,rfl,J⟩:=G.at_ Y;rw[z.out]at J;have W1:IntKind.i64.wrap (32*(m:Int))=32*(m:Int):=by rw[IntKind.wrap_i64];omega
 go_upto_region 6 with fail;have E:=Ar b;clear b J G d;go_loopw [4,5] (λn i wr=>∃c t:Nat,c<=32/\n=.int .i64 (32*(m:Int)+(c:Int))/\i=.int .u32 (t:Int)/\Hid (BtI x c t)/\X=wr) λ_ i _=>(intOf i).toNat
 case atStart=>exact⟨0,x,by omega,by simp,rfl,Ar ⟨by simp,.inl rfl,by omega⟩,rfl⟩
 obtain⟨c,t,hc,rfl,rfl,j,rfl⟩:=hrel;by_cases ht:t=0
 .obtain⟨K,L⟩:=O.out x c B.out (by subst ht;exact j.out.fin) j.out.2.1;subst ht;have N:=Ar K;have y:=Ar L;clear K L j;go_wp2;go_ret;exact⟨32*m+c,rfl,N.out,by omega,λh=>absurd h (Nat.ne_of_gt y.out),E.out⟩
 have q:=j.out.step r (Nat.pos_of_ne_zero ht);have F:=q.2.2;have q:=Ar q;have Z:(0:Int)<(t:Int):=by omega
 have R:t<4294967296:=Nat.lt_of_le_of_lt (by rw[j.out.1];exact Nat.div_le_self _ _) r;have W2:IntKind.i64.wrap (32*(m:Int)+(c:Int)+1)=32*(m:Int)+(c:Int)+1:=by rw[IntKind.wrap_i64];omega
 clear j;go_wp2;exact⟨⟨c+1,t / 2,F,by go_num,congrArg (Value.int IntKind.u32) (by omega),q,trivial⟩,by simp[intOf];omega⟩
theorem Ul(n:Nat) (d:n<=1000000) (w:World):(Instr.makeSlice 167 (.int .i64 (n:Int)) (.int .i64 (n:Int))).run Tryz.prog w=.ok (.slice (some ⟨w.heap.size,0,none⟩) n n) (w.alloc (.cells (vU (List.replicate n 0)) 280)):=by
 let⟨Z,a,b⟩:=Fb n d
 have e:some (Obj.cells Z 280)=some (Obj.cells (vU (List.replicate n 0)) 280):=by
  have c:=(b w:(w.alloc (.cells Z 280)).heap[w.heap.size]? = _);rw[<-c];exact(Array.getElem?_push_size (xs:=w.heap)).symm
 injection e with e
 rw[a w,e]
theorem Afj(n:Nat) (a:n<=1000000) (w:World):OwU (w.alloc (.cells (vU (List.replicate n 0)) 280)) w.heap.size (.slice (some ⟨w.heap.size,0,none⟩) n n) (List.replicate n 0):=by
 unfold OwU OwG;rw[Akg,List.length_replicate];exact World.ownsRow_lit w (vU (List.replicate n 0)) n (Nat.le_refl _) (by unfold maxLen;omega) (by simp[vU])
theorem Afn{w:World}   (J:Ce w a e g) (sa:Ln g) (n:Nat) (hn:n<=4000000):Calls Tryz.prog 277 #[e,(n:Int)] w (iv w (g*2 ^ n)):=by
 have la:(lmb g).length<=100000:=sa;obtain⟨A,ca,rfl,-,-,J,-,-⟩:=J;let⟨r,U⟩:=gN ((lmb g).length)
 rw[U]at la J ⊢;let⟨q,hq⟩:=gN (n / 32)
 let⟨s,hs⟩:=gN (n % 32)
 have p:s<32:=by omega
 have E:n=32*q+s:=by omega
 have L:=Ar (λ(c:Nat) (l:List Nat) (h:ShfI g s (r+1) c l)=>(by rw[E];exact h.fin p (by omega) q:val (List.replicate q 0++l)=g*2 ^ n));have S:=Ul q (by omega);have d:=Afj q (by omega) w;have Q1:(n:Int) / 32=(q:Int):=by omega
 have Q2:(n:Int) % 32=(s:Int):=by omega
 clear U E hq hs;go_enter Tryz.func277,Tryz.ntmps277;go_upto_region 4 with fail;have u:Be w (w.alloc (.cells (vU (List.replicate q 0)) 280)):=blA;let⟨Y,F⟩:=gN (w.alloc (.cells (vU (List.replicate q 0)) 280))
 rw[F]at u d ⊢;clear F S;go_loopw [5,6,7,8] (λo c i _ wr=>∃(k B:Nat) (l:List Nat),k<=r+1/\i=.int .i64 k/\c=.int .u64 (B:Int)/\Hid (ShfI g s k B l)/\OwU wr w.heap.size o (List.replicate q 0++l)/\Be w wr) λ_ _ i _ _=>r+1-(intOf i).toNat
 case atStart=>exact⟨0,0,[],Nat.zero_le _,rfl,rfl,Ar (ShfI.zero g s),by rw[List.append_nil];exact d,u⟩
 clear u d;obtain⟨k,B,l,hk,rfl,rfl,z,f,b⟩:=hrel;have Q:=z.out.len;by_cases a7:k<r+1
 .have Z:(k:Int)<=(r:Int):=by omega
  let⟨x,G⟩:=gN (lim g k)
  have N:=Ar (show gu (lmb g) k=x from G);let⟨t,ht⟩:=gN (lim g k*2 ^ s+B)
  let⟨I,ad⟩:=z.out.step p ht.symm;rw[G]at ht;let⟨H,y⟩:=gN (t % BB:Nat)
  let⟨K,v⟩:=gN (t / BB:Nat)
  rw[y,v]at I;have I:=Ar I;unfold BB at y v;have E1:(t:Int) % 4294967296=(H:Int):=by omega
  have E2:(t:Int) / 4294967296=(K:Int):=by omega
  let⟨m,R⟩:=gN (x*2 ^ s)
  rw[R]at ht
  have W1:IntKind.u64.wrap ((x:Int)*2 ^ s)=(m:Int):=by
   rw[show (x:Int)*2 ^ s=(m:Int) by rw[<-R,Int.natCast_mul,Int.natCast_pow];rfl,Ds (by omega) (by omega)]
  have W2:IntKind.u64.wrap ((m:Int)+(B:Int))=(t:Int):=by rw[Ds (by omega) (by omega)];omega
  clear y v z G R ht
  go_wp2_with (first
   | (at_builtin;refine Co rfl _ _ 167 rfl enU w.heap.size 280 (.int .u32 0) 1 4 Tryz.underlying167 Pd rfl (by omega) Hj Im _ (List.replicate q 0++l) rfl (f.alloc _) wr.heap.size 1 H 280 rfl (Bf.new _ _ _) (by unfold maxLen;simp;omega) (by simp;omega) (Ao b _).size ?_;intro v' w' T P V)
   | (go_at_call 273;refine(Gf (J.keep b) (Dj g) k).mono ?_;rintro a6 w7 ⟨rfl,rfl⟩;rw[N.out]))
  exact⟨⟨k+1,K,l++[H],by omega,by go_num,rfl,I,by rw[<-List.append_assoc];exact T,Bk (Ao b _) (f.alloc _) P⟩,by simp[intOf];omega⟩
 obtain rfl:k=r+1:=by omega
 have Z:(r:Int)<(r:Int)+1:=by omega
 have HV:=Ar (L.out B l z.out);have M:=Ar (show ∀x∈List.replicate q 0++l,x<BB from λx G=>(List.mem_append.1 G).elim (Gh q x) (z.out.lt x));clear z;obtain⟨Al,cl,rfl,W,q2,X,q4,q5⟩:=OwU.u32s f;have j:(List.replicate q 0++l).length<=1000000:=by simp;omega
 let⟨ln,C⟩:=gN ((List.replicate q 0++l).length)
 rw[C]at W X j ⊢;clear C Q f
 go_wp2_with (go_at_call 271;refine(Mu X M.out j W q4).mono ?_;rintro a6 w8 ⟨v8,rfl,D,O⟩;rw[HV.out]at D)
 go_ret;exact⟨_,rfl,D.lower b.size,An b O⟩
end
section
open Go.RowKit Limb
theorem Sm.ln(h:Sm a):Ln a:=h.len
theorem Amm{k:Nat} (h:a<BB ^ k) (b:k<=100000):Ln a:=Nat.le_trans (Me h) b
theorem Afh{x:Nat} (e:Sm a) (c:IsB a x) (d:IsB g h) (f:h<=x) (j:0<h):Ln (g*2 ^ (x-h)):=by
 refine Amm (k:=SM+1) ?_ (by decide);have i:=c.2.resolve_left (by omega);have b:g*2 ^ (x-h)<2 ^ h*2 ^ (x-h):=Nat.mul_lt_mul_of_lt_of_le d.1 (Nat.le_refl _) (Nat.pow_pos (by decide));rw[<-Nat.pow_add,show h+(x-h)=(x-1)+1 by omega,Nat.pow_succ]at b;unfold Sm at e;rw[Nat.pow_succ];have:BB ^ SM*2<=BB ^ SM*BB:=Nat.mul_le_mul_left _ (by decide);omega
def Nx (g b:Nat) (w:World) (v:Value) (a:Nat):Prop:=Ce w b v a/\(a=0\/∀p n c,v=.slice (some p) n c->p.block≠g)
theorem Nx.of{w:World}   (d:Ce w h e i) (k:a<h) (j:g<=h):Nx a g w e i:=by
 refine⟨d.lower j,.inr λp n c b=>?_⟩;obtain⟨A,c,rfl,-,-,-,-,f⟩:=d;injection b with b
 have:=f p b;omega
theorem Nx.old{w:World}   (f:Ce w g e h) (l:w.heap.size<=a):Nx a g w e h:=by
 refine⟨f,?_⟩;by_cases i:h=0
 .exact .inl i
 refine .inr λp n c d=>?_
 obtain⟨A,c,rfl,-,-,j,-⟩:=f;obtain⟨b,o,rfl,k⟩:=j.at_ (show 0<(lmb h).length by rw[D6 i];simp);injection d with d
 injection d with d
 subst d;exact Nat.ne_of_lt (Nat.lt_of_lt_of_le (Bi k) l)
theorem Nx.keep{base:Nat} {w:World}   (h:Nx a base w e g) (c:Be w b):Nx a base b e g:=⟨h.1.keep c,h.2⟩
theorem Nx.far{w:World}   (d:Nx a g w e i) (u:Value):Nx a g (w.setCell ⟨a,h,none⟩ u) e i:=by
 obtain⟨⟨A,c,rfl,f,j,k,l,m⟩,b⟩:=d;refine⟨⟨A,c,rfl,f,j,?_,l,m⟩,b⟩;rcases b with b|b
 .subst b;rw[Cb];exact⟨rfl,.inl rfl⟩
 exact k.far (λq hq=>b q _ _ (by rw[hq])) u
theorem Aab{w:World}   (hA:Ce w a e h) (hB:Ce w g j i) (sa:Sm h) (sb:Sm i) (h0:0<i):Calls Tryz.prog 222 #[e,j] w λz w'=>∃q r,z=.returned (.tuple #[q,r,.bool true])/\Ce w' w.heap.size q (h / i)/\Ce w' w.heap.size r (h % i)/\Be w w':=by
 go_in
 go_upto_region 2 with (go_at_call 276;refine(pf hB sb.ln).mono ?_;rintro z w1 ⟨y0,rfl,-,-,b1,H⟩)
 have c4:¬((y0:Int)=0):=λck=>by have:=b1 (by omega);omega
 go_upto_region 5 with (first
  | (go_at_call 276;have dx:=E;refine(pf (hB.keep u) sb.ln).mono ?_;rintro z w4 ⟨y,rfl,K,c9,b2,Q⟩)
  | (go_at_call 276;refine(pf V sa.ln).mono ?_;rintro z w3 ⟨x,rfl,E,c7,-,P⟩;have u:=An (An H ak) P)
  | (go_at_call 271;refine(Rz (hA.keep H) sa.ln).mono ?_;rintro z w2 ⟨v2,rfl,V,ak⟩))
 have t:=An u Q;have W:=((V.keep P).keep Q).lower H.size;have ad:=hB.keep t;have hy:0<y:=by rcases Nat.eq_zero_or_pos y with A|A;(have:=b2 A;omega);exact A
 clear H ak P Q u V hA hB c4 b1 b2;by_cases b0:x<y
 .have ar:=Ajv E K b0;have B1:((x:Int)-(y:Int))<0:=by omega
  go_wp2
  go_ret3
  exact⟨_,_,rfl,OwU.natV (by rw[Nat.div_eq_of_lt ar,Cb];exact OwG.nil),by rw[Nat.mod_eq_of_lt ar];exact W,t⟩
 let⟨d,hd⟩:=gN (x-y)
 have hI:=DvI.zero E K hy (by omega);have T:=Afh sa E K (by omega) hy;rw[hd]at hI T;have e1:(x:Int)-(y:Int)=(d:Int):=by omega
 have bs:d<=4000000:=by omega
 rw[e1];clear e1 hd E K hy c7 c9 b0;have au:=Ul (d / 32+1) (by omega);rw[show ((d / 32+1:Nat):Int)=(d:Int) / 32+1 by omega]at au;have W1:IntKind.i64.wrap ((d:Int) / 32+1)=(d:Int) / 32+1:=by rw[IntKind.wrap_i64];omega
 go_upto_region 8 with fail;let⟨X,hX⟩:=gN (w4.alloc (.cells (vU (List.replicate (d / 32+1) 0)) 280))
 have B:Ka X w4.heap.size (List.replicate (d / 32+1) 0):=hX ▸ Bf.new _ _ _;have J:Be w4 X:=hX ▸ blA;rw[hX];clear hX au W1;have C:=An t J
 go_upto_region 10 with (go_at_call 277;refine(Afn (ad.keep J) sb.ln d bs).mono ?_;rintro z w5 ⟨v5,rfl,F,I⟩)
 have O:=B.keep I;have U:=((Nx.old W (Nat.le_refl _)).keep J).keep I;have M:=An C I;have hI:=Ar hI;have hg:w.heap.size<=w4.heap.size:=t.size;have F:=Nx.of F B.lt C.size;generalize bt:w4.heap.size=A at O hg U F ⊢;clear t W ad B J C I bt;go_loopw [7,10,11,12,13] (λrv pv k _ _ wr=>∃(a6 r:Nat) (p:Nat) (l:List Nat),a6<=d+1/\k=.int .i64 ((a6:Int)-1)/\Hid (DvI h i a6 d r l)/\Hid (∀n,a6=n+1->p=i*2 ^ n)/\Nx A w.heap.size wr rv r/\Nx A w.heap.size wr pv p/\Ln r/\Ln p/\Ka wr A l/\Be w wr) λ_ _ k _ _ _=>(intOf k+1).toNat
 case atStart=>exact⟨d+1,h,_,_,Nat.le_refl _,by go_num,hI,Ar λn Y=>by rw[show d=n by omega],U,F,sa.ln,T,O,M⟩
 clear hI T U F O M;obtain⟨a6,r,p,l,hj,rfl,G,HP,hr,hp,sr,sp,B,D⟩:=hrel;have bx:=G.out.len;cases a6 with
 | zero =>
   let⟨f1,f2⟩:=G.out.fin;have HV:=Ar f1;have bm:=Ar G.out.lt;subst f2;have hU:=B.u32s;rw[bx]at hU;have B1:¬(0:Int) <= -1:=by omega
   clear G HP f1
   go_wp2_with (go_at_call 271;refine(Mu (c:=d / 32+1) hU bm.out (by omega) (Nat.le_refl _) λck=>by cases ck).mono ?_;rintro z w8 ⟨v8,rfl,aw,f⟩;rw[HV.out]at aw)
   go_ret3
   exact⟨_,_,rfl,aw.lower D.size,hr.1.keep f,An D f⟩
 | succ k =>
   have z1:((k+1:Nat):Int)-1=(k:Int):=by omega
   have v:=HP.out k rfl;rw[z1];have W0:IntKind.i64.wrap ((k:Int)-1)=(k:Int)-1:=by rw[IntKind.wrap_i64];omega
   have a8:=Ar (show ∀n,k=n+1->p / 2=i*2 ^ n from λn Y=>by rw[v,Y,Nat.pow_succ,<-Nat.mul_assoc];exact Nat.mul_div_cancel _ (by decide));have b4:Ln (p / 2):=Nat.le_trans (Hu (Nat.div_le_self _ _)) sp;by_cases S:p<=r
   .obtain⟨n,Y⟩:∃n,k / 32=n:=⟨_,rfl⟩
    let⟨s,hs⟩:=gN (k % 32)
    have L:=G.out.yes (by omega) (by rw[<-v];exact S);have o:=Zl G.out.lt G.out.d;rw[<-v,Y,hs]at L;rw[Y,hs]at o;generalize hx:l.getD n 0=x at L o;generalize hy:x+2 ^ s=y at L o;let⟨c1,f1⟩:=B.cell (k:=n) (by omega);rw[show gu l n=x from hx]at c1;let⟨m,hm⟩:=gN (2 ^ s)
    have P1:(2:Int) ^ s=(m:Int):=by rw[<-hm,Int.natCast_pow];rfl
    rw[hm]at hy;unfold BB at o;have W1:IntKind.u32.wrap ((2:Int) ^ s)=(m:Int):=by rw[P1,IntKind.wrap_u32];omega
    have W2:((x:Int)+(m:Int)) % 4294967296=(y:Int):=by omega
    have bp:=Ar (show gu l n=x from hx);have Q1:(k:Int) / 32=(n:Int):=by omega
    have Q2:(k:Int) % 32=(s:Int):=by omega
    have B1:(n:Int)<((d / 32+1:Nat):Int):=by omega
    have L:=Ar L;have cb:Ln (r-p):=Nat.le_trans (Hu (Nat.sub_le _ _)) sr;have bu:n<l.length:=by omega
    clear hx hy hm P1 Y hs G HP v z1
    go_upto_region 16 with (go_at_call 278;refine(Afm hr.1 hp.1 sr sp).mono ?_;rintro z w6 ⟨v6,rfl,bw,b⟩;rw[decide_eq_true S];let⟨c2,f2⟩:=(B.keep b).cell bu;rw[bp.out]at c2)
    refine Cj (λZ=>Ka Z A (l.set n y)/\Nx A w.heap.size Z v6 (r-p)/\Nx A w.heap.size Z _ p/\Be w Z) ⟨(B.keep b).store n y,(Nx.of bw B.lt D.size).far _,(hp.keep b).far _,Ba (An D b) (p:=⟨A,n,none⟩) hg _⟩ ?_;rintro Z ⟨z1,z2,z3,z4⟩
    go_wp2_with (go_at_call 279;refine(Adr z3.1 sp).mono ?_;rintro z w8 ⟨v8,rfl,R,f⟩)
    exact⟨⟨k,r-p,p / 2,_,by omega,by go_num,L,a8,z2.keep f,Nx.of R z1.lt z4.size,cb,b4,z1.keep f,An z4 f⟩,by simp[intOf]⟩
   have L:=Ar (G.out.no (by rw[<-v];omega));clear G HP v z1
   go_wp2_with (first
    | (go_at_call 278;refine(Afm hr.1 hp.1 sr sp).mono ?_;rintro z w6 ⟨v6,rfl,-,b⟩;rw[decide_eq_false S])
    | (go_at_call 279;refine(Adr (hp.1.keep b) sp).mono ?_;rintro z w8 ⟨v8,rfl,R,f⟩))
   have cv:=An b f;have N:=An D b;exact⟨⟨k,r,p / 2,_,by omega,by go_num,L,a8,(hr.keep b).keep f,Nx.of R (B.keep b).lt N.size,sr,b4,(B.keep b).keep f,An N f⟩,by simp[intOf]⟩
theorem Amg{w:World}   (K:Ce w a e h) (L:Ce w g j i) (O:Sm h) (P:Sm i):Calls Tryz.prog 272 #[e,j] w (iv w (Nat.gcd h i)):=by
 go_in
 go_upto_region 2 with (first
  | (go_at_call 271;refine(Rz (L.keep b) P.ln).mono ?_;rintro J w2 ⟨Z,rfl,A,p⟩)
  | (go_at_call 271;refine(Rz K O.ln).mono ?_;rintro J w1 ⟨Y,rfl,z,b⟩))
 have c:=An b p;have d:=(z.keep p).lower (Nat.le_refl _);have f:=A.lower b.size;clear z A b p K L;go_loopw [5,6,7,8,9] (λx y _ _ _ wr=>∃m n:Nat,Ce wr w.heap.size x m/\Ce wr w.heap.size y n/\Sm m/\Sm n/\Hid (Nat.gcd h i=Nat.gcd m n)/\Be w wr) λ_ y _ _ _ wr=>natOf wr y
 case atStart=>exact⟨h,i,d,f,O,P,Ar rfl,c⟩
 clear d f c;obtain⟨m,n,M,t,sm,D,C,q⟩:=hrel;have G:=Np t;obtain⟨B,W,rfl,-⟩:=id t;by_cases o:n=0
 .have R:Hid (Nat.gcd h i=m):=Ar (by rw[C.out,o,Nat.gcd_zero_right]);rw[o,Cb];clear G t C o D;go_wp2;go_ret;exact⟨_,rfl,by rw[R.out];exact M,q⟩
 have S:0<(lmb n).length:=by rw[D6 o];simp
 let⟨k,N⟩:=gN ((lmb n).length)
 have E:=Ar (Nat.pos_of_ne_zero o);have u:Hid (Nat.gcd h i=Nat.gcd n (m % n)):=Ar (by rw[C.out,Nat.gcd_comm,Nat.gcd_rec,Nat.gcd_comm]);have l:=Ar (Nat.mod_lt m (Nat.pos_of_ne_zero o));have Q:Sm (m % n):=D.le (Nat.le_of_lt l.out);let⟨r,I⟩:=gN (m % n)
 have F:=Ar I;rw[I]at u l Q;rw[N]at S G t ⊢;clear N o I C
 go_wp2_with (go_at_call 222;refine(Aab M t sm D E.out).mono ?_;rintro J V ⟨X,U,rfl,T,s,v⟩;rw[F.out]at s)
 refine⟨⟨n,r,t.keep v,s.lower q.size,D,Q,u,An q v⟩,?_⟩;have H:=Np s
 show natOf V U<natOf wr _
 rw[H,G];exact l.out
end
section
open Go.RowKit Limb
def sg (b:Bool) (a:Nat):Int:=if b then -(a:Int) else a
theorem ku(b:Bool) (a:Nat):(sg b a).natAbs=a:=by unfold sg;split<;>omega
theorem Aiz(b:Bool) (a:Nat):decide (sg b a<0)=(b&&decide (0<a)):=by
 unfold sg;cases b<;>simp
def P9 (w:World) (a:Nat) (v:Value) (z:Int):Prop:=∃m,v=.agg #[.bool (decide (z<0)),m]/\Ce w a m z.natAbs
theorem P9.keep{w:World} {base:Nat}   (h:P9 w base e k) (c:Be w b):P9 b base e k:=by
 obtain⟨m,a,d⟩:=h;exact⟨m,a,d.keep c⟩
def wm (w:World) (z:Int) (e:Ending) (a:World):Prop:=∃v,e=.returned v/\P9 a w.heap.size v z/\Be w a
theorem Ce.far{w:World}    (h:Ce w a e g) {p:Addr} (l:p.block<a) (u:Value):Ce (w.setCell p u) a e g:=by
 obtain⟨A,c,d,f,i,j,k,b⟩:=h;exact⟨A,c,d,f,i,j.far (λq hq=>Nat.ne_of_gt (Nat.lt_of_lt_of_le l (b q hq))) u,k,b⟩
theorem Ajw{w:World}   {c:Bool} {d:Bool} (h:Ce b a e g) (i:w.heap.size<=a) (f:d=(c&&decide (0<g))):P9 b w.heap.size (.agg #[.bool d,e]) (sg c g) :=
 ⟨e,by rw[Aiz,f],by rw[ku];exact h.lower i⟩
theorem Ce.sl{w:World}    (h:Ce w a e g):∃A n c,e=.slice A n c:=by
 obtain⟨A,c,b,-⟩:=h;exact⟨A,_,c,b⟩
theorem Gd{w:World}  {T:TypeId} {x:Value}  (f:Bf b a T #[x,e]) (i:Ce b g j k.natAbs) (c:a<g) (d:w.heap.size<=a) (h:Be w b) :
 Cq ((b.setCell ⟨a,0,none⟩ (.bool (decide (k<0)))).setCell ⟨a,1,none⟩ j) a 0 (.bool (decide (k<0)))/\Cq ((b.setCell ⟨a,0,none⟩ (.bool (decide (k<0)))).setCell ⟨a,1,none⟩ j) a 1 j/\wm w k (.returned (.agg #[.bool (decide (k<0)),j])) ((b.setCell ⟨a,0,none⟩ (.bool (decide (k<0)))).setCell ⟨a,1,none⟩ j):=by
 obtain⟨l,m,-,-,-⟩:=Bf.pair (u:=.bool (decide (k<0))) (v:=j) ((f.set_ 0 (.bool (decide (k<0)))).set_ 1 j);exact⟨l,m,_,rfl,⟨j,rfl,((i.far (p:=⟨a,0,none⟩) c _).far (p:=⟨a,1,none⟩) c _).lower (by omega)⟩,Ba (Ba h (p:=⟨a,0,none⟩) d _) (p:=⟨a,1,none⟩) d _⟩
end
section
open Go.RowKit Limb
theorem Adg(x y:Int):sg (decide (x<0) != decide (y<0)) (x.natAbs*y.natAbs)=x*y:=by
 unfold sg;rw[<-Int.natAbs_mul];by_cases a:x<0<;>by_cases b:y<0<;>simp[a,b]
 .have:=Int.mul_pos_of_neg_of_neg a b;omega
 .have:x*y<=0:=Int.mul_nonpos_of_nonpos_of_nonneg (by omega) (by omega);omega
 .have:x*y<=0:=Int.mul_nonpos_of_nonneg_of_nonpos (by omega) (by omega);omega
 have:=Int.mul_nonneg (show 0<=x by omega) (show 0<=y by omega);omega
theorem cf1{w:World}  (o i:Nat) (u:Value) (h:g≠a):(w.setCell ⟨a,i,none⟩ u).cell? ⟨g,o,none⟩=w.cell? ⟨g,o,none⟩:=by
 unfold World.cell?;rw[Below.heap_setCell w ⟨a,i,none⟩ u g h]
theorem cf2{w:World}   {x:Value} (b:g≠a) (c:w.cell? ⟨g,h,none⟩=some x):((w.setCell ⟨a,0,none⟩ e).setCell ⟨a,1,none⟩ j).cell? ⟨g,h,none⟩=some x:=by
 rw[cf1 _ _ _ b,cf1 _ _ _ b];exact c
end
section
open Go.RowKit Limb
theorem Ae5{x y:Int} (h:decide (x<0)=decide (y<0)):sg (decide (x<0)) (x.natAbs+y.natAbs)=x+y:=by
 unfold sg;by_cases a:x<0<;>by_cases b:y<0<;>simp[a,b]at h ⊢<;>omega
theorem Ae4{x y:Int} (h:decide (x<0)≠decide (y<0)) (c:y.natAbs<=x.natAbs):sg (decide (x<0)) (x.natAbs-y.natAbs)=x+y:=by
 unfold sg;by_cases a:x<0<;>by_cases b:y<0<;>simp[a,b]at h ⊢<;>omega
theorem Ae3{x y:Int} (h:decide (x<0)≠decide (y<0)) (c:x.natAbs<=y.natAbs):sg (decide (y<0)) (y.natAbs-x.natAbs)=x+y:=by
 unfold sg;by_cases a:x<0<;>by_cases b:y<0<;>simp[a,b]at h ⊢<;>omega
end
section
open Go.RowKit Limb
section
variable {w : World} {ba bb a b : Nat} {va vb : Value}
abbrev Anj (hA:Ce w ba va a) (hB:Ce w bb vb b) (sa:Sm a) (sb:Sm b):=Ami hA hB sa.ln sb.ln
abbrev Aoa (hA:Ce w ba va a) (hB:Ce w bb vb b) (sa:Sm a) (sb:Sm b):=Afm hA hB sa.ln sb.ln
abbrev Acs (hA:Ce w ba va a) (hB:Ce w bb vb b) (sa:Sm a) (sb:Sm b):=Amf hA hB sa.ln sb.ln
abbrev xl (hA:Ce w ba va a) (sa:Sm a):=Rz hA sa.ln
end
theorem Anl {f:Nat} (H:f=255\/f=275) {w:World} {G a:Nat} {F:Value} (b:Bool) (C:Ce w G F a) (N:Sm a):Calls Tryz.prog f #[.bool b,F] w (wm w (sg b a)):=by
 rcases H with rfl|rfl
 have s:=@Aep
 rotate_left 1
 have s:=@xl
 rotate_left 1
 all_goals
  go_in;go_upto_region 1 with fail;refine Bq λX m x=>?_
  go_upto_region 2 with ((first|go_at_call 310|go_at_call 271);refine(s (C.keep m) N).mono ?_;rintro e O ⟨T,rfl,i,l⟩)
  have j:=x.keep l;have r:=An m l;have n:=x.lt;obtain⟨g,h,rfl,I,J,K,L,M⟩:=id i;let⟨R,S,P,Q,lt⟩:=j.pair;let⟨k,y⟩:=gN ((lmb a).length)
  have B:Hid (decide (0<a)=decide (0<k)):=Ar (by
   rw[<-y];by_cases q:a=0
   .rw[q,Cb];rfl
   rw[D6 q];simp;omega)
  rw[y]at i ⊢;clear I J K L M x y C m l;let⟨d,c⟩:=gN (b&&decide (0<k))
  have o:Hid (d=(b&&decide (0<a))):=Ar (by rw[B.out,c]);have E:=(i.far (p:=⟨w.heap.size,0,none⟩) n (.bool d)).far (p:=⟨w.heap.size,1,none⟩) n (.slice g k h);have D:=Ba (Ba r (p:=⟨w.heap.size,0,none⟩) (Nat.le_refl _) (.bool d)) (p:=⟨w.heap.size,1,none⟩) (Nat.le_refl _) (.slice g k h);obtain⟨z,A,-,-,-⟩:=Bf.pair (u:=.bool d) (v:=.slice g k h) ((j.set_ 0 (.bool d)).set_ 1 (.slice g k h));have t:Hid (wm w (sg b a) (.returned (.agg #[.bool d,.slice g k h])) ((O.setCell ⟨w.heap.size,0,none⟩ (.bool d)).setCell ⟨w.heap.size,1,none⟩ (.slice g k h))):=Ar ⟨_,rfl,Ajw E (Nat.le_of_lt n) o.out,D⟩;clear E D o B j i;cases b with
  | true =>
    by_cases q:0<k
    .obtain rfl:d=true:=by rw[<-c];simpa using q
     clear c;go_wp2;exact bR t.out rfl (by simp[results,Tryz.results255,Tryz.results275,go_sem,z,A])
    obtain rfl:d=false:=by rw[<-c];simpa using q
    clear c;go_wp2;exact bR t.out rfl (by simp[results,Tryz.results255,Tryz.results275,go_sem,z,A])
  | false =>
    obtain rfl:d=false:=by rw[<-c];rfl
    clear c;go_wp2;exact bR t.out rfl (by simp[results,Tryz.results255,Tryz.results275,go_sem,z,A])
def Mh:=@Anl 255 (.inl rfl)
def Aar:=@Anl 275 (.inr rfl)
theorem ja {f:Nat} (s:f=253\/f=220) {w:World} {o a:Nat} {l:Value} (b:Bool) (q:Ce w o l a) (y:Sm a):Calls Tryz.prog f #[.agg #[.bool b,l]] w (wm w (sg b a)):=by
 rcases s with rfl|rfl
 have j:=@Mh
 rotate_left 1
 have j:=@Aar
 rotate_left 1
 all_goals
  go_in;go_upto_region 1 with fail;refine Eo λX g r k=>?_
  obtain⟨C,D,-,-,-⟩:=r.pair;have h:=k.lt
  go_wp2_with ((first|go_at_call 255|go_at_call 275);refine(j b (q.keep g) y).mono ?_;rintro e H ⟨G,rfl,⟨B,rfl,i⟩,d⟩;have c:=k.keep d;let⟨E,F,z,A,lt⟩:=c.pair;obtain⟨m,t,p,rfl⟩:=i.sl)
  let⟨u,x,n⟩:=Gd (w:=w) c i h (by omega) (An g d);exact bR n rfl (by simp[results,Tryz.results253,Tryz.results220,go_sem,u,x])
def Wo:=@ja 253 (.inl rfl)
def Af5:=@ja 220 (.inr rfl)
theorem Acw {f:Nat} (s:f=316\/f=282) {w:World} {o a:Nat} {l:Value} (b:Bool) (q:Ce w o l a) (y:Sm a):Calls Tryz.prog f #[.agg #[.bool b,l]] w (wm w (sg (!b) a)):=by
 rcases s with rfl|rfl
 have j:=@Mh
 rotate_left 1
 have j:=@Aar
 rotate_left 1
 all_goals
  go_in;go_upto_region 1 with fail;refine Eo λX g r k=>?_
  obtain⟨C,D,-,-,-⟩:=r.pair;have h:=k.lt
  go_wp2_with ((first|go_at_call 255|go_at_call 275);refine(j (!b) (q.keep g) y).mono ?_;rintro e H ⟨G,rfl,⟨B,rfl,i⟩,d⟩;have c:=k.keep d;let⟨E,F,z,A,lt⟩:=c.pair;obtain⟨m,t,p,rfl⟩:=i.sl)
  let⟨u,x,n⟩:=Gd (w:=w) c i h (by omega) (An g d);exact bR n rfl (by simp[results,Tryz.results316,Tryz.results282,go_sem,u,x])
def Apk:=@Acw 316 (.inl rfl)
def Aph:=@Acw 282 (.inr rfl)
theorem Acx {f:Nat} (P:f=194\/f=281) {w:World} {I J:Nat} {x y:Int} {vx vy:Value} (N:P9 w I vx x) (O:P9 w J vy y) (sx:Sm x.natAbs) (sy:Sm y.natAbs) (A:Sm (x.natAbs*y.natAbs)):Calls Tryz.prog f #[vx,vy] w (wm w (x*y)):=by
 rcases P with rfl|rfl
 have n:=@Mh;have o:=@Ahf
 rotate_left 1
 have n:=@Aar;have o:=@Acs
 rotate_left 1
 all_goals
  obtain⟨W,rfl,Q⟩:=N;obtain⟨Y,rfl,R⟩:=O;have h:=Ar (Adg x y);let⟨p,t⟩:=gN (decide (x<0))
  let⟨q,hq⟩:=gN (decide (y<0))
  rw[t,hq]at h;rw[t,hq];clear t hq;go_in;go_upto_region 1 with fail;refine Jy λX d L M B=>?_
  have u:=(Q.keep d).keep blD;have z:=(R.keep d).keep blD;obtain⟨C,D,-,-,-⟩:=L.pair;obtain⟨E,F,-,-,-⟩:=M.pair;have k:=B.lt;have a:=Aw (Below.refl X.heap.size X);have b:w.heap.size≠w.heap.size+1+1:=by omega
  have c:w.heap.size+1≠w.heap.size+1+1:=by omega
  go_region_held3 (λr=>Cq r w.heap.size 0 (.bool p)/\Cq r w.heap.size 1 W/\Cq r (w.heap.size+1) 0 (.bool q)/\Cq r (w.heap.size+1) 1 Y)
   (first
    | exact⟨Aq a C,Aq a D,Aq a E,Aq a F⟩
    | exact⟨cf2 b S,cf2 b T,cf2 c U,cf2 c V⟩)
   ((first
     | ((first|go_at_call 255|go_at_call 275);have hd:=l;refine(n _ l A).mono ?_;rintro e w2 ⟨v2,rfl,⟨m2,rfl,g⟩,s⟩;replace a:=An a s;have i:=B.keep a;let⟨r0,r1,f0,f1,lt⟩:=i.pair;obtain⟨G,Z,K,rfl⟩:=g.sl;have S:=Aq a C;have T:=Aq a D;have U:=Aq a E;have V:=Aq a F)
     | ((first|go_at_call 256|go_at_call 215);refine(o u z sx sy).mono ?_;rintro e w1 ⟨m1,rfl,l,j⟩;replace a:=An a j)))
  go_wp2;have m:sg (!(p == q)) (x.natAbs*y.natAbs)=x*y:=h.out;rw[m]at g;let⟨s0,s1,H⟩:=Gd (w:=w) i g (Nat.lt_of_lt_of_le k (An (Aw (Below.refl X.heap.size X)) j).size) (by omega) (An d a);rw[m];exact bR H rfl (by simp[results,Tryz.results194,Tryz.results281,go_sem,s0,s1])
def Aga:=@Acx 194 (.inl rfl)
def An2:=@Acx 281 (.inr rfl)
theorem Acy {f:Nat} (hf:f=315\/f=280) {w:World} {ba bb:Nat} {x y:Int} {vx vy:Value} (hX:P9 w ba vx x) (hY:P9 w bb vy y) (S:Sm x.natAbs) (T:Sm y.natAbs) (b0:Sm (x.natAbs+y.natAbs)):Calls Tryz.prog f #[vx,vy] w (wm w (x+y)):=by
 rcases hf with rfl|rfl
 have C:=@Mh;have M:=@Ald;have D:=@Aob
 rotate_left 1
 have C:=@Aar;have M:=@Anj;have D:=@Aoa
 rotate_left 1
 all_goals
  obtain⟨mx,rfl,hx⟩:=hX;obtain⟨my,rfl,hy⟩:=hY;have l:=Ar λh=>Ae5 (x:=x) (y:=y) h;have m:=Ar λh g=>Ae4 (x:=x) (y:=y) h g;have n:=Ar λh g=>Ae3 (x:=x) (y:=y) h g;let⟨p,hp⟩:=gN (decide (x<0))
  let⟨q,hq⟩:=gN (decide (y<0))
  rw[hp,hq]at l m n;rw[hp,hq];obtain⟨ad,ak,a1,rfl⟩:=hx.sl;obtain⟨ai,ar,a6,rfl⟩:=hy.sl;clear hp hq;go_in;go_upto_region 1 with fail;refine Jy λX s hP hQ U=>?_
  have A:=hx.keep s;have B:=hy.keep s;obtain⟨V,p1,-,-,-⟩:=hP.pair;obtain⟨W,q1,-,-,-⟩:=hQ.pair;have u:=U.lt;have E:w.heap.size≠w.heap.size+1+1:=by omega
  have F:w.heap.size+1≠w.heap.size+1+1:=by omega
  by_cases k:p=q
  .subst k;have L:=l.out rfl;have d:=Ar L;clear l m n L;go_upto_region 2 with fail;have b:=Aw (Below.refl X.heap.size X)
   go_region_held3 (λY=>Cq Y w.heap.size 0 (.bool p)/\Cq Y w.heap.size 1 (.slice ad ak a1)/\Cq Y (w.heap.size+1) 0 (.bool p)/\Cq Y (w.heap.size+1) 1 (.slice ai ar a6))
    (first
     | exact⟨Aq b V,Aq b p1,Aq b W,Aq b q1⟩
     | exact⟨cf2 E k0,cf2 E k1,cf2 F k2,cf2 F k3⟩)
    ((first
      | ((first|go_at_call 255|go_at_call 275);have hd:=j;refine(C _ j b0).mono ?_;rintro e w2 ⟨v2,rfl,⟨m2,rfl,c⟩,o⟩;replace b:=An b o;have i:=U.keep b;let⟨r0,r1,f0,f1,lt⟩:=i.pair;obtain⟨H,N,J,rfl⟩:=c.sl;have k0:=Aq b V;have k1:=Aq b p1;have k2:=Aq b W;have k3:=Aq b q1)
      | ((first|go_at_call 314|go_at_call 223);refine(M (A.keep blD) (B.keep blD) S T).mono ?_;rintro e w1 ⟨m1,rfl,j,a⟩;replace b:=An b a)))
   go_wp2;rw[d.out]at c;let⟨Q,R,I⟩:=Gd (w:=w) i c (Nat.lt_of_lt_of_le u (An (Aw (Below.refl X.heap.size X)) a).size) (by omega) (An s b);rw[d.out];exact bR I rfl (by simp[results,Tryz.results315,Tryz.results280,go_sem,Q,R])
  have b3:(p == q)=false:=by simpa using k
  by_cases t:y.natAbs<=x.natAbs
  .have d:=Ar (m.out k t);have Z:Hid (decide (y.natAbs<=x.natAbs)=true):=Ar (by simpa using t);have G:Hid (Sm (x.natAbs-y.natAbs)):=Ar (S.le (Nat.sub_le _ _));clear l m n k t
   go_wp2_with (first
    | ((first|go_at_call 255|go_at_call 275);have hd:=j;refine(C _ j G.out).mono ?_;rintro e w2 ⟨v2,rfl,⟨m2,rfl,c⟩,o⟩;have r:=An a o;have i:=U.keep r;let⟨r0,r1,f0,f1,lt⟩:=i.pair;obtain⟨H,N,J,rfl⟩:=c.sl)
    | ((first|go_at_call 333|go_at_call 278);refine(D A B S T).mono ?_;rintro e w1 ⟨m1,rfl,j,a⟩;rw[Z.out];have O:=Aq a V;have P:=Aq a W))
   rw[d.out]at c;let⟨Q,R,I⟩:=Gd (w:=w) i c (Nat.lt_of_lt_of_le u a.size) (by omega) (An s r);rw[d.out];exact bR I rfl (by simp[results,Tryz.results315,Tryz.results280,go_sem,Q,R])
  have d:=Ar (n.out k (by omega));have Z:Hid (decide (y.natAbs<=x.natAbs)=false):=Ar (by simpa using t);have G:Hid (Sm (y.natAbs-x.natAbs)):=Ar (T.le (Nat.sub_le _ _));clear l m n k t
  go_wp2_with (first
   | ((first|go_at_call 255|go_at_call 275);have hd:=K;refine(C _ K G.out).mono ?_;rintro e w2 ⟨v2,rfl,⟨m2,rfl,c⟩,o⟩;have r:=An (An a z) o;have i:=U.keep r;let⟨r0,r1,f0,f1,lt⟩:=i.pair;obtain⟨H,N,J,rfl⟩:=c.sl)
   | ((first|go_at_call 333|go_at_call 278);have hd:=j;refine(D (B.keep a) (A.keep a) T S).mono ?_;rintro e w3 ⟨m3,rfl,K,z⟩;have b8:=Aq z O;have b9:=Aq z P)
   | ((first|go_at_call 333|go_at_call 278);refine(D A B S T).mono ?_;rintro e w1 ⟨m1,rfl,j,a⟩;rw[Z.out];have O:=Aq a V;have P:=Aq a W;have c9:=Aq a p1;have ca:=Aq a q1))
  rw[d.out]at c;let⟨Q,R,I⟩:=Gd (w:=w) i c (Nat.lt_of_lt_of_le u (An a z).size) (by omega) (An s r);rw[d.out];exact bR I rfl (by simp[results,Tryz.results315,Tryz.results280,go_sem,Q,R])
def An5:=@Acy 315 (.inl rfl)
def Api:=@Acy 280 (.inr rfl)
end
end Go.Proofs.YtlogblbfbihleaaGreat

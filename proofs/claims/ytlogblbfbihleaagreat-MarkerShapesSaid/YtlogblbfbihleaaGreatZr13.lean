/- Lean texts of the claim. -/
import Derived.Test.YtlogblbfbihleaaGreatZr12
import Derived.Laws.FloatArith
import Derived.Laws.Externs
namespace Go.Proofs.YtlogblbfbihleaaGreat
set_option linter.all false
set_option maxRecDepth 100000
set_option maxHeartbeats 0
open Go.RowKit
variable{a g q:Nat}{b k l m n o s t u:Value}{e:World}{f r:Rat}{h:Int}{i:TypeId}{j:Array Value}{p:Int×Int}{v:LP}
section
open Go.RowKit Limb
theorem S7{m:Nat} (b:a<2 ^ m) (c:g<2 ^ m):a+g<2 ^ (m+1):=by rw[Nat.pow_succ];omega
theorem S6{m:Nat} (b:a<2 ^ m) (c:g<2 ^ m):a+a+g<2 ^ (m+2):=by rw[Nat.pow_succ,Nat.pow_succ];omega
theorem Ai3{w:World}  {x:Rat} {vx:Value} (hX:Ib w a vx x) (j:RB 600 x):Calls Tryz.prog 266 #[vx] w (wm w (rnd x.num x.den)):=by
 obtain⟨p,Z,nx,cx,Bx,ox,ex,rfl,Q,R,A⟩:=hX.op;let⟨B,g⟩:=Qe j;have C:=x.den_nz;have K:Sm (x.num.natAbs+x.num.natAbs):=F7 (m:=600+1) (S7 (m:=600) j.1 j.1) (by decide);have s3:Sm (x.den+x.den):=F7 (m:=600+1) (S7 (m:=600) j.2 j.2) (by decide);have s2:Sm (x.num.natAbs+x.num.natAbs+x.den):=F7 (m:=600+2) (S6 (m:=600) j.1 j.2) (by decide);let⟨z,J⟩:=gN (rnd x.num x.den)
 have EQ:Hid (sg p ((x.num.natAbs+x.num.natAbs+x.den) / (x.den+x.den))=z):=Ar (by
  rw[<-J,<-Q];unfold rnd sg;rw[<-Nat.two_mul,<-Nat.two_mul];by_cases h:x.num<0<;>simp[h])
 rw[J];clear Q J;go_in;go_upto_region 1 with fail;refine Eo λX d k r=>?_
 have q:w.heap.size+1≠w.heap.size:=by omega
 obtain⟨S,T,U,-,-,-,-⟩:=k.triple
 go_upto_region 2 with (go_at_call 192;refine rR (Yb (A.keep d) g C) λL c=>?_;let⟨a0,a1,a2,a3,a4,a5,a6⟩:=(k.keep c).triple)
 refine Cj (λY=>Be w Y/\Bf Y w.heap.size 171 #[.bool p,.slice Z nx cx,.slice Bx ox ex]/\Bf Y (w.heap.size+1) 169 #[.bool false,.slice none 0 0]) ⟨Dw (An d c) (Nat.le_refl _) _ _ _,(k.keep c).set3,(r.keep c).far3 q _ _ _⟩ ?_;clear d c k r S T U a0 a1 a2 a3 a4 a5 a6;rintro X ⟨d,k,r⟩;have u:=r.lt;obtain⟨S,T,U,-,-,-,-⟩:=k.triple
 go_upto_region 3 with (go_at_call 314;refine(Ald (R.keep d) (R.keep d) B B).mono ?_;rintro e L ⟨v1,rfl,h1,c⟩)
 have l:=k.keep c;have i:=An d c;have b:=Aw (Below.refl L.heap.size L);have f:=(A.keep i).keep b;have D:=h1.keep b;have I:0<x.den+x.den:=by omega
 go_region_held3 (sB λW h=>Iv (l.keep h))
  (with_reducible exact Iv (l.keep b))
  ((first
    | (go_at_call 312;have F:=N;refine(Alc (M.keep t) N s2 s3 I).mono ?_;rintro e w4 ⟨v4,r4,rfl,O,h5,G⟩;obtain⟨A4,n4,c4,rfl⟩:=O.sl;replace b:=An b G)
    | (go_at_call 314;have F:=M;refine(Ald (f.keep n) (f.keep n) g g).mono ?_;rintro e w3 ⟨v3,rfl,N,t⟩;replace b:=An b t)
    | (go_at_call 314;refine(Ald D f K g).mono ?_;rintro e w2 ⟨v2,rfl,M,n⟩;replace b:=An b n)))
 have E:=l.keep b;have s:=(r.keep c).keep b;obtain⟨bb,bc,bd,-,-,-,-⟩:=E.triple;have s4:Sm ((x.num.natAbs+x.num.natAbs+x.den) / (x.den+x.den)):=s2.le (Nat.div_le_self _ _)
 go_wp2_with (go_at_call 253;refine(Wo p O s4).mono ?_;rintro e w5 ⟨v5,rfl,P,o⟩;rw[EQ.out]at P;obtain⟨m5,rfl,y⟩:=P;obtain⟨V,n5,c5,rfl⟩:=y.sl;let⟨r0,r1,f0,f1,lt⟩:=(s.keep o).pair)
 have H:=An (An i b) o;let⟨s0,K,HR⟩:=Gd (w:=w) (s.keep o) y (Nat.lt_of_lt_of_le u (An c b).size) (by omega) H;exact bR HR rfl (by simp[results,Tryz.results266,go_sem,s0,K])
end
section
open Go.RowKit Limb
theorem iof(n:Int) (w:World) (O : -4611686018427387904<=n) (k:n<=4611686018427387904):Calls Tryz.prog 313 #[n] w (wm w n):=by
 have l:=Ar (I7 n)
 have B:Sm n.natAbs:=F7 (m:=63) (by
  have:(2:Nat) ^ 63=9223372036854775808:=by decide
  rw[this];omega) (by decide)
 have y:n.natAbs<18446744073709551616:=by omega
 generalize o:n.natAbs=a at l B y;by_cases z:n<0
 .have t:Hid (sg true a=n):=Ar (by have:=l.out;rwa [decide_eq_true z] at this);have C:IntKind.u64.wrap n=n+18446744073709551616:=by rw[IntKind.wrap_u64];omega
  have M:IntKind.u64.wrap (-(n+18446744073709551616))=(a:Int):=by rw[IntKind.wrap_u64];omega
  have N:IntKind.u64.wrap (-n)=(a:Int):=by rw[IntKind.wrap_u64];omega
  clear o l;go_in;go_upto_region 2 with fail;refine Bq λX j h=>?_
  have d:=h.lt
  go_wp2_with (first
   | (go_at_call 255;have x:=g;refine(Mh true g B).mono ?_;rintro e L ⟨J,rfl,k,i⟩;rw[t.out]at k;obtain⟨F,rfl,f⟩:=k;obtain⟨s,A,u,rfl⟩:=f.sl;have b:=An c i;let⟨G,H,D,E,lt⟩:=(h.keep b).pair)
   | (go_at_call 252;refine(R4 a _ y).mono ?_;rintro e K ⟨I,rfl,g,c⟩))
  let⟨q,r,p⟩:=Gd (w:=w) (h.keep b) f (Nat.lt_of_lt_of_le d c.size) (Nat.le_refl _) (An j b);rw[decide_eq_true z]at q r p;exact bR p rfl (by simp[results,Tryz.results313,go_sem,q,r])
 have t:Hid (sg false a=n):=Ar (by have:=l.out;rwa [decide_eq_false z] at this);have C:IntKind.u64.wrap n=(a:Int):=by rw[IntKind.wrap_u64];omega
 clear o l;go_in;go_upto_region 3 with fail;refine Bq λX j h=>?_
 have d:=h.lt
 go_wp2_with (first
  | (go_at_call 255;have x:=g;refine(Mh false g B).mono ?_;rintro e L ⟨J,rfl,k,i⟩;rw[t.out]at k;obtain⟨F,rfl,f⟩:=k;obtain⟨s,A,u,rfl⟩:=f.sl;have b:=An c i;let⟨G,H,D,E,lt⟩:=(h.keep b).pair)
  | (go_at_call 252;refine(R4 a _ y).mono ?_;rintro e K ⟨I,rfl,g,c⟩))
 let⟨q,r,p⟩:=Gd (w:=w) (h.keep b) f (Nat.lt_of_lt_of_le d c.size) (Nat.le_refl _) (An j b);exact bR p rfl (by simp[results,Tryz.results313,go_sem,q,r])
theorem rof(n:Int) (w:World) (h1 : -4611686018427387904<=n) (h2:n<=4611686018427387904):Calls Tryz.prog 264 #[n,.int .i64 1] w λe V=>∃v,e=.returned (.tuple #[v,.bool true])/\Ib V w.heap.size v (n:Rat)/\Be w V:=by
 let⟨z,E⟩:=gN ((n:Rat):Rat)
 have H:Hid (mkRat (sg (decide (n<0)) n.natAbs) 1=z):=Ar (by rw[I7,<-E];exact Rat.mkRat_self (n:Rat))
 have sa:Sm n.natAbs:=F7 (m:=63) (by
  have:(2:Nat) ^ 63=9223372036854775808:=by decide
  rw[this];omega) (by decide)
 have F:Sm 1:=F7 (m:=1) (by decide) (by decide);let⟨p,D⟩:=gN (decide (n<0))
 have HP:=Ar D;rw[D]at H;rw[E];clear E D;go_enter Tryz.func264,Tryz.ntmps264;go_upto_region 3 with fail;refine Bq λX y t=>?_
 have b:=t.lt
 go_upto_region 4 with (first
  | (go_at_call 313;have b6:=h;refine(iof 1 _ (by omega) (by omega)).mono ?_;rintro e j ⟨v2,rfl,⟨m2,rfl,r⟩,o⟩;obtain⟨G,U,S,rfl⟩:=r.sl)
  | (go_at_call 313;refine(iof n _ h1 h2).mono ?_;rintro e w1 ⟨v1,rfl,⟨m1,rfl,h⟩,u⟩;obtain⟨W,n1,c1,rfl⟩:=h.sl;rw[HP.out]))
 have c:=An u o;refine Eo λY f k l=>?_
 have a:=An c f;have b7:X.heap.size<=j.heap.size:=c.size;let⟨I,J,K,L,M⟩:=k.pair;let⟨N,O,P,Q,R⟩:=l.pair;have C:=h.keep o;have A:Ce j w1.heap.size (.slice G U S) 1:=r;have B:=b;cases p<;>go_upto_region 5 with fail
 all_goals refine Cj (λZ=>Be j Z/\Bf Z j.heap.size 169 #[.bool _,.slice W n1 c1]/\Bf Z (j.heap.size+1) 169 #[.bool false,.slice G U S]) ⟨Ba f (p:=⟨j.heap.size,0,none⟩) (Nat.le_refl _) _,k.set_ 0 _,l.far (p:=⟨j.heap.size,0,none⟩) (by simp) _⟩ ?_
 all_goals clear f k l I J K L M N O P Q R a
 all_goals rintro Z ⟨g,k,l⟩
 all_goals let⟨I,J,K,L,M⟩:=k.pair
 all_goals let⟨N,O,P,Q,R⟩:=l.pair
 all_goals have a:=An c g
 all_goals go_wp2_with (go_at_call 260;refine(Ru _ (C.keep g) (A.keep g) sa F (by decide)).mono ?_;rintro e w3 ⟨v3,rfl,T,x⟩;rw[H.out]at T;obtain⟨m3,d3,rfl,s,q⟩:=T;obtain⟨A3,n3,c3,rfl⟩:=s.sl;obtain⟨B3,o3,e3,rfl⟩:=q.sl;have d:=An a x;let⟨r0,r1,r2,f0,f1,f2,lt⟩:=(t.keep d).triple)
 all_goals let⟨s0,s1,s2,v9,i,HR,HB⟩:=Dn (w:=w) (t.keep d) s q (Nat.lt_of_lt_of_le b a.size) (Nat.le_refl _) (An y d)
 all_goals injection i with i
 all_goals exact bodyPost_ret (v:=.tuple #[.agg #[.bool (decide (z.num<0)),.slice A3 n3 c3,.slice B3 o3 e3],.bool true]) (by simp[results,Tryz.results264,go_sem,s0,s1,s2]) rfl ⟨_,rfl,by rw[i];exact HR,HB⟩
end
section
open Go.RowKit Limb
def M8 (w:World) (z:Int) (e:Ending) (a:World):Prop:=∃n ok,e=.returned (.tuple #[.int .i64 n,.bool ok])/\(ok=true->n=z)/\(ok=false->9223372036854775808<=z.natAbs)/\Be w a
theorem Aju{w:World}    (hZ:P9 w a b h) (sz:Sm h.natAbs):Calls Tryz.prog 265 #[b] w (M8 w h):=by
 obtain⟨mz,rfl,l⟩:=hZ;obtain⟨Az,nz,cz,rfl⟩:=l.sl;have u:=Ar (I7 h);generalize H:h.natAbs=d at u l sz;have C:=Ar H;let⟨p,S⟩:=gN (decide (h<0))
 have D:=Ar S;rw[S]at u;rw[S];clear S H;go_in;go_upto_region 1 with fail;refine Bq λX A v=>?_
 obtain⟨p0,W,-,-,-⟩:=v.pair
 go_upto_region 2 with (go_at_call 253;refine(Wo p (l.keep A) sz).mono ?_;rintro e w1 ⟨v1,rfl,h1,o⟩;rw[u.out]at h1;obtain⟨m1,rfl,r⟩:=h1;obtain⟨Q,T,R,rfl⟩:=r.sl;rw[D.out];let⟨a0,a1,a2,a3,a4⟩:=(v.keep o).pair)
 have M:=v.lt
 have N:Ce ((w1.setCell ⟨w.heap.size,0,none⟩ (.bool p)).setCell ⟨w.heap.size,1,none⟩ (.slice Q T R)) X.heap.size (.slice Q T R) d:=by
  rw[C.out]at r;exact(r.far (p:=⟨w.heap.size,0,none⟩) M _).far (p:=⟨w.heap.size,1,none⟩) M _
 refine Cj (λY=>Below w.heap.size w Y/\Bf Y w.heap.size 169 #[.bool p,.slice Q T R]/\Ce Y X.heap.size (.slice Q T R) d) ⟨Ba (Ba (An A o) (p:=⟨w.heap.size,0,none⟩) (Nat.le_refl _) _) (p:=⟨w.heap.size,1,none⟩) (Nat.le_refl _) _,(v.keep o).set_ 0 _ |>.set_ 1 _,N⟩ ?_;clear A v N a0 a1 a2 a3 a4 r o p0 W;rintro Y ⟨B,v,hm⟩;obtain⟨p0,W,-,-,-⟩:=v.pair;obtain⟨A',c',e',q1,q2,q3,q4,q5⟩:=hm;injection e' with e1 e2 e3
 subst e1 e2 e3;let⟨k,q⟩:=gN ((lmb d).length)
 have HK:=Ar q;rw[q]at q1 q3 ⊢;rw[q]at W;have fin0:Hid (9223372036854775808<=d->M8 w h (.returned (.tuple #[.int .i64 0,.bool false])) Y):=Ar (λz=>⟨0,false,rfl,(λz=>by cases z),(λ_=>by rw[C.out];exact z),B⟩);by_cases L:k<=2
 .have y:d<18446744073709551616:=by
   have:=Mx d;rw[q]at this;exact Nat.lt_of_lt_of_le this (Nat.le_trans (Nat.pow_le_pow_right (by decide) L) (by decide))
  have t:=Ar y;clear q v y;go_upto_region 6 with fail;go_loopw [4,5,6,16] (λn _ _ i wr=>∃(j nn:Nat),j<=k/\i=.int .i64 j/\n=.int .u64 (nn:Int)/\Hid (nn=d % BB ^ j)/\wr=Y) (λ_ _ _ i _=>k-(intOf i).toNat)
  case atStart=>exact⟨0,0,Nat.zero_le _,rfl,rfl,Ar (by simp[Nat.mod_one]),rfl⟩
  obtain⟨j,nn,hj,rfl,rfl,F,rfl⟩:=hrel;by_cases K:j<k
  .obtain⟨b1,o1,rfl,z1⟩:=q3.at_ K;have Z:=Cv d j;let⟨x,E⟩:=gN (lim d j)
   have O:gu (lmb d) j=x:=E;rw[O]at z1;rw[E]at Z;unfold BB at Z;have W1:=Ds (z:=(x:Int)) (by omega) (by omega);have au:=Ar E
   have P:x*BB ^ j<=d:=by
    have e:=Bt d j;rw[E,Nat.mul_comm (BB ^ j)]at e;exact Nat.le_trans (by rw[e];exact Nat.le_add_left _ _) (Nat.mod_le d (BB ^ (j+1)))
   have V:nn<BB ^ j:=by rw[F.out];exact Nat.mod_lt _ (Nat.pow_pos (by decide))
   have G:Hid (nn+x*BB ^ j=d % BB ^ (j+1)):=Ar (by rw[Bt,E,F.out,Nat.mul_comm x]);let⟨sh,s⟩:=gN (x*BB ^ j)
   have I:sh % BB ^ j=0:=by rw[<-s];exact Nat.mul_mod_left _ _
   have m:(2:Int) ^ (32*j)=((BB ^ j:Nat):Int):=by rw[Aed];simp
   have c:=t.out;rw[s]at P G
   have hE:bits .or .u64 (nn:Int) (sh:Int)=((nn+sh:Nat):Int):=by
    rw[bits_join_low .u64 64 (by decide) wraps_u64 (32*j) (nn:Int) (sh:Int) (by omega) (by rw[m];omega) (by have:=Nat.mod_le d (BB ^ j);rw[<-F.out]at this;omega) (by omega) (by rw[m,<-Int.natCast_emod,I];rfl) (by omega)];omega
   have hW:IntKind.u64.wrap ((x:Int)*2 ^ (32*j))=(sh:Int):=by
    rw[m,<-Int.natCast_mul,s];exact Ds (by omega) (by omega)
   have hT:(32*(j:Int)).toNat=32*j:=by omega
   have hI:IntKind.i64.wrap (32*(j:Int))=32*(j:Int):=by rw[IntKind.wrap_i64];omega
   have bc:(0:Int)<=32*(j:Int):=by omega
   clear E O P V s I m c;go_wp2;exact⟨⟨j+1,nn+sh,by omega,by go_num,by go_num,G,trivial⟩,by simp[intOf];omega⟩
  obtain rfl:j=k:=by omega
  have hn:nn=d:=by rw[F.out,Di (Nat.le_of_eq HK.out)]
  subst hn;have c:=t.out;have f:=u.out;clear F K hj L;cases p with
  | true =>
    have l:h = -(nn:Int):=by rw[<-f];rfl
    by_cases g:nn<=9223372036854775808
    .have U:(nn:Int)<=9223372036854775808:=by omega
     have fin:Hid (M8 w h (.returned (.tuple #[.int .i64 (-(nn:Int)),.bool true])) wr):=Ar ⟨_,true,rfl,(λ_=>l.symm),(λz=>by cases z),B⟩
     have a7:0<nn:=by
      have:=D.out;simp at this;omega
     have D1:IntKind.u64.wrap (-(nn:Int))=18446744073709551616-(nn:Int):=by rw[IntKind.wrap_u64];omega
     have D2:IntKind.i64.wrap (18446744073709551616-(nn:Int)) = -(nn:Int):=by rw[IntKind.wrap_i64];omega
     clear g l f u C D c;go_wp2
     go_ret2
     exact fin.out
    have U:¬(nn:Int)<=9223372036854775808:=by omega
    have J:=fin0.out (by omega);clear g l f u C D c fin0;go_wp2
    go_ret2
    exact J
  | false =>
    have l:h=(nn:Int):=by rw[<-f];rfl
    by_cases g:nn<9223372036854775808
    .have U:(nn:Int)<9223372036854775808:=by omega
     have fin:Hid (M8 w h (.returned (.tuple #[.int .i64 (nn:Int),.bool true])) wr):=Ar ⟨_,true,rfl,(λ_=>l.symm),(λz=>by cases z),B⟩;have D2:IntKind.i64.wrap (nn:Int)=(nn:Int):=by rw[IntKind.wrap_i64];omega
     clear g l f u C D c;go_wp2
     go_ret2
     exact fin.out
    have U:¬(nn:Int)<9223372036854775808:=by omega
    have J:=fin0.out (by omega);clear g l f u C D c fin0;go_wp2
    go_ret2
    exact J
 have J:=fin0.out (by
  have h2:=Sb (n:=d) (by
   intro e;rw[e,Cb]at q;simp at q;omega)
  rw[q]at h2;have h3:BB ^ 2<=BB ^ (k-1):=Nat.pow_le_pow_right (by decide) (by omega);have h4:BB ^ 2=18446744073709551616:=by decide
  omega)
 clear fin0 q;go_wp2
 go_ret2
 exact J
end
section
open Go.RowKit Limb
def PtV (w:World) (a:Nat) (v:Value) (x y:Rat):Prop:=∃m d c b,v=.agg #[.bool (decide (x.num<0)),m,d,.bool (decide (y.num<0)),c,b]/\Ce w a m x.num.natAbs/\Ce w a d x.den/\Ce w a c y.num.natAbs/\Ce w a b y.den
theorem PtV.keep{w:World} {base:Nat}  {x:Rat} (h:PtV w base b x f) (a:Be w e):PtV e base b x f:=by
 obtain⟨m,d,n,c,g,i,j,k,l⟩:=h;exact⟨m,d,n,c,g,i.keep a,j.keep a,k.keep a,l.keep a⟩
theorem PtV.lower{w:World} {base':Nat}  {x:Rat} (h:PtV w a b x f) (c:base'<=a):PtV w base' b x f:=by
 obtain⟨m,d,n,g,e,i,j,k,l⟩:=h;exact⟨m,d,n,g,e,i.lower c,j.lower c,k.lower c,l.lower c⟩
def Aei (w:World) (x y:Rat) (e:Ending) (a:World):Prop:=∃v,e=.returned v/\PtV a w.heap.size v x y/\Be w a
section
variable {w : World} {g : Nat} {t : TypeId}
theorem cells6 {a b c d e f:Value} (h:Bf w g t #[a,b,c,d,e,f]):Cq w g 0 a/\Cq w g 1 b/\Cq w g 2 c/\Cq w g 3 d/\Cq w g 4 e/\Cq w g 5 f :=
 ⟨(h.cell 0).trans rfl,(h.cell 1).trans rfl,(h.cell 2).trans rfl,(h.cell 3).trans rfl,(h.cell 4).trans rfl,(h.cell 5).trans rfl⟩
theorem Kc {g':Nat} {a b c d e f a' b' c' d' e' f':Value} (h:Bf w g t #[a,b,c,d,e,f]) (k:Bf w g' t #[a',b',c',d',e',f']):Cq w g 0 a/\Cq w g 1 b/\Cq w g 2 c/\Cq w g 3 d/\Cq w g 4 e/\Cq w g 5 f/\Cq w g' 0 a'/\Cq w g' 1 b'/\Cq w g' 2 c'/\Cq w g' 3 d'/\Cq w g' 4 e'/\Cq w g' 5 f' :=
 ⟨(h.cell 0).trans rfl,(h.cell 1).trans rfl,(h.cell 2).trans rfl,(h.cell 3).trans rfl,(h.cell 4).trans rfl,(h.cell 5).trans rfl,(k.cell 0).trans rfl,(k.cell 1).trans rfl,(k.cell 2).trans rfl,(k.cell 3).trans rfl,(k.cell 4).trans rfl,(k.cell 5).trans rfl⟩
theorem fq {cs:Array Value} (h:Bf w g t cs):w.frozen? ⟨g,0,none⟩=false/\w.frozen? ⟨g,1,none⟩=false/\w.frozen? ⟨g,2,none⟩=false/\w.frozen? ⟨g,3,none⟩=false/\w.frozen? ⟨g,4,none⟩=false/\w.frozen? ⟨g,5,none⟩=false/\g<w.heap.size :=
 ⟨h.frozen 0,h.frozen 1,h.frozen 2,h.frozen 3,h.frozen 4,h.frozen 5,h.lt⟩
theorem Bf.set6 {a b c d e f a' b' c' d' e' f':Value} (h:Bf w g t #[a,b,c,d,e,f]):Bf ((((((w.setCell ⟨g,0,none⟩ a').setCell ⟨g,1,none⟩ b').setCell ⟨g,2,none⟩ c').setCell ⟨g,3,none⟩ d').setCell ⟨g,4,none⟩ e').setCell ⟨g,5,none⟩ f') g t #[a',b',c',d',e',f'] :=
 ((((((h.set_ 0 a').set_ 1 b').set_ 2 c').set_ 3 d').set_ 4 e').set_ 5 f')
theorem Xl {a0:World} (hb:Be a0 w) (hg:a0.heap.size<=g) (a b c d e f:Value):Be a0 ((((((w.setCell ⟨g,0,none⟩ a).setCell ⟨g,1,none⟩ b).setCell ⟨g,2,none⟩ c).setCell ⟨g,3,none⟩ d).setCell ⟨g,4,none⟩ e).setCell ⟨g,5,none⟩ f) :=
 Ba (Ba (Ba (Dw hb hg a b c) (p:=⟨g,3,none⟩) hg d) (p:=⟨g,4,none⟩) hg e) (p:=⟨g,5,none⟩) hg f
theorem Ce.far6 {base a0:Nat} {v:Value} (h:Ce w base v a0) (hg:g<base) (a b c d e f:Value):Ce ((((((w.setCell ⟨g,0,none⟩ a).setCell ⟨g,1,none⟩ b).setCell ⟨g,2,none⟩ c).setCell ⟨g,3,none⟩ d).setCell ⟨g,4,none⟩ e).setCell ⟨g,5,none⟩ f) base v a0 :=
 (((h.far3 hg a b c).far (p:=⟨g,3,none⟩) hg d).far (p:=⟨g,4,none⟩) hg e).far (p:=⟨g,5,none⟩) hg f
theorem Bf.far6 {k:Nat} {cs:Array Value} (h:Bf w k t cs) (hne:k≠g) (a b c d e f:Value):Bf ((((((w.setCell ⟨g,0,none⟩ a).setCell ⟨g,1,none⟩ b).setCell ⟨g,2,none⟩ c).setCell ⟨g,3,none⟩ d).setCell ⟨g,4,none⟩ e).setCell ⟨g,5,none⟩ f) k t cs :=
 ((((h.far3 hne a b c).far (p:=⟨g,3,none⟩) hne d).far (p:=⟨g,4,none⟩) hne e).far (p:=⟨g,5,none⟩) hne f)
end
theorem Ib.sh{w:World}    (h:Ib w a b f):∃p A n c B k d,b=.agg #[.bool p,.slice A n c,.slice B k d]:=by
 obtain⟨p,A,n,c,B,k,d,e,-⟩:=h.op;exact⟨p,A,n,c,B,k,d,e⟩
theorem PtV.ab{w:World}   {x:Rat} (h:PtV w a (.agg #[b,k,l,m,n,o]) x f):Ib w a (.agg #[b,k,l]) x/\Ib w a (.agg #[m,n,o]) f:=by
 obtain⟨q,d,r,p,e,c,g,i,j⟩:=h;injection e with e;injection e with e
 simp only[List.cons.injEq,and_true]at e;obtain⟨rfl,rfl,rfl,rfl,rfl,rfl⟩:=e;exact⟨⟨_,_,rfl,c,g⟩,⟨_,_,rfl,i,j⟩⟩
theorem Ib.pt{w:World}   {x:Rat} (h:Ib w a (.agg #[b,k,l]) x) (q:Ib w a (.agg #[m,n,o]) f):PtV w a (.agg #[b,k,l,m,n,o]) x f:=by
 obtain⟨s,d,e,g,i⟩:=h;obtain⟨t,r,c,j,p⟩:=q;injection e with e;injection e with e;injection c with c;injection c with c
 simp only[List.cons.injEq,and_true]at e c;obtain⟨rfl,rfl,rfl⟩:=e;obtain⟨rfl,rfl,rfl⟩:=c;exact⟨_,_,_,_,rfl,g,i,j,p⟩
theorem PtV.sh{w:World}   {x:Rat} (h:PtV w a b x f):∃p A n c B k d q C m e D l g,b=.agg #[.bool p,.slice A n c,.slice B k d,.bool q,.slice C m e,.slice D l g]:=by
 obtain⟨m,d,t,s,rfl,i,j,o,r⟩:=h;obtain⟨A,n,c,rfl⟩:=i.sl;obtain⟨B,k,d,rfl⟩:=j.sl;obtain⟨C,m,e,rfl⟩:=o.sl;obtain⟨D,l,g,rfl⟩:=r.sl;exact⟨_,A,n,c,B,k,d,_,C,m,e,D,l,g,rfl⟩
theorem Ib.far6{w:World}    (h:Ib w a b f) (c:g<a) (u1 u2 u3 u4 u5 u6:Value):Ib ((((((w.setCell ⟨g,0,none⟩ u1).setCell ⟨g,1,none⟩ u2).setCell ⟨g,2,none⟩ u3).setCell ⟨g,3,none⟩ u4).setCell ⟨g,4,none⟩ u5).setCell ⟨g,5,none⟩ u6) a b f:=by
 obtain⟨m,d,e,i,j⟩:=h;exact⟨m,d,e,i.far6 c _ _ _ _ _ _,j.far6 c _ _ _ _ _ _⟩
theorem K8{w:World}   {u4 u5 u6:Value} {x:Rat} (j:Bf e a i #[b,k,l,m,n,o]) (d:Ib e g (.agg #[s,t,u]) x) (h:Ib e g (.agg #[u4,u5,u6]) f) (c:a<g) (r:w.heap.size<=a) (q:Be w e) (W:World) (p:W=(((((e.setCell ⟨a,0,none⟩ s).setCell ⟨a,1,none⟩ t).setCell ⟨a,2,none⟩ u).setCell ⟨a,3,none⟩ u4).setCell ⟨a,4,none⟩ u5).setCell ⟨a,5,none⟩ u6) :
 Bf W a i #[s,t,u,u4,u5,u6]/\Aei w x f (.returned (.agg #[s,t,u,u4,u5,u6])) W:=by
 subst p;exact⟨j.set6,_,rfl,((d.far6 c _ _ _ _ _ _).pt (h.far6 c _ _ _ _ _ _)).lower (by omega),Xl q r _ _ _ _ _ _⟩
abbrev PC (g:Nat) (o:Rat->Rat->Rat):Prop:=∀{w:World} {b c:Nat} {xx xy yx yy:Rat} {u v:Value},PtV w b u xx xy->PtV w c v yx yy->RB 600 xx->RB 600 xy->RB 600 yx->RB 600 yy->Calls Tryz.prog g #[u,v] w (Aei w (o xx yx) (o xy yy))
abbrev SC (g:Nat):Prop:=∀{w:World} {b c:Nat} {xx xy t:Rat} {u v:Value},PtV w b u xx xy->Ib w c v t->RB 600 xx->RB 600 xy->RB 600 t->Calls Tryz.prog g #[u,v] w (Aei w (xx*t) (xy*t))
abbrev XC (g:Nat):Prop:=∀{w:World} {b c:Nat} {xx xy yx yy:Rat} {u v:Value},PtV w b u xx xy->PtV w c v yx yy->RB 300 xx->RB 300 xy->RB 300 yx->RB 300 yy->Calls Tryz.prog g #[u,v] w (Xi w (xx*yy-xy*yx))
theorem pt2{o:Rat->Rat->Rat} (M:RC g o) (U:a=157/\g=209\/a=262/\g=267\/a=167/\g=172\/a=217/\g=224):PC a o:=by
 intro w ba bb xx xy yx yy vx vy r s I J K L;obtain⟨p1,Aa,na,ca,Ab,nb,cb,p2,Ac,nc,cc,Ad,nd,cd,rfl⟩:=r.sh;obtain⟨p3,Ae,ne,ce,Af,nf,cf,p4,Ag,ng,cg,Ah,nh,ch,rfl⟩:=s.sh;let⟨z,A⟩:=r.ab;let⟨B,C⟩:=s.ab;obtain⟨rfl,rfl⟩|⟨rfl,rfl⟩|⟨rfl,rfl⟩|⟨rfl,rfl⟩:=U
 all_goals
  go_in;go_upto_region 1 with fail;refine Jy λX c n p l=>?_
  have f:w.heap.size≠w.heap.size+1+1:=by omega
  have i:w.heap.size+1≠w.heap.size+1+1:=by omega
  have k:=l.lt;have b:=Aw (Below.refl X.heap.size X);have E:=(z.keep c).keep b;have F:=(A.keep c).keep b;have G:=(B.keep c).keep b;have H:=(C.keep c).keep b
  go_region_held3 (sB λW h=>Kc (n.keep h) (p.keep h))
   (first
    | with_reducible exact Kc (n.keep b) (p.keep b)
    | with_reducible exact Kc ((n.keep b).far6 f _ _ _ _ _ _) ((p.keep b).far6 i _ _ _ _ _ _))
   ((first
     | (have S:=m;(with_reducible refine(M (F.keep d) (H.keep d) J L).mono ?_);rintro e w2 ⟨v2,rfl,q,j⟩;obtain⟨p6,x,Z,P,y,n4,Q,rfl⟩:=q.sh;replace b:=An b j;let⟨r0,r1,r2,r3,r4,r5⟩:=cells6 (l.keep b);let⟨f0,f1,f2,f3,f4,f5,R⟩:=fq (l.keep b))
     | ((with_reducible refine(M E G I K).mono ?_);rintro e w1 ⟨v1,rfl,m,d⟩;obtain⟨p5,t,V,N,u,Y,O,rfl⟩:=m.sh;replace b:=An b d)|fail))
  all_goals go_wp2_with fail
  let⟨T,D⟩:=K8 (w:=w) (l.keep b) (m.keep j) (q.lower d.size) k (by omega) (An c b) _ rfl;let⟨s0,s1,s2,s3,s4,s5⟩:=cells6 T;exact bR D rfl (by simp[results,Tryz.results157,Tryz.results262,Tryz.results167,Tryz.results217,go_sem,s0,s1,s2,s3,s4,s5])
theorem Ai9:PC 157 HSub.hSub:=pt2 @Anp (.inl ⟨rfl,rfl⟩)
theorem Aoy:PC 262 HAdd.hAdd:=pt2 @Ans (.inr (.inl ⟨rfl,rfl⟩))
end
section
open Go.RowKit Limb
theorem Afp{w:World}  {f:TypeId} {c d:Value} (h:Bf w a i #[b,k,c,d,l,m]) (e:Bf w g f #[n,o,s]):Cq w a 0 b/\Cq w a 1 k/\Cq w a 2 c/\Cq w a 3 d/\Cq w a 4 l/\Cq w a 5 m/\Cq w g 0 n/\Cq w g 1 o/\Cq w g 2 s :=
 ⟨(h.cell 0).trans rfl,(h.cell 1).trans rfl,(h.cell 2).trans rfl,(h.cell 3).trans rfl,(h.cell 4).trans rfl,(h.cell 5).trans rfl,(e.cell 0).trans rfl,(e.cell 1).trans rfl,(e.cell 2).trans rfl⟩
theorem Ant(M:RC g HMul.hMul) (Q:a=263/\g=261\/a=218/\g=216):SC a:=by
 intro w ba bb xx xy t vx vt u p G H r;obtain⟨p1,Aa,na,ca,Ab,nb,cb,p2,Ac,nc,cc,Ad,nd,cd,rfl⟩:=u.sh;obtain⟨p3,Ae,ne,ce,Af,nf,cf,rfl⟩:=p.sh;let⟨B,C⟩:=u.ab;obtain⟨rfl,rfl⟩|⟨rfl,rfl⟩:=Q
 all_goals
  go_in;go_upto_region 1 with fail;refine Jy λX d n o l=>?_
  have f:w.heap.size≠w.heap.size+1+1:=by omega
  have i:w.heap.size+1≠w.heap.size+1+1:=by omega
  have k:=l.lt;have b:=Aw (Below.refl X.heap.size X);have E:=(B.keep d).keep b;have F:=(C.keep d).keep b;have q:=(p.keep d).keep b
  go_region_held3 (sB λW h=>Afp (n.keep h) (o.keep h))
   (first
    | with_reducible exact Afp (n.keep b) (o.keep b)
    | with_reducible exact Afp ((n.keep b).far6 f _ _ _ _ _ _) ((o.keep b).far6 i _ _ _ _ _ _))
   ((first
     | (have O:=m;(with_reducible refine(M (F.keep c) (q.keep c) H r).mono ?_);rintro e w2 ⟨v2,rfl,s,j⟩;obtain⟨V,z,T,K,A,n4,L,rfl⟩:=s.sh;replace b:=An b j;let⟨r0,r1,r2,r3,r4,r5⟩:=cells6 (l.keep b);let⟨f0,f1,f2,f3,f4,f5,N⟩:=fq (l.keep b))
     | ((with_reducible refine(M E q G r).mono ?_);rintro e w1 ⟨v1,rfl,m,c⟩;obtain⟨U,x,R,I,y,S,J,rfl⟩:=m.sh;replace b:=An b c)|fail))
  all_goals go_wp2_with fail
  let⟨P,D⟩:=K8 (w:=w) (l.keep b) (m.keep j) (s.lower c.size) k (by omega) (An d b) _ rfl;let⟨Y,Z,s2,s3,s4,s5⟩:=cells6 P;exact bR D rfl (by simp[results,Tryz.results263,Tryz.results218,go_sem,Y,Z,s2,s3,s4,s5])
theorem Aja:SC 263:=Ant @Anq (.inl ⟨rfl,rfl⟩)
theorem ptx(M:RC g HMul.hMul) (L:RC q HSub.hSub) (hf:a=205/\g=261/\q=209\/a=166/\g=216/\q=172):XC a:=by
 intro w ba bb I J K N vx vy G H A B C D;obtain⟨p1,Aa,na,ca,Ab,nb,cb,p2,Ac,nc,cc,Ad,nd,cd,rfl⟩:=G.sh;obtain⟨p3,Ae,ne,ce,Af,nf,cf,p4,Ag,ng,cg,Ah,nh,ch,rfl⟩:=H.sh;let⟨Q,R⟩:=G.ab;let⟨S,T⟩:=H.ab;have o:RB 600 (I*N):=RB.mul A D;have p:RB 600 (J*K):=RB.mul B C;have k:RB 600 I:=A.le (by decide);have l:RB 600 J:=B.le (by decide);have m:RB 600 K:=C.le (by decide);have n:RB 600 N:=D.le (by decide);obtain⟨rfl,rfl,rfl⟩|⟨rfl,rfl,rfl⟩:=hf
 all_goals
  go_in;go_upto_region 1 with fail;refine Jy λX c r s t=>?_
  have h:w.heap.size≠w.heap.size+1+1:=by omega
  have i:w.heap.size+1≠w.heap.size+1+1:=by omega
  have j:=t.lt;have b:=Aw (Below.refl X.heap.size X);have V:=(Q.keep c).keep b;have Y:=(R.keep c).keep b;have Z:=(S.keep c).keep b;have K4:=(T.keep c).keep b
  go_region_held3 (sB λW q=>Kc (r.keep q) (s.keep q))
   (first
    | with_reducible exact Kc (r.keep b) (s.keep b)
    | with_reducible exact Kc ((r.keep b).far3 h _ _ _) ((s.keep b).far3 i _ _ _))
   ((first
     | (have u:=F;(with_reducible refine(L (E.keep f) F o p).mono ?_);rintro e w3 ⟨v3,rfl,h3,x⟩;obtain⟨_,O,n3,c3,P,n4,c4,rfl,rfl,z,y⟩:=h3.op;replace b:=An b x;let⟨r0,r1,r2,f0,f1,f2,lt⟩:=(t.keep b).triple)
     | (have u:=E;(with_reducible refine(M (Y.keep d) (Z.keep d) l m).mono ?_);rintro e w2 ⟨v2,rfl,F,f⟩;replace b:=An b f)
     | ((with_reducible refine(M V K4 k n).mono ?_);rintro e w1 ⟨v1,rfl,E,d⟩;replace b:=An b d)|fail))
  all_goals go_wp2_with fail
  let⟨s0,s1,s2,U⟩:=Dn (w:=w) (t.keep b) z y (Nat.lt_of_lt_of_le j (An (An blD d) f).size) (by omega) (An c b);exact bR U rfl (by simp[results,Tryz.results205,Tryz.results166,go_sem,s0,s1,s2])
theorem Adl:XC 205:=ptx @Anq @Anp (.inl ⟨rfl,rfl,rfl⟩)
end
section
open Go.RowKit Limb
theorem Ajh(w:World) (o c a:Obj) (t:TypeId) (b:Array Value):Bf ((((w.alloc o).alloc c).alloc a).alloc (.cells b t)) (w.heap.size+1+1+1) t b:=by
 have h:=Bf.new (((w.alloc o).alloc c).alloc a) t b;simpa using h
theorem Agl{w:World}  {r:TypeId} {c d f j v x:Value} (h:Bf w a i #[b,k,c,d,l,m]) (p:Bf w g i #[n,o,s,t,u,f]) (e:Bf w q r #[j,v,x]):(Cq w a 0 b/\Cq w a 1 k/\Cq w a 2 c/\Cq w a 3 d/\Cq w a 4 l/\Cq w a 5 m/\Cq w g 0 n/\Cq w g 1 o/\Cq w g 2 s/\Cq w g 3 t/\Cq w g 4 u/\Cq w g 5 f)/\Cq w q 0 j/\Cq w q 1 v/\Cq w q 2 x :=
 ⟨Kc h p,(e.cell 0).trans rfl,(e.cell 1).trans rfl,(e.cell 2).trans rfl⟩
theorem Anu {f g h k:Nat} (K1:PC g HAdd.hAdd) (K2:SC h) (K3:PC k HSub.hSub) (hf:f=206/\g=262/\h=263/\k=157\/f=168/\g=217/\h=218/\k=167) {w:World} {ba bb bt:Nat} {d i r s t:Rat} {vx vy S:Value} (Q:PtV w ba vx d i) (R:PtV w bb vy r s) (P:Ib w bt S t) (A:RB 100 d) (B:RB 100 i) (C:RB 100 r) (D:RB 100 s) (y:RB 390 t):Calls Tryz.prog f #[vx,vy,S] w (Aei w (d+(r-d)*t) (i+(s-i)*t)):=by
 obtain⟨p1,T,na,ca,U,nb,cb,p2,V,nc,cc,Y,nd,cd,rfl⟩:=Q.sh;obtain⟨p3,Z,ne,ce,Af,nf,cf,p4,Ag,ng,cg,Ah,nh,ch,rfl⟩:=R.sh;obtain⟨p5,Ai,ni,ci,Aj,nj,cj,rfl⟩:=P.sh;have L:RB 600 d:=A.le (by decide);have M:RB 600 i:=B.le (by decide);have c3:RB 600 r:=C.le (by decide);have c4:RB 600 s:=D.le (by decide);have c5:RB 600 t:=y.le (by decide);have x:RB 201 (r-d):=RB.sub (m:=100) (n:=100) C A;have s2:RB 201 (s-i):=RB.sub (m:=100) (n:=100) D B;have I:RB 600 (r-d):=x.le (by decide);have J:RB 600 (s-i):=s2.le (by decide);have u1:RB 600 ((r-d)*t):=(RB.mul (m:=201) (n:=390) x y).le (by decide);have u2:RB 600 ((s-i)*t):=(RB.mul (m:=201) (n:=390) s2 y).le (by decide);clear A B C D y x s2;obtain⟨rfl,rfl,rfl,rfl⟩|⟨rfl,rfl,rfl,rfl⟩:=hf
 all_goals
  go_in;go_upto_region 1 with fail;refine Cj (λX=>Be w X/\Bf X w.heap.size 202 #[.bool p1,.slice T na ca,.slice U nb cb,.bool p2,.slice V nc cc,.slice Y nd cd]/\Bf X (w.heap.size+1) 202 #[.bool p3,.slice Z ne ce,.slice Af nf cf,.bool p4,.slice Ag ng cg,.slice Ah nh ch]/\Bf X (w.heap.size+1+1) 171 #[.bool p5,.slice Ai ni ci,.slice Aj nj cj]/\Bf X (w.heap.size+1+1+1) 202 #[.bool false,.slice none 0 0,.slice none 0 0,.bool false,.slice none 0 0,.slice none 0 0]) ⟨Ao (Ao (Ao blA _) _) _,Bf.alloc (Bf.alloc (Bf.alloc (Bf.new _ _ _) _) _) _,Bf.alloc (Bf.alloc (Bf.new2 _ _ _ _) _) _,Bf.alloc (Bf.new3 _ _ _ _ _) _,Ajh _ _ _ _ _ _⟩ ?_;rintro X ⟨c,F,G,j,z⟩;have o:w.heap.size≠w.heap.size+1+1+1:=by omega
  have p:w.heap.size+1≠w.heap.size+1+1+1:=by omega
  have q:w.heap.size+1+1≠w.heap.size+1+1+1:=by omega
  have u:=z.lt;have a:=Aw (Below.refl X.heap.size X);have K:=(Q.keep c).keep a;have KB:=(R.keep c).keep a;have KT:=(P.keep c).keep a
  go_region_held3 (sB λW h=>Agl (F.keep h) (G.keep h) (j.keep h))
   (first
    | with_reducible exact Agl (F.keep a) (G.keep a) (j.keep a)
    | with_reducible exact Agl ((F.keep a).far6 o _ _ _ _ _ _) ((G.keep a).far6 p _ _ _ _ _ _) ((j.keep a).far6 q _ _ _ _ _ _))
   ((first
     | (have cx:=O;(with_reducible refine(K1 ((K.keep b).keep l) O L M u1 u2).mono ?_);rintro e w3 ⟨v3,rfl,E,H⟩;obtain⟨p6,B1,n1,k1,B2,n2,k2,p7,B3,n3,k3,B4,n4,k4,rfl⟩:=E.sh;replace a:=An a H;let⟨r0,r1,r2,r3,r4,r5⟩:=cells6 (z.keep a);let⟨f0,f1,f2,f3,f4,f5,cv⟩:=fq (z.keep a))
     | (have cw:=N;(with_reducible refine(K2 N (KT.keep b) I J c5).mono ?_);rintro e w2 ⟨v2,rfl,O,l⟩;replace a:=An a l)
     | ((with_reducible refine(K3 KB K c3 c4 L M).mono ?_);rintro e w1 ⟨v1,rfl,N,b⟩;replace a:=An a b)|fail))
  all_goals go_wp2_with fail
  let⟨hZ,HR⟩:=K8 (w:=w) (z.keep a) E.ab.1 E.ab.2 (Nat.lt_of_lt_of_le u (An (An blD b) l).size) (by omega) (An c a) _ rfl;let⟨s0,x,s2,s3,s4,s5⟩:=cells6 hZ;exact bR HR rfl (by simp[results,Tryz.results206,Tryz.results168,go_sem,s0,x,s2,s3,s4,s5])
def pon:=@Anu 206 262 263 157 @Aoy @Aja @Ai9 (.inl ⟨rfl,rfl,rfl,rfl⟩)
end
section
open Go.RowKit Limb
theorem pof(x y:Int) (w:World) (H : -4611686018427387904<=x) (I:x<=4611686018427387904) (J : -4611686018427387904<=y) (K:y<=4611686018427387904):Calls Tryz.prog 207 #[x,y] w (Aei w (x:Rat) (y:Rat)):=by
 let⟨zx,h⟩:=gN ((x:Rat):Rat)
 let⟨zy,i⟩:=gN ((y:Rat):Rat)
 have u:=Ar h;have A:=Ar i;rw[h,i];clear h i;go_in;go_upto_region 1 with fail;refine Bq λX o l=>?_
 have k:=l.lt
 go_upto_region 2 with (go_at_call 264;refine(rof x _ H I).mono ?_;rintro e w1 ⟨v1,rfl,f,j⟩;rw[u.out]at f;obtain⟨T,q,Q,C,r,R,D,rfl⟩:=f.sh)
 refine Bq λY d L=>?_
 go_upto_region 3 with (go_at_call 264;refine(rof y _ J K).mono ?_;rintro e w2 ⟨v2,rfl,g,c⟩;rw[A.out]at g;obtain⟨U,s,S,E,t,n4,F,rfl⟩:=g.sh)
 have n:=An (An j d) c;refine Bq λZ b M=>?_
 have a:=An n b;have m:=(L.keep c).keep b;obtain⟨a0,a1,a2,-,-,-,-⟩:=m.triple;obtain⟨b0,b1,b2,-,-,-,-⟩:=M.triple;let⟨r0,r1,r2,r3,r4,r5⟩:=cells6 (l.keep a);let⟨f0,f1,f2,f3,f4,f5,G⟩:=fq (l.keep a);have O:=((f.keep d).keep c).keep b;have p:X.heap.size<=Y.heap.size:=(An j d).size;have P:=(g.keep b).lower p;go_wp2;let⟨N,B⟩:=K8 (w:=w) (l.keep a) O P k (Nat.le_refl _) (An o a) _ rfl;let⟨V,W,s2,s3,s4,s5⟩:=cells6 N;exact bR B rfl (by simp[results,Tryz.results207,go_sem,V,W,s2,s3,s4,s5])
def inC (z:Int):Bool:=decide (-1048576<=z/\z<=1048576)
theorem lv(n:Int) (d:Nat) (a:0<d):(rnd n d).natAbs<=2*n.natAbs+d:=by
 unfold rnd;have:=Nat.div_le_self (2*n.natAbs+d) (2*d);generalize (2*n.natAbs+d) / (2*d)=k at *
 split<;>omega
theorem Adm{w:World}  {x:Rat} {vx:Value} (o:Ib w a vx x) (k:RB 600 x):Calls Tryz.prog 208 #[vx] w λe C=>∃n,e=.returned (.tuple #[.int .i64 n,.bool (inC (rnd x.num x.den))])/\(inC (rnd x.num x.den)=true->n=rnd x.num x.den)/\Be w C:=by
 obtain⟨L,J,rfl,v,j⟩:=id o;obtain⟨D,M,I,rfl⟩:=v.sl;obtain⟨E,N,K,rfl⟩:=j.sl
 have i:Sm (rnd x.num x.den).natAbs:=by
  refine(F7 (m:=600+2) ?_ (by decide)).le (lv x.num x.den x.den_pos);have:=S6 (m:=600) k.1 k.2
  rwa [<-Nat.two_mul] at this
 generalize B:decide (x.num<0)=p at o ⊢;let⟨z,s⟩:=gN (rnd x.num x.den)
 have y:=Ar s;rw[s]at i ⊢;clear B s v j;go_in;go_upto_region 1 with fail;refine Bq λX g A=>?_
 obtain⟨F,G,H,-,-,-,-⟩:=A.triple
 go_upto_region 2 with (first
  | (go_at_call 265;refine(Aju u i).mono ?_;rintro e Q ⟨n,ok,rfl,f,d,r⟩)
  | (go_at_call 266;refine(Ai3 (o.keep g) k).mono ?_;rintro e P ⟨O,rfl,u,q⟩;rw[y.out]at u))
 have b:=An (An g q) r;cases ok with
 | false =>
   have c:Hid (inC z=false):=Ar (by
    have:=d rfl;unfold inC;exact decide_eq_false (by omega))
   clear f d;go_wp2
   go_ret2
   exact⟨n,by rw[c.out];rfl,(λh=>by rw[c.out]at h;cases h),b⟩
 | true =>
   obtain rfl:=f rfl;have l:Hid (inC n=(decide (-1048576<=n)&&decide (n<=1048576))):=Ar (by unfold inC;exact Bool.decide_and _ _);clear f d;by_cases c1 : -1048576<=n
   .by_cases t:n<=1048576
    .have c:Hid (inC n=true):=Ar (by rw[l.out];simp[c1,t]);go_wp2
     go_ret2
     exact⟨n,by rw[c.out];rfl,(λ_=>rfl),b⟩
    have c:Hid (inC n=false):=Ar (by rw[l.out];simp[t]);go_wp2
    go_ret2
    exact⟨n,by rw[c.out];rfl,(λ_=>rfl),b⟩
   have c:Hid (inC n=false):=Ar (by rw[l.out];simp[c1]);go_wp2
   go_ret2
   exact⟨n,by rw[c.out];rfl,(λ_=>rfl),b⟩
def Nf (a b:Int):(Int×Int)×Int:=if inC a&&inC b then ((a,b),0) else ((0,0),3)
theorem Amb{w:World}  {x:Rat} {vx:Value} (hX:PtV w a vx x f) (V:RB 600 x) (C:RB 600 f) (o q:Int) (s:rnd x.num x.den=o) (t:rnd f.num f.den=q):Calls Tryz.prog 156 #[vx] w (Bz w (.tuple #[.agg #[.int .i64 (Nf o q).1.1,.int .i64 (Nf o q).1.2],.int .i64 (Nf o q).2])):=by
 obtain⟨M1,D1,M2,D2,rfl,E,F,G,H⟩:=hX;obtain⟨N,na,W,rfl⟩:=E.sl;obtain⟨O,nb,Y,rfl⟩:=F.sl;obtain⟨P,nc,Z,rfl⟩:=G.sl;obtain⟨Q,nd,cd,rfl⟩:=H.sl;let⟨p1,m⟩:=gN (decide (x.num<0))
 let⟨p2,n⟩:=gN (decide (f.num<0))
 have T:Ib w a (.agg #[.bool p1,.slice N na W,.slice O nb Y]) x:=⟨_,_,by rw[m],E,F⟩;have U:Ib w a (.agg #[.bool p2,.slice P nc Z,.slice Q nd cd]) f:=⟨_,_,by rw[n],G,H⟩;have R:=Ar s;have S:=Ar t;rw[m,n];clear m n E F G H s t;go_in;go_upto_region 1 with fail;refine Eo λX j K hR=>?_
 let⟨a0,a1,a2,a3,a4,a5⟩:=cells6 K;let⟨I,k⟩:=gN (inC o)
 let⟨J,l⟩:=gN (inC q)
 have z:=Ar k;have A:=Ar l;have B:Hid (Nf o q=if I&&J then ((o,q),0) else ((0,0),3)):=Ar (by unfold Nf;rw[k,l]);clear k l
 go_upto_region 3 with (first
  | (go_at_call 208;have ad:=b;refine(Adm ((U.keep j).keep h) C).mono ?_;rintro e w2 ⟨M,rfl,g,D⟩;rw[S.out,A.out]at *)
  | (go_at_call 208;refine(Adm (T.keep j) V).mono ?_;rintro e w1 ⟨L,rfl,b,h⟩;rw[R.out,z.out]at *;let⟨b0,b1,b2,b3,b4,b5⟩:=cells6 (K.keep h)))
 have r:=An h D;have d:=hR.keep r;let⟨r0,r1,f0,f1,lt⟩:=d.pair;have i:=An j r;cases I with
 | true =>
   obtain rfl:=b rfl;cases J with
   | true =>
     obtain rfl:=g rfl;clear b g;obtain⟨u,y,-,-,-⟩:=Bf.pair ((d.set_ 0 (.int .i64 L)).set_ 1 (.int .i64 M));go_wp2;exact bodyPost_ret (v:=.tuple #[.agg #[.int .i64 L,.int .i64 M],.int .i64 0]) (by simp[results,Tryz.results156,go_sem,u,y]) rfl ⟨by rw[B.out];rfl,Ba (Ba i (p:=⟨w.heap.size+1,0,none⟩) (by simp) _) (p:=⟨w.heap.size+1,1,none⟩) (by simp) _⟩
   | false =>
     clear b g;obtain⟨u,y,-,-,-⟩:=Bf.pair ((d.set_ 0 (.int .i64 0)).set_ 1 (.int .i64 0));go_wp2;exact bodyPost_ret (v:=.tuple #[.agg #[.int .i64 0,.int .i64 0],.int .i64 3]) (by simp[results,Tryz.results156,go_sem,u,y]) rfl ⟨by rw[B.out];rfl,Ba (Ba i (p:=⟨w.heap.size+1,0,none⟩) (by simp) _) (p:=⟨w.heap.size+1,1,none⟩) (by simp) _⟩
 | false =>
   clear b g;obtain⟨u,y,-,-,-⟩:=Bf.pair ((d.set_ 0 (.int .i64 0)).set_ 1 (.int .i64 0));go_wp2;exact bodyPost_ret (v:=.tuple #[.agg #[.int .i64 0,.int .i64 0],.int .i64 3]) (by simp[results,Tryz.results156,go_sem,u,y]) rfl ⟨by rw[B.out];rfl,Ba (Ba i (p:=⟨w.heap.size+1,0,none⟩) (by simp) _) (p:=⟨w.heap.size+1,1,none⟩) (by simp) _⟩
end
section
open Go.RowKit Limb
structure Seg where
 fx:Int
 fy:Int
 tx:Int
 ty:Int
 wd:Int
def crD (a b:Seg):Int:=(a.tx-a.fx)*(b.ty-b.fy)-(a.ty-a.fy)*(b.tx-b.fx)
def crN (a b:Seg):Int:=(b.fx-a.fx)*(b.ty-b.fy)-(b.fy-a.fy)*(b.tx-b.fx)
def Ajg (v:Int×Int) (a b:Seg):Int:=rnd (((a.fx-v.1)*crD a b+(a.tx-a.fx)*crN a b)*(crD a b).sign) (crD a b).natAbs
def Ajf (v:Int×Int) (a b:Seg):Int:=rnd (((a.fy-v.2)*crD a b+(a.ty-a.fy)*crN a b)*(crD a b).sign) (crD a b).natAbs
def C9 (v:Int×Int) (a b:Seg):LP :=
 if crD a b=0 then [(a.tx,a.ty),(b.fx,b.fy)]
 else if (inC (Ajg v a b)&&inC (Ajf v a b))&&wS (Ajg v a b,Ajf v a b) (4*max a.wd b.wd+4) then [(v.1+Ajg v a b,v.2+Ajf v a b)]
 else [(a.tx,a.ty),(b.fx,b.fy)]
end
def Qi (v:LP):Int:=if Bg v v.length=0 then F4 v v.length v.length else 0
def orW (v:LP):Int:=Ey (Qi v) 0
def Ek (E:List EdgeP) (a:List Int):Nat->List Int
 | 0=>[]
 | k+1=>Ek E a k++List.replicate ((edg E k).ln.length-1) (gi a k)
def Hl (E:List EdgeP) (a:List Int):List Int:=Ek E a E.length
def shP (v:LP) (sg:Int) (a:List Int) (i:Nat):Int×Int :=
 (F8 (sg*gi a i*((gt v ((i+1) % v.length)).2-(gt v i).2)) (Ca (sqd (gt v i) (gt v ((i+1) % v.length)))),
  F8 (-(sg*gi a i)*((gt v ((i+1) % v.length)).1-(gt v i).1)) (Ca (sqd (gt v i) (gt v ((i+1) % v.length)))))
def Ec (E:List EdgeP) (a:List Int):LP:=(List.range (Bj E).length).map (shP (Bj E) (orW (Bj E)) (Hl E a))
def wdB (a:List Int) (i:Nat):Bool:=decide (gi a i<0) || decide (500<gi a i)
def Ed (E:List EdgeP) (a:List Int):LP×Int :=
 if C7 E≠0 then ([],C7 E) else if a.length≠E.length then ([],1) else if Bp (wdB a) a.length then ([],3) else (Ec E a,0)
def Vl (v sh:LP) (a:List Int) (i:Nat):Seg :=
 ⟨(gt v i).1+(gt sh i).1,(gt v i).2+(gt sh i).2,(gt v ((i+1) % v.length)).1+(gt sh i).1,(gt v ((i+1) % v.length)).2+(gt sh i).2,gi a i⟩
def Om (l:LP) (p:Int×Int):LP:=if l.length=0 then l++[p] else if eqS (gt l (l.length-1)) p then l else l++[p]
def Cw (l c:LP):Nat->LP
 | 0=>l
 | k+1=>Om (Cw l c k) (gt c k)
def Wy (v sh:LP) (a:List Int) (i:Nat):LP:=C9 (gt v i) (Vl v sh a ((i+v.length-1) % v.length)) (Vl v sh a i)
def K7 (v sh:LP) (a:List Int):Nat->LP
 | 0=>[]
 | i+1=>Cw (K7 v sh a i) (Wy v sh a i) (Wy v sh a i).length
def I5 (l:LP):Nat->Nat
 | 0=>0
 | k+1=>if 2<=k+1/\eqS (gt l k) (gt l 0)=true then I5 l k else k+1
def ze (E:List EdgeP) (a:List Int):LP:=K7 (Bj E) (Ec E a) (Hl E a) (Bj E).length
def Dy (E:List EdgeP) (a:List Int):LP:=(ze E a).take (I5 (ze E a) (ze E a).length)
def Ff (E:List EdgeP) (a:List Int):LP×Int :=
 if (Ed E a).2≠0 then ([],(Ed E a).2)
 else if Bp (λi=>!wS (gt (Dy E a) i) 1048576) (Dy E a).length then ([],3)
 else if Bg (Dy E a) (Dy E a).length≠0 then ([],Bg (Dy E a) (Dy E a).length)
 else if orW (Dy E a)≠orW (Bj E) then ([],11) else (Dy E a,0)
theorem Ip(v:Int×Int) (a b:Seg):(C9 v a b).length<=2:=by
 unfold C9;split
 .simp
 split<;>simp
theorem mb(l:LP) (p:Int×Int):(Om l p).length<=l.length+1:=by
 unfold Om;split
 .simp
 split<;>simp
theorem L8(l c:LP) (k:Nat):(Cw l c k).length<=l.length+k:=by
 induction k with
 | zero=>simp[Cw]
 | succ k ih =>
   rw[Cw];have:=mb (Cw l c k) (gt c k);omega
theorem T8(v sh:LP) (a:List Int) (k:Nat):(K7 v sh a k).length<=2*k:=by
 induction k with
 | zero=>simp[K7]
 | succ k ih =>
   rw[K7];have b:=L8 (K7 v sh a k) (Wy v sh a k) (Wy v sh a k).length;have c:(Wy v sh a k).length<=2:=Ip _ _ _;omega
theorem Gt{E:List EdgeP} {a:List Int} (k:Nat):(Ek E a k).length=(Cn E k).length:=by
 induction k with
 | zero=>rfl
 | succ k ih=>rw[Ek,Cn,List.length_append,List.length_append,List.length_replicate,Jv,ih]
section
open Ieee
theorem ko{m k a:Nat} (h:m<2 ^ k):m <<< a<2 ^ (k+a):=by
 rw[Nat.shiftLeft_eq,Nat.pow_add];exact Nat.mul_lt_mul_of_pos_right h (Nat.two_pow_pos _)
theorem Rf(h:a<2 ^ (g+q)):a / 2 ^ q<2 ^ g:=by
 rw[Nat.div_lt_iff_lt_mul (Nat.two_pow_pos _),<-Nat.pow_add];exact h
theorem b2n(b:Bool):b.toNat<=1:=by cases b<;>simp
theorem Akx(w:Toward) (neg:Bool) {drop:Nat} (h:a<2 ^ (g+drop)):w.cut neg a drop<=2 ^ g:=by
 unfold Toward.cut;dsimp only
 have f:a / 1 <<< min drop (a.log2+2)<2 ^ g:=by
  rw[Nat.shiftLeft_eq,Nat.one_mul];rcases Nat.le_total drop (a.log2+2) with c|c
  .rw[Nat.min_eq_left c];exact Rf h
  rw[Nat.min_eq_right c];have:a<2 ^ (a.log2+1):=Nat.lt_log2_self;have d:a / 2 ^ (a.log2+2)=0:=Nat.div_eq_of_lt (Nat.lt_trans this (Nat.pow_lt_pow_right (by decide) (by omega)));rw[d];exact Nat.two_pow_pos _
 have e:∀b:Bool,a / 1 <<< min drop (a.log2+2)+b.toNat<=2 ^ g:=λb=>by have:=b2n b;omega
 exact e _
theorem Ww(neg:Bool) {drop:Nat} (h:a<2 ^ (g+drop)):Toward.zero.cut neg a drop<2 ^ g:=by
 unfold Toward.cut;dsimp only;rw[Nat.shiftLeft_eq,Nat.one_mul];simp only[Bool.toNat_false,Nat.add_zero];rcases Nat.le_total drop (a.log2+2) with b|b
 .rw[Nat.min_eq_left b];exact Rf h
 rw[Nat.min_eq_right b];have:a<2 ^ (a.log2+1):=Nat.lt_log2_self;have c:a / 2 ^ (a.log2+2)=0:=Nat.div_eq_of_lt (Nat.lt_trans this (Nat.pow_lt_pow_right (by decide) (by omega)));rw[c];exact Nat.two_pow_pos _
theorem lp:double.leastPlace = -1074:=by decide
theorem bin:double.binade=2 ^ 52:=rfl
theorem sw:double.signWeight=2 ^ 63:=rfl
theorem inf:double.infRung=2047*2 ^ 52:=by decide
theorem Afc{e:Nat} (f:e<=2000) (h:a<=e*2 ^ 52+2 ^ 53):∃m i,double.read a=.number false m i/\m<2 ^ 53 /\ -1074<=i/\i <= -1074+e+1:=by
 have b:a<2 ^ 63:=by omega
 unfold Format.read;rw[sw,bin,inf,lp,Nat.div_eq_of_lt b,Nat.mod_eq_of_lt b];dsimp only;have d:(0 % 2 == 1)=false:=by decide
 rw[d];by_cases c:a<2 ^ 52
 .rw[if_pos c];exact⟨_,_,rfl,by omega,by omega,by omega⟩
 rw[if_neg c,if_pos (by omega)];refine⟨_,_,rfl,?_,?_,?_⟩
 .have:=Nat.mod_lt a (show 0<2 ^ 52 by decide);omega
 .omega
 have:a / 2 ^ 52<=e+2:=by omega
 omega
theorem ei(c:a≠0) (b:a.log2=g) (f : -1074<=h+g-52):double.nearest false a h<=(h+g-52+1074).toNat*2 ^ 52+2 ^ 53:=by
 unfold Format.nearest;rw[if_neg c];dsimp only
 have e:max (h+(a.log2:Int)-(double.fractionBits:Int)) double.leastPlace=h+g-52:=by
  rw[lp,b];show max (h+(g:Int)-52) (-1074)=_;omega
 rw[e,lp,bin,inf];unfold Format.word;rw[if_neg (by simp)];refine Nat.le_trans (Nat.min_le_left _ _) ?_;have d:a<2 ^ (g+1):=by rw[<-b];exact Nat.lt_log2_self
 have i:Toward.even.cut false (a <<< (h-(h+g-52)).toNat) (h+g-52-h).toNat<=2 ^ 53:=by
  apply Akx;refine Nat.lt_of_lt_of_le (ko d) (Nat.pow_le_pow_right (by decide) (by omega))
 have:(h+↑g-52 - -1074).toNat=(h+↑g-52+1074).toNat:=by omega
 rw[this];omega
theorem V8(n:Nat):∀b a,Datum.rootFrom n b a<a+2 ^ b:=by
 intro b;induction b with
 | zero=>intro a;simp[Datum.rootFrom]
 | succ t ih =>
   intro a;rw[Datum.rootFrom];have e:1 <<< t=2 ^ t:=by rw[Nat.shiftLeft_eq,Nat.one_mul]
   rw[e];have:=ih (a+2 ^ t);have:=ih a;rw[Nat.pow_succ];split<;>omega
theorem Qv{place:Int} {L:Nat} (g:a≠0) (l:a.log2<=L) (j : -1074<=place+a.log2-52) (k:place+L<=500):∃m i,double.read (double.write (.number false a place))=.number false m i/\m<2 ^ 53 /\ -1074<=i/\i<=place+L-51:=by
 have h:=ei g rfl j;let⟨m,i,f,b,c,d⟩:=Afc (e:=(place+a.log2-52+1074).toNat) (by omega) h;exact⟨m,i,f,b,c,by omega⟩
theorem iw(a:Int):double.write (.number false 0 a)=0:=rfl
theorem Ai7:double.read 0=.number false 0 (-1074):=by decide
theorem Jp(h:a<2 ^ (g+1)):a.log2<=g:=by
 rcases Nat.eq_zero_or_pos a with rfl|b
 .simp
 have:=(Nat.log2_lt (by omega:a≠0)).2 h;omega
theorem ag{n:Nat} (D:n<2 ^ 50):∃r,double.sqrt (double.write (.number false n 0))=some r/\∃z:Nat,(double.read r).toInt .zero=some (z:Int)/\z<2 ^ 30:=by
 have zero:∃z:Nat,(double.read 0).toInt .zero=some (z:Int)/\z<2 ^ 30:=⟨0,by rw[Ai7];rfl,by decide⟩
 by_cases k:n=0
 .subst k;refine⟨0,?_,zero⟩;rw[iw];unfold Format.sqrt;rw[Ai7];rfl
 let⟨m,i,E,l,w,x⟩:=Qv (L:=49) k (Jp D) (by omega) (by omega:(0:Int)+(49:Nat)<=500);unfold Format.sqrt;rw[E];unfold Datum.root;by_cases d:m=0
 .subst d;exact⟨_,by simp only[if_true,Option.map_some,iw],zero⟩
 simp only[if_neg d,Bool.false_eq_true,if_false];have C:m.log2<=52:=Jp l;have f:2*(double.fractionBits+2)=108:=rfl;rw[f];let⟨c,h⟩:=gN (108-m.log2+((i-((108-m.log2:Nat):Int)) % 2).toNat)
 have o:c<=109:=by omega
 rw[h];generalize s:m <<< c=N;have t:N.log2<=52+c:=Jp (by rw[<-s];have:=ko (a:=c) l;rw[show 52+c+1=53+c by omega];exact this);have F:=V8 N (N.log2 / 2+1) 0;generalize H:Datum.rootFrom N (N.log2 / 2+1) 0=W at F ⊢;have u:=b2n (W*W != N);generalize v:(W*W != N).toNat=b at u ⊢;have e:2*W+b<2 ^ (N.log2 / 2+1+1):=by rw[Nat.pow_succ];omega
 by_cases p:2*W+b=0
 .rw[p];exact⟨_,rfl,by rw[iw];exact zero⟩
 refine⟨_,rfl,?_⟩;have B:=Jp e;let⟨G,q,j,g,y,A⟩:=Qv (L:=N.log2 / 2+1) (place:=(i-(c:Int)) / 2-1) p B (by omega) (by omega);rw[j];refine⟨Toward.zero.cut false (G <<< q.toNat) (-q).toNat,?_,?_⟩
 .unfold Datum.toInt Datum.integral;simp[signed]
 apply Ww;refine Nat.lt_of_lt_of_le (ko g) (Nat.pow_le_pow_right (by decide) (by omega))
end
theorem Afr(i:0<a):∀x,0<x->a<(x+1)*(x+1)->R5 a x*R5 a x<=a/\a<(R5 a x+1)*(R5 a x+1):=by
 intro x;induction x using Nat.strongRecOn with
 | _ x ih =>
   intro d f;rw[R5];split
   .rename_i h;have hinv:=Ys (n:=a) d
    have b:0<(x+a / x) / 2:=by
     rcases Nat.eq_zero_or_pos ((x+a / x) / 2) with g|g
     .have c:x=1/\a / x=0:=by
       generalize a / x=q at g ⊢;omega
      obtain⟨rfl,e⟩:=c;rw[Nat.div_one]at e;omega
     exact g
    exact ih _ h b hinv
   rename_i h;refine⟨?_,f⟩
   have hq:x<=a / x:=by
    generalize a / x=q at h ⊢;omega
   exact(Nat.le_div_iff_mul_le d).1 hq
theorem Jn{n:Nat} (d:n<9223372036854775808):Ca n*Ca n<=n/\n<(Ca n+1)*(Ca n+1):=by
 unfold Ca;split
 .rename_i h;have:n=0\/n=1:=by omega
  rcases this with rfl|rfl<;>simp
 rename_i h;have a:=(Lib.bitLenAux_bounds 64 n (by have e:(2:Nat) ^ 64=18446744073709551616:=(by decide);omega) (by omega)).2.2;refine Afr (by omega) _ (Nat.two_pow_pos _) ?_;have b:n<2 ^ Lib.bitLen n:=a
 have:2 ^ Lib.bitLen n<=2 ^ ((Lib.bitLen n+1) / 2)*2 ^ ((Lib.bitLen n+1) / 2):=by
  rw[<-Nat.pow_add];exact Nat.pow_le_pow_right (by decide) (by omega)
 have c:2 ^ ((Lib.bitLen n+1) / 2)*2 ^ ((Lib.bitLen n+1) / 2)<=(2 ^ ((Lib.bitLen n+1) / 2)+1)*(2 ^ ((Lib.bitLen n+1) / 2)+1):=Nat.mul_le_mul (Nat.le_succ _) (Nat.le_succ _);omega
theorem Og{n a b:Nat} (c:a*a<=n) (d:n<(a+1)*(a+1)) (e:b*b<=n) (f:n<(b+1)*(b+1)):a=b:=by
 rcases Nat.lt_trichotomy a b with g|g|g
 .have:=Nat.mul_le_mul (show a+1<=b by omega) (show a+1<=b by omega);omega
 .exact g
 have:=Nat.mul_le_mul (show b+1<=a by omega) (show b+1<=a by omega);omega
theorem yg : ((Tryz.f259).name == "runtime.NumGoroutine") = false := by kernel_rfl
theorem yi:(Tryz.f259).body.isNone=true:=by kernel_rfl
theorem ye:Extern.findNext Tryz.f259=none:=by kernel_rfl
theorem yh:Extern.find Tryz.f259=some Extern.MathSqrt.sqrt:=by kernel_rfl
theorem yw{x:Nat} (h:Ieee.double.sqrt x=some a) (w:World):(callFunc 259 #[.float .f64 x]).run Tryz.prog w=.ok (.value (.float .f64 a)) w:=by
 rw[run_callFunc_extern Tryz.func259 yg yi ye yh];have b:FloatKind.f64.format.sqrt x=some a:=h;have e:Extern.MathSqrt.sqrt #[.float .f64 x]=(match FloatKind.f64.format.sqrt x with|some a=>pure (.float .f64 a)|none=>do pure (.float .f64 (<-choose (.nanBits .f64 x x)))):=rfl;rw[e,b];rfl
theorem po{x:Nat} (h:Ieee.double.sqrt x=some a) (w:World):Calls Tryz.prog 203 #[.float .f64 x] w λe b=>e=.returned (.float .f64 a)/\w=b:=by
 have c:=yw h;clear h;go_in;go_wp2;go_ret;exact⟨rfl,rfl⟩
theorem vh(n:Nat) (w:World) (Q:n<1125899906842624):Calls Tryz.prog 152 #[(n:Int)] w λe M=>e=.returned (.int .i64 (Ca n:Int))/\w=M:=by
 let⟨p,d⟩:=Jn (n:=n) (by omega);generalize I:Ca n=R at p d ⊢;have D:=Ar λa G H=>Og (n:=n) (a:=a) (b:=R) G H p d;clear I p d;let⟨r,u,z,B,v⟩:=ag (n:=n) (by have e:(2:Nat) ^ 50=1125899906842624:=(by decide);omega);have h:(2:Nat) ^ 30=1073741824:=by decide
 rw[h]at v;have c:=λ(w:World)=>run_convert_int_float (P:=Tryz.prog) w 3 272 .i64 .f64 (n:Int) (by rw[Tryz.underlying3];rfl) Tryz.underlying272
 have k:floatOfInt .f64 (n:Int)=Ieee.double.write (.number false n 0):=by
  unfold floatOfInt FloatKind.nearest FloatKind.encode FloatKind.format;simp[show ¬((n:Int)<0) by omega]
 rw[k]at c;generalize L:Ieee.double.write (.number false n 0)=x at u c
 have j:floatToIntVal .f64 r .i64=some (z:Int):=by
  unfold floatToIntVal FloatKind.decode FloatKind.format;have E:IntKind.i64.min = -9223372036854775808:=by decide
  have F:IntKind.i64.max=9223372036854775807:=by decide
  rw[B];simp only[E,F];rw[if_pos (by omega)]
 have t:=λ(w:World)=>run_convert_float_int (P:=Tryz.prog) w 272 3 .f64 .i64 r (z:Int) (by rw[Tryz.underlying272];rfl) Tryz.underlying3 j
 clear B j L k h;have f:=Ar u;clear u;go_in
 go_upto_region 2 with (go_at_call 203;refine(po f.out _).mono ?_;rintro e S ⟨rfl,rfl⟩)
 clear c t f
 go_loop [3] (λi=>∃a:Nat,i=.int .i64 a/\a<=1073741824) λi=>(intOf i).toNat
 case atStart=>exact⟨z,rfl,by omega⟩
 obtain⟨a,rfl,s⟩:=hrel;let⟨q,hq⟩:=gN (a*a)
 have m:q<=1152921504606846976:=by rw[<-hq];exact Nat.mul_le_mul s s
 have y:(a:Int)*(a:Int)=(q:Int):=by rw[<-hq];simp
 have A:IntKind.i64.wrap (q:Int)=q:=by rw[IntKind.wrap_i64];omega
 by_cases l:n<q
 .have J:0<a:=by
   rcases Nat.eq_zero_or_pos a with g|g
   .subst g;omega
   exact g
  have o:=Ar hq;clear hq;go_wp2;exact⟨⟨a-1,by rw[show ((a-1:Nat):Int)=(a:Int)-1 by omega],by omega⟩,by simp[intOf];omega⟩
 have o:=Ar (show a*a<=n by omega);clear hq;go_wp2;clear y A m l
 go_loop [3] (λi=>∃b:Nat,i=.int .i64 b/\b<=1073741824/\Hid (b*b<=n)) λi=>1073741825-(intOf i).toNat
 case atStart=>exact⟨a,rfl,s,o⟩
 obtain⟨b,rfl,N,d⟩:=hrel;let⟨q,hq⟩:=gN ((b+1)*(b+1))
 have m:q<=1152921506754330625:=by rw[<-hq];exact Nat.mul_le_mul (show b+1<=1073741825 by omega) (show b+1<=1073741825 by omega)
 have y:((b:Int)+1)*((b:Int)+1)=(q:Int):=by rw[<-hq];simp
 have A:IntKind.i64.wrap (q:Int)=q:=by rw[IntKind.wrap_i64];omega
 by_cases l:q<=n
 .have K:b<1073741824:=by
   apply Classical.byContradiction;intro O;have:=Nat.mul_le_mul (show 1073741824<=b by omega) (show 1073741824<=b by omega);have:=d.out;omega
  have o:=Ar (show (b+1)*(b+1)<=n by omega);clear hq;go_wp2;exact⟨⟨b+1,by go_num,by omega,o⟩,by simp[intOf];omega⟩
 have C:=Ar (D.out b d.out (by omega));clear hq;go_wp2;go_ret;exact⟨by rw[C.out];rfl,rfl⟩
theorem Je(h:Bg v a=0):3<=a/\a<=40/\(∀k,k<a->Nd (gt v k))/\C8 v a=true:=by
 unfold Bg at h;split at h
 .cases h
 split at h
 .cases h
 split at h
 .cases h
 rename_i e g b;split at h
 .rename_i c;refine⟨by omega,by omega,λk d=>?_,c⟩;cases ho:Cc 1048576 (gt v k) with
  | false=>unfold Cc at ho;unfold Nd;simp at ho;omega
  | true=>exact absurd (Bp.yes (f:=λi=>Cc 1048576 (gt v i)) d ho) b
 cases h
theorem um(h:Bg v a=0)  (o:g<a) (p:q<a) (r:g≠q):gt v g≠gt v q:=by
 have j:=(Je h).2.2.2;unfold C8 at j;rw[Bool.and_eq_true]at j;have m:=Ix.iff.1 j.1
 have d:∀c b,b<c->c<a->gt v c≠gt v b:=by
  intro c b i l n;have:=m c l;rw[show tp v c=true from Bp.yes (f:=λq=>eqS (gt v c) (gt v q)) i ((Ge _ _).2 n)]at this;cases this
 rcases Nat.lt_or_ge g q with k|k
 .exact λe=>d q g k p e.symm
 exact d g q (by omega) o
theorem Ada(p q:Int×Int):(q.1-p.1)*(q.1-p.1)<=(sqd p q:Int)/\(q.2-p.2)*(q.2-p.2)<=(sqd p q:Int)/\(p≠q->1<=sqd p q)/\(sqd p q:Int)=(q.1-p.1)*(q.1-p.1)+(q.2-p.2)*(q.2-p.2):=by
 have d:0<=(q.1-p.1)*(q.1-p.1):=(Na (M:=((q.1-p.1).natAbs:Int)) (by omega) (by omega)).1;have f:0<=(q.2-p.2)*(q.2-p.2):=(Na (M:=((q.2-p.2).natAbs:Int)) (by omega) (by omega)).1;have e:(sqd p q:Int)=(q.1-p.1)*(q.1-p.1)+(q.2-p.2)*(q.2-p.2):=by unfold sqd;omega
 refine⟨by omega,by omega,λa=>?_,e⟩;by_cases b:q.1-p.1=0
 .by_cases c:q.2-p.2=0
  .exact absurd (Prod.ext (by omega) (by omega)) a
  have:(q.2-p.2)*(q.2-p.2)≠0:=Int.mul_ne_zero c c;omega
 have:(q.1-p.1)*(q.1-p.1)≠0:=Int.mul_ne_zero b b;omega
theorem Iu{d:Int}  (h:d*d<=(a:Int)) (f:a<(g+1)*(g+1)) : -(g:Int)<=d/\d<=(g:Int):=by
 constructor
 .refine Classical.byContradiction λc=>?_
  have b:(g:Int)+1 <= -d:=by omega
  have:=Int.mul_le_mul b b (by omega) (by omega);rw[Int.neg_mul_neg]at this;have e:(((g+1)*(g+1):Nat):Int)=((g:Int)+1)*((g:Int)+1):=by push_cast;rfl
  omega
 refine Classical.byContradiction λc=>?_
 have b:(g:Int)+1<=d:=by omega
 have:=Int.mul_le_mul b b (by omega) (by omega);have e:(((g+1)*(g+1):Nat):Int)=((g:Int)+1)*((g:Int)+1):=by push_cast;rfl
 omega
theorem ot(v:LP) : -1<=orW v/\orW v<=1:=by unfold orW Ey;split<;>(try split)<;>omega
theorem Nl{q:Int×Int} (g:Nd p) (hq:Nd q) (b:p≠q):(sqd p q)<1125899906842624/\1<=Ca (sqd p q)/\Ca (sqd p q)<=4294967296 /\
 -(Ca (sqd p q):Int)<=q.1-p.1/\q.1-p.1<=Ca (sqd p q) /\ -(Ca (sqd p q):Int)<=q.2-p.2/\q.2-p.2<=Ca (sqd p q):=by
 obtain⟨i,j,k,l⟩:=g;obtain⟨m,o,r,s⟩:=hq;let⟨c,s2,h,y⟩:=Ada p q;have v:=Na (d:=q.1-p.1) (M:=2097152) (by omega) (by omega);have w:=Na (d:=q.2-p.2) (M:=2097152) (by omega) (by omega);have f:sqd p q<1125899906842624:=by omega
 let⟨x,a⟩:=Jn (n:=sqd p q) (by omega);have t:=h b;refine⟨f,?_,Yj (by omega),Iu c a |>.1,Iu c a |>.2,Iu s2 a |>.1,Iu s2 a |>.2⟩;refine Classical.byContradiction λu=>?_
 have e:Ca (sqd p q)=0:=by omega
 rw[e]at a;omega
theorem Ahj{c d R:Int} (i : -500<=c) (j:c<=500) (h:0<=R) (e : -R<=d) (f:d<=R) : -(R*500)<=c*d/\c*d<=R*500:=by
 have k:0<=(500-c)*R:=Int.mul_nonneg (by omega) h;have l:0<=(500+c)*R:=Int.mul_nonneg (by omega) h;rcases Int.le_total 0 c with g|g
 .have b:=Int.mul_le_mul_of_nonneg_left f g;have a:=Int.mul_le_mul_of_nonneg_left e g;rw[Int.sub_mul]at k;rw[Int.mul_neg]at a;have:=Int.mul_comm R 500;omega
 have b:=Int.mul_le_mul_of_nonneg_left f (show 0 <= -c by omega);have a:=Int.mul_le_mul_of_nonneg_left e (show 0 <= -c by omega);rw[Int.add_mul]at l;rw[Int.neg_mul,Int.neg_mul]at b;rw[Int.neg_mul,Int.neg_mul,Int.mul_neg]at a;have:=Int.mul_comm R 500;omega
theorem ks{c:Int} {q:Int×Int} (a : -500<=c) (b:c<=500) (f:Nd p) (hq:Nd q) (e:p≠q) :
 -1048576000<=c*(q.2-p.2)/\c*(q.2-p.2)<=1048576000 /\ -1048576000 <= -c*(q.1-p.1) /\ -c*(q.1-p.1)<=1048576000 /\
 -500<=F8 (c*(q.2-p.2)) (Ca (sqd p q))/\F8 (c*(q.2-p.2)) (Ca (sqd p q))<=500 /\ -500<=F8 (-c*(q.1-p.1)) (Ca (sqd p q))/\F8 (-c*(q.1-p.1)) (Ca (sqd p q))<=500:=by
 let⟨y,z,A,k,l,m,n⟩:=Nl f hq e;obtain⟨o,r,s,t⟩:=f;obtain⟨u,v,w,x⟩:=hq;have g:=Ahj (c:=c) (d:=q.2-p.2) (R:=Ca (sqd p q)) a b (by omega) m n;have h:=Ahj (c := -c) (d:=q.1-p.1) (R:=Ca (sqd p q)) (by omega) (by omega) (by omega) k l;have B:=Ahj (c:=c) (d:=q.2-p.2) (R:=2097152) a b (by omega) (by omega) (by omega);have C:=Ahj (c := -c) (d:=q.1-p.1) (R:=2097152) (by omega) (by omega) (by omega) (by omega) (by omega);have i:=L4 (M:=500) (show (0:Int)<Ca (sqd p q) by omega) g.1 g.2 (by omega);have j:=L4 (M:=500) (show (0:Int)<Ca (sqd p q) by omega) h.1 h.2 (by omega);exact⟨by omega,by omega,by omega,by omega,i.1,i.2,j.1,j.2⟩
end Go.Proofs.YtlogblbfbihleaaGreat

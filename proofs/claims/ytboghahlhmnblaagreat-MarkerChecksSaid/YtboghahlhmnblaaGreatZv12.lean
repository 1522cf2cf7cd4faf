/- Lean texts of the claim. -/
import Derived.Test.YtboghahlhmnblaaGreatZv08
import Derived.Test.YtboghahlhmnblaaGreatZv06
namespace Go.Proofs.YtboghahlhmnblaaGreat
set_option linter.all false
set_option maxRecDepth 100000
set_option maxHeartbeats 0
open Go.RowKit Go.Proofs.Tryz
variable{a z:World}{b j k l m o r s y:Value}{c g n t:Nat}{e p:Rat}{f v:TypeId}{h:Array Value}{i:Option Addr}{q:Int}{u:Bool}{base base' g':Nat}{D:Option Addr}{x:Rat}{d:Value}{a0 w w2:World}
section
open Go.RowKit Limb
theorem Adg(x y:Int):sg (decide (x<0) != decide (y<0)) (x.natAbs*y.natAbs)=x*y:=by
 unfold sg;rw[<-Int.natAbs_mul];by_cases a:x<0<;>by_cases b:y<0<;>simp[a,b]
 .have:=Int.mul_pos_of_neg_of_neg a b;omega
 .have:x*y<=0:=Int.mul_nonpos_of_nonpos_of_nonneg aK aK;omega
 .have:x*y<=0:=Int.mul_nonpos_of_nonneg_of_nonpos aK aK;omega
 have:=dT (show 0<=x by omega) (show 0<=y by omega);omega
theorem cf1(h:g≠c):(w.setCell ⟨c,t,none⟩ b).cell? ⟨g,n,none⟩=w.cell? ⟨g,n,none⟩:=by
 unfold World.cell?;rw[dN w ⟨c,t,none⟩ b g h]
theorem cf2{x:Value}(h:g≠c)(a:w.cell? ⟨g,n,none⟩=some x):((w.setCell ⟨c,0,none⟩ b).setCell ⟨c,1,none⟩ j).cell? ⟨g,n,none⟩=some x:=by
 rw[cf1 h,cf1 h];exact a
end
section
open Go.RowKit Limb
theorem Ae5{x y:Int}(h:decide (x<0)=decide (y<0)):sg (decide (x<0)) (x.natAbs+y.natAbs)=x+y:=by
 unfold sg;by_cases a:x<0<;>by_cases b:y<0<;>simp[a,b]at h ⊢<;>omega
theorem Ae4{x y:Int}(h:decide (x<0)≠decide (y<0))(c:y.natAbs<=x.natAbs):sg (decide (x<0)) (x.natAbs-y.natAbs)=x+y:=by
 unfold sg;by_cases a:x<0<;>by_cases b:y<0<;>simp[a,b]at h ⊢<;>omega
theorem Ae3{x y:Int}(h:decide (x<0)≠decide (y<0))(c:x.natAbs<=y.natAbs):sg (decide (y<0)) (y.natAbs-x.natAbs)=x+y:=by
 unfold sg;by_cases a:x<0<;>by_cases b:y<0<;>simp[a,b]at h ⊢<;>omega
end
section
open Go.RowKit Limb
section
variable {w : World} {ba bb a b : Nat} {va vb : Value}
abbrev Anj(hA:Ce w ba va a)(hB:Ce w bb vb b)(sa:Sm a)(sb:Sm b):=Ami hA hB sa.ln sb.ln
abbrev Aoa(hA:Ce w ba va a)(hB:Ce w bb vb b)(sa:Sm a)(sb:Sm b):=Afm hA hB sa.ln sb.ln
abbrev Acs(hA:Ce w ba va a)(hB:Ce w bb vb b)(sa:Sm a)(sb:Sm b):=Amf hA hB sa.ln sb.ln
abbrev xl(hA:Ce w ba va a)(sa:Sm a):=Rz hA sa.ln
end
theorem Anl{f:Nat}(H:f=314\/f=294){w:World}{G a:Nat}{F:Value}(b:Bool)(C:Ce w G F a)(N:Sm a):Calls prog f #[.bool b,F] w (wm w (sg b a)):=by
 rcases H with rfl|rfl
 have s:=@Aep
 rotate_left 1
 have s:=@xl
 rotate_left 1
 all_goals
  go_in;go_upto_region 1 with fail;refine Bq λX m x=>?_
  go_upto_region 2 with ((first|go_at_call 354|go_at_call 290);refine aF (s (C.keep m) N) λO T i l=>?_)
  have j:=x.keep l;have r:=An m l;have n:=x.lt;obtain⟨g,h,rfl,I,J,K,L,M⟩:=id i;let⟨R,S,P,Q,lt⟩:=j.pair;let⟨k,y⟩:=gN ((lmb a).length)
  have B:Hid (decide (0<a)=decide (0<k)):=Ar (by
   rw[<-y];by_cases q:a=0
   .rw[q,Cb];rfl
   rw[D6 q];simp;omega)
  rw[y]at i ⊢;clear I J K L M x y C m l;let⟨d,c⟩:=gN (b&&decide (0<k))
  have o:Hid (d=(b&&decide (0<a))):=Ar (by rw[B.out,c]);have E:=(i.far (p:=⟨w,0,none⟩) n (.bool d)).far (p:=⟨w,1,none⟩) n (.slice g k h);have D:=Ba (Ba r (p:=⟨w,0,none⟩) aA (u:=.bool d)) (p:=⟨w,1,none⟩) aA (u:=.slice g k h);obtain⟨z,A,-,-,-⟩:=Bf.pair (u:=.bool d) (v:=.slice g k h) ((j.set_ 0 (.bool d)).set_ 1 (.slice g k h));have t:Hid (wm w (sg b a) (.returned (.agg #[.bool d,.slice g k h])) ((O.setCell ⟨w,0,none⟩ (.bool d)).setCell ⟨w,1,none⟩ (.slice g k h))):=Ar ⟨_,rfl,Ajw E (cX n) o.out,D⟩;clear E D o B j i;cases b with
  | true =>
    by_cases q:0<k
    .obtain rfl:d=true:=by rw[<-c];simpa using q
     clear c;go_wp2;exact bR t.out rfl (by simp[results,results314,results294,go_sem,z,A])
    obtain rfl:d=false:=by rw[<-c];simpa using q
    clear c;go_wp2;exact bR t.out rfl (by simp[results,results314,results294,go_sem,z,A])
  | false =>
    obtain rfl:d=false:=by rw[<-c];rfl
    clear c;go_wp2;exact bR t.out rfl (by simp[results,results314,results294,go_sem,z,A])
def Mh:=@Anl 314 (.inl rfl)
def Aar:=@Anl 294 (.inr rfl)
theorem ja{f:Nat}(s:f=312\/f=228){w:World}{o a:Nat}{l:Value}(b:Bool)(q:Ce w o l a)(y:Sm a):Calls prog f #[.agg #[.bool b,l]] w (wm w (sg b a)):=by
 rcases s with rfl|rfl
 have j:=@Mh
 rotate_left 1
 have j:=@Aar
 rotate_left 1
 all_goals
  go_in;go_upto_region 1 with fail;refine Eo λX g r k=>?_
  obtain⟨C,D,-,-,-⟩:=r.pair;have h:=k.lt
  go_wp2_with ((first|go_at_call 314|go_at_call 294);refine(j b (q.keep g) y).mono ?_;rintro e H ⟨G,rfl,⟨B,rfl,i⟩,d⟩;have c:=k.keep d;let⟨E,F,z,A,lt⟩:=c.pair;obtain⟨m,t,p,rfl⟩:=i.sl)
  let⟨u,x,n⟩:=Gd (w:=w) c i h (An g d);exact bR n rfl (by simp[results,results312,results228,go_sem,u,x])
def Wo:=@ja 312 (.inl rfl)
def Af5:=@ja 228 (.inr rfl)
theorem Acw{f:Nat}(s:f=360\/f=301){w:World}{o a:Nat}{l:Value}(b:Bool)(q:Ce w o l a)(y:Sm a):Calls prog f #[.agg #[.bool b,l]] w (wm w (sg (!b) a)):=by
 rcases s with rfl|rfl
 have j:=@Mh
 rotate_left 1
 have j:=@Aar
 rotate_left 1
 all_goals
  go_in;go_upto_region 1 with fail;refine Eo λX g r k=>?_
  obtain⟨C,D,-,-,-⟩:=r.pair;have h:=k.lt
  go_wp2_with ((first|go_at_call 314|go_at_call 294);refine(j (!b) (q.keep g) y).mono ?_;rintro e H ⟨G,rfl,⟨B,rfl,i⟩,d⟩;have c:=k.keep d;let⟨E,F,z,A,lt⟩:=c.pair;obtain⟨m,t,p,rfl⟩:=i.sl)
  let⟨u,x,n⟩:=Gd (w:=w) c i h (An g d);exact bR n rfl (by simp[results,results360,results301,go_sem,u,x])
def Apk:=@Acw 360 (.inl rfl)
def Aph:=@Acw 301 (.inr rfl)
theorem Acx{f:Nat}(Q:f=246\/f=300){w:World}{J K:Nat}{x y:Int}{vx G:Value}(O:P9 w J vx x)(P:P9 w K G y)(sx:Sm x.natAbs)(sy:Sm y.natAbs)(A:Sm (x.natAbs*y.natAbs)):Calls prog f #[vx,G] w (wm w (x*y)):=by
 rcases Q with rfl|rfl
 have n:=@Mh;have o:=@Ahf
 rotate_left 1
 have n:=@Aar;have o:=@Acs
 rotate_left 1
 all_goals
  obtain⟨Y,rfl,R⟩:=O;obtain⟨Z,rfl,S⟩:=P;have h:=Ar (Adg x y);let⟨p,t⟩:=gN (decide (x<0))
  let⟨q,hq⟩:=gN (decide (y<0))
  rw[t,hq]at h;rw[t,hq];clear t hq;go_in;go_upto_region 1 with fail;refine Jy λX d M N B=>?_
  have u:=(R.keep d).keep blD;have z:=(S.keep d).keep blD;obtain⟨C,D,-,-,-⟩:=M.pair;obtain⟨E,F,-,-,-⟩:=N.pair;have k:=B.lt;have a:=Aw (aV X X);have b:w.heap.size≠w.heap.size+1+1:=aK
  have c:w.heap.size+1≠w.heap.size+1+1:=aK
  go_region_held3 (λr=>Cq r w 0 (.bool p)/\Cq r w 1 Y/\Cq r (w+1) 0 (.bool q)/\Cq r (w+1) 1 Z)
   (first
    | exact⟨Aq a C,Aq a D,Aq a E,Aq a F⟩
    | exact⟨cf2 b T,cf2 b U,cf2 c V,cf2 c W⟩)
   ((first
     | ((first|go_at_call 314|go_at_call 294);have hd:=l;refine(n _ l A).mono ?_;rintro e w2 ⟨v2,rfl,⟨m2,rfl,g⟩,s⟩;replace a:=An a s;have i:=B.keep a;let⟨r0,r1,f0,f1,lt⟩:=i.pair;obtain⟨H,n1,L,rfl⟩:=g.sl;have T:=Aq a C;have U:=Aq a D;have V:=Aq a E;have W:=Aq a F)
     | ((first|go_at_call 315|go_at_call 223);refine aF (o u z sx sy) λw1 m1 l j=>?_;replace a:=An a j)))
  go_wp2;have m:sg (!(p == q)) (x.natAbs*y.natAbs)=x*y:=h.out;rw[m]at g;let⟨s0,s1,I⟩:=Gd (w:=w) i g (aZ k (An (Aw (aV X X)) j).size) (An d a);rw[m];exact bR I rfl (by simp[results,results246,results300,go_sem,s0,s1])
def Aga:=@Acx 246 (.inl rfl)
def An2:=@Acx 300 (.inr rfl)
theorem Acy{f:Nat}(hf:f=359\/f=299){w:World}{ba bb:Nat}{x y:Int}{vx vy:Value}(hX:P9 w ba vx x)(hY:P9 w bb vy y)(S:Sm x.natAbs)(T:Sm y.natAbs)(b1:Sm (x.natAbs+y.natAbs)):Calls prog f #[vx,vy] w (wm w (x+y)):=by
 rcases hf with rfl|rfl
 have C:=@Mh;have M:=@Ald;have D:=@Aob
 rotate_left 1
 have C:=@Aar;have M:=@Anj;have D:=@Aoa
 rotate_left 1
 all_goals
  obtain⟨mx,rfl,hx⟩:=hX;obtain⟨my,rfl,hy⟩:=hY;have l:=Ar λh=>Ae5 (x:=x) (y:=y) h;have m:=Ar λh g=>Ae4 (x:=x) (y:=y) h g;have n:=Ar λh g=>Ae3 (x:=x) (y:=y) h g;let⟨p,hp⟩:=gN (decide (x<0))
  let⟨q,hq⟩:=gN (decide (y<0))
  rw[hp,hq]at l m n;rw[hp,hq];obtain⟨ad,ak,a1,rfl⟩:=hx.sl;obtain⟨ai,au,a6,rfl⟩:=hy.sl;clear hp hq;go_in;go_upto_region 1 with fail;refine Jy λX s hP hQ U=>?_
  have A:=hx.keep s;have B:=hy.keep s;obtain⟨V,p1,-,-,-⟩:=hP.pair;obtain⟨W,q1,-,-,-⟩:=hQ.pair;have u:=U.lt;have E:w.heap.size≠w.heap.size+1+1:=aK
  have F:w.heap.size+1≠w.heap.size+1+1:=aK
  by_cases k:p=q
  .subst k;have L:=l.out rfl;have d:=Ar L;clear l m n L;go_upto_region 2 with fail;have b:=Aw (aV X X)
   go_region_held3 (λY=>Cq Y w 0 (.bool p)/\Cq Y w 1 (.slice ad ak a1)/\Cq Y (w+1) 0 (.bool p)/\Cq Y (w+1) 1 (.slice ai au a6))
    (first
     | exact⟨Aq b V,Aq b p1,Aq b W,Aq b q1⟩
     | exact⟨cf2 E k0,cf2 E k1,cf2 F k2,cf2 F k3⟩)
    ((first
      | ((first|go_at_call 314|go_at_call 294);have hd:=j;refine(C _ j b1).mono ?_;rintro e w2 ⟨v2,rfl,⟨m2,rfl,c⟩,o⟩;replace b:=An b o;have i:=U.keep b;let⟨r0,r1,f0,f1,lt⟩:=i.pair;obtain⟨H,N,J,rfl⟩:=c.sl;have k0:=Aq b V;have k1:=Aq b p1;have k2:=Aq b W;have k3:=Aq b q1)
      | ((first|go_at_call 358|go_at_call 231);refine aF (M (A.keep blD) (B.keep blD) S T) λw1 m1 j a=>?_;replace b:=An b a)))
   go_wp2;rw[d.out]at c;let⟨Q,R,I⟩:=Gd (w:=w) i c (aZ u (An (Aw (aV X X)) a).size) (An s b);rw[d.out];exact bR I rfl (by simp[results,results359,results299,go_sem,Q,R])
  have b4:(p == q)=false:=by simpa using k
  by_cases t:y.natAbs<=x.natAbs
  .have d:=Ar (m.out k t);have Z:Hid (decide (y.natAbs<=x.natAbs)=true):=Ar (by simpa using t);have G:Hid (Sm (x.natAbs-y.natAbs)):=Ar (S.le (Nat.sub_le _ _));clear l m n k t
   go_wp2_with (first
    | ((first|go_at_call 314|go_at_call 294);have hd:=j;refine(C _ j G.out).mono ?_;rintro e w2 ⟨v2,rfl,⟨m2,rfl,c⟩,o⟩;have r:=An a o;have i:=U.keep r;let⟨r0,r1,f0,f1,lt⟩:=i.pair;obtain⟨H,N,J,rfl⟩:=c.sl)
    | ((first|go_at_call 374|go_at_call 297);refine aF (D A B S T) λw1 m1 j a=>?_;rw[Z.out];have O:=Aq a V;have P:=Aq a W))
   rw[d.out]at c;let⟨Q,R,I⟩:=Gd (w:=w) i c (aZ u a.size) (An s r);rw[d.out];exact bR I rfl (by simp[results,results359,results299,go_sem,Q,R])
  have d:=Ar (n.out k aK);have Z:Hid (decide (y.natAbs<=x.natAbs)=false):=Ar (by simpa using t);have G:Hid (Sm (y.natAbs-x.natAbs)):=Ar (T.le (Nat.sub_le _ _));clear l m n k t
  go_wp2_with (first
   | ((first|go_at_call 314|go_at_call 294);have hd:=K;refine(C _ K G.out).mono ?_;rintro e w2 ⟨v2,rfl,⟨m2,rfl,c⟩,o⟩;have r:=An (An a z) o;have i:=U.keep r;let⟨r0,r1,f0,f1,lt⟩:=i.pair;obtain⟨H,N,J,rfl⟩:=c.sl)
   | ((first|go_at_call 374|go_at_call 297);have hd:=j;refine aF (D (B.keep a) (A.keep a) T S) λw3 m3 K z=>?_;have b9:=Aq z O;have bc:=Aq z P)
   | ((first|go_at_call 374|go_at_call 297);refine aF (D A B S T) λw1 m1 j a=>?_;rw[Z.out];have O:=Aq a V;have P:=Aq a W;have cc:=Aq a p1;have cd:=Aq a q1))
  rw[d.out]at c;let⟨Q,R,I⟩:=Gd (w:=w) i c (aZ u (An a z).size) (An s r);rw[d.out];exact bR I rfl (by simp[results,results359,results299,go_sem,Q,R])
def An5:=@Acy 359 (.inl rfl)
def Api:=@Acy 299 (.inr rfl)
end
section
open Go.RowKit Limb
class BI (a w:World):Prop where
 h:Below a.heap.size a w
class LI (a:World) (n:Nat):Prop where
 h:a.heap.size<=n
section
variable {a w : World}
instance:BI a a:=⟨bl0⟩
instance [i:BI a w] {o:Obj}:BI a (w.alloc o):=⟨Ao i.h (o:=o)⟩
instance [i:BI a w]:BI a w.drew:=⟨Aw i.h⟩
instance [i:BI a w] {g k:Nat} {u:Value} [j:LI a g]:BI a (w.setCell ⟨g,k,none⟩ u):=⟨Ba i.h (p:=⟨g,k,none⟩) j.h (u:=u)⟩
instance [i:BI a w]:LI a w.heap.size:=⟨i.h.size⟩
instance {n:Nat} [i:LI a n]:LI a (n+1):=⟨Nat.le_succ_of_le i.h⟩
theorem BI.go[i:BI a w](h:Be w w2):BI a w2:=⟨An i.h h⟩
end
def Ib(w:World)(a:Nat)(v:Value)(q:Rat):Prop:=∃m d,v=.agg #[.bool (decide (q.num<0)),m,d]/\Ce w a m q.num.natAbs/\Ce w a d q.den
theorem Ib.keep(h:Ib w base b e)(c:Be w a):Ib a base b e:=by
 obtain⟨m,d,f,i,g⟩:=h;exact⟨m,d,f,i.keep c,g.keep c⟩
theorem Ib.lower(h:Ib w c b e)(a:base'<=c):Ib w base' b e:=by
 obtain⟨m,d,f,i,g⟩:=h;exact⟨m,d,f,i.lower a,g.lower a⟩
theorem Ib.op(h:Ib w c b e):∃p A n a B k d,b=.agg #[.bool p,.slice A n a,.slice B k d]/\decide (e.num<0)=p/\Ce w c (.slice A n a) e.num.natAbs/\Ce w c (.slice B k d) e.den:=by
 obtain⟨m,d,rfl,g,f⟩:=h;obtain⟨A,n,a,rfl⟩:=g.sl;obtain⟨B,k,i,rfl⟩:=f.sl;exact⟨_,A,n,a,B,k,i,rfl,rfl,g,f⟩
def Xi(w:World)(q:Rat)(e:Ending)(a:World):Prop:=∃v,e=.returned v/\Ib a w v q/\Be w a
abbrev RC(g:Nat)(o:Rat->Rat->Rat):Prop:=∀{w:World} {b c:Nat} {x y:Rat} {u v:Value},Ib w b u x->Ib w c v y->RB 600 x->RB 600 y->Calls prog g #[u,v] w (Xi w (o x y))
theorem Bf.triple{x:Value}(h:Bf w c f #[b,j,x]):Cq w c 0 b/\Cq w c 1 j/\Cq w c 2 x/\w.frozen? ⟨c,0,none⟩=false/\w.frozen? ⟨c,1,none⟩=false/\w.frozen? ⟨c,2,none⟩=false/\c<w.heap.size:=⟨(h.cell 0).trans rfl,(h.cell 1).trans rfl,(h.cell 2).trans rfl,h.frozen 0,h.frozen 1,h.frozen 2,h.lt⟩
theorem Bf.set3{x u' v' x':Value}(h:Bf w c f #[b,j,x]):Bf (((w.setCell ⟨c,0,none⟩ u').setCell ⟨c,1,none⟩ v').setCell ⟨c,2,none⟩ x') c f #[u',v',x']:=((h.set_ 0 u').set_ 1 v').set_ 2 x'
theorem Bf.far3(b:Bf w g f h)(a:g≠c)(u v x:Value):Bf (((w.setCell ⟨c,0,none⟩ u).setCell ⟨c,1,none⟩ v).setCell ⟨c,2,none⟩ x) g f h:=((b.far (p:=⟨c,0,none⟩) a u).far (p:=⟨c,1,none⟩) a v).far (p:=⟨c,2,none⟩) a x
theorem Dw(h:Be a w){u v x:Value}(hg:a.heap.size<=c:=by omega):Be a (((w.setCell ⟨c,0,none⟩ u).setCell ⟨c,1,none⟩ v).setCell ⟨c,2,none⟩ x):=Ba (Ba (Ba h (p:=⟨c,0,none⟩) hg (u:=u)) (p:=⟨c,1,none⟩) hg (u:=v)) (p:=⟨c,2,none⟩) hg (u:=x)
theorem Ce.far3(h:Ce w c b g)(a:n<c)(u x z:Value):Ce (((w.setCell ⟨n,0,none⟩ u).setCell ⟨n,1,none⟩ x).setCell ⟨n,2,none⟩ z) c b g:=((h.far (p:=⟨n,0,none⟩) a u).far (p:=⟨n,1,none⟩) a x).far (p:=⟨n,2,none⟩) a z
theorem Dn{T:TypeId}{x d:Value}(h:Bf a c T #[x,b,j])(m:Ce a g k e.num.natAbs)(l:Ce a g d e.den)(f:c<g)(i:Be w a)(hw:w.heap.size<=c:=by omega):
 Cq (((a.setCell ⟨c,0,none⟩ (.bool (decide (e.num<0)))).setCell ⟨c,1,none⟩ k).setCell ⟨c,2,none⟩ d) c 0 (.bool (decide (e.num<0)))/\Cq (((a.setCell ⟨c,0,none⟩ (.bool (decide (e.num<0)))).setCell ⟨c,1,none⟩ k).setCell ⟨c,2,none⟩ d) c 1 k/\Cq (((a.setCell ⟨c,0,none⟩ (.bool (decide (e.num<0)))).setCell ⟨c,1,none⟩ k).setCell ⟨c,2,none⟩ d) c 2 d/\Xi w e (.returned (.agg #[.bool (decide (e.num<0)),k,d])) (((a.setCell ⟨c,0,none⟩ (.bool (decide (e.num<0)))).setCell ⟨c,1,none⟩ k).setCell ⟨c,2,none⟩ d):=by
 obtain⟨n,o,s2,-,-,-,-⟩:=(h.set3 (u':=.bool (decide (e.num<0))) (v':=k) (x':=d)).triple;exact⟨n,o,s2,_,rfl,⟨k,d,rfl,(m.far3 f _ _ _).lower (by omega),(l.far3 f _ _ _).lower (by omega)⟩,Dw i (hg:=hw)⟩
theorem yv(l:Ce w c b g)(m:Sm g):Calls prog 310 #[b] w (Bz w (.bool (decide (g=0)))):=by
 let⟨a,i,f⟩:∃a:Bool,decide (g=0)=a/\Hid ((Ia g 0 == 0)=a):=⟨_,rfl,Ar (by
  unfold Ia;by_cases h:g=0
  .simp[h]
  simp[h])⟩
 rw[i];let⟨k,n,j⟩:∃k,(k == 0)=a/\Hid (Ia g 0=k):=⟨_,f.out,Ar rfl⟩
 clear i f;go_in
 go_wp2_with (go_at_call 313;refine rR (Alu l (R7 0) m (by unfold Sm;exact dE aM)) λo d=>?_;rw[j.out])
 go_ret;exact⟨rfl,d⟩
theorem Alh:Calls prog 247 #[.slice i c g] w (Bz w (.agg #[.bool false,.slice i c g])):=by
 go_in;go_wp2;obtain⟨a,b,-,-,-⟩:=Bf.pair (Bf.new w 182 #[.bool false,.slice i c g]);exact bR ⟨rfl,blA⟩ rfl (by simp[results,results247,go_sem,a,b])
theorem Yb{d:Nat}{e:Nat}(l:Ce w c (.slice D t e) d)(A:Sm d)(k:d≠0):Calls prog 244 #[.agg #[.bool u,.slice i g n,.slice D t e]] w λf B=>f=.returned (.agg #[.bool u,.slice i g n,.slice D t e])/\Be w B:=by
 have j:Hid (decide (d=0)=false):=Ar (by simpa using k);go_in;go_upto_region 1 with fail;refine Eo λX b m h=>?_
 obtain⟨o,q,s,-,-,-,-⟩:=m.triple
 go_wp2_with (go_at_call 310;refine rR (yv (l.keep b) A) λJ a=>?_;rw[j.out];have p:=Aq a o;have r:=Aq a q;have x:=Aq a s;let⟨G,H,I,C,E,F,lt⟩:=(h.keep a).triple)
 obtain⟨y,z,s2,-,-,-,-⟩:=((h.keep a).set3 (u':=.bool u) (v':=.slice i g n) (x':=.slice D t e)).triple;exact bR ⟨rfl,Dw (An b a)⟩ rfl (by simp[results,results244,go_sem,y,z,s2])
theorem Aiy{b:Bool}(d:q.natAbs=c)(a:q<0↔sg b g<0)(e:0<c->0<g):sg b c=q:=by
 unfold sg at *
 cases b<;>simp at a ⊢<;>omega
theorem I7(z:Int):sg (decide (z<0)) z.natAbs=z:=by unfold sg;by_cases h:z<0<;>simp[h]<;>omega
theorem Ru{d a:Nat}{S T:Value}(p:Bool)(R:Ce w c S a)(Q:Ce w g T d)(O:Sm a)(N:Sm d)(G:d≠0):Calls prog 319 #[.agg #[.bool p,S],T] w (Xi w (mkRat (sg p a) d)):=by
 obtain⟨Az,nz,cz,rfl⟩:=R.sl;obtain⟨Ad,nd,cd,rfl⟩:=Q.sl;let⟨E,u,P⟩:=R9 (n:=sg p a) G;rw[ku]at E u;have I:0<Nat.gcd a d:=Nat.gcd_pos_of_pos_right _ (Nat.pos_of_ne_zero G);have t:Sm (Nat.gcd a d):=N.le (Nat.gcd_le_right _ (Nat.pos_of_ne_zero G));have l:=Ar (Aiy (b:=p) E P λh=>aZ h (Nat.div_le_self _ _));generalize hr:mkRat (sg p a) d=r at u l ⊢;clear hr;generalize z:Nat.gcd a d=a6 at E u I t l;have W:=Ar z;have F:=Ar u;have M:Sm (a / a6):=O.le (Nat.div_le_self _ _);clear E u P z;go_in;go_upto_region 1 with fail;refine Eo λX o hP H=>?_
 have C:=R.keep o;have y:=Q.keep o;obtain⟨p0,p1,-,-,-⟩:=hP.pair;have A:=H.lt
 go_wp2_with (first
  | (go_at_call 312;have ai:=j;refine(Wo p (hq2.keep j) M).mono ?_;rintro e w4 ⟨v4,rfl,⟨m4,rfl,q⟩,x⟩;obtain⟨V,n4,c4,rfl⟩:=q.sl;obtain⟨U,n3,Z,rfl⟩:=B.sl;have m:=An (An (An f i) j) x;let⟨r0,r1,r2,f0,f1,f2,lt⟩:=(H.keep m).triple)
  | (go_at_call 356;have ad:=i;refine(Alc ((y.keep f).keep i) (s.keep i) N t I).mono ?_;rintro e w3 ⟨q3,r3,rfl,B,aw,j⟩;have L:=Aq j D)
  | (go_at_call 356;have a8:=f;refine(Alc (C.keep f) s O t I).mono ?_;rintro e w2 ⟨q2,r2,rfl,hq2,au,i⟩;have D:=Aq i K;obtain⟨A2,n2,c2,rfl⟩:=hq2.sl)
  | (go_at_call 355;refine aF (Aoc C y O N) λw1 v1 s f=>?_;rw[W.out]at s;have K:=Aq f p0;have b3:=Aq f p1))
 have J:=l.out;rw[J]at q ⊢;have k:=B.keep x;rw[<-F.out]at k;let⟨s0,M,s2,Y⟩:=Dn (w:=w) (H.keep m) (q.lower j.size) k (aZ A (An f i).size) (An o m);exact bR Y rfl (by simp[results,results319,go_sem,s0,M,s2])
theorem V7{d:Nat}(f:P9 w c b q)(e:Ce w g j d)(k:Sm q.natAbs)(i:Sm d)(a:d≠0):Calls prog 319 #[b,j] w (Xi w (mkRat q d)):=by
 obtain⟨l,rfl,h⟩:=f;have:=Ru (decide (q<0)) h e k i a
 rwa [I7] at this
end
section
open Go.RowKit Limb
theorem Kf(a:Bf w c f #[b,j,k])(e:Bf w g f #[d,l,m]):
 Cq w c 0 b/\Cq w c 1 j/\Cq w c 2 k/\Cq w g 0 d/\Cq w g 1 l/\Cq w g 2 m :=
 ⟨(a.cell 0).trans rfl,(a.cell 1).trans rfl,(a.cell 2).trans rfl,(e.cell 0).trans rfl,(e.cell 1).trans rfl,(e.cell 2).trans rfl⟩
theorem Qe(h:RB 600 e):Sm e.num.natAbs/\Sm e.den:=⟨F7 h.1,F7 h.2⟩
theorem Adk(a:RB 600 e)(hq:RB 600 p):Sm (e.num.natAbs*p.num.natAbs)/\Sm (e.den*p.den)/\Sm (e.num.natAbs*p.den)/\Sm (p.num.natAbs*e.den):=⟨F7 (Fv a.1 hq.1),F7 (Fv a.2 hq.2),F7 (Fv a.1 hq.2),F7 (Fv hq.1 a.2)⟩
theorem Sh{d:Nat}(h:Ce w c (.slice i g n) d):P9 w c (.agg #[.bool false,.slice i g n]) (d:Int):=⟨_,by rw[decide_eq_false aK],by rw[Int.natAbs_natCast];exact h⟩
theorem ft(a:Bf w c v #[o,r])(e:Bf w g f #[b,j,k])(h:Bf w n f #[d,l,m]):
 Cq w c 0 o/\Cq w c 1 r/\Cq w g 2 k/\Cq w n 2 m :=
 ⟨(a.cell 0).trans rfl,(a.cell 1).trans rfl,(e.cell 2).trans rfl,(h.cell 2).trans rfl⟩
theorem Ce.farB{v:Nat}(h:Ce w c b g)(E:Bf w n f #[.bool u,.slice i t v])(y:Bool)(F:Value):Ce ((w.setCell ⟨n,0,none⟩ (.bool y)).setCell ⟨n,1,none⟩ F) c b g:=by
 obtain⟨s,z,e,A,B,m,C,D⟩:=h;refine⟨s,z,e,A,B,?_,C,D⟩;rcases bK (lmb g).length with l|l
 .exact⟨m.1,.inl l⟩
 have a:∀q,s=some q->q.block≠n:=by
  intro q hq k;let⟨G,H,d,o⟩:=m.at_ l;rw[hq]at d;injection d with d
  rw[d]at k;dsimp only at k;subst k;replace o:=(E.cell _).symm.trans o
  have:∀(j:Nat) (x:Int),(#[Value.bool u,Value.slice i t v]:Array Value)[j]? = some (Value.int .u32 x)->False:=by
   intro j x r
   match j with
   | 0=>simp at r
   | 1=>simp at r
   | j+2=>simp at r
  exact this _ _ o
 exact(m.far (p:=⟨n,0,none⟩) a _).far (p:=⟨n,1,none⟩) a _
theorem Ac7{m:Nat}(a:c<2 ^ (m+m))(b:g<2 ^ (m+m)):c+g<2 ^ (m+m+1):=by rw[bZ];omega
theorem Jj(x y:Rat):(x.num*y.den).natAbs=x.num.natAbs*y.den:=by rw[Int.natAbs_mul,Int.natAbs_natCast]
theorem Adh{xn yn:Int}(d:Nat)(h:yn≠0):sg (!(decide (xn<0) == decide (yn<0))) (xn.natAbs*d)=xn*yn.sign*d:=by
 unfold sg;rw[Int.natCast_mul];rcases Int.lt_or_gt_of_ne h with b|b
 .rw[Int.sign_eq_neg_one_of_neg b];by_cases a:xn<0
  .rw[show ((xn.natAbs:Nat):Int) = -xn by omega];simp[a,b,Int.neg_mul]
  rw[show ((xn.natAbs:Nat):Int)=xn by omega];simp[a,b,Int.neg_mul]
 rw[Int.sign_eq_one_of_pos b];have c:¬yn<0:=aK
 by_cases a:xn<0
 .rw[show ((xn.natAbs:Nat):Int) = -xn by omega];simp[a,c,Int.neg_mul]
 rw[show ((xn.natAbs:Nat):Int)=xn by omega];simp[a,c]
theorem Rp(a:Bf w c v #[o,r])(e:Bf w g f #[b,j,k])(h:Bf w n f #[d,l,m]):
 Cq w c 0 o/\Cq w c 1 r/\Cq w g 2 k/\Cq w n 1 l :=
 ⟨(a.cell 0).trans rfl,(a.cell 1).trans rfl,(e.cell 2).trans rfl,(h.cell 1).trans rfl⟩
def An9(w:World)(x y:Rat)(e:Ending)(a:World):Prop:=∃p A n c B k d,e=.returned (.tuple #[.agg #[.bool p,.slice A n c,.slice B k d],.bool (!decide (y.num=0))])/\(y.num≠0->Ib a w (.agg #[.bool p,.slice A n c,.slice B k d]) (x / y))/\Be w a
theorem Al8{vx:Value}(hX:Ib w c vx x)(hY:Ib w g b e)(bx:RB 600 x)(bp:RB 600 e):Calls prog 320 #[vx,b] w (Xi w (x*e))/\Calls prog 326 #[vx,b] w (Xi w (x+e))/\Calls prog 256 #[vx,b] w (An9 w x e):=by
 obtain⟨p,Ax,nx,cx,Bx,ox,ex,rfl,hp,hx,ak⟩:=hX.op;obtain⟨q,Ay,ny,cy,By,oy,ey,rfl,hq,hy,aw⟩:=hY.op;let⟨bc,b9⟩:=Qe bx;let⟨V,U⟩:=Qe bp;let⟨h0,h9,ee,eg⟩:=Adk bx bp;have bl:=x.den_nz;have cz:=e.den_nz;have HP:=Ar hp;have HQ:=Ar hq;clear hp hq hX hY;refine⟨?_,?_,?_⟩
 all_goals
  go_in;go_upto_region 1 with fail;refine Jy λX i u t Q=>?_
  have ad:w.heap.size≠w.heap.size+1:=aK
  have O:w.heap.size+1≠w.heap.size:=aK
  have B:w.heap.size≠w.heap.size+1+1:=aK
  have C:w.heap.size+1≠w.heap.size+1+1:=aK
  have a:=Aw (aV X X)
  go_region_held3 (λf=>Cq f w 0 (.bool p)/\Cq f w 1 (.slice Ax nx cx)/\Cq f w 2 (.slice Bx ox ex)/\Cq f (w+1) 0 (.bool q)/\Cq f (w+1) 1 (.slice Ay ny cy)/\Cq f (w+1) 2 (.slice By oy ey))
   (first
    | with_reducible exact Kf (u.keep a) (t.keep a)
    | with_reducible exact Kf (u.keep a).set3 ((t.keep a).far3 O _ _ _)
    | with_reducible exact Kf ((u.keep a).set3.far3 ad _ _ _) ((t.keep a).far3 O _ _ _).set3)
   ((first
     | (go_at_call 244;have fr:=l;refine rR (Yb (((aw.keep i).keep blD).keep l) U cz) λw2 r=>?_;replace a:=An a r;let⟨a0,a1,a2,a3,a4,a5,a6⟩:=(u.keep a).triple;let⟨b0,b1,b2,b3,b4,b5,b6⟩:=(t.keep a).triple)
     | (go_at_call 244;refine(Yb ((ak.keep i).keep blD) b9 bl).mono ?_;rintro I w1 ⟨rfl,l⟩;replace a:=An a l)))
  all_goals go_upto_region 2 with fail
  refine Cj (λY=>Be w Y/\Bf Y w 184 #[.bool p,.slice Ax nx cx,.slice Bx ox ex]/\Bf Y (w+1) 184 #[.bool q,.slice Ay ny cy,.slice By oy ey]/\Bf Y (w+1+1) 184 #[.bool false,.slice none 0 0,.slice none 0 0]) ⟨Dw (Dw (An i a) (hg:=aA)),(u.keep a).set3.far3 ad _ _ _,((t.keep a).far3 O _ _ _).set3,((Q.keep a).far3 B.symm _ _ _).far3 C.symm _ _ _⟩ ?_;clear i a u t Q l r fr a0 a1 a2 a3 a4 a5 a6 b0 b1 b2 b3 b4 b5 b6;rintro X ⟨i,u,t,Q⟩;have a8:=Q.lt;have a:=Aw (aV X X)
 .have gw:=(ak.keep i).keep a;have gy:=(aw.keep i).keep a;have hv:P9 X.drew c (.agg #[.bool p,.slice Ax nx cx]) x.num:=⟨_,by rw[HP.out],(hx.keep i).keep a⟩;have ih:P9 X.drew g (.agg #[.bool q,.slice Ay ny cy]) e.num:=⟨_,by rw[HQ.out],(hy.keep i).keep a⟩;have h8:Sm (x.num*e.num).natAbs:=by rw[Int.natAbs_mul];exact h0
  have a7:x.den*e.den≠0:=Nat.mul_ne_zero bl cz;have EQ:=Ar (Rat.mul_def' x e).symm
  go_region_held3 (λf=>Cq f w 0 (.bool p)/\Cq f w 1 (.slice Ax nx cx)/\Cq f w 2 (.slice Bx ox ex)/\Cq f (w+1) 0 (.bool q)/\Cq f (w+1) 1 (.slice Ay ny cy)/\Cq f (w+1) 2 (.slice By oy ey))
   (first
    | with_reducible exact Kf (u.keep a) (t.keep a)
    | with_reducible exact Kf ((u.keep a).far3 B _ _ _) ((t.keep a).far3 C _ _ _))
   ((first
     | (go_at_call 319;have bs:=h2;refine aF (V7 (h1.keep r) h2 h8 h9 a7) λw3 v3 h3 k=>?_;rw[EQ.out]at h3;obtain⟨_,A3,n3,c3,B3,o3,e3,rfl,rfl,j0,ix⟩:=h3.op;replace a:=An a k;let⟨r0,r1,r2,f0,f1,f2,lt⟩:=(Q.keep a).triple)
     | (go_at_call 315;have fr:=h1;refine aF (Ahf (gw.keep l) (gy.keep l) b9 U) λw2 v2 h2 r=>?_;replace a:=An a r)
     | (go_at_call 246;refine aF (Aga hv ih bc V h0) λw1 v1 h1 l=>?_;replace a:=An a l)))
  all_goals go_wp2_with fail
  let⟨s0,s1,s2,HR⟩:=Dn (w:=w) (Q.keep a) j0 ix (aZ a8 (An (An blD l) r).size) (An i a);exact cB (v:=.agg #[.bool (decide ((x*e).num<0)),.slice A3 n3 c3,.slice B3 o3 e3]) (by simp[results,results320,go_sem,s0,s1,s2]) rfl HR
 .have cd:Sm (x.num*(e.den:Int)).natAbs:=by rw[Jj];exact ee
  have R:Sm (e.num*(x.den:Int)).natAbs:=by rw[Jj];exact eg
  have cf:Sm (x.num.natAbs*((e.den:Int)).natAbs):=by rw[Int.natAbs_natCast];exact ee
  have cg:Sm (e.num.natAbs*((x.den:Int)).natAbs):=by rw[Int.natAbs_natCast];exact eg
  have cj:Sm ((x.den:Int)).natAbs:=by rw[Int.natAbs_natCast];exact b9
  have ck:Sm ((e.den:Int)).natAbs:=by rw[Int.natAbs_natCast];exact U
  have b8:Sm ((x.num*(e.den:Int)).natAbs+(e.num*(x.den:Int)).natAbs):=by
   rw[Jj,Jj];exact F7 (m:=600+600+1) (Ac7 (m:=600) (Fv (m:=600) (n:=600) bx.1 bp.2) (Fv (m:=600) (n:=600) bp.1 bx.2))
  have j2:X.heap.size<=X.drew.heap.size:=aA;have gf:X.heap.size<=X.heap.size:=aA;have cw:=Ar (λ(f:World) (h:Be X f)=>(show P9 f c (.agg #[.bool p,.slice Ax nx cx]) x.num from ⟨_,by rw[HP.out],(hx.keep i).keep h⟩));have da:=Ar (λ(f:World) (h:Be X f)=>(show P9 f g (.agg #[.bool q,.slice Ay ny cy]) e.num from ⟨_,by rw[HQ.out],(hy.keep i).keep h⟩));have cu:=Ar λ(f:World) (h:Be X f)=>Sh ((ak.keep i).keep h);have S:=Ar λ(f:World) (h:Be X f)=>Sh ((aw.keep i).keep h);let⟨z,hz⟩:=gN (x.num*(e.den:Int)+e.num*(x.den:Int))
  have HZ:=Ar hz;have sz:Sm z.natAbs:=by rw[<-hz];exact b8.le (Int.natAbs_add_le _ _)
  clear hz;go_cut [5] λv5 wx=>∃(J:Nat) (A:Option Addr) (n ew:Nat),v5=.pointer (some ⟨J,0,none⟩)/\Ce wx 0 (.slice A n ew) z.natAbs/\Bf wx J 182 #[.bool (decide (z<0)),.slice A n ew]/\X.heap.size<=J/\Be X wx
  case first =>
   go_region_held3 (λf=>Cq f w 0 (.bool p)/\Cq f w 1 (.slice Ax nx cx)/\Cq f w 2 (.slice Bx ox ex)/\Cq f (w+1) 0 (.bool q)/\Cq f (w+1) 1 (.slice Ay ny cy)/\Cq f (w+1) 2 (.slice By oy ey))
    (first
     | with_reducible exact Kf (u.keep a) (t.keep a)
     | with_reducible exact Kf (u.keep (Ao a)) (t.keep (Ao a))
     | with_reducible exact Kf (u.keep (Aw blA)) (t.keep (Aw blA))
     | with_reducible exact Kf (u.keep (Ba (Ba a (p:=⟨_,0,none⟩) aQ) (p:=⟨_,1,none⟩) aQ)) (t.keep (Ba (Ba a (p:=⟨_,0,none⟩) aQ) (p:=⟨_,1,none⟩) aQ)))
    ((first
      | (go_at_call 359;have mx:=h4;(first|refine(An5 (h2.keep s) h4 cd R b8).mono ?_|refine(An5 (h2.keep (Ao s)) (h4.keep blA) cd R b8).mono ?_);rintro I w5 ⟨v5,rfl,h5,T⟩;rw[HZ.out]at h5;obtain⟨m5,rfl,N⟩:=h5;obtain⟨A5,n5,c5,rfl⟩:=N.sl;(first|(replace a:=An a T)|(replace a:=An (Ao a) T)|(replace a:=An (Aw blA) T));have j3:=a.size;(first|(replace j:=Bf.keep j T;let⟨D,E,F,G,H⟩:=Bf.pair j)|(have j:=Bf.keep (Bf.new _ _ _) T;let⟨D,E,F,G,H⟩:=Bf.pair j)|(have j:=Bf.keep (Bf.drew (Bf.new _ _ _)) T;let⟨D,E,F,G,H⟩:=Bf.pair j)|skip))
      | (go_at_call 246;have bs:=h2;(first|refine(Aga (da.out _ a) (cu.out _ a) V cj cg).mono ?_|refine(Aga (da.out _ (Ao a)) (cu.out _ (Ao a)) V cj cg).mono ?_);rintro I w4 ⟨v4,rfl,h4,o⟩;(first|(replace a:=An a o)|(replace a:=An (Ao a) o)|(replace a:=An (Aw blA) o));have fv:=a.size;(first|(replace s:=An s o)|(replace s:=An (Ao s) o)|(replace s:=An (Aw blA) o));(first|(replace j:=Bf.keep j o;let⟨D,E,F,G,H⟩:=Bf.pair j)|(have j:=Bf.keep (Bf.new _ _ _) o;let⟨D,E,F,G,H⟩:=Bf.pair j)|(have j:=Bf.keep (Bf.drew (Bf.new _ _ _)) o;let⟨D,E,F,G,H⟩:=Bf.pair j)|skip))
      | (go_at_call 247;have bs:=h2;refine rR (Alh) λw3 k=>?_;(first|(replace a:=An a k)|(replace a:=An (Ao a) k)|(replace a:=An (Aw blA) k));have n1:=a.size;(first|(replace s:=An s k)|(replace s:=An (Ao s) k)|(replace s:=An (Aw blA) k));(first|(replace j:=Bf.keep j k;let⟨D,E,F,G,H⟩:=Bf.pair j)|(have j:=Bf.keep (Bf.new _ _ _) k;let⟨D,E,F,G,H⟩:=Bf.pair j)|(have j:=Bf.keep (Bf.drew (Bf.new _ _ _)) k;let⟨D,E,F,G,H⟩:=Bf.pair j)|skip))
      | (go_at_call 246;(first|refine(Aga (cw.out _ a) (S.out _ a) bc ck cf).mono ?_|refine(Aga (cw.out _ (Ao a)) (S.out _ (Ao a)) bc ck cf).mono ?_);rintro I w2 ⟨v2,rfl,h2,r⟩;have s:=aV w2 w2;(first|(replace a:=An a r)|(replace a:=An (Ao a) r)|(replace a:=An (Aw blA) r));have n0:=a.size;(first|(replace j:=Bf.keep j r;let⟨D,E,F,G,H⟩:=Bf.pair j)|(have j:=Bf.keep (Bf.new _ _ _) r;let⟨D,E,F,G,H⟩:=Bf.pair j)|(have j:=Bf.keep (Bf.drew (Bf.new _ _ _)) r;let⟨D,E,F,G,H⟩:=Bf.pair j)|skip))
      | (go_at_call 247;refine(Alh).mono ?_;rintro I w1 ⟨rfl,l⟩;(first|(replace a:=An a l)|(replace a:=An (Ao a) l)|(replace a:=An (Aw blA) l));have mz:=a.size;(first|(replace j:=Bf.keep j l;let⟨D,E,F,G,H⟩:=Bf.pair j)|(have j:=Bf.keep (Bf.new _ _ _) l;let⟨D,E,F,G,H⟩:=Bf.pair j)|(have j:=Bf.keep (Bf.drew (Bf.new _ _ _)) l;let⟨D,E,F,G,H⟩:=Bf.pair j)|skip))))
   all_goals go_wp2
   all_goals go_meet
   all_goals (first
    | exact⟨w5,A5,n5,c5,rfl,(N.lower aB).keep (fJ bl0 aA _),Bf.new _ _ _,j3,Ao a⟩
    | exact⟨_,A5,n5,c5,rfl,(N.lower aB).farB j _ _,(j.set_ 0 _).set_ 1 _,aQ,Ba (Ba a (p:=⟨_,0,none⟩) aQ) (p:=⟨_,1,none⟩) aQ⟩)
  obtain⟨J,A5,n5,c5,rfl,N,hG,iy,y⟩:=hcut;have a7:x.den*e.den≠0:=Nat.mul_ne_zero bl cz;have EQ:Hid (mkRat z (x.den*e.den)=x+e):=Ar (by rw[<-HZ.out];exact(Rat.add_def' x e).symm);have W:=u.keep y;have Z:=t.keep y;have K:=Q.keep y;have my:w.heap.size+1+1<X.heap.size:=a8;have ai:J≠w.heap.size+1+1:=aK
  have M:=An i y;have im:P9 wc 0 (.agg #[.bool (decide (z<0)),.slice A5 n5 c5]) z:=⟨_,rfl,N⟩;have d:=Aw (aV wc wc);have au:=(ak.keep M).keep d;have b7:=(aw.keep M).keep d;have fs:=im.keep d;clear a u t Q y i cw da cu S j2 gf;go_wp2_with fail
  go_region_held3 (λf=>Cq f J 0 (.bool (decide (z<0)))/\Cq f J 1 (.slice A5 n5 c5)/\Cq f w 2 (.slice Bx ox ex)/\Cq f (w+1) 2 (.slice By oy ey))
   (first
    | with_reducible exact ft (hG.keep d) (W.keep d) (Z.keep d)
    | with_reducible exact ft ((hG.keep d).far3 ai _ _ _) ((W.keep d).far3 B _ _ _) ((Z.keep d).far3 C _ _ _))
   ((first
     | (go_at_call 319;have bs:=h6;refine aF (V7 (fs.keep L) h6 sz h9 a7) λw7 v7 h7 dx=>?_;rw[EQ.out]at h7;obtain⟨_,A7,n7,c7,B7,o7,e7,rfl,rfl,e1,dy⟩:=h7.op;replace d:=An d dx;let⟨r0,r1,r2,f0,f1,f2,lt⟩:=(K.keep d).triple)
     | (go_at_call 315;refine aF (Ahf au b7 b9 U) λw6 v6 h6 L=>?_;replace d:=An d L)))
  all_goals go_wp2_with fail
  let⟨s0,s1,s2,HR⟩:=Dn (w:=w) (K.keep d) e1 dy (aZ K.lt (An blD L).size) (An M d);exact cB (v:=.agg #[.bool (decide ((x+e).num<0)),.slice A7 n7 c7,.slice B7 o7 e7]) (by simp[results,results326,go_sem,s0,s1,s2]) rfl HR
 obtain⟨q0,q1,q2,-,-,-,-⟩:=t.triple;by_cases P:e.num=0
 .have e4:Hid (decide (e.num.natAbs=0)=true):=Ar (by simpa using P);have bm:=Ar P;clear P
  go_wp2_with (go_at_call 310;refine rR (yv (hy.keep i) V) λw3 k=>?_;rw[e4.out];let⟨r0,r1,r2,f0,f1,f2,lt⟩:=(Q.keep k).triple)
  obtain⟨s0,s1,s2,-,-,-,-⟩:=((Q.keep k).set3 (u':=.bool false) (v':=.slice none 0 0) (x':=.slice none 0 0)).triple;exact cB (v:=.tuple #[.agg #[.bool false,.slice none 0 0,.slice none 0 0],.bool false]) (by simp[results,results256,go_sem,s0,s1,s2]) rfl ⟨_,_,_,_,_,_,_,by rw[bm.out];rfl,λh=>absurd bm.out h,Dw (An i k)⟩
 have hl:=Ar (Adh (xn:=x.num) (yn:=e.num) e.den P)
 have EQ:Hid (mkRat (sg (!(p == q)) (x.num.natAbs*e.den)) (x.den*e.num.natAbs)=x / e):=Ar (by
  have:=hl.out;rw[HP.out,HQ.out]at this;rw[this];exact(Aea x e P).symm)
 have e4:Hid (decide (e.num.natAbs=0)=false):=Ar (by simpa using P);have bm:Hid ((!decide (e.num=0))=true):=Ar (by simp[P]);let⟨z,hz⟩:=gN (x / e)
 have HZ:=Ar hz;rw[hz]at EQ;clear hz
 go_upto_region 4 with (go_at_call 310;refine rR (yv (hy.keep i) V) λw3 k=>?_;rw[e4.out])
 refine Cj (λY=>Be w Y/\Bf Y w 184 #[.bool p,.slice Ax nx cx,.slice Bx ox ex]/\Bf Y (w+1) 184 #[.bool q,.slice Ay ny cy,.slice By oy ey]/\Bf Y (w+1+1) 184 #[.bool false,.slice none 0 0,.slice none 0 0]) ⟨An i k,u.keep k,t.keep k,Q.keep k⟩ ?_;rintro X ⟨i,u,t,Q⟩;have a8:=Q.lt;have a:=Aw (aV X X);have gf:X.heap.size<=X.heap.size:=aA;have ev:=Ar λ(f:World) (h:Be X f)=>(hx.keep i).keep h;have S:=Ar λ(f:World) (h:Be X f)=>(aw.keep i).keep h;have bt:Be X (X.alloc (.cells #[.bool false,.slice none 0 0] 182)).drew:=Aw blA;go_cut [6] λv6 wx=>∃(J:Nat) (A:Option Addr) (n ew:Nat),v6=.pointer (some ⟨J,0,none⟩)/\Ce wx 0 (.slice A n ew) (x.num.natAbs*e.den)/\Bf wx J 182 #[.bool (!(p == q)),.slice A n ew]/\X.heap.size<=J/\Be X wx
 case first =>
  go_region_held3 (λf=>Cq f w 0 (.bool p)/\Cq f w 1 (.slice Ax nx cx)/\Cq f w 2 (.slice Bx ox ex)/\Cq f (w+1) 0 (.bool q)/\Cq f (w+1) 1 (.slice Ay ny cy)/\Cq f (w+1) 2 (.slice By oy ey))
   (first
    | with_reducible exact Kf (u.keep a) (t.keep a)
    | with_reducible exact Kf (u.keep (Ao a)) (t.keep (Ao a))
    | with_reducible exact Kf (u.keep bt) (t.keep bt)
    | with_reducible exact Kf (u.keep (Ba (Ba a (p:=⟨_,0,none⟩) aQ) (p:=⟨_,1,none⟩) aQ)) (t.keep (Ba (Ba a (p:=⟨_,0,none⟩) aQ) (p:=⟨_,1,none⟩) aQ)))
   ((go_at_call 315;(first|refine(Ahf (ev.out _ a) (S.out _ a) bc U).mono ?_|refine(Ahf (ev.out _ bt) (S.out _ bt) bc U).mono ?_);rintro I w4 ⟨v4,rfl,e0,o⟩;obtain⟨A4,n4,c4,rfl⟩:=e0.sl;(first|(replace a:=An a o)|(replace a:=An (Ao a) o)|(replace a:=An (Aw blA) o));have fv:=a.size;(first|(replace j:=Bf.keep j o;let⟨D,E,F,G,H⟩:=Bf.pair j)|(have j:=Bf.keep (Bf.new _ _ _) o;let⟨D,E,F,G,H⟩:=Bf.pair j)|(have j:=Bf.keep (Bf.drew (Bf.new _ _ _)) o;let⟨D,E,F,G,H⟩:=Bf.pair j)|skip)))
  go_wp2;all_goals go_meet
  all_goals (first
   | exact⟨w4,A4,n4,c4,rfl,(e0.lower aB).keep (fJ bl0 aA _),Bf.new _ _ _,fv,Ao a⟩
   | exact⟨_,A4,n4,c4,rfl,(e0.lower aB).farB j _ _,(j.set_ 0 _).set_ 1 _,aQ,Ba (Ba a (p:=⟨_,0,none⟩) aQ) (p:=⟨_,1,none⟩) aQ⟩)
 obtain⟨J,A5,n5,c5,rfl,N,hG,iy,y⟩:=hcut;have n2:0<e.num.natAbs:=aK
 have a7:x.den*e.num.natAbs≠0:=Nat.mul_ne_zero bl aK;have R:Sm (x.den*e.num.natAbs):=by rw[bN];exact eg
 have W:=u.keep y;have Z:=t.keep y;have K:=Q.keep y;have ai:J≠w.heap.size+1+1:=aK
 have M:=An i y;have d:=Aw (aV wc wc);have au:=(ak.keep M).keep d;have b7:=(hy.keep M).keep d;have j1:=N.keep d;go_wp2
 go_region_held3 (λf=>Cq f J 0 (.bool (!(p == q)))/\Cq f J 1 (.slice A5 n5 c5)/\Cq f w 2 (.slice Bx ox ex)/\Cq f (w+1) 1 (.slice Ay ny cy))
  (first
   | with_reducible exact Rp (hG.keep d) (W.keep d) (Z.keep d)
   | with_reducible exact Rp ((hG.keep d).far3 ai _ _ _) ((W.keep d).far3 B _ _ _) ((Z.keep d).far3 C _ _ _))
  ((first
    | (go_at_call 319;have bs:=h6;refine aF (Ru _ (j1.keep L) h6 ee R a7) λw7 v7 h7 dx=>?_;rw[EQ.out]at h7;obtain⟨_,A7,n7,c7,B7,o7,e7,rfl,rfl,e1,dy⟩:=h7.op;replace d:=An d dx;let⟨r0,r1,r2,f0,f1,f2,lt⟩:=(K.keep d).triple)
    | (go_at_call 315;refine aF (Ahf au b7 b9 V) λw6 v6 h6 L=>?_;replace d:=An d L)))
 go_wp2;let⟨s0,s1,s2,v9,e2,HR,HB⟩:=Dn (w:=w) (K.keep d) e1 dy (aZ K.lt (An blD L).size) (An M d);injection e2 with e2
 exact cB (v:=.tuple #[.agg #[.bool (decide (z.num<0)),.slice A7 n7 c7,.slice B7 o7 e7],.bool true]) (by simp[results,results256,go_sem,s0,s1,s2]) rfl ⟨_,_,_,_,_,_,_,by rw[bm.out],λ_=>by rw[HZ.out,e2];exact HR,HB⟩
theorem Anq:RC 320 HMul.hMul:=λa b c d=>(Al8 a b c d).1
theorem Ans:RC 326 HAdd.hAdd:=λa b c d=>(Al8 a b c d).2.1
end
section
open Go.RowKit Limb
theorem Adf(x:Int):sg (!(decide (x<0))) x.natAbs = -x:=by unfold sg;by_cases h:x<0<;>simp[h]<;>omega
theorem Iv(a:Bf w c f #[b,j,k]):Cq w c 0 b/\Cq w c 1 j/\Cq w c 2 k:=⟨(a.cell 0).trans rfl,(a.cell 1).trans rfl,(a.cell 2).trans rfl⟩
theorem Aow{vx:Value}(hX:Ib w c vx x)(T:RB 600 x):Calls prog 327 #[vx] w (Xi w (-x)):=by
 obtain⟨p,H,nx,V,J,ox,ex,rfl,F,hx,n⟩:=hX.op;let⟨r,q⟩:=Qe T;have l:=x.den_nz;have D:=Ar (Adf x.num);let⟨z,C⟩:=gN (-x)
 have K:Hid (mkRat (-x.num) x.den=z):=Ar (by rw[<-Rat.neg_mkRat,Rat.mkRat_self,C]);rw[C];clear C;rw[F]at D;have s:Sm (-x.num).natAbs:=by rw[Int.natAbs_neg];exact r
 clear F;go_enter func327,ntmps327;go_upto_region 1 with fail;refine Eo λX b f k=>?_
 have i:w.heap.size≠w.heap.size+1:=aK
 have j:w.heap.size+1≠w.heap.size:=aK
 obtain⟨p0,p1,p2,-,-,-,-⟩:=f.triple
 go_upto_region 2 with (go_at_call 244;refine rR (Yb (n.keep b) q l) λw1 d=>?_;let⟨M,N,O,P,Q,R,S⟩:=(f.keep d).triple)
 refine Cj (λY=>Be w Y/\Bf Y w 184 #[.bool p,.slice H nx V,.slice J ox ex]/\Bf Y (w+1) 184 #[.bool false,.slice none 0 0,.slice none 0 0]) ⟨Dw (An b d) (hg:=aA),(f.keep d).set3,(k.keep d).far3 j _ _ _⟩ ?_;clear b d f k p0 p1 p2 M N O P Q R S;rintro X ⟨b,f,k⟩;have m:=k.lt;have a:=Aw (aV X X);have B:=(hx.keep b).keep a;have o:=(n.keep b).keep a
 go_region_held3 (sB λW h=>Iv (f.keep h))
  (first
   | with_reducible exact Iv (f.keep a)
   | with_reducible exact Iv ((f.keep a).far3 i _ _ _))
  ((first
    | (go_at_call 319;have ad:=t;refine aF (V7 t (o.keep g) s q l) λw3 v3 E u=>?_;rw[K.out]at E;obtain⟨_,G,n3,U,I,o3,Z,rfl,rfl,A,y⟩:=E.op;replace a:=An a u;let⟨r0,r1,r2,f0,f1,f2,lt⟩:=(k.keep a).triple)
    | (go_at_call 360;refine aF (Apk p B r) λw2 v2 t g=>?_;rw[D.out]at t;replace a:=An a g)))
 all_goals go_wp2_with fail
 let⟨s0,s1,s2,L⟩:=Dn (w:=w) (k.keep a) A y (aZ m (An (Aw (aV X X)) g).size) (An b a);exact bR L rfl (by simp[results,results327,go_sem,s0,s1,s2])
theorem Anp:RC 261 HSub.hSub:=by
 intro w Z bb x y vx vy D E J g;obtain⟨p,T,nx,cx,V,ox,ex,rfl,-,hx,N⟩:=D.op;obtain⟨q,U,ny,cy,Y,oy,ey,rfl,-,hy,O⟩:=E.op;go_in;go_upto_region 1 with fail;refine Jy λX c l m n=>?_
 have d:w.heap.size≠w.heap.size+1+1:=aK
 have f:w.heap.size+1≠w.heap.size+1+1:=aK
 have i:=n.lt;let⟨z,A⟩:=gN (x-y)
 have H:Hid (x + -y=z):=Ar (by rw[<-A];exact(Rat.sub_eq_add_neg x y).symm);have j:=Ar A;clear A;have k:RB 600 (-y):=g.neg;have a:=Aw (aV X X);have o:=(D.keep c).keep a;have r:=(E.keep c).keep a
 go_region_held3 (sB λW h=>Kf (l.keep h) (m.keep h))
  (first
   | with_reducible exact Kf (l.keep a) (m.keep a)
   | with_reducible exact Kf ((l.keep a).far3 d _ _ _) ((m.keep a).far3 f _ _ _))
  ((first
    | (go_at_call 326;have M:=B;refine aF (Ans (o.keep b) B J k) λw3 v3 C s=>?_;rw[H.out]at C;obtain⟨_,F,P,K,G,Q,L,rfl,rfl,u,t⟩:=C.op;replace a:=An a s;let⟨r0,r1,r2,f0,f1,f2,lt⟩:=(n.keep a).triple)
    | (go_at_call 327;refine aF (Aow r g) λw2 v2 B b=>?_;replace a:=An a b)))
 all_goals go_wp2_with fail
 let⟨R,S,s2,I⟩:=Dn (w:=w) (n.keep a) u t (aZ i (An (Aw (aV X X)) b).size) (An c a);exact bR (by rw[j.out];exact I) rfl (by simp[results,results261,go_sem,R,S,s2])
end
section
open Go.RowKit Limb
theorem S7{m:Nat}(a:c<2 ^ m)(b:g<2 ^ m):c+g<2 ^ (m+1):=by rw[bZ];omega
theorem S6{m:Nat}(a:c<2 ^ m)(b:g<2 ^ m):c+c+g<2 ^ (m+2):=by rw[bZ,bZ];omega
theorem Ai3{vx:Value}(hX:Ib w c vx x)(j:RB 600 x):Calls prog 325 #[vx] w (wm w (rnd x.num x.den)):=by
 obtain⟨p,Z,nx,cx,Bx,ox,ex,rfl,Q,R,A⟩:=hX.op;let⟨B,g⟩:=Qe j;have C:=x.den_nz;have K:Sm (x.num.natAbs+x.num.natAbs):=F7 (m:=600+1) (S7 (m:=600) j.1 j.1);have s3:Sm (x.den+x.den):=F7 (m:=600+1) (S7 (m:=600) j.2 j.2);have s2:Sm (x.num.natAbs+x.num.natAbs+x.den):=F7 (m:=600+2) (S6 (m:=600) j.1 j.2);let⟨z,J⟩:=gN (rnd x.num x.den)
 have EQ:Hid (sg p ((x.num.natAbs+x.num.natAbs+x.den) / (x.den+x.den))=z):=Ar (by
  rw[<-J,<-Q];unfold rnd sg;rw[<-Nat.two_mul,<-Nat.two_mul];by_cases h:x.num<0<;>simp[h])
 rw[J];clear Q J;go_in;go_upto_region 1 with fail;refine Eo λX d k r=>?_
 have q:w.heap.size+1≠w.heap.size:=aK
 obtain⟨S,T,U,-,-,-,-⟩:=k.triple
 go_upto_region 2 with (go_at_call 244;refine rR (Yb (A.keep d) g C) λL b=>?_;let⟨a0,a1,a2,a3,a4,a5,a6⟩:=(k.keep b).triple)
 refine Cj (λY=>Be w Y/\Bf Y w 184 #[.bool p,.slice Z nx cx,.slice Bx ox ex]/\Bf Y (w+1) 182 #[.bool false,.slice none 0 0]) ⟨Dw (An d b) (hg:=aA),(k.keep b).set3,(r.keep b).far3 q _ _ _⟩ ?_;clear d b k r S T U a0 a1 a2 a3 a4 a5 a6;rintro X ⟨d,k,r⟩;have u:=r.lt;obtain⟨S,T,U,-,-,-,-⟩:=k.triple
 go_upto_region 3 with (go_at_call 358;refine aF (Ald (R.keep d) (R.keep d) B B) λL v1 h1 b=>?_)
 have l:=k.keep b;have i:=An d b;have a:=Aw (aV L L);have f:=(A.keep i).keep a;have D:=h1.keep a;have I:0<x.den+x.den:=aK
 go_region_held3 (sB λW h=>Iv (l.keep h))
  (with_reducible exact Iv (l.keep a))
  ((first
    | (go_at_call 356;have F:=N;refine(Alc (M.keep t) N s2 s3 I).mono ?_;rintro e w4 ⟨v4,r4,rfl,O,h5,G⟩;obtain⟨A4,n4,c4,rfl⟩:=O.sl;replace a:=An a G)
    | (go_at_call 358;have F:=M;refine aF (Ald (f.keep n) (f.keep n) g g) λw3 v3 N t=>?_;replace a:=An a t)
    | (go_at_call 358;refine aF (Ald D f K g) λw2 v2 M n=>?_;replace a:=An a n)))
 have E:=l.keep a;have s:=(r.keep b).keep a;obtain⟨bc,bd,bl,-,-,-,-⟩:=E.triple;have s4:Sm ((x.num.natAbs+x.num.natAbs+x.den) / (x.den+x.den)):=s2.le (Nat.div_le_self _ _)
 go_wp2_with (go_at_call 312;refine aF (Wo p O s4) λw5 v5 P o=>?_;rw[EQ.out]at P;obtain⟨m5,rfl,y⟩:=P;obtain⟨V,n5,c5,rfl⟩:=y.sl;let⟨r0,r1,f0,f1,lt⟩:=(s.keep o).pair)
 have H:=An (An i a) o;let⟨s0,K,HR⟩:=Gd (w:=w) (s.keep o) y (aZ u (An b a).size) H;exact bR HR rfl (by simp[results,results325,go_sem,s0,K])
end
section
open Go.RowKit Limb
theorem iof(n:Int)(O : -4611686018427387904<=n)(k:n<=4611686018427387904):Calls prog 357 #[n] w (wm w n):=by
 have l:=Ar (I7 n)
 have B:Sm n.natAbs:=F7 (m:=63) (by
  have:(2:Nat) ^ 63=9223372036854775808:=aM
  rw[this];omega)
 have y:n.natAbs<18446744073709551616:=aK
 generalize o:n.natAbs=a at l B y;by_cases z:n<0
 .have t:Hid (sg true a=n):=Ar (by have:=l.out;rwa [bV z] at this);have C:IntKind.u64.wrap n=n+18446744073709551616:=by rw[dG];omega
  have M:IntKind.u64.wrap (-(n+18446744073709551616))=(a:Int):=by rw[dG];omega
  have N:IntKind.u64.wrap (-n)=(a:Int):=by rw[dG];omega
  clear o l;go_in;go_upto_region 2 with fail;refine Bq λX j h=>?_
  have d:=h.lt
  go_wp2_with (first
   | (go_at_call 314;have x:=g;refine aF (Mh true g B) λL J k i=>?_;rw[t.out]at k;obtain⟨F,rfl,f⟩:=k;obtain⟨s,A,u,rfl⟩:=f.sl;have b:=An c i;let⟨G,H,D,E,lt⟩:=(h.keep b).pair)
   | (go_at_call 311;refine aF (R4 a y) λK I g c=>?_))
  let⟨q,r,p⟩:=Gd (w:=w) (h.keep b) f (aZ d c.size) (hw:=aA) (An j b);rw[bV z]at q r p;exact bR p rfl (by simp[results,results357,go_sem,q,r])
 have t:Hid (sg false a=n):=Ar (by have:=l.out;rwa [decide_eq_false z] at this);have C:IntKind.u64.wrap n=(a:Int):=by rw[dG];omega
 clear o l;go_in;go_upto_region 3 with fail;refine Bq λX j h=>?_
 have d:=h.lt
 go_wp2_with (first
  | (go_at_call 314;have x:=g;refine aF (Mh false g B) λL J k i=>?_;rw[t.out]at k;obtain⟨F,rfl,f⟩:=k;obtain⟨s,A,u,rfl⟩:=f.sl;have b:=An c i;let⟨G,H,D,E,lt⟩:=(h.keep b).pair)
  | (go_at_call 311;refine aF (R4 a y) λK I g c=>?_))
 let⟨q,r,p⟩:=Gd (w:=w) (h.keep b) f (aZ d c.size) (hw:=aA) (An j b);exact bR p rfl (by simp[results,results357,go_sem,q,r])
theorem rof(n:Int)(h1 : -4611686018427387904<=n)(h2:n<=4611686018427387904):Calls prog 323 #[n,.int .i64 1] w λe V=>∃v,e=.returned (.tuple #[v,.bool true])/\Ib V w v (n:Rat)/\Be w V:=by
 let⟨z,E⟩:=gN ((n:Rat):Rat)
 have H:Hid (mkRat (sg (decide (n<0)) n.natAbs) 1=z):=Ar (by rw[I7,<-E];exact Rat.mkRat_self (n:Rat))
 have sa:Sm n.natAbs:=F7 (m:=63) (by
  have:(2:Nat) ^ 63=9223372036854775808:=aM
  rw[this];omega)
 have F:Sm 1:=F7 (m:=1) aM;let⟨p,D⟩:=gN (decide (n<0))
 have HP:=Ar D;rw[D]at H;rw[E];clear E D;go_enter func323,ntmps323;go_upto_region 3 with fail;refine Bq λX y t=>?_
 have b:=t.lt
 go_upto_region 4 with (first
  | (go_at_call 357;have b7:=h;refine(iof 1 aK aK).mono ?_;rintro e j ⟨v2,rfl,⟨m2,rfl,r⟩,o⟩;obtain⟨G,U,S,rfl⟩:=r.sl)
  | (go_at_call 357;refine(iof n h1 h2).mono ?_;rintro e w1 ⟨v1,rfl,⟨m1,rfl,h⟩,u⟩;obtain⟨W,n1,c1,rfl⟩:=h.sl;rw[HP.out]))
 have c:=An u o;refine Eo λY f k l=>?_
 have a:=An c f;have b8:X.heap.size<=j.heap.size:=c.size;let⟨I,J,K,L,M⟩:=k.pair;let⟨N,O,P,Q,R⟩:=l.pair;have C:=h.keep o;have A:Ce j w1 (.slice G U S) 1:=r;have B:=b;cases p<;>go_upto_region 5 with fail
 all_goals refine Cj (λZ=>Be j Z/\Bf Z j 182 #[.bool _,.slice W n1 c1]/\Bf Z (j+1) 182 #[.bool false,.slice G U S]) ⟨Ba f (p:=⟨j,0,none⟩) aA,k.set_ 0 _,l.far (p:=⟨j,0,none⟩) aL _⟩ ?_
 all_goals clear f k l I J K L M N O P Q R a
 all_goals rintro Z ⟨g,k,l⟩
 all_goals let⟨I,J,K,L,M⟩:=k.pair
 all_goals let⟨N,O,P,Q,R⟩:=l.pair
 all_goals have a:=An c g
 all_goals go_wp2_with (go_at_call 319;refine aF (Ru _ (C.keep g) (A.keep g) sa F aM) λw3 v3 T x=>?_;rw[H.out]at T;obtain⟨m3,d3,rfl,s,q⟩:=T;obtain⟨A3,n3,c3,rfl⟩:=s.sl;obtain⟨B3,o3,e3,rfl⟩:=q.sl;have d:=An a x;let⟨r0,r1,r2,f0,f1,f2,lt⟩:=(t.keep d).triple)
 all_goals let⟨s0,s1,s2,v9,i,HR,HB⟩:=Dn (w:=w) (t.keep d) s q (aZ b a.size) (hw:=aA) (An y d)
 all_goals injection i with i
 all_goals exact cB (v:=.tuple #[.agg #[.bool (decide (z.num<0)),.slice A3 n3 c3,.slice B3 o3 e3],.bool true]) (by simp[results,results323,go_sem,s0,s1,s2]) rfl ⟨_,rfl,by rw[i];exact HR,HB⟩
end
section
open Go.RowKit Limb
def M8(w:World)(z:Int)(e:Ending)(a:World):Prop:=∃n ok,e=.returned (.tuple #[.int .i64 n,.bool ok])/\(ok=true->n=z)/\(ok=false->9223372036854775808<=z.natAbs)/\Be w a
theorem Aju(hZ:P9 w c b q)(sz:Sm q.natAbs):Calls prog 324 #[b] w (M8 w q):=by
 obtain⟨mz,rfl,l⟩:=hZ;obtain⟨Az,nz,cz,rfl⟩:=l.sl;have v:=Ar (I7 q);generalize H:q.natAbs=a at v l sz;have C:=Ar H;let⟨p,S⟩:=gN (decide (q<0))
 have D:=Ar S;rw[S]at v;rw[S];go_in;go_upto_region 1 with fail;refine Bq λX A y=>?_
 obtain⟨p0,W,-,-,-⟩:=y.pair
 go_upto_region 2 with (go_at_call 312;refine aF (Wo p (l.keep A) sz) λw1 v1 h1 o=>?_;rw[v.out]at h1;obtain⟨m1,rfl,s⟩:=h1;obtain⟨Q,T,R,rfl⟩:=s.sl;rw[D.out];let⟨a0,a1,a2,a3,a4⟩:=(y.keep o).pair)
 have M:=y.lt
 have N:Ce ((w1.setCell ⟨w.heap.size,0,none⟩ (.bool p)).setCell ⟨w.heap.size,1,none⟩ (.slice Q T R)) X.heap.size (.slice Q T R) a:=by
  rw[C.out]at s;exact(s.far (p:=⟨w.heap.size,0,none⟩) M _).far (p:=⟨w.heap.size,1,none⟩) M _
 refine Cj (λY=>Below w.heap.size w Y/\Bf Y w.heap.size 182 #[.bool p,.slice Q T R]/\Ce Y X.heap.size (.slice Q T R) a) ⟨Ba (Ba (An A o) (p:=⟨w.heap.size,0,none⟩) aA) (p:=⟨w.heap.size,1,none⟩) aA,(y.keep o).set_ 0 _ |>.set_ 1 _,N⟩ ?_;rintro Y ⟨B,y,hm⟩;obtain⟨p0,W,-,-,-⟩:=y.pair;obtain⟨A',c',e',q1,q2,q3,q4,q5⟩:=hm;injection e' with e1 e2 e3
 subst e1 e2 e3;let⟨k,r⟩:=gN ((lmb a).length)
 have HK:=Ar r;rw[r]at q1 q3 ⊢;rw[r]at W;have fin0:Hid (9223372036854775808<=a->M8 w q (.returned (.tuple #[.int .i64 0,.bool false])) Y):=Ar (λh=>⟨0,false,rfl,(λh=>by cases h),(λ_=>by rw[C.out];exact h),B⟩);by_cases L:k<=2
 .have z:a<18446744073709551616:=by
   have:=Mx a;rw[r]at this;exact aZ this (bB (bJ aM L) aM)
  have u:=Ar z;go_upto_region 6 with fail;go_loopw [4,5,6,16] (λn _ _ i wr=>∃(j nn:Nat),j<=k/\i=.int .i64 j/\n=.int .u64 (nn:Int)/\Hid (nn=a % BB ^ j)/\wr=Y) (λ_ _ _ i _=>k-(intOf i).toNat)
  case atStart=>exact⟨0,0,aB,rfl,rfl,Ar (by simp[eJ]),rfl⟩
  obtain⟨j,nn,hj,rfl,rfl,F,rfl⟩:=hrel;by_cases K:j<k
  .obtain⟨b1,o1,rfl,z1⟩:=q3.at_ K;have Z:=Cv a j;let⟨x,E⟩:=gN (lim a j)
   have O:gu (lmb a) j=x:=E;rw[O]at z1;rw[E]at Z;unfold BB at Z
   have P:x*BB ^ j<=a:=by
    have e:=Bt a j;rw[E,bN (BB ^ j)]at e;exact bB (by rw[e];exact Nat.le_add_left _ _) (Nat.mod_le a (BB ^ (j+1)))
   have V:nn<BB ^ j:=by rw[F.out];exact bE _ (dE aM)
   have G:Hid (nn+x*BB ^ j=a % BB ^ (j+1)):=Ar (by rw[Bt,E,F.out,bN x]);let⟨sh,t⟩:=gN (x*BB ^ j)
   have I:sh % BB ^ j=0:=by rw[<-t];exact Nat.mul_mod_left _ _
   have m:(2:Int) ^ (32*j)=((BB ^ j:Nat):Int):=by rw[Aed];simp
   have d:=u.out;rw[t]at P G
   have hE:bits .or .u64 (nn:Int) (sh:Int)=((nn+sh:Nat):Int):=by
    rw[bits_join_low .u64 64 aM wraps_u64 (32*j) (nn:Int) (sh:Int) aK (by rw[m];omega) (by have:=Nat.mod_le a (BB ^ j);rw[<-F.out]at this;omega) aK (by rw[m,<-gA,I];rfl) aK];omega
   have hW:IntKind.u64.wrap ((x:Int)*2 ^ (32*j))=(sh:Int):=by
    rw[m,<-Int.natCast_mul,t];exact Ds
   clear E O P V t I m d;go_wp2;exact⟨⟨j+1,nn+sh,aK,aP,aP,G,trivial⟩,aI⟩
  obtain rfl:j=k:=aK
  have hn:nn=a:=by rw[F.out,Di (h:=Nat.le_of_eq HK.out)]
  subst hn;have f:=v.out;cases p with
  | true =>
    have l:q = -(nn:Int):=by rw[<-f];rfl
    by_cases g:nn<=9223372036854775808
    .have U:(nn:Int)<=9223372036854775808:=aK
     have fin:Hid (M8 w q (.returned (.tuple #[.int .i64 (-(nn:Int)),.bool true])) wr):=Ar ⟨_,true,rfl,(λ_=>l.symm),(λh=>by cases h),B⟩
     have a7:0<nn:=by
      have:=D.out;simp at this;omega
     have D1:IntKind.u64.wrap (-(nn:Int))=18446744073709551616-(nn:Int):=by rw[dG];omega
     have D2:IntKind.i64.wrap (18446744073709551616-(nn:Int)) = -(nn:Int):=aD
     go_wp2
     go_ret2
     exact fin.out
    have U:¬(nn:Int)<=9223372036854775808:=aK
    have J:=fin0.out aK;clear g l f v C D fin0;go_wp2
    go_ret2
    exact J
  | false =>
    have l:q=(nn:Int):=by rw[<-f];rfl
    by_cases g:nn<9223372036854775808
    .have U:(nn:Int)<9223372036854775808:=aK
     have fin:Hid (M8 w q (.returned (.tuple #[.int .i64 (nn:Int),.bool true])) wr):=Ar ⟨_,true,rfl,(λ_=>l.symm),(λh=>by cases h),B⟩
     go_wp2
     go_ret2
     exact fin.out
    have U:¬(nn:Int)<9223372036854775808:=aK
    have J:=fin0.out aK;clear g l f v C D fin0;go_wp2
    go_ret2
    exact J
 have J:=fin0.out (by
  have h2:=Sb (n:=a) (by
   intro e;rw[e,Cb]at r;simp at r;omega)
  rw[r]at h2;have h3:BB ^ 2<=BB ^ (k-1):=bJ aM aK;have h4:BB ^ 2=18446744073709551616:=aM
  omega)
 go_wp2
 go_ret2
 exact J
end
section
open Go.RowKit Limb
def PtV(w:World)(a:Nat)(v:Value)(x y:Rat):Prop:=∃m d c b,v=.agg #[.bool (decide (x.num<0)),m,d,.bool (decide (y.num<0)),c,b]/\Ce w a m x.num.natAbs/\Ce w a d x.den/\Ce w a c y.num.natAbs/\Ce w a b y.den
theorem PtV.keep(h:PtV w base b x e)(c:Be w a):PtV a base b x e:=by
 obtain⟨m,d,n,f,g,i,j,k,l⟩:=h;exact⟨m,d,n,f,g,i.keep c,j.keep c,k.keep c,l.keep c⟩
theorem PtV.lower(h:PtV w c b x e)(a:base'<=c):PtV w base' b x e:=by
 obtain⟨m,d,n,f,g,i,j,k,l⟩:=h;exact⟨m,d,n,f,g,i.lower a,j.lower a,k.lower a,l.lower a⟩
def Aei(w:World)(x y:Rat)(e:Ending)(a:World):Prop:=∃v,e=.returned v/\PtV a w v x y/\Be w a
section
variable {w : World} {g : Nat} {t : TypeId}
theorem cells6{a b c d e f:Value}(h:Bf w g t #[a,b,c,d,e,f]):Cq w g 0 a/\Cq w g 1 b/\Cq w g 2 c/\Cq w g 3 d/\Cq w g 4 e/\Cq w g 5 f:=⟨(h.cell 0).trans rfl,(h.cell 1).trans rfl,(h.cell 2).trans rfl,(h.cell 3).trans rfl,(h.cell 4).trans rfl,(h.cell 5).trans rfl⟩
theorem Kc{a b c d e f a' b' c' d' e' f':Value}(h:Bf w g t #[a,b,c,d,e,f])(k:Bf w g' t #[a',b',c',d',e',f']):Cq w g 0 a/\Cq w g 1 b/\Cq w g 2 c/\Cq w g 3 d/\Cq w g 4 e/\Cq w g 5 f/\Cq w g' 0 a'/\Cq w g' 1 b'/\Cq w g' 2 c'/\Cq w g' 3 d'/\Cq w g' 4 e'/\Cq w g' 5 f':=⟨(h.cell 0).trans rfl,(h.cell 1).trans rfl,(h.cell 2).trans rfl,(h.cell 3).trans rfl,(h.cell 4).trans rfl,(h.cell 5).trans rfl,(k.cell 0).trans rfl,(k.cell 1).trans rfl,(k.cell 2).trans rfl,(k.cell 3).trans rfl,(k.cell 4).trans rfl,(k.cell 5).trans rfl⟩
theorem fq{cs:Array Value}(h:Bf w g t cs):w.frozen? ⟨g,0,none⟩=false/\w.frozen? ⟨g,1,none⟩=false/\w.frozen? ⟨g,2,none⟩=false/\w.frozen? ⟨g,3,none⟩=false/\w.frozen? ⟨g,4,none⟩=false/\w.frozen? ⟨g,5,none⟩=false/\g<w.heap.size:=⟨h.frozen 0,h.frozen 1,h.frozen 2,h.frozen 3,h.frozen 4,h.frozen 5,h.lt⟩
def W6(w:World)(g:Nat)(a b c d e f:Value):World:=(((((w.setCell ⟨g,0,none⟩ a).setCell ⟨g,1,none⟩ b).setCell ⟨g,2,none⟩ c).setCell ⟨g,3,none⟩ d).setCell ⟨g,4,none⟩ e).setCell ⟨g,5,none⟩ f
theorem Bf.set6{a b c d e f a' b' c' d' e' f':Value}(h:Bf w g t #[a,b,c,d,e,f]):Bf ((((((w.setCell ⟨g,0,none⟩ a').setCell ⟨g,1,none⟩ b').setCell ⟨g,2,none⟩ c').setCell ⟨g,3,none⟩ d').setCell ⟨g,4,none⟩ e').setCell ⟨g,5,none⟩ f') g t #[a',b',c',d',e',f']:=((((((h.set_ 0 a').set_ 1 b').set_ 2 c').set_ 3 d').set_ 4 e').set_ 5 f')
theorem Xl(hb:Be a0 w){a b c d e f:Value}(hg:a0.heap.size<=g:=by omega):Be a0 ((((((w.setCell ⟨g,0,none⟩ a).setCell ⟨g,1,none⟩ b).setCell ⟨g,2,none⟩ c).setCell ⟨g,3,none⟩ d).setCell ⟨g,4,none⟩ e).setCell ⟨g,5,none⟩ f):=Ba (Ba (Ba (Dw hb (hg:=hg) (u:=a) (v:=b) (x:=c)) (p:=⟨g,3,none⟩) hg (u:=d)) (p:=⟨g,4,none⟩) hg (u:=e)) (p:=⟨g,5,none⟩) hg (u:=f)
theorem Ce.far6{base a0:Nat}{v:Value}(h:Ce w base v a0)(hg:g<base)(a b c d e f:Value):Ce ((((((w.setCell ⟨g,0,none⟩ a).setCell ⟨g,1,none⟩ b).setCell ⟨g,2,none⟩ c).setCell ⟨g,3,none⟩ d).setCell ⟨g,4,none⟩ e).setCell ⟨g,5,none⟩ f) base v a0:=(((h.far3 hg a b c).far (p:=⟨g,3,none⟩) hg d).far (p:=⟨g,4,none⟩) hg e).far (p:=⟨g,5,none⟩) hg f
theorem Bf.far6{k:Nat}{cs:Array Value}(h:Bf w k t cs)(hne:k≠g)(a b c d e f:Value):Bf ((((((w.setCell ⟨g,0,none⟩ a).setCell ⟨g,1,none⟩ b).setCell ⟨g,2,none⟩ c).setCell ⟨g,3,none⟩ d).setCell ⟨g,4,none⟩ e).setCell ⟨g,5,none⟩ f) k t cs:=((((h.far3 hne a b c).far (p:=⟨g,3,none⟩) hne d).far (p:=⟨g,4,none⟩) hne e).far (p:=⟨g,5,none⟩) hne f)
end
theorem Ib.sh(h:Ib w c b e):∃p A n a B k d,b=.agg #[.bool p,.slice A n a,.slice B k d]:=by
 obtain⟨p,A,n,a,B,k,d,f,-⟩:=h.op;exact⟨p,A,n,a,B,k,d,f⟩
theorem PtV.ab(h:PtV w c (.agg #[b,j,k,l,m,o]) x e):Ib w c (.agg #[b,j,k]) x/\Ib w c (.agg #[l,m,o]) e:=by
 obtain⟨q,d,r,p,a,f,g,i,n⟩:=h;injection a with a;injection a with a
 simp only[List.cons.injEq,and_true]at a;obtain⟨rfl,rfl,rfl,rfl,rfl,rfl⟩:=a;exact⟨⟨_,_,rfl,f,g⟩,⟨_,_,rfl,i,n⟩⟩
theorem Ib.pt(h:Ib w c (.agg #[b,j,k]) x)(q:Ib w c (.agg #[l,m,o]) e):PtV w c (.agg #[b,j,k,l,m,o]) x e:=by
 obtain⟨s,d,a,g,i⟩:=h;obtain⟨t,r,f,n,p⟩:=q;injection a with a;injection a with a;injection f with f;injection f with f
 simp only[List.cons.injEq,and_true]at a f;obtain⟨rfl,rfl,rfl⟩:=a;obtain⟨rfl,rfl,rfl⟩:=f;exact⟨_,_,_,_,rfl,g,i,n,p⟩
theorem PtV.sh(h:PtV w c b x e):∃p A n a B k d q C m g D l f,b=.agg #[.bool p,.slice A n a,.slice B k d,.bool q,.slice C m g,.slice D l f]:=by
 obtain⟨m,d,t,s,rfl,i,j,o,r⟩:=h;obtain⟨A,n,a,rfl⟩:=i.sl;obtain⟨B,k,d,rfl⟩:=j.sl;obtain⟨C,m,g,rfl⟩:=o.sl;obtain⟨D,l,f,rfl⟩:=r.sl;exact⟨_,A,n,a,B,k,d,_,C,m,g,D,l,f,rfl⟩
theorem Ib.far6(h:Ib w c b e)(a:g<c)(u1 u2 u3 u4 u5 u6:Value):Ib ((((((w.setCell ⟨g,0,none⟩ u1).setCell ⟨g,1,none⟩ u2).setCell ⟨g,2,none⟩ u3).setCell ⟨g,3,none⟩ u4).setCell ⟨g,4,none⟩ u5).setCell ⟨g,5,none⟩ u6) c b e:=by
 obtain⟨m,d,f,i,j⟩:=h;exact⟨m,d,f,i.far6 a _ _ _ _ _ _,j.far6 a _ _ _ _ _ _⟩
theorem K8{T:TypeId}{u4 u5 u6:Value}(i:Bf a c T #[b,j,k,l,m,o])(f:Ib a g (.agg #[r,s,y]) x)(h:Ib a g (.agg #[u4,u5,u6]) e)(d:c<g)(p:Be w a)(hw:w.heap.size<=c:=by omega)(n:z=(((((a.setCell ⟨c,0,none⟩ r).setCell ⟨c,1,none⟩ s).setCell ⟨c,2,none⟩ y).setCell ⟨c,3,none⟩ u4).setCell ⟨c,4,none⟩ u5).setCell ⟨c,5,none⟩ u6:=by rfl):
 Bf z c T #[r,s,y,u4,u5,u6]/\Aei w x e (.returned (.agg #[r,s,y,u4,u5,u6])) z:=by
 subst n;exact⟨i.set6,_,rfl,((f.far6 d _ _ _ _ _ _).pt (h.far6 d _ _ _ _ _ _)).lower (by omega),Xl p (hg:=hw)⟩
abbrev PC(g:Nat)(o:Rat->Rat->Rat):Prop:=∀{w:World} {b c:Nat} {xx xy yx yy:Rat} {u v:Value},PtV w b u xx xy->PtV w c v yx yy->RB 600 xx->RB 600 xy->RB 600 yx->RB 600 yy->Calls prog g #[u,v] w (Aei w (o xx yx) (o xy yy))
abbrev SC(g:Nat):Prop:=∀{w:World} {b c:Nat} {xx xy t:Rat} {u v:Value},PtV w b u xx xy->Ib w c v t->RB 600 xx->RB 600 xy->RB 600 t->Calls prog g #[u,v] w (Aei w (xx*t) (xy*t))
abbrev XC(g:Nat):Prop:=∀{w:World} {b c:Nat} {xx xy yx yy:Rat} {u v:Value},PtV w b u xx xy->PtV w c v yx yy->RB 300 xx->RB 300 xy->RB 300 yx->RB 300 yy->Calls prog g #[u,v] w (Xi w (xx*yy-xy*yx))
theorem pt2{o:Rat->Rat->Rat}(M:RC g o)(U:c=205/\g=261\/c=321/\g=326\/c=170/\g=175\/c=225/\g=232):PC c o:=by
 intro w ba bb xx xy yx yy vx vy r s I J K L;obtain⟨p1,Aa,na,ca,Ab,nb,cb,p2,Ac,nc,cc,Ad,nd,cd,rfl⟩:=r.sh;obtain⟨p3,Ae,ne,ce,Af,nf,cf,p4,Ag,ng,cg,Ah,nh,ch,rfl⟩:=s.sh;obtain⟨z,A⟩:=r.ab;obtain⟨B,C⟩:=s.ab;obtain⟨rfl,rfl⟩|⟨rfl,rfl⟩|⟨rfl,rfl⟩|⟨rfl,rfl⟩:=U
 all_goals
  go_in;go_upto_region 1 with fail;refine Jy λX b n p l=>?_
  have f:w.heap.size≠w.heap.size+1+1:=aK
  have i:w.heap.size+1≠w.heap.size+1+1:=aK
  have k:=l.lt;have a:=Aw (aV X X);have E:=(z.keep b).keep a;have F:=(A.keep b).keep a;have G:=(B.keep b).keep a;have H:=(C.keep b).keep a
  go_region_held3 (sB λW h=>Kc (n.keep h) (p.keep h))
   (first
    | with_reducible exact Kc (n.keep a) (p.keep a)
    | with_reducible exact Kc ((n.keep a).far6 f _ _ _ _ _ _) ((p.keep a).far6 i _ _ _ _ _ _))
   ((first
     | (have S:=m;(with_reducible refine(M (F.keep d) (H.keep d) J L).mono ?_);rintro e w2 ⟨v2,rfl,q,j⟩;obtain⟨p6,x,Z,P,y,n4,Q,rfl⟩:=q.sh;replace a:=An a j;obtain⟨r0,r1,r2,r3,r4,r5⟩:=cells6 (l.keep a);obtain⟨f0,f1,f2,f3,f4,f5,R⟩:=fq (l.keep a))
     | ((with_reducible refine(M E G I K).mono ?_);rintro e w1 ⟨v1,rfl,m,d⟩;obtain⟨p5,t,V,N,u,Y,O,rfl⟩:=m.sh;replace a:=An a d)|fail))
  all_goals go_wp2_with fail
  obtain⟨T,D⟩:=K8 (w:=w) (l.keep a) (m.keep j) (q.lower d.size) k (An b a);obtain⟨s0,s1,s2,s3,s4,s5⟩:=cells6 T;exact bR D rfl (by simp[results,results205,results321,results170,results225,go_sem,s0,s1,s2,s3,s4,s5])
theorem Ai9:PC 205 HSub.hSub:=pt2 @Anp (.inl ⟨rfl,rfl⟩)
theorem Aoy:PC 321 HAdd.hAdd:=pt2 @Ans (.inr (.inl ⟨rfl,rfl⟩))
end
section
open Go.RowKit Limb
theorem Afp(h:Bf w c f #[b,j,k,d,l,m])(a:Bf w g v #[o,r,s]):Cq w c 0 b/\Cq w c 1 j/\Cq w c 2 k/\Cq w c 3 d/\Cq w c 4 l/\Cq w c 5 m/\Cq w g 0 o/\Cq w g 1 r/\Cq w g 2 s:=⟨(h.cell 0).trans rfl,(h.cell 1).trans rfl,(h.cell 2).trans rfl,(h.cell 3).trans rfl,(h.cell 4).trans rfl,(h.cell 5).trans rfl,(a.cell 0).trans rfl,(a.cell 1).trans rfl,(a.cell 2).trans rfl⟩
theorem Ant(M:RC g HMul.hMul)(Q:c=322/\g=320\/c=226/\g=224):SC c:=by
 intro w ba bb xx xy t vx vt u p G H r;obtain⟨p1,Aa,na,ca,Ab,nb,cb,p2,Ac,nc,cc,Ad,nd,cd,rfl⟩:=u.sh;obtain⟨p3,Ae,ne,ce,Af,nf,cf,rfl⟩:=p.sh;obtain⟨B,C⟩:=u.ab;obtain⟨rfl,rfl⟩|⟨rfl,rfl⟩:=Q
 all_goals
  go_in;go_upto_region 1 with fail;refine Jy λX d n o l=>?_
  have f:w.heap.size≠w.heap.size+1+1:=aK
  have i:w.heap.size+1≠w.heap.size+1+1:=aK
  have k:=l.lt;have a:=Aw (aV X X);have E:=(B.keep d).keep a;have F:=(C.keep d).keep a;have q:=(p.keep d).keep a
  go_region_held3 (sB λW h=>Afp (n.keep h) (o.keep h))
   (first
    | with_reducible exact Afp (n.keep a) (o.keep a)
    | with_reducible exact Afp ((n.keep a).far6 f _ _ _ _ _ _) ((o.keep a).far6 i _ _ _ _ _ _))
   ((first
     | (have O:=m;(with_reducible refine(M (F.keep b) (q.keep b) H r).mono ?_);rintro e w2 ⟨v2,rfl,s,j⟩;obtain⟨V,z,T,K,A,n4,L,rfl⟩:=s.sh;replace a:=An a j;obtain⟨r0,r1,r2,r3,r4,r5⟩:=cells6 (l.keep a);obtain⟨f0,f1,f2,f3,f4,f5,N⟩:=fq (l.keep a))
     | ((with_reducible refine(M E q G r).mono ?_);rintro e w1 ⟨v1,rfl,m,b⟩;obtain⟨U,x,R,I,y,S,J,rfl⟩:=m.sh;replace a:=An a b)|fail))
  all_goals go_wp2_with fail
  obtain⟨P,D⟩:=K8 (w:=w) (l.keep a) (m.keep j) (s.lower b.size) k (An d a);obtain⟨Y,Z,s2,s3,s4,s5⟩:=cells6 P;exact bR D rfl (by simp[results,results322,results226,go_sem,Y,Z,s2,s3,s4,s5])
theorem Aja:SC 322:=Ant @Anq (.inl ⟨rfl,rfl⟩)
theorem ptx(M:RC g HMul.hMul)(L:RC n HSub.hSub)(hf:c=257/\g=320/\n=261\/c=169/\g=224/\n=175):XC c:=by
 intro w ba bb I J K N vx vy G H A B C D;obtain⟨p1,Aa,na,ca,Ab,nb,cb,p2,Ac,nc,cc,Ad,nd,cd,rfl⟩:=G.sh;obtain⟨p3,Ae,ne,ce,Af,nf,cf,p4,Ag,ng,cg,Ah,nh,ch,rfl⟩:=H.sh;let⟨Q,R⟩:=G.ab;let⟨S,T⟩:=H.ab;have p:RB 600 (I*N):=RB.mul A D;have q:RB 600 (J*K):=RB.mul B C;have k:RB 600 I:=A.le aM;have l:RB 600 J:=B.le aM;have m:RB 600 K:=C.le aM;have o:RB 600 N:=D.le aM;obtain⟨rfl,rfl,rfl⟩|⟨rfl,rfl,rfl⟩:=hf
 all_goals
  go_in;go_upto_region 1 with fail;refine Jy λX b r s t=>?_
  have h:w.heap.size≠w.heap.size+1+1:=aK
  have i:w.heap.size+1≠w.heap.size+1+1:=aK
  have j:=t.lt;have a:=Aw (aV X X);have V:=(Q.keep b).keep a;have Y:=(R.keep b).keep a;have Z:=(S.keep b).keep a;have K4:=(T.keep b).keep a
  go_region_held3 (sB λW n=>Kc (r.keep n) (s.keep n))
   (first
    | with_reducible exact Kc (r.keep a) (s.keep a)
    | with_reducible exact Kc ((r.keep a).far3 h _ _ _) ((s.keep a).far3 i _ _ _))
   ((first
     | (have u:=F;(with_reducible refine(L (E.keep f) F p q).mono ?_);rintro e w3 ⟨v3,rfl,h3,x⟩;obtain⟨_,O,n3,c3,P,n4,c4,rfl,rfl,z,y⟩:=h3.op;replace a:=An a x;let⟨r0,r1,r2,f0,f1,f2,lt⟩:=(t.keep a).triple)
     | (have u:=E;(with_reducible refine(M (Y.keep d) (Z.keep d) l m).mono ?_);rintro e w2 ⟨v2,rfl,F,f⟩;replace a:=An a f)
     | ((with_reducible refine(M V K4 k o).mono ?_);rintro e w1 ⟨v1,rfl,E,d⟩;replace a:=An a d)|fail))
  all_goals go_wp2_with fail
  let⟨s0,s1,s2,U⟩:=Dn (w:=w) (t.keep a) z y (aZ j (An (An blD d) f).size) (An b a);exact bR U rfl (by simp[results,results257,results169,go_sem,s0,s1,s2])
theorem Adl:XC 257:=ptx @Anq @Anp (.inl ⟨rfl,rfl,rfl⟩)
end
section
open Go.RowKit Limb
theorem Ajh{o b a:Obj}:Bf ((((w.alloc o).alloc b).alloc a).alloc (.cells h f)) (w+1+1+1) f h:=by
 have c:=Bf.new (((w.alloc o).alloc b).alloc a) f h;simpa using c
theorem Agl{d e i u p x:Value}(h:Bf w c f #[b,j,k,d,l,m])(q:Bf w g f #[o,r,s,y,e,i])(a:Bf w n v #[u,p,x]):(Cq w c 0 b/\Cq w c 1 j/\Cq w c 2 k/\Cq w c 3 d/\Cq w c 4 l/\Cq w c 5 m/\Cq w g 0 o/\Cq w g 1 r/\Cq w g 2 s/\Cq w g 3 y/\Cq w g 4 e/\Cq w g 5 i)/\Cq w n 0 u/\Cq w n 1 p/\Cq w n 2 x:=⟨Kc h q,(a.cell 0).trans rfl,(a.cell 1).trans rfl,(a.cell 2).trans rfl⟩
theorem Anu{f g h k:Nat}(K1:PC g HAdd.hAdd)(K2:SC h)(K3:PC k HSub.hSub)(hf:f=258/\g=321/\h=322/\k=205\/f=171/\g=225/\h=226/\k=170){w:World}{ba bb bt:Nat}{d i r s t:Rat}{vx T S:Value}(Q:PtV w ba vx d i)(R:PtV w bb T r s)(P:Ib w bt S t)(A:RB 100 d)(B:RB 100 i)(C:RB 100 r)(D:RB 100 s)(y:RB 390 t):Calls prog f #[vx,T,S] w (Aei w (d+(r-d)*t) (i+(s-i)*t)):=by
 obtain⟨p1,U,na,ca,V,nb,cb,p2,Y,nc,cc,Z,nd,cd,rfl⟩:=Q.sh;obtain⟨p3,Ae,ne,ce,Af,nf,cf,p4,Ag,ng,cg,Ah,nh,ch,rfl⟩:=R.sh;obtain⟨p5,Ai,ni,ci,Aj,nj,cj,rfl⟩:=P.sh;have L:RB 600 d:=A.le aM;have M:RB 600 i:=B.le aM;have c3:RB 600 r:=C.le aM;have c4:RB 600 s:=D.le aM;have c5:RB 600 t:=y.le aM;have x:RB 201 (r-d):=RB.sub (m:=100) (n:=100) C A;have s2:RB 201 (s-i):=RB.sub (m:=100) (n:=100) D B;have I:RB 600 (r-d):=x.le aM;have J:RB 600 (s-i):=s2.le aM;have u1:RB 600 ((r-d)*t):=(RB.mul (m:=201) (n:=390) x y).le aM;have u2:RB 600 ((s-i)*t):=(RB.mul (m:=201) (n:=390) s2 y).le aM;clear A B C D y x s2;obtain⟨rfl,rfl,rfl,rfl⟩|⟨rfl,rfl,rfl,rfl⟩:=hf
 all_goals
  go_in;go_upto_region 1 with fail;refine Cj (λX=>Be w X/\Bf X w 186 #[.bool p1,.slice U na ca,.slice V nb cb,.bool p2,.slice Y nc cc,.slice Z nd cd]/\Bf X (w+1) 186 #[.bool p3,.slice Ae ne ce,.slice Af nf cf,.bool p4,.slice Ag ng cg,.slice Ah nh ch]/\Bf X (w+1+1) 184 #[.bool p5,.slice Ai ni ci,.slice Aj nj cj]/\Bf X (w+1+1+1) 186 #[.bool false,.slice none 0 0,.slice none 0 0,.bool false,.slice none 0 0,.slice none 0 0]) ⟨Ao (Ao (Ao blA)),Bf.alloc (Bf.alloc (Bf.alloc (Bf.new _ _ _) _) _) _,Bf.alloc (Bf.alloc (Bf.new2 _ _ _ _) _) _,Bf.alloc (Bf.new3 _ _ _ _ _) _,Ajh⟩ ?_;rintro X ⟨c,F,G,j,z⟩;have o:w.heap.size≠w.heap.size+1+1+1:=aK
  have p:w.heap.size+1≠w.heap.size+1+1+1:=aK
  have q:w.heap.size+1+1≠w.heap.size+1+1+1:=aK
  have u:=z.lt;have a:=Aw (aV X X);have K:=(Q.keep c).keep a;have KB:=(R.keep c).keep a;have KT:=(P.keep c).keep a
  go_region_held3 (sB λW h=>Agl (F.keep h) (G.keep h) (j.keep h))
   (first
    | with_reducible exact Agl (F.keep a) (G.keep a) (j.keep a)
    | with_reducible exact Agl ((F.keep a).far6 o _ _ _ _ _ _) ((G.keep a).far6 p _ _ _ _ _ _) ((j.keep a).far6 q _ _ _ _ _ _))
   ((first
     | (have cz:=O;(with_reducible refine(K1 ((K.keep b).keep l) O L M u1 u2).mono ?_);rintro e w3 ⟨v3,rfl,E,H⟩;obtain⟨p6,B1,n1,k1,B2,n2,k2,p7,B3,n3,k3,B4,n4,k4,rfl⟩:=E.sh;replace a:=An a H;obtain⟨r0,r1,r2,r3,r4,r5⟩:=cells6 (z.keep a);obtain⟨f0,f1,f2,f3,f4,f5,cx⟩:=fq (z.keep a))
     | (have cy:=N;(with_reducible refine(K2 N (KT.keep b) I J c5).mono ?_);rintro e w2 ⟨v2,rfl,O,l⟩;replace a:=An a l)
     | ((with_reducible refine(K3 KB K c3 c4 L M).mono ?_);rintro e w1 ⟨v1,rfl,N,b⟩;replace a:=An a b)|fail))
  all_goals go_wp2_with fail
  obtain⟨hZ,HR⟩:=K8 (w:=w) (z.keep a) E.ab.1 E.ab.2 (aZ u (An (An blD b) l).size) (An c a);obtain⟨s0,x,s2,s3,s4,s5⟩:=cells6 hZ;exact bR HR rfl (by simp[results,results258,results171,go_sem,s0,x,s2,s3,s4,s5])
def pon:=@Anu 258 321 322 205 @Aoy @Aja @Ai9 (.inl ⟨rfl,rfl,rfl,rfl⟩)
end
section
open Go.RowKit Limb
theorem pof(x y:Int)(H : -4611686018427387904<=x)(I:x<=4611686018427387904)(J : -4611686018427387904<=y)(K:y<=4611686018427387904):Calls prog 259 #[x,y] w (Aei w (x:Rat) (y:Rat)):=by
 let⟨zx,h⟩:=gN ((x:Rat):Rat)
 let⟨zy,i⟩:=gN ((y:Rat):Rat)
 have u:=Ar h;have A:=Ar i;rw[h,i];clear h i;go_in;go_upto_region 1 with fail;refine Bq λX o l=>?_
 have k:=l.lt
 go_upto_region 2 with (go_at_call 323;refine aF (rof x H I) λw1 v1 f j=>?_;rw[u.out]at f;obtain⟨T,q,Q,C,r,R,D,rfl⟩:=f.sh)
 refine Bq λY d L=>?_
 go_upto_region 3 with (go_at_call 323;refine aF (rof y J K) λw2 v2 g c=>?_;rw[A.out]at g;obtain⟨U,s,S,E,t,n4,F,rfl⟩:=g.sh)
 have n:=An (An j d) c;refine Bq λZ b M=>?_
 have a:=An n b;have m:=(L.keep c).keep b;obtain⟨a0,a1,a2,-,-,-,-⟩:=m.triple;obtain⟨b0,b1,b2,-,-,-,-⟩:=M.triple;obtain⟨r0,r1,r2,r3,r4,r5⟩:=cells6 (l.keep a);obtain⟨f0,f1,f2,f3,f4,f5,G⟩:=fq (l.keep a);have O:=((f.keep d).keep c).keep b;have p:X.heap.size<=Y.heap.size:=(An j d).size;have P:=(g.keep b).lower p;go_wp2;obtain⟨N,B⟩:=K8 (w:=w) (l.keep a) O P k (hw:=aA) (An o a);obtain⟨V,W,s2,s3,s4,s5⟩:=cells6 N;exact bR B rfl (by simp[results,results259,go_sem,V,W,s2,s3,s4,s5])
def inC(z:Int):Bool:=decide (-1048576<=z/\z<=1048576)
theorem lv(n:Int)(d:Nat)(a:0<d):(rnd n d).natAbs<=2*n.natAbs+d:=by
 unfold rnd;have:=Nat.div_le_self (2*n.natAbs+d) (2*d);generalize (2*n.natAbs+d) / (2*d)=k at *
 split<;>omega
theorem Adm{w:World}{x:Rat}{vx:Value}(o:Ib w c vx x)(k:RB 600 x):Calls prog 260 #[vx] w λe C=>∃n,e=.returned (.tuple #[.int .i64 n,.bool (inC (rnd x.num x.den))])/\(inC (rnd x.num x.den)=true->n=rnd x.num x.den)/\Be w C:=by
 obtain⟨L,J,rfl,v,j⟩:=id o;obtain⟨D,M,I,rfl⟩:=v.sl;obtain⟨E,N,K,rfl⟩:=j.sl
 have i:Sm (rnd x.num x.den).natAbs:=by
  refine(F7 (m:=600+2) ?_).le (lv x.num x.den x.den_pos);have:=S6 (m:=600) k.1 k.2
  rwa [<-Nat.two_mul] at this
 generalize B:decide (x.num<0)=p at o ⊢;let⟨z,s⟩:=gN (rnd x.num x.den)
 have y:=Ar s;rw[s]at i ⊢;clear B s v j;go_in;go_upto_region 1 with fail;refine Bq λX g A=>?_
 obtain⟨F,G,H,-,-,-,-⟩:=A.triple
 go_upto_region 2 with (first
  | (go_at_call 324;refine(Aju u i).mono ?_;rintro e Q ⟨n,ok,rfl,f,d,r⟩)
  | (go_at_call 325;refine aF (Ai3 (o.keep g) k) λP O u q=>?_;rw[y.out]at u))
 have a:=An (An g q) r;cases ok with
 | false =>
   have b:Hid (inC z=false):=Ar (by
    have:=d rfl;unfold inC;exact decide_eq_false aK)
   clear f d;go_wp2
   go_ret2
   exact⟨n,by rw[b.out];rfl,(λh=>by rw[b.out]at h;cases h),a⟩
 | true =>
   obtain rfl:=f rfl;have l:Hid (inC n=(decide (-1048576<=n)&&decide (n<=1048576))):=Ar (by unfold inC;exact Bool.decide_and _ _);clear f d;by_cases c1 : -1048576<=n
   .by_cases t:n<=1048576
    .have b:Hid (inC n=true):=Ar (by rw[l.out];simp[c1,t]);go_wp2
     go_ret2
     exact⟨n,by rw[b.out];rfl,(λ_=>rfl),a⟩
    have b:Hid (inC n=false):=Ar (by rw[l.out];simp[t]);go_wp2
    go_ret2
    exact⟨n,by rw[b.out];rfl,(λ_=>rfl),a⟩
   have b:Hid (inC n=false):=Ar (by rw[l.out];simp[c1]);go_wp2
   go_ret2
   exact⟨n,by rw[b.out];rfl,(λ_=>rfl),a⟩
def Nf(a b:Int):(Int×Int)×Int:=if inC a&&inC b then ((a,b),0) else ((0,0),3)
theorem Amb{w:World}{x:Rat}{vx:Value}(hX:PtV w c vx x e)(U:RB 600 x)(A:RB 600 e)(m n:Int)(q:rnd x.num x.den=m)(r:rnd e.num e.den=n):Calls prog 204 #[vx] w (Bz w (.tuple #[.agg #[(Nf m n).1.1,(Nf m n).1.2],(Nf m n).2])):=by
 obtain⟨M1,D1,M2,D2,rfl,D,E,F,G⟩:=hX;obtain⟨M,na,V,rfl⟩:=D.sl;obtain⟨N,nb,W,rfl⟩:=E.sl;obtain⟨O,nc,Y,rfl⟩:=F.sl;obtain⟨P,nd,Z,rfl⟩:=G.sl;let⟨p1,k⟩:=gN (decide (x.num<0))
 let⟨p2,l⟩:=gN (decide (e.num<0))
 have S:Ib w c (.agg #[.bool p1,.slice M na V,.slice N nb W]) x:=⟨_,_,by rw[k],D,E⟩;have T:Ib w c (.agg #[.bool p2,.slice O nc Y,.slice P nd Z]) e:=⟨_,_,by rw[l],F,G⟩;have Q:=Ar q;have R:=Ar r;rw[k,l];clear k l D E F G q r;go_in;go_upto_region 1 with fail;refine Eo λX h J hR=>?_
 let⟨a0,a1,a2,a3,a4,a5⟩:=cells6 J;let⟨H,i⟩:=gN (inC m)
 let⟨I,j⟩:=gN (inC n)
 have u:=Ar i;have y:=Ar j;have z:Hid (Nf m n=if H&&I then ((m,n),0) else ((0,0),3)):=Ar (by unfold Nf;rw[i,j]);clear i j
 go_upto_region 3 with (first
  | (go_at_call 260;have ad:=a;refine aF (Adm ((T.keep h).keep f) A) λw2 L d C=>?_;rw[R.out,y.out]at *)
  | (go_at_call 260;refine aF (Adm (S.keep h) U) λw1 K a f=>?_;rw[Q.out,u.out]at *;let⟨b0,b1,b2,b3,b4,b5⟩:=cells6 (J.keep f)))
 have o:=An f C;have b:=hR.keep o;let⟨r0,r1,f0,f1,lt⟩:=b.pair;have g:=An h o;cases H with
 | true =>
   obtain rfl:=a rfl;cases I with
   | true =>
     obtain rfl:=d rfl;clear a d;obtain⟨s,t,-,-,-⟩:=Bf.pair ((b.set_ 0 K).set_ 1 L);go_wp2;exact cB (v:=.tuple #[.agg #[K,L],.int .i64 0]) (by simp[results,results204,go_sem,s,t]) rfl ⟨by rw[z.out];rfl,Ba (Ba g (p:=⟨w+1,0,none⟩) aL) (p:=⟨w+1,1,none⟩) aL⟩
   | false =>
     clear a d;obtain⟨s,t,-,-,-⟩:=Bf.pair ((b.set_ 0 (.int .i64 0)).set_ 1 (.int .i64 0));go_wp2;exact cB (v:=.tuple #[.agg #[.int .i64 0,.int .i64 0],.int .i64 3]) (by simp[results,results204,go_sem,s,t]) rfl ⟨by rw[z.out];rfl,Ba (Ba g (p:=⟨w+1,0,none⟩) aL) (p:=⟨w+1,1,none⟩) aL⟩
 | false =>
   clear a d;obtain⟨s,t,-,-,-⟩:=Bf.pair ((b.set_ 0 (.int .i64 0)).set_ 1 (.int .i64 0));go_wp2;exact cB (v:=.tuple #[.agg #[.int .i64 0,.int .i64 0],.int .i64 3]) (by simp[results,results204,go_sem,s,t]) rfl ⟨by rw[z.out];rfl,Ba (Ba g (p:=⟨w+1,0,none⟩) aL) (p:=⟨w+1,1,none⟩) aL⟩
end
end Go.Proofs.YtboghahlhmnblaaGreat

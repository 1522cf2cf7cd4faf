/- Lean texts of the claim. -/
import Derived.Test.YtlogblbfbihleaaGreatZr10
namespace Go.Proofs.YtlogblbfbihleaaGreat
set_option linter.all false
set_option maxRecDepth 100000
set_option maxHeartbeats 0
open Go.RowKit
variable{a:Value}{b:World}{e:Nat}
section
open Go.RowKit Limb
theorem Adf(x:Int):sg (!(decide (x<0))) x.natAbs = -x:=by unfold sg;by_cases h:x<0<;>simp[h]<;>omega
theorem Iv{w:World}  {t:TypeId} {b c:Value} (d:Bf w e t #[a,b,c]):Cq w e 0 a/\Cq w e 1 b/\Cq w e 2 c:=⟨(d.cell 0).trans rfl,(d.cell 1).trans rfl,(d.cell 2).trans rfl⟩
theorem Aow{w:World}  {x:Rat} {vx:Value} (hX:Ib w e vx x) (T:RB 600 x):Calls Tryz.prog 268 #[vx] w (Xi w (-x)):=by
 obtain⟨p,H,nx,V,J,ox,ex,rfl,F,hx,m⟩:=hX.op;let⟨q,o⟩:=Qe T;have k:=x.den_nz;have C:=Ar (Adf x.num);let⟨z,B⟩:=gN (-x)
 have K:Hid (mkRat (-x.num) x.den=z):=Ar (by rw[<-Rat.neg_mkRat,Rat.mkRat_self,B]);rw[B];clear B;rw[F]at C;have r:Sm (-x.num).natAbs:=by rw[Int.natAbs_neg];exact q
 clear F;go_enter Tryz.func268,Tryz.ntmps268;go_upto_region 1 with fail;refine Eo λX b d j=>?_
 have g:w.heap.size≠w.heap.size+1:=by omega
 have i:w.heap.size+1≠w.heap.size:=by omega
 obtain⟨p0,p1,p2,-,-,-,-⟩:=d.triple
 go_upto_region 2 with (go_at_call 192;refine rR (Yb (m.keep b) o k) λw1 c=>?_;let⟨M,N,O,P,Q,R,S⟩:=(d.keep c).triple)
 refine Cj (λY=>Be w Y/\Bf Y w.heap.size 171 #[.bool p,.slice H nx V,.slice J ox ex]/\Bf Y (w.heap.size+1) 171 #[.bool false,.slice none 0 0,.slice none 0 0]) ⟨Dw (An b c) (Nat.le_refl _) _ _ _,(d.keep c).set3,(j.keep c).far3 i _ _ _⟩ ?_;clear b c d j p0 p1 p2 M N O P Q R S;rintro X ⟨b,d,j⟩;have l:=j.lt;have a:=Aw (Below.refl X.heap.size X);have A:=(hx.keep b).keep a;have n:=(m.keep b).keep a
 go_region_held3 (sB λW h=>Iv (d.keep h))
  (first
   | with_reducible exact Iv (d.keep a)
   | with_reducible exact Iv ((d.keep a).far3 g _ _ _))
  ((first
    | (go_at_call 260;have ad:=s;refine(V7 s (n.keep f) r o k).mono ?_;rintro D w3 ⟨v3,rfl,E,t⟩;rw[K.out]at E;obtain⟨_,G,n3,U,I,o3,Z,rfl,rfl,y,u⟩:=E.op;replace a:=An a t;let⟨r0,r1,r2,f0,f1,f2,lt⟩:=(j.keep a).triple)
    | (go_at_call 316;refine(Apk p A q).mono ?_;rintro D w2 ⟨v2,rfl,s,f⟩;rw[C.out]at s;replace a:=An a f)))
 all_goals go_wp2_with fail
 let⟨s0,s1,s2,L⟩:=Dn (w:=w) (j.keep a) y u (Nat.lt_of_lt_of_le l (An (Aw (Below.refl X.heap.size X)) f).size) (by omega) (An b a);exact bR L rfl (by simp[results,Tryz.results268,go_sem,s0,s1,s2])
theorem Anp:RC 209 HSub.hSub:=by
 intro w Z bb x y vx vy D E J g;obtain⟨p,T,nx,cx,V,ox,ex,rfl,-,hx,N⟩:=D.op;obtain⟨q,U,ny,cy,Y,oy,ey,rfl,-,hy,O⟩:=E.op;go_in;go_upto_region 1 with fail;refine Jy λX c l m n=>?_
 have d:w.heap.size≠w.heap.size+1+1:=by omega
 have f:w.heap.size+1≠w.heap.size+1+1:=by omega
 have i:=n.lt;let⟨z,A⟩:=gN (x-y)
 have H:Hid (x + -y=z):=Ar (by rw[<-A];exact(Rat.sub_eq_add_neg x y).symm);have j:=Ar A;clear A;have k:RB 600 (-y):=g.neg;have a:=Aw (Below.refl X.heap.size X);have o:=(D.keep c).keep a;have r:=(E.keep c).keep a
 go_region_held3 (sB λW h=>Kf (l.keep h) (m.keep h))
  (first
   | with_reducible exact Kf (l.keep a) (m.keep a)
   | with_reducible exact Kf ((l.keep a).far3 d _ _ _) ((m.keep a).far3 f _ _ _))
  ((first
    | (go_at_call 267;have M:=B;refine(Ans (o.keep b) B J k).mono ?_;rintro e w3 ⟨v3,rfl,C,s⟩;rw[H.out]at C;obtain⟨_,F,P,K,G,Q,L,rfl,rfl,u,t⟩:=C.op;replace a:=An a s;let⟨r0,r1,r2,f0,f1,f2,lt⟩:=(n.keep a).triple)
    | (go_at_call 268;refine(Aow r g).mono ?_;rintro e w2 ⟨v2,rfl,B,b⟩;replace a:=An a b)))
 all_goals go_wp2_with fail
 let⟨R,S,s2,I⟩:=Dn (w:=w) (n.keep a) u t (Nat.lt_of_lt_of_le i (An (Aw (Below.refl X.heap.size X)) b).size) (by omega) (An c a);exact bR (by rw[j.out];exact I) rfl (by simp[results,Tryz.results209,go_sem,R,S,s2])
end
end Go.Proofs.YtlogblbfbihleaaGreat

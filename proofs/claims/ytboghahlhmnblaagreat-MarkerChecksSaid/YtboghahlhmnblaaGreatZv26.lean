/- Lean texts of the claim. -/
import Derived.Test.YtboghahlhmnblaaGreatZv21
import Derived.Test.YtboghahlhmnblaaGreatZv22
namespace Go.Proofs.YtboghahlhmnblaaGreat
set_option linter.all false
set_option maxRecDepth 100000
set_option maxHeartbeats 0
open Go.RowKit Go.Proofs.Tryz
variable{a:World}{b:List EdgeP}{c:List Int}{e:Nat}{f:Int}{g:List SgR}{h:Value}{i:LP}{x:Int}{wd:List Int}{k:Nat}{Z:Prop}{w:World}
section
open Go.RowKit Limb
theorem al{w:World}{x:Rat}{vx:Value}(O:Ib w e vx x)(v m:Int)(V:RB 600 x)(U:RB 600 ((v:Int):Rat))(t:RB 600 (x-(v:Rat)))(z:rnd (x-(v:Rat)).num (x-(v:Rat)).den=f)(hv:Pz v)(h0:0<=m:=by omega)(hm:m<=1000000:=by omega):Calls prog 120 #[vx,v,m] w (Bz w (.tuple #[(if -m<=f/\f<=m then v+f else 0:Int),.bool (decide (-m<=f/\f<=m))])):=by
 have i:=O;obtain⟨mx,dx,rfl,P,s⟩:=O;obtain⟨R,nx,Y,rfl⟩:=P.sl;obtain⟨S,ox,Z,rfl⟩:=s.sl;generalize hp:decide (x.num<0)=p at i ⊢;clear hp P s
 have Q:Sm f.natAbs:=by
  rw[<-z];refine F7 (m:=600+2) ?_;exact eG (lv _ _ (Nat.pos_of_ne_zero (x-(v:Rat)).den_nz)) (by rw[Nat.two_mul];exact S6 (m:=600) t.1 t.2)
 unfold Pz at hv;let⟨r,y⟩:=gN (if -m<=f/\f<=m then v+f else 0)
 let⟨b,u⟩:=gN (decide (-m<=f/\f<=m))
 have B:=Ar (λ(h:¬(-m<=f/\f<=m))=>show r=0/\b=false by rw[<-y,<-u,if_neg h,decide_eq_false h];exact⟨rfl,rfl⟩);have T:=Ar (λ(h : -m<=f/\f<=m)=>show r=v+f/\b=true by rw[<-y,<-u,if_pos h,bV h];exact⟨rfl,rfl⟩);rw[y,u];clear y u;let⟨d,G⟩:=gN (x-(v:Rat):Rat)
 rw[G]at z t;have J:=Ar G;have L:=Ar z;clear G z;go_in;go_upto_region 1 with fail;refine Bq λX q N=>?_
 have a:=Aw (aV X X);have K:=Ar λ(W:World) (h:Be X W)=>(i.keep q).keep h
 go_region_held3 (λC=>Cq C w 0 (.bool p)/\Cq C w 1 (.slice R nx Y)/\Cq C w 2 (.slice S ox Z))
  (with_reducible exact Iv (N.keep a))
  ((first
    | (go_at_call 173;refine(Ajt F Q).mono ?_;rintro D w5 ⟨A,ok,rfl,H,I,o⟩;replace a:=An a o)
    | (go_at_call 174;refine aF (Ajq E t) λw4 v4 F n=>?_;rw[L.out]at F;replace a:=An a n)
    | (go_at_call 175;refine aF (Amq (K.out _ a) M V U) λw3 v3 E l=>?_;rw[J.out]at E;replace a:=An a l)
    | (go_at_call 176;refine aF (Adw v) λw2 v2 M j=>?_;replace a:=An a j)))
 have g:=An q a;have W1:IntKind.i64.wrap (-m) = -m:=aD
 clear N K J L j l n o a M E F Q;cases ok with
 | false =>
   have k:=I rfl;have c:=Ar (B.out aK);clear H I k;go_wp2
   go_ret2
   exact⟨by rw[c.out.1,c.out.2];rfl,g⟩
 | true =>
   obtain rfl:=H rfl;clear H I;by_cases g1:m<A
   .have c:=Ar (B.out aK);go_wp2
    go_ret2
    exact⟨by rw[c.out.1,c.out.2];rfl,g⟩
   by_cases g2:A < -m
   .have c:=Ar (B.out aK);go_wp2
    go_ret2
    exact⟨by rw[c.out.1,c.out.2];rfl,g⟩
   have c:=Ar (T.out aK);have W2:IntKind.i64.wrap (v+A)=v+A:=aD
   go_wp2
   go_ret2
   exact⟨by rw[c.out.1,c.out.2];rfl,g⟩
theorem spt(D:Pz x)(j:Pz f):Calls prog 118 #[.agg #[x,f]] w (Aei w (x:Rat) (f:Rat)):=by
 unfold Pz at D j;go_in;go_upto_region 1 with fail;refine Eo λX l E k=>?_
 obtain⟨p0,p1⟩:=Jg E;let⟨O,h⟩:=gN ((x:Rat):Rat)
 let⟨P,i⟩:=gN ((f:Rat):Rat)
 have n:=Ar h;have o:=Ar i;have m:=k.lt;clear h i
 go_wp2_with (go_at_call 172;refine aF (Apf x f aK aK aK aK) λw2 v2 j a=>?_;rw[n.out,o.out]at j;obtain⟨Z,Q,m2,R,rfl,d,b,g,c⟩:=j;obtain⟨p,G,u,rfl⟩:=d.sl;obtain⟨q,H,y,rfl⟩:=b.sl;obtain⟨r,I,A,rfl⟩:=g.sl;obtain⟨s,n4,B,rfl⟩:=c.sl;obtain⟨r0,r1,r2,r3,r4,r5⟩:=cells6 (k.keep a);obtain⟨S,T,U,V,W,Y,C⟩:=fq (k.keep a))
 rw[n.out,o.out];obtain⟨F,t⟩:=K8 (w:=w) (k.keep a) ⟨_,_,rfl,d,b⟩ ⟨_,_,rfl,g,c⟩ m (An l a);obtain⟨J,K,s2,L,M,N⟩:=cells6 F;exact bR t rfl (by simp[results,results118,go_sem,J,K,s2,L,M,N])
end
section
open Go.RowKit Limb
theorem Ai0{a:Nat}{t:TypeId}{b c d o f m g i j k p l n:Value}(H:Bf w e t #[h,b,c,d,o,f,m])(K:Bf w a t #[g,i,j,k,p,l,n]):
 Cq w e 0 h/\Cq w e 1 b/\Cq w e 2 c/\Cq w e 3 d/\Cq w e 5 f/\Cq w e 6 m /\
 Cq w a 0 g/\Cq w a 1 i/\Cq w a 2 j/\Cq w a 3 k/\Cq w a 5 l/\Cq w a 6 n:=by
 obtain⟨q,r,s,u,-,v,x⟩:=pc7 H;obtain⟨y,z,A,B,-,C,D⟩:=pc7 K;exact⟨q,r,s,u,v,x,y,z,A,B,C,D⟩
theorem Vr{x a b:Int}(c:e=w.heap.size):SpS (w.alloc (.cells #[x,f,a,b] 65)) (some ⟨e,0,none⟩) 2 [(x,f),(a,b)]:=by subst c;exact Kv
end
section
open Go.RowKit Limb
theorem Al5(a b:SgR)(w:World)(a1:Pz b.a.1)(a6:Pz b.a.2)(ha:(Fj a).ok)(hb:(Fj b).ok):Calls prog 67 #[.agg (sgC a),.agg (sgC b)] w (Aek w (C9 b.a (Fj a) (Fj b))):=by
 let⟨L,hL⟩:=gN (C9 b.a (Fj a) (Fj b))
 rw[hL];let⟨J,bb⟩:=gN (Ajg b.a (Fj a) (Fj b))
 let⟨K,bc⟩:=gN (Ajf b.a (Fj a) (Fj b))
 let⟨N,hN⟩:=gN ((crN (Fj a) (Fj b):Int):Rat)
 let⟨D,hD⟩:=gN ((crD (Fj a) (Fj b):Int):Rat)
 have T:D.num=crD (Fj a) (Fj b):=by rw[<-hD];rfl
 have ad:D.num=0->L=[((Fj a).tx,(Fj a).ty),((Fj b).fx,(Fj b).fy)]:=λh=>by rw[<-hL];unfold C9;rw[if_pos (T.symm.trans h)]
 have j:D.num≠0->L=if (inC J&&inC K)&&wS (J,K) (4*max (Fj a).wd (Fj b).wd+4) then [(b.a.1+J,b.a.2+K)] else [((Fj a).tx,(Fj a).ty),((Fj b).fx,(Fj b).fy)]:=λh=>by rw[<-hL];unfold C9;rw[if_neg (by rw[<-T];exact h),bb,bc]
 have GX:D.num≠0->rnd (((Fj a).fx:Rat)+(((Fj a).tx:Rat)-((Fj a).fx:Rat))*(N / D)-(b.a.1:Rat)).num (((Fj a).fx:Rat)+(((Fj a).tx:Rat)-((Fj a).fx:Rat))*(N / D)-(b.a.1:Rat)).den=J:=λh=>by
  rw[T]at h;rw[<-hN,<-hD,Nq _ _ _ _ _ h,<-bb];exact Yd aK
 have GY:D.num≠0->rnd (((Fj a).fy:Rat)+(((Fj a).ty:Rat)-((Fj a).fy:Rat))*(N / D)-(b.a.2:Rat)).num (((Fj a).fy:Rat)+(((Fj a).ty:Rat)-((Fj a).fy:Rat))*(N / D)-(b.a.2:Rat)).den=K:=λh=>by
  rw[T]at h;rw[<-hN,<-hD,Nq _ _ _ _ _ h,<-bc];exact Yd aK
 have ak:=(ua (Fj a) (Fj b)).trans hN;have ai:=(ub (Fj a) (Fj b)).trans hD;clear hL bb bc hN hD T;obtain⟨⟨px,py⟩,⟨pX,pY⟩,pw,⟨pu,pv⟩⟩:=a;obtain⟨⟨qx,qy⟩,⟨qX,qY⟩,qw,⟨qu,qv⟩⟩:=b;unfold Fj at ad j GX GY ak ai ha hb;unfold sgC;dsimp only at ad j GX GY ak ai a1 a6 ha hb ⊢;obtain⟨o1,o2,o3,o4,iy,j6⟩:=ha;obtain⟨o5,o6,o7,o8,j7,j8⟩:=hb;dsimp only at o1 o2 o3 o4 iy j6 o5 o6 o7 o8 j7 j8;have r1:=Nn o1;have r2:=Nn o2;have r3:=Nn o3;have r4:=Nn o4;have r5:=Nn o5;have r6:=Nn o6;have r7:=Nn o7;have r8:=Nn o8;have u1:=o1;have u2:=o2;have u3:=o3;have u4:=o4;have u5:=o5;have u6:=o6;have u7:=o7;have u8:=o8;unfold Pz at u1 u2 u3 u4 u5 u6 u7 u8;have ho:0<=max pw qw/\max pw qw<=1000:=aK
 let⟨G,Z⟩:=gN (max pw qw)
 rw[Z]at ho j;have fr:=Ar Z;have HN:=Ar ak;have HD:=Ar ai;have H0:=Ar ad;have H1:=Ar j;have fa:=Ar GX;have fb:=Ar GY;let⟨kk,hk⟩:=gN ((if D.num=0 then 10 else 0):Int)
 have HK:=Ar hk;clear Z ak ai ad j GX GY hk;have W1:IntKind.i64.wrap (4*G)=4*G:=aD
 have W2:IntKind.i64.wrap (4*G+4)=4*G+4:=aD
 go_in;go_upto_region 1 with fail;refine Eo λX R hP hQ=>?_
 let⟨p0,p1,p2,p3,p4,p5,p6⟩:=pc7 hP;let⟨q0,q1,q2,q3,q4,q5,q6⟩:=pc7 hQ;go_upto_region 2 with fail;refine Bq λY b3 hV=>?_
 replace hP:=hP.keep b3;replace hQ:=hQ.keep b3;replace R:=An R b3;let⟨GV,c5⟩:=gN X.heap.size
 have c6:=hV.lt;rw[c5]at hV c6 ⊢;clear p0 p1 p2 p3 p4 p5 p6 q0 q1 q2 q3 q4 q5 q6 b3 c5;let⟨X,ca⟩:∃W:World,W=Y:=⟨_,rfl⟩
 rw[<-ca]at hP hQ R hV c6 ⊢;clear ca;let⟨p0,p1,p2,p3,p4,p5,p6⟩:=pc7 hP;let⟨q0,q1,q2,q3,q4,q5,q6⟩:=pc7 hQ;have od:=hP.lt;go_upto_region 3 with fail;go_cut [7,8] λu v W=>∃g p A n c B k d q C m l E o f,u=.pointer (some ⟨g,0,none⟩)/\v=kk/\(D.num≠0->PtV W 0 (.agg #[.bool p,.slice A n c,.slice B k d,.bool q,.slice C m l,.slice E o f]) (((px+pu:Int):Rat)+(((pX+pu:Int):Rat)-((px+pu:Int):Rat))*(N / D)) (((py+pv:Int):Rat)+(((pY+pv:Int):Rat)-((py+pv:Int):Rat))*(N / D)))/\Bf W g 186 #[.bool p,.slice A n c,.slice B k d,.bool q,.slice C m l,.slice E o f]/\Be X W
 case first =>
  go_region_held3 (sB λW h=>Ai0 (hP.keep h) (hQ.keep h))
   (exact Ai0 (hP.keep BI.h) (hQ.keep BI.h))
   ((first
     | (go_at_call 117;have ob:=h8;refine(Amt (h2.keep BI.h) (h4.keep BI.h) (h6.keep BI.h) (h8.keep BI.h) r1 r2 r3 r4 r5 r6 r7 r8 HN.out HD.out).mono ?_;rintro e w9 ⟨p5,B1,n1,c1,B2,n2,c2,q5,B3,n3,c3,B4,n4,c4,rfl,h9,cb⟩;rw[HK.out];have oc:=BI.go (a:=X) cb;(try (have S:=KI.go (t:=186) cb;let⟨j0,j1,j2,j3,j4,j5⟩:=cells6 S.h;let⟨k0,k1,k2,k3,k4,k5,kl⟩:=fq S.h)))
     | (go_at_call 118;have oa:=P;refine aF (spt o7 o8) λw8 v8 h8 V=>?_;replace h8:=h8.lower aB;have mr:=BI.go (a:=X) V;have mf:=BI.go (a:=w2) V;have mm:=BI.go (a:=w4) V;have mo:=BI.go (a:=w6) V;(try have S:=KI.go (t:=186) V))
     | (go_at_call 119;have o9:=s;refine rR (xg qX qY qu qv _ aK aK aK aK) λw7 P=>?_;have ly:=BI.go (a:=X) P;have lo:=BI.go (a:=w2) P;have lr:=BI.go (a:=w4) P;have lx:=BI.go (a:=w6) P;(try have S:=KI.go (t:=186) P))
     | (go_at_call 118;have c9:=i;refine aF (spt o5 o6) λw6 v6 h6 s=>?_;replace h6:=h6.lower aB;have lk:=BI.go (a:=X) s;have lf:=BI.go (a:=w2) s;have lg:=BI.go (a:=w4) s;(try have S:=KI.go (t:=186) s))
     | (go_at_call 119;have o0:=b0;refine rR (xg qx qy qu qv _ aK aK aK aK) λw5 i=>?_;have lb:=BI.go (a:=X) i;have l6:=BI.go (a:=w2) i;have la:=BI.go (a:=w4) i;(try have S:=KI.go (t:=186) i))
     | (go_at_call 118;have nz:=aw;refine aF (spt o3 o4) λw4 v4 h4 b0=>?_;replace h4:=h4.lower aB;have l5:=BI.go (a:=X) b0;have l4:=BI.go (a:=w2) b0;(try have S:=KI.go (t:=186) b0))
     | (go_at_call 119;have ny:=U;refine rR (xg pX pY pu pv _ aK aK aK aK) λw3 aw=>?_;have l3:=BI.go (a:=X) aw;have l2:=BI.go (a:=w2) aw;(try have S:=KI.go (t:=186) aw))
     | (go_at_call 118;have hj:=O;refine aF (spt o1 o2) λw2 v2 h2 U=>?_;replace h2:=h2.lower aB;have l1:=BI.go (a:=X) U;(try have S:=KI.go (t:=186) U))
     | (go_at_call 119;refine(xg px py pu pv _ aK aK aK aK).mono ?_;rintro e w1 ⟨rfl,O⟩;have l0:=BI.go (a:=X) O;(try have S:=KI.go (t:=186) O))))
  all_goals go_wp2
  all_goals go_meet
  all_goals (first
   | with_reducible exact⟨_,p5,B1,n1,c1,B2,n2,c2,q5,B3,n3,c3,B4,n4,c4,rfl,rfl,λh=>((h9 h).lower aB).keep blA,Bf.new _ _ _,BI.h⟩
   | with_reducible exact⟨_,p5,B1,n1,c1,B2,n2,c2,q5,B3,n3,c3,B4,n4,c4,rfl,rfl,λh=>((h9 h).lower aB).farB6 S.h Aht _ _ _ _ _ _,S.h.set6,BI.h⟩)
 obtain⟨g,b1,B1,n1,c1,B2,n2,c2,b2,B3,n3,c3,B4,n4,c4,rfl,rfl,I,hG,F⟩:=hcut;by_cases hd:D.num=0
 case' pos =>
  obtain rfl:kk=10:=HK.out.symm.trans (if_pos hd);have M:=Ar (H0.out hd);clear I hd;have KG:=Ar λ(W:World) (h:Be wc W)=>Ai0 (hP.keep (An F h)) (hQ.keep (An F h));have H:=Aw (aV wc wc);have Q:=An R F;go_upto_region 9 with fail
 case' neg =>
  obtain rfl:kk=0:=HK.out.symm.trans (if_neg hd);replace I:=I hd;have j:=H1.out hd;have gx:=fa.out hd;have gy:=fb.out hd;have tw:∀{x y:Rat},RB 22 x->RB 22 y->RB 45 (x-y):=λh k=>RB.sub (m:=22) (n:=22) h k
  have tT:=RB.div (m:=181) (n:=181) (HN.out ▸ RB.x r5 r1 r8 r6 r6 r2 r7 r5) (HD.out ▸ RB.x r3 r1 r8 r6 r4 r2 r7 r5) hd;have b8:=(RB.add (m:=22) r1 ((tw r3 r1).mul tT)).le (show _<=600 by decide);have b6:=(RB.sub (n:=22) (RB.add (m:=22) r1 ((tw r3 r1).mul tT)) (Nn a1)).le (show _<=600 by decide);have b9:=(RB.add (m:=22) r2 ((tw r4 r2).mul tT)).le (show _<=600 by decide);have b7:=(RB.sub (n:=22) (RB.add (m:=22) r2 ((tw r4 r2).mul tT)) (Nn a6)).le (show _<=600 by decide);let⟨zx,cc⟩:=gN (((px+pu:Int):Rat)+(((pX+pu:Int):Rat)-((px+pu:Int):Rat))*(N / D):Rat)
  let⟨zy,cd⟩:=gN (((py+pv:Int):Rat)+(((pY+pv:Int):Rat)-((py+pv:Int):Rat))*(N / D):Rat)
  rw[cc]at I gx b8 b6;rw[cd]at I gy b9 b7;have bu:RB 600 (qx:Rat):=(Nn a1).le aM;have bx:RB 600 (qy:Rat):=(Nn a6).le aM;have HX:=Ar λ(W:World) (h:Be wc W)=>I.ab.1.keep h;have HY:=Ar λ(W:World) (h:Be wc W)=>I.ab.2.keep h;have ba:=hV.keep F;have Q:=An R F;let⟨y0,y1,y2,y3,y4,y5⟩:=cells6 hG;let⟨z0,z1⟩:=Jg ba
  have bt:=Ar (show ((inC J&&inC K)&&wS (J,K) (4*G+4))=(decide (-(4*G+4)<=J/\J<=4*G+4)&&decide (-(4*G+4)<=K/\K<=4*G+4)) by
   rw[cZ];unfold inC wS wI;simp;omega)
  let⟨rX,dX,e1,e2,jX⟩:∃r d,(if -(4*G+4)<=J/\J<=4*G+4 then qx+J else 0)=r/\decide (-(4*G+4)<=J/\J<=4*G+4)=d/\(d=true->r=qx+J):=⟨_,_,rfl,rfl,λh=>if_pos (of_decide_eq_true h)⟩
  let⟨rY,dY,f1,f2,jY⟩:∃r d,(if -(4*G+4)<=K/\K<=4*G+4 then qy+K else 0)=r/\decide (-(4*G+4)<=K/\K<=4*G+4)=d/\(d=true->r=qy+K):=⟨_,_,rfl,rfl,λh=>if_pos (of_decide_eq_true h)⟩
  rw[bt.out,e2,f2]at j;replace j:=Ar j;have K1:=Ar (And.intro e1 e2);have K2:=Ar (And.intro f1 f2);rw[fr.out];clear hd I cc cd tw tT bt e1 e2 f1 f2;cases dX<;>cases dY
  rotate_right
  .obtain rfl:=jX rfl;obtain rfl:=jY rfl;have M:=Ar (j.out.trans (if_pos rfl))
   go_wp2_with (first
    | (go_at_call 120;have c9:=i;refine rR (al (HY.out _ i) qy (4*G+4) b9 bx b7 gy a6) λw6 s=>?_;rw[K2.out.1,K2.out.2])
    | (go_at_call 120;refine(al (HX.out _ bl0) qx (4*G+4) b8 bu b6 gx a1).mono ?_;rintro e w5 ⟨rfl,i⟩;rw[K1.out.1,K1.out.2];let⟨u0',u1',u2',u3',u4',u5'⟩:=cells6 (hG.keep i);let⟨j9,jr⟩:=Jg (ba.keep i)))
   go_ret;exact⟨_,by rw[M.out];rfl,(An Q (An i s)).size,by rw[M.out];exact Yp,Ao (An Q (An i s))⟩
  all_goals
   have M:=Ar (j.out.trans (if_neg aM));clear jX jY
   go_upto_region 9 with (first
    | (go_at_call 120;have c9:=i;refine rR (al (HY.out _ i) qy (4*G+4) b9 bx b7 gy a6) λw6 s=>?_;rw[K2.out.1,K2.out.2])
    | (go_at_call 120;refine(al (HX.out _ bl0) qx (4*G+4) b8 bu b6 gx a1).mono ?_;rintro e w5 ⟨rfl,i⟩;rw[K1.out.1,K1.out.2];let⟨u0',u1',u2',u3',u4',u5'⟩:=cells6 (hG.keep i);let⟨j9,jr⟩:=Jg (ba.keep i)))
   replace F:=An F (An i s);have KG:=Ar λ(W:World) (h:Be w6 W)=>Ai0 (hP.keep (An F h)) (hQ.keep (An F h));have H:=Aw (aV w6 w6);have Q:=An R F
 all_goals
  go_region_held3 (sB KG.out)
   (first|with_reducible exact KG.out _ H|with_reducible exact KG.out _ (Ao H))
   ((first
     | (go_at_call 119;have hj:=O;refine rR (xg qx qy qu qv _ aK aK aK aK) λw2 U=>?_;replace H:=An H U)
     | (go_at_call 119;refine(xg pX pY pu pv _ aK aK aK aK).mono ?_;rintro e w1 ⟨rfl,O⟩;replace H:=An H O)))
  go_wp2;go_ret;exact⟨_,by rw[M.out];rfl,(An Q H).size,by rw[M.out];exact Vr rfl,Ao (An Q H)⟩
end
theorem de(l:LP):∀k,0<k->0<(Cw [] l k).length:=by
 intro k a;induction k with
 | zero=>omega
 | succ k ih =>
   rw[Cw];unfold Om;split
   .simp
   split
   .omega
   simp
def Wf(l:LP):LP:=(Cw [] l l.length).take (I5 (Cw [] l l.length) (Cw [] l l.length).length)
theorem Al1(A:Option Addr)(bd n:Nat)(hn:n<=1000000)(hs:SpS w A n i):Calls prog 68 #[.slice A n bd] w (Vi w (Wf i)):=by
 have HL:=Ar hs.1;have HQ:=Ar λk=>show Cw [] i (k+1)=Om (Cw [] i k) (gt i k) from rfl;have b8:=Ar λk=>de i k;have b7:=Ar λk=>L8 [] i k;have HO:=Ar (show Wf i=(Cw [] i n).take (I5 (Cw [] i n) (Cw [] i n).length) by unfold Wf;rw[hs.1]);have ck:=Ea;go_enter func68,ntmps68;go_upto_region 3 with fail;go_loopw [3,4] (λv c wr=>∃k:Nat,k<=n/\c=k/\OwS wr w v (Cw [] i k)/\Be w wr) λ_ c _=>n-(intOf c).toNat
 case atStart=>exact⟨0,aB,rfl,OwG.nil,bl0⟩
 obtain⟨k,hk,rfl,e,r⟩:=hrel;have C:=b8.out k;have B:=b7.out k;have y:=HQ.out k;let⟨M,hM⟩:=gN (Cw [] i k)
 rw[hM]at e C B y;have T:=Ar hM;clear hM;by_cases a8:k<n
 .obtain⟨b,cn,rfl,cj,hc⟩:=(hs.keep r).at_ a8;let⟨f,D⟩:=hc k a8;let⟨⟨E,F⟩,hp⟩:∃q,gt i k=q:=⟨_,rfl⟩
  rw[hp]at f D y;dsimp only at f D;have H:=Ar y;have B1:(k:Int)<(n:Int):=aK
  have B0:(0:Int)<=(k:Int):=aK
  clear hc hp y;have bp:M.length<=1000000:=by simp at B;omega
  rcases bK k with h0|h0
  .subst h0;obtain rfl:M=[]:=T.out.symm;simp only[eC,bU]at f D;go_upto_region 5 with fail;go_quiet (fail)
   go_wp2_with (at_builtin;refine Dl rfl w [] ((OwG.keep e (Bd bl0 _)).alloc _) wr 1 (E,F) 65 (Bf.new _ _ _) aL (Ao (Bd r _)).size ?_;intro v' w2 P L Y)
   exact⟨⟨0+1,aK,aP,by rw[H.out,T6];exact P,Bk (Ao (Bd r _)) ((OwG.keep e (Bd bl0 _)).alloc _) L⟩,aI⟩
  have W:=C h0;obtain⟨Ap,cp,rfl,K,bs,o⟩:=OwG.form2 e;obtain⟨g,rfl,a6,a7⟩:=o W;let⟨c,j⟩:∃c,M.length=c+1:=⟨M.length-1,aK⟩
  obtain⟨R,S,-,-⟩:=OwS.cells e rfl (show c<M.length by omega);have d:=Ar λ(h:eqS (gt M c) (E,F)=true)=>Qw j h;have l:=Ar λ(h:eqS (gt M c) (E,F)=false)=>T7 j h;let⟨n8,O⟩:=gN M.length
  rw[O]at j K e bp ⊢;have b5:=Ar O;let⟨⟨lx,ly⟩,t⟩:∃q,gt M c=q:=⟨_,rfl⟩
  rw[t]at R S d l;dsimp only at R S;have W3:IntKind.i64.wrap ((n8:Int)-1)=(c:Int):=aD
  have B9:(c:Int)<(n8:Int):=aK
  have B8:¬(k:Int)=0:=aK
  have B7:¬k=0:=aK
  have ec:eqS (E,F) (lx,ly)=eqS (lx,ly) (E,F):=by unfold eqS;dsimp only;rw[Bool.beq_comm (a:=E),Bool.beq_comm (a:=F)]
  clear t O j C o W;cases hd:eqS (lx,ly) (E,F) with
  | true =>
    have I:=d.out hd;rw[hd]at ec;clear d l;go_upto_region 5 with fail;go_quiet (fail)
    go_wp2_with fail;exact aE ⟨by rw[H.out,I];exact OwG.keep e (Bd bl0 _),Bd r _⟩
  | false =>
    have I:=l.out hd;rw[hd]at ec;clear d l;go_upto_region 5 with fail;go_quiet (fail)
    go_wp2_with (at_builtin;refine Dl rfl w M ((OwG.keep e (Bd bl0 _)).alloc _) wr 1 (E,F) 65 (Bf.new _ _ _) (by have:=b5.out;omega) (Ao (Bd r _)).size ?_;intro v' w2 P L Y)
    exact aE ⟨by rw[H.out,I];exact P,Bk (Ao (Bd r _)) ((OwG.keep e (Bd bl0 _)).alloc _) L⟩
 obtain rfl:n=k:=aK
 let⟨np,u⟩:=gN M.length
 have b9:=Ar (show Wf i=M.take (I5 M np) by rw[HO.out,T.out,u]);have bc:Hid (M.take np=M):=Ar (by rw[<-u];exact dR);have b6:=Ar u;rw[u]at B;simp only[List.length_nil,dB]at B;let⟨wb,ai⟩:∃wb:World,wb=wr:=⟨_,rfl⟩
 rw[<-ai]at e r ⊢;clear ai u C;go_upto_region 7 with fail;go_loopw [3] (λv wx=>∃m:Nat,m<=np/\Hid (I5 M m=I5 M np)/\OwS wx w v (M.take m)/\Be w wx) λv _=>Ahl v
 case atStart=>exact⟨np,aA,Ar rfl,by rw[bc.out];exact e,r⟩
 clear e r;obtain⟨m,hm,hT,e,r⟩:=hrel;have N:(M.take m).length=m:=by rw[bC,b6.out];omega
 obtain⟨Ap,cp,rfl,K,bs,o⟩:=OwG.form2 e;have G:=Ar N;rw[N]at e K o ⊢;have U:=Ar λc (f:1<m) (j:m-1=c) D=>Th (l:=M) f j D;have V:=Ar λh=>Xs (l:=M) (m:=m) h;let⟨c,j⟩:=gN (m-1)
 let⟨bb,p⟩:=gN (decide (1<m)&&eqS (gt M c) (gt M 0))
 have x:=Ar p;clear N;go_upto_region 7 with fail;go_cut [47] λv wx=>v=.bool bb/\Be wr wx
 case first =>
  by_cases f:1<m
  .obtain⟨g,rfl,a6,a7⟩:=o aK;obtain⟨R,S,-,-⟩:=OwS.cells e G.out (show c<m by omega);obtain⟨d3,d4,-,-⟩:=OwS.cells e G.out (show 0<m by omega);rw[Aaw (show c<m by omega)]at R S;rw[Aaw (show 0<m by omega)]at d3 d4;rw[eC]at d3 d4;have z:eqS (gt M c) (gt M 0)=bb:=by rw[<-p];simp[f]
   let⟨⟨lx,ly⟩,t⟩:∃q,gt M c=q:=⟨_,rfl⟩
   let⟨⟨fx,fy⟩,a1⟩:∃q,gt M 0=q:=⟨_,rfl⟩
   rw[t]at R S z;rw[a1]at d3 d4 z;dsimp only at R S d3 d4;have W3:=Kr (cX f) j (bB hm aK);have B9:(c:Int)<(m:Int):=aK
   have cb:(0:Int)<(m:Int):=aK
   have b3:((1:Int)<(m:Int))=True:=aO
   have b4:((2:Int)<=(m:Int))=True:=aO
   clear t a1 j p f;go_quiet (fail)
   go_wp2;go_meet;exact⟨rfl,Bd bl0 _⟩
  have z:bb=false:=by rw[<-p];simp[f]
  have b3:((1:Int)<(m:Int))=False:=aO
  have b4:((2:Int)<=(m:Int))=False:=aO
  clear j p f;subst z;go_quiet (fail)
  go_wp2;go_meet;exact⟨rfl,Bd bl0 _⟩
 obtain⟨rfl,J⟩:=hcut;have Q:=OwG.keep e J;have Z:=An r J;clear e r J p;cases hbv:bb with
 | true =>
   rw[hbv]at x;have s:=x.out;simp only[Bool.and_eq_true,decide_eq_true_eq]at s;obtain⟨f,D⟩:=s;obtain⟨g,rfl,a6,a7⟩:=o aK;have W3:=Kr (cX f) j (bB hm aK);have ba:=Ar ((U.out c f j D).symm.trans hT.out);have i1:(0:Int)<=(c:Int):=aK
   have i2:(c:Int)<=(cp:Int):=aK
   have i3:(c:Int)<=(m:Int):=aK
   have ad:=OwS.take Q G.out (show c<=m by omega);rw[List.take_take,eR (show c<=m by omega)]at ad;have cm:c<m:=aK
   clear hbv D j f;go_wp2;exact⟨⟨c,aK,ba,ad,Z⟩,by simp[Ahl];omega⟩
 | false =>
   rw[hbv]at x
   have X:I5 M m=m:=V.out (by
    have s:=x.out;rw[Bool.and_eq_false_iff]at s;rcases s with h|h
    .left;simpa using h
    right;rw[j];exact h)
   rw[X]at hT;have HG:=Ar (show Wf i=M.take m by rw[b9.out,<-hT.out]);clear hbv X j U V;rw[<-HG.out]at Q;go_wp2;go_ret;exact⟨_,rfl,Q,Z⟩
theorem Afk(h:Bg i i.length=0):orW i=Kp i:=by
 have e:Qi i≠0:=by unfold Qi;rw[if_pos h];exact Ag3 h
 unfold orW Kp Ey;rcases Int.lt_trichotomy (Qi i) 0 with g|g|g
 .rw[if_pos g,if_pos g]
 .exact absurd g e
 rw[if_neg aK,if_pos g,if_neg aK]
def ib(S:List SgR)(n:Nat):Nat->LP
 | 0=>[]
 | i+1=>ib S n i++C9 (gsr S i).a (Fj (gsr S ((i+n-1) % n))) (Fj (gsr S i))
theorem Tt{E:List EdgeP}(h:C7 E=0)(d:e<(Bj E).length):
 (gsr (Nb E c (Kp (Bj E)) E.length) e).a=gt (Bj E) e/\Fj (gsr (Nb E c (Kp (Bj E)) E.length) e)=Vl (Bj E) (Ec E c) (Hl E c) e:=by
 have f:=(D5 h).2.2.2.2;obtain⟨l,k,a,-⟩:=Je f;have j:(e+1) % (Bj E).length<(Bj E).length:=bE _ (by omega)
 have i:e≠(e+1) % (Bj E).length:=by
  intro b;rcases bG (e+1) (Bj E).length with g|g
  .rw[cC g]at b;omega
  rw[show e+1=(Bj E).length by omega,Nat.mod_self]at b;omega
 obtain⟨-,m,-⟩:=Nl (a e d) (a _ j) (um f d j i);have b:=Al4 (E:=E) (wd:=c) (sg:=Kp (Bj E)) h (by unfold Kp;split<;>simp) d (by omega);rw[b];refine⟨rfl,?_⟩;unfold Fj Vl Ec;rw[Oe d,Afk f]
theorem Aky{E:List EdgeP}(h:C7 E=0):∀k,k<=(Bj E).length->ib (Nb E c (Kp (Bj E)) E.length) (Bj E).length k=ia (Bj E) (Ec E c) (Hl E c) k:=by
 intro k;induction k with
 | zero=>intro _;rfl
 | succ k ih =>
   intro a;rw[ib,ia,ih aK,(Tt h (show k<(Bj E).length by omega)).1,(Tt h (show k<(Bj E).length by omega)).2,(Tt h (bE _ aK)).2];rfl
theorem Afa{E:List EdgeP}(h:C7 E=0):Wf (ib (Nb E wd (Kp (Bj E)) E.length) (Bj E).length (Bj E).length)=Dy E wd:=by
 rw[Aky h _ aA];unfold Dy ze Wf;rw[mc]
theorem af{g:Array Oper}{o:Oper}{a:Act}{K:Act->World->Prop}{Q:Exit->Act->World->Prop}(n:o.guard=none){s x:Operand}
 (G:o.op=.call { callee:=.builtin .append,args:=#[s,x],argTypes:=#[48,48] })
 (b:Nat) (v:Value) (l:LP) (I:a.eval s=v) (f:OwS w b v l)
 (k:Addr) (m c:Nat) (A:LP) (M:a.eval x=.slice (some k) m c) (q:SpS w (some k) m A)
 (B:l.length+m<=1000000) (d:b<=w.heap.size)
 (h:∀e j,OwS j b e (l++A)->w.grownBy j v.ownBlock->(e.ownBlock=v.ownBlock\/e.ownBlock=some w)->K (a.put o.dst e) j) :
 if Region.wanted o (yielded g a.tmps)=true then Oper.wp prog o a w K Q else Z:=by
 let⟨i,F,t,y,z⟩:=dW Si;have L:Region.wanted o (yielded g a.tmps)=true:=by simp[Region.wanted,n]
 rw[if_pos L]
 obtain⟨e,j,r,C,D,-,E⟩:=run_append_own_at (P:=prog) w b 48 o.type 65 i (.agg #[.int .i64 0,.int .i64 0]) 2 16 underlying48 F t y z rfl (by omega) v l.length (l.flatMap enS) f k m c (A.flatMap enS) (by rw[Cz Cm,q.1]) (Ij q) (λu J=>by
  let⟨p,_,H⟩:=gB.1 J;exact Io p u H) (by unfold maxLen;omega) (by omega) d
 unfold Oper.wp execOp;simp only[G,resolve,invoke,builtin,iP,iQ,gY,iF,eV,fO,I,M,r];refine h e j ?_ D E;unfold OwS OwG;rw[bA,dH,q.1];exact C
theorem Aax(h:e<g.length):g[e]? = some (gsr g e):=by
 unfold gsr;rw[List.getD,aW h];rfl
theorem Aej.cells{a b n:Nat}(h:Aej w e (.slice (some ⟨a,0,none⟩) n b) g)(i:g.length=n)(f:k<n):
 Cq w a (k*7) (gsr g k).a.1/\Cq w a (k*7+1) (gsr g k).a.2/\Cq w a (k*7+2) (gsr g k).b.1/\Cq w a (k*7+3) (gsr g k).b.2/\Cq w a (k*7+4) (gsr g k).w/\Cq w a (k*7+5) (gsr g k).s.1/\Cq w a (k*7+6) (gsr g k).s.2:=by
 subst i
 have c:∀j,j<7->w.cell? ⟨a,k*7+j,none⟩=(Abd (gsr g k))[j]? := λj d=>by
  rw[OwG.cells h (k*7+j) (by omega),Bu Zg g k j _ (Aax f) d]
 exact⟨(c 0 (by omega)).trans rfl,(c 1 (by omega)).trans rfl,(c 2 (by omega)).trans rfl,(c 3 (by omega)).trans rfl,(c 4 (by omega)).trans rfl,(c 5 (by omega)).trans rfl,(c 6 (by omega)).trans rfl⟩
theorem yr{E:List EdgeP}(h:(K6 E c).2≠0):Ff E c=([],(K6 E c).2):=by
 have e:(Ed E c).2=(K6 E c).2:=by
  unfold Ed K6;split
  .rfl
  split
  .rfl
  split<;>rfl
 unfold Ff;rw[if_pos (by rw[e];exact h),e]
theorem kv{E:List EdgeP}(h:(K6 E c).2=0):C7 E=0/\c.length=E.length/\Bp (wdB c) c.length=false/\K6 E c=(Nb E c (Kp (Bj E)) E.length,0):=by
 unfold K6 at h ⊢;split at h
 .rename_i g;exact absurd h g
 rename_i a;split at h
 .cases h
 rename_i b;split at h
 .cases h
 rename_i d;rw[if_neg a,if_neg b,if_neg d];exact⟨by simpa using a,by simpa using b,by simpa using d,rfl⟩
theorem Acg{E:List EdgeP}(h:(K6 E c).2=0):Ff E c=if Bp (λi=>Cc 1048576 (gt (Dy E c) i)) (Dy E c).length then ([],3)
 else if Bg (Dy E c) (Dy E c).length≠0 then ([],Bg (Dy E c) (Dy E c).length) else if Kp (Dy E c)≠Kp (Bj E) then ([],11) else (Dy E c,0):=by
 obtain⟨b,d,f,-⟩:=kv h;unfold Ff;rw[show (Ed E c).2=0 by unfold Ed;rw[if_neg (by rw[b];simp),if_neg (by rw[d];simp),if_neg (by rw[f];simp)],if_neg (by simp)]
 have e:(λi=>!wS (gt (Dy E c) i) 1048576)=(λi=>Cc 1048576 (gt (Dy E c) i)):=by
  funext i;unfold wS wI Cc
  rw[cZ];simp;omega
 rw[e];split
 .rfl
 by_cases a:Bg (Dy E c) (Dy E c).length=0
 .have n:¬Bg (Dy E c) (Dy E c).length≠0:=by rw[a];simp
  refine(if_neg n).trans (Eq.trans ?_ (if_neg n).symm);rw[Afk a,Afk (D5 b).2.2.2.2]
 rw[if_pos a,if_pos a]
theorem Zx(S:List SgR)(n k:Nat):(ib S n k).length<=2*k:=by
 induction k with
 | zero=>simp[ib]
 | succ k ih=>rw[ib,bA];have:=Ip (gsr S k).a (Fj (gsr S ((k+n-1) % n))) (Fj (gsr S k));omega
theorem Ai1(A:Option Addr)(K n:Nat)(E:List EdgeP)(A2:Option Addr)(n2 c2:Nat)(B:List Int)(M:n<=K)(hn:n<=9223372036854775807)(dk:n2<=9223372036854775807)(hE:EdS w A n E)(hW:InS w A2 n2 B):Calls prog 43 #[.slice A n K,.slice A2 n2 c2] w (Ng w (Ff E B)):=by
 by_cases h:(K6 E B).2=0
 .obtain⟨o1,o2,o3,o4⟩:=kv h;have HA:=Ar (Acg h);have a8:=(D5 o1).2.2.2.2;obtain⟨h3,h9,da,-⟩:=Je a8;have U:=Ar (Afa (E:=E) (wd:=B) o1);have X:(Nb E B (Kp (Bj E)) E.length).length=(Bj E).length:=K5 _ _ _ _;have b6:∀i,0<=gi (Hl E B) i/\gi (Hl E B) i<=500:=Agg (Wv λk z=>Aen o3 k aK)
  have bs:=ot (Bj E)
  have F:=Ar (λt (ht:t<(Bj E).length)=>show (Fj (gsr (Nb E B (Kp (Bj E)) E.length) t)).ok/\Nd (gsr (Nb E B (Kp (Bj E)) E.length) t).a from by
   rw[(Tt o1 ht).1,(Tt o1 ht).2];refine⟨ky a8 rfl b6 ?_ ht,da t ht⟩;unfold Ec;rw[Oe ht];exact Ade a8 rfl bs.1 bs.2 b6 ht)
  have gx:=Ar (show (if C7 E=0 then (Bj E,0) else ([],C7 E))=(Bj E,(0:Int)) by rw[o1];rfl);let⟨S,hS⟩:=gN (Nb E B (Kp (Bj E)) E.length)
  rw[hS]at o4 U X F;have b1:=Ar o4;let⟨a,bl⟩:=gN ((Bj E).length)
  rw[bl]at h3 h9 U X F;have gw:=Ar bl;let⟨G,hG⟩:=gN (Dy E B)
  let⟨R,hR⟩:=gN (Ff E B)
  rw[hG]at HA U;rw[hR]at HA ⊢;have b2:=Ar X;go_enter func43,ntmps43
  go_upto_region 6 with (go_at_call 66;refine aF (Aio A K n E A2 n2 c2 B M hn dk hE hW) λw1 v1 y a1=>?_;rw[b1.out]at y ⊢)
  obtain⟨As,cs,rfl,bb,cw,b3⟩:=OwG.form2 y
  try dsimp only at bb b3 y ⊢
  rw[b2.out]at y bb b3 ⊢;obtain⟨g,rfl,n0,n1⟩:=b3 aK;have cf:=hE.keep a1;go_loopw [8,9] (λv i wr=>∃k:Nat,k<=a/\i=k/\OwS wr w1 v (ib S a k)/\Be w1 wr) λ_ i _=>a-(intOf i).toNat
  case atStart=>exact⟨0,aB,rfl,OwG.nil,bl0⟩
  obtain⟨k,z,rfl,ho,C⟩:=hrel;by_cases db:k<a
  .obtain⟨q0,e0⟩:∃q,k+a-1=q:=⟨_,rfl⟩
   have bd:q0 % a<a:=bE _ aK;have mf:=Q6 (q0:Int) q0 a;let⟨s0,s1,s2,s3,s4,s5,s6⟩:=Aej.cells y b2.out bd;let⟨t0,t1,t2,t3,t4,t5,t6⟩:=Aej.cells y b2.out db;have ha:=(F.out _ bd).1;have a6:=F.out k db;have T:=Ar (show ib S a (k+1)=ib S a k++C9 (gsr S k).a (Fj (gsr S (q0 % a))) (Fj (gsr S k)) by rw[ib,e0]);have W1:IntKind.i64.wrap ((k:Int)+(a:Int))=(k:Int)+(a:Int):=aD
   have W2:IntKind.i64.wrap ((k:Int)+(a:Int)-1)=(q0:Int):=aD
   let⟨q,hq⟩:=gN (q0 % a)
   rw[hq]at s0 s1 s2 s3 s4 s5 s6 ha bd T;have T1:Int.tmod (q0:Int) (a:Int)=(q:Int):=by rw[<-hq,mf.1];rfl
   have T2:(q0:Int) % (a:Int)=(q:Int):=by rw[<-hq];rfl
   have W4:IntKind.i64.wrap (q:Int)=(q:Int):=aD
   have W5:IntKind.i64.wrap (Int.tmod (q0:Int) (a:Int))=(q:Int):=by rw[T1];exact W4
   have B1:(k:Int)<(a:Int):=aK
   have B0:(0:Int)<=(k:Int):=aK
   have B2:(0:Int)<=(q:Int):=aK
   have B3:(q:Int)<(a:Int):=aK
   have B4:¬(a:Int)=0:=aK
   have B5:¬a=0:=aK
   have D:=λW=>Al5 (gsr S q) (gsr S k) W (by have:=a6.2;unfold Nd at this;unfold Pz;omega) (by have:=a6.2;unfold Nd at this;unfold Pz;omega) ha a6.1
   have hs:=Ip (gsr S k).a (Fj (gsr S q)) (Fj (gsr S k));have ba:=Zx S a k;let⟨c,N⟩:=gN (C9 (gsr S k).a (Fj (gsr S q)) (Fj (gsr S k)))
   rw[N]at D hs T;let⟨L,hL⟩:=gN (ib S a k)
   rw[hL]at T ho ba;unfold sgC at D;let⟨⟨⟨ax,ay⟩,⟨aX,aY⟩,aw,⟨au,av⟩⟩,cy⟩:∃r,gsr S q=r:=⟨_,rfl⟩
   let⟨⟨⟨bx,h6⟩,⟨bX,bY⟩,bw,⟨bu,bv⟩⟩,cz⟩:∃r,gsr S k=r:=⟨_,rfl⟩
   rw[cy]at s0 s1 s2 s3 s4 s5 s6 D;rw[cz]at t0 t1 t2 t3 t4 t5 t6 D;dsimp only at s0 s1 s2 s3 s4 s5 s6 t0 t1 t2 t3 t4 t5 t6 D;have gf:=Ar D;have HS:=Ar λ(b:World) (z:∀j u,Cq w1 g j u->Cq b g j u)=>show Cq b g (q*7) ax/\Cq b g (q*7+1) ay/\Cq b g (q*7+2) aX/\Cq b g (q*7+3) aY/\Cq b g (q*7+4) aw/\Cq b g (q*7+5) au/\Cq b g (q*7+6) av/\Cq b g (k*7) bx/\Cq b g (k*7+1) h6/\Cq b g (k*7+2) bX/\Cq b g (k*7+3) bY/\Cq b g (k*7+4) bw/\Cq b g (k*7+5) bu/\Cq b g (k*7+6) bv from ⟨z _ _ s0,z _ _ s1,z _ _ s2,z _ _ s3,z _ _ s4,z _ _ s5,z _ _ s6,z _ _ t0,z _ _ t1,z _ _ t2,z _ _ t3,z _ _ t4,z _ _ t5,z _ _ t6⟩;let⟨sv,e5⟩:∃sv,sv=u8:=⟨_,rfl⟩
   rw[<-e5]at ho ⊢;have ix:some g≠sv.ownBlock:=λe=>by have:=(OwG.lt ho _ e.symm).1;omega
   have hh:=C.size;have dy:=Ar λq hq=>(OwG.lt ho q hq).1;have HB:=Ar λ(b:World) (h:Be wr b)=>HS.out b λj u e=>Aq h (Aq C e);have HG:=Ar (λ(W b:World) (h:Be wr W) (hg:W.grownBy b sv.ownBlock)=>HS.out b λj u e=>(hg.cell_far _ (by have:=h.size;simp;omega) ix).trans (Aq h (Aq C e)));clear s0 s1 s2 s3 s4 s5 s6 t0 t1 t2 t3 t4 t5 t6 D N hL cy cz e5 hq e0 mf ha a6 HS;go_upto_region 8 with fail;have x:=Aw (aV wr wr)
   go_region_held3 (sB HB.out)
    (first
     | with_reducible exact HB.out _ x
     | with_reducible exact HG.out _ _ x cx)
    ((first
      | (refine af rfl rfl w1 sv L rfl (OwG.keep ho x) ⟨g8,0,none⟩ c.length c.length c rfl e4 aK (bB hh x.size) ?_;intro v9 w9 hx cx k3)
      | (go_at_call 67;(with_reducible refine(gf.out _).mono ?_);rintro e w8 ⟨g8,rfl,k5,e4,d⟩;replace x:=An x d)))
   all_goals clear W1 W2 T1 T2 W4 W5
   all_goals go_wp2_with fail
   exact aE ⟨by rw[T.out];exact hx,dS (An C x) cx (An C x).size dy.out⟩
  obtain rfl:a=k:=aK
  obtain⟨Ac,cc,rfl,N,b4,-⟩:=ho.sps;have ba:=Zx S a a;let⟨nc,ds⟩:=gN ((ib S a a).length)
  rw[ds]at b4 N ba ⊢;have s:=An a1 C;have cm:=cf.keep C
  go_upto_region 11 with (go_at_call 68;refine aF (Al1 Ac cc nc aK b4) λw2 v2 Q b7=>?_;rw[U.out]at Q)
  obtain⟨Ag,cg,rfl,O,Y,-⟩:=Q.sps;let⟨m,hm⟩:=gN G.length
  rw[hm]at Y O HA ⊢
  have H:m<=9223372036854775807:=by
   obtain⟨A',c',e',-,q',-⟩:=OwG.form2 Q;injection e' with e1 e2 e3
   unfold maxLen at q';omega
  have cj:=cm.keep b7;have cn:=An s b7;have HM:=Ar hm;rw[<-hm]at H;rw[hm]at H;have hy:=Ar (show OwS w2 w (.slice Ag m cg) G from by have t:=Q.lower s.size;rw[hm]at t;exact t);go_loopw [11] (λi wx=>∃j:Nat,j<=m/\i=.int .i64 j/\Hid (Bp (λi=>Cc 1048576 (gt G i)) j=false)/\Be w2 wx) λi _=>m-(intOf i).toNat
  case atStart=>exact⟨0,aB,rfl,Ar rfl,bl0⟩
  obtain⟨j,hj,rfl,hz,C⟩:=hrel;by_cases bc:j<m
  .obtain⟨b8,o8,rfl,-,cu⟩:=(Y.keep C).at_ bc;let⟨x1,x2⟩:=cu j bc;have HY:=Ar λ(h:Cc 1048576 (gt G j)=false)=>Bp.succ (f:=λi=>Cc 1048576 (gt G i)) hz.out h;have HN:=Ar λ(h:Cc 1048576 (gt G j)=true)=>Bp.yes (f:=λi=>Cc 1048576 (gt G i)) bc h;let⟨⟨px,py⟩,hp⟩:∃p,gt G j=p:=⟨_,rfl⟩
   rw[hp]at x1 x2 HY HN;dsimp only at x1 x2;have B8:(j:Int)<(m:Int):=aK
   cases hw:Cc 1048576 (px,py) with
   | false =>
     have h5:=Ar (HY.out hw)
     go_wp2_with (go_at_call 69;refine rR (Ic px py) λw8 d=>?_;rw[hw])
     exact aE ⟨h5,An C d⟩
   | true =>
     have h0:=Ar (show R=([],3) by rw[HA.out,if_pos (HN.out hw)])
     go_wp2_with (go_at_call 69;refine rR (Ic px py) λw8 d=>?_;rw[hw])
     go_ret2
     rw[h0.out];exact⟨_,rfl,OwG.nil,An cn (An C d)⟩
  obtain rfl:m=j:=aK
  have I:=Ar (show R=if Bg G m≠0 then ([],Bg G m) else if Kp G≠Kp (Bj E) then ([],11) else (G,0) by rw[HA.out,if_neg (by rw[hz.out];simp)]);have b5:=Y.keep C;have b9:=An cn C;have hc:=cj.keep C;let⟨ck,P⟩:=gN (Bg G m)
  have c6:=Ar P;rw[P]at I;let⟨V,hV⟩:=gN (Bj E)
  let⟨og,bp⟩:=gN (Kp G)
  let⟨ov,bq⟩:=gN (Kp V)
  rw[hV,bp,bq]at I;have cb:=Ar (gx.out.trans (by rw[hV]):(if C7 E=0 then (Bj E,0) else ([],C7 E))=(V,(0:Int)));have c9:=Ar bp;have ca:=Ar bq;have h4:=Ar (show V.length=a by rw[<-hV];exact gw.out);by_cases a7:ck=0
  .subst a7
   go_upto_region 19 with (first
    | (go_at_call 71;have hX:=o;refine aF (Adj A K n E M hn (hc.keep o)) λw8 v8 dx d=>?_;rw[cb.out]at dx ⊢)
    | (go_at_call 70;refine rR (Hr (A:=Ag) cg (n:=m) G (hl:=H) O b5) λw7 o=>?_;rw[c6.out]))
   obtain⟨Av,cv,rfl,ad,Z,-⟩:=dx.sps
   try dsimp only at ad Z ⊢
   rw[h4.out]at ad Z ⊢;have b0:=b5.keep (An o d);by_cases ai:og=ov
   .subst ai;have J:=Ar (show R=(G,0) by rw[I.out,if_neg aL,if_neg aL])
    go_wp2_with (first
     | (go_at_call 72;have hX:=l;refine rR (Oc Av cv a V aK ad (Z.keep l)) λw9 s=>?_;rw[ca.out])
     | (go_at_call 72;refine(Oc Ag cg m G H O b0).mono ?_;rintro e w3 ⟨rfl,l⟩;rw[c9.out]))
    go_ret2
    rw[J.out];exact⟨_,rfl,OwG.keep hy.out (An C (An (An o d) (An l s))),An b9 (An (An o d) (An l s))⟩
   have k6:(og != ov)=true:=by simpa using ai
   have J:=Ar (show R=([],11) by rw[I.out,if_neg aL,if_pos ai])
   go_wp2_with (first
    | (go_at_call 72;have hX:=l;refine rR (Oc Av cv a V aK ad (Z.keep l)) λw9 s=>?_;rw[ca.out])
    | (go_at_call 72;refine(Oc Ag cg m G H O b0).mono ?_;rintro e w3 ⟨rfl,l⟩;rw[c9.out]))
   go_ret2
   rw[J.out];exact⟨_,rfl,OwG.nil,An b9 (An (An o d) (An l s))⟩
  have k4:(ck != 0)=true:=by simpa using a7
  have J:=Ar (show R=([],ck) by rw[I.out,if_pos a7])
  go_wp2_with (go_at_call 70;refine rR (Hr (A:=Ag) cg (n:=m) G (hl:=H) O b5) λw7 o=>?_;rw[c6.out])
  go_ret2
  rw[J.out];exact⟨_,rfl,OwG.nil,An b9 o⟩
 have HR:=Ar (yr h);let⟨r,hr⟩:=gN (K6 E B)
 have b1:=Ar hr;rw[hr]at h HR;obtain⟨S,c⟩:=r;dsimp only at h HR;have n3:(c != 0)=true:=by simpa using h
 rw[HR.out];go_enter func43,ntmps43
 go_wp2_with (go_at_call 66;refine aF (Aio A K n E A2 n2 c2 B M hn dk hE hW) λw1 v1 y a1=>?_;rw[b1.out])
 go_ret2
 exact⟨_,rfl,OwG.nil,a1⟩
end Go.Proofs.YtboghahlhmnblaaGreat

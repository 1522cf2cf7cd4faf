/- Lean texts of the claim. -/
import Derived.Test.YtlogblbfbihleaaGreatZr30
namespace Go.Proofs.YtlogblbfbihleaaGreat
set_option linter.all false
set_option maxRecDepth 100000
set_option maxHeartbeats 0
open Go.RowKit
variable{a r:World}{b p q:Nat}{e:List Shp}{f:Value}{g:Exit->Act->World->Prop}{h:List PlcP}{i:List EdgeP}{j:List Int}{k:TypeId}{l:Option Addr}{m:Act}{n:Shp}{o:List SgR}
section
open Go.RowKit Limb
theorem Al5(a b:SgR) (w:World) (T:Pz b.a.1) (U:Pz b.a.2) (ha:(Fj a).ok) (hb:(Fj b).ok) :
 Calls Tryz.prog 73 #[.agg (sgC a),.agg (sgC b)] w (Aek w (C9 b.a (Fj a) (Fj b))):=by
 let⟨L,hL⟩:=gN (C9 b.a (Fj a) (Fj b))
 rw[hL];let⟨O,c6⟩:=gN (Ajg b.a (Fj a) (Fj b))
 let⟨G,c7⟩:=gN (Ajf b.a (Fj a) (Fj b))
 let⟨N,hN⟩:=gN ((crN (Fj a) (Fj b):Int):Rat)
 let⟨D,hD⟩:=gN ((crD (Fj a) (Fj b):Int):Rat)
 have a6:D.num=crD (Fj a) (Fj b):=by rw[<-hD];rfl
 have b4:D.num=0->L=[((Fj a).tx,(Fj a).ty),((Fj b).fx,(Fj b).fy)]:=λh=>by rw[<-hL];unfold C9;rw[if_pos (a6.symm.trans h)]
 have H:D.num≠0->L=if (inC O&&inC G)&&wS (O,G) (4*max (Fj a).wd (Fj b).wd+4) then [(b.a.1+O,b.a.2+G)] else [((Fj a).tx,(Fj a).ty),((Fj b).fx,(Fj b).fy)]:=λh=>by rw[<-hL];unfold C9;rw[if_neg (by rw[<-a6];exact h),c6,c7]
 have GX:D.num≠0->rnd (((Fj a).fx:Rat)+(((Fj a).tx:Rat)-((Fj a).fx:Rat))*(N / D)-(b.a.1:Rat)).num (((Fj a).fx:Rat)+(((Fj a).tx:Rat)-((Fj a).fx:Rat))*(N / D)-(b.a.1:Rat)).den=O:=λh=>by
  rw[a6]at h;rw[<-hN,<-hD,Nq _ _ _ _ _ h,<-c6];exact Yd (by omega)
 have GY:D.num≠0->rnd (((Fj a).fy:Rat)+(((Fj a).ty:Rat)-((Fj a).fy:Rat))*(N / D)-(b.a.2:Rat)).num (((Fj a).fy:Rat)+(((Fj a).ty:Rat)-((Fj a).fy:Rat))*(N / D)-(b.a.2:Rat)).den=G:=λh=>by
  rw[a6]at h;rw[<-hN,<-hD,Nq _ _ _ _ _ h,<-c7];exact Yd (by omega)
 have bb:=(ua (Fj a) (Fj b)).trans hN;have ba:=(ub (Fj a) (Fj b)).trans hD;clear hL c6 c7 hN hD a6;obtain⟨⟨px,py⟩,⟨pX,pY⟩,pw,⟨pu,pv⟩⟩:=a;obtain⟨⟨qx,Z⟩,⟨qX,qY⟩,qw,⟨qu,qv⟩⟩:=b;unfold Fj at b4 H GX GY bb ba ha hb;unfold sgC;dsimp only at b4 H GX GY bb ba T U ha hb ⊢;obtain⟨o1,o2,o3,o4,j7,j8⟩:=ha;obtain⟨o5,o6,o7,o8,j9,k6⟩:=hb;dsimp only at o1 o2 o3 o4 j7 j8 o5 o6 o7 o8 j9 k6;have r1:=Nn o1;have r2:=Nn o2;have r3:=Nn o3;have r4:=Nn o4;have r5:=Nn o5;have r6:=Nn o6;have r7:=Nn o7;have r8:=Nn o8;have u1:=o1;have u2:=o2;have u3:=o3;have u4:=o4;have u5:=o5;have u6:=o6;have u7:=o7;have u8:=o8;unfold Pz at u1 u2 u3 u4 u5 u6 u7 u8;have hs:0<=max pw qw/\max pw qw<=1000:=by omega
 let⟨s,ad⟩:=gN (max pw qw)
 rw[ad]at hs H;have h3:=Ar ad;have HN:=Ar bb;have HD:=Ar ba;have H0:=Ar b4;have H1:=Ar H;have gg:=Ar GX;have gw:=Ar GY;let⟨kk,hk⟩:=gN ((if D.num=0 then 10 else 0):Int)
 have HK:=Ar hk;clear ad bb ba b4 H GX GY hk;have W1:IntKind.i64.wrap (4*s)=4*s:=by rw[IntKind.wrap_i64];omega
 have W2:IntKind.i64.wrap (4*s+4)=4*s+4:=by rw[IntKind.wrap_i64];omega
 go_in;go_upto_region 1 with fail;refine Eo λX R hP hQ=>?_
 let⟨p0,p1,p2,p3,p4,p5,p6⟩:=pc7 hP;let⟨q0,q1,q2,q3,q4,q5,q6⟩:=pc7 hQ;go_upto_region 2 with fail;refine Bq λY bm hV=>?_
 replace hP:=hP.keep bm;replace hQ:=hQ.keep bm;replace R:=An R bm;let⟨GV,cf⟩:=gN X.heap.size
 have cg:=hV.lt;rw[cf]at hV cg ⊢;clear p0 p1 p2 p3 p4 p5 p6 q0 q1 q2 q3 q4 q5 q6 bm cf;let⟨X,ch⟩:∃W:World,W=Y:=⟨_,rfl⟩
 rw[<-ch]at hP hQ R hV cg ⊢;clear ch;let⟨p0,p1,p2,p3,p4,p5,p6⟩:=pc7 hP;let⟨q0,q1,q2,q3,q4,q5,q6⟩:=pc7 hQ;have o0:=hP.lt;go_upto_region 3 with fail;go_cut [7,8] λu v W=>∃g p A n c B k d q C m l E o f,u=.pointer (some ⟨g,0,none⟩)/\v=.int .i64 kk/\(D.num≠0->PtV W 0 (.agg #[.bool p,.slice A n c,.slice B k d,.bool q,.slice C m l,.slice E o f]) (((px+pu:Int):Rat)+(((pX+pu:Int):Rat)-((px+pu:Int):Rat))*(N / D)) (((py+pv:Int):Rat)+(((pY+pv:Int):Rat)-((py+pv:Int):Rat))*(N / D)))/\Bf W g 202 #[.bool p,.slice A n c,.slice B k d,.bool q,.slice C m l,.slice E o f]/\Be X W
 case first =>
  go_region_held3 (sB λW h=>Ai0 (hP.keep h) (hQ.keep h))
   (exact Ai0 (hP.keep BI.h) (hQ.keep BI.h))
   ((first
     | (go_at_call 117;have ny:=h8;refine(Amt (h2.keep BI.h) (h4.keep BI.h) (h6.keep BI.h) (h8.keep BI.h) r1 r2 r3 r4 r5 r6 r7 r8 HN.out HD.out).mono ?_;rintro e w9 ⟨p5,B1,n1,c1,B2,n2,c2,q5,B3,n3,c3,B4,n4,c4,rfl,h9,cj⟩;rw[HK.out];have nz:=BI.go (a:=X) cj;(try (have V:=KI.go (t:=202) cj;let⟨j0,j1,j2,j3,j4,j5⟩:=cells6 V.h;let⟨k0,k1,k2,k3,k4,k5,kl⟩:=fq V.h)))
     | (go_at_call 118;have nx:=S;refine(spt _ _ _ o7 o8).mono ?_;rintro e w8 ⟨v8,rfl,h8,a8⟩;replace h8:=h8.lower (Nat.zero_le _);have mv:=BI.go (a:=X) a8;have ml:=BI.go (a:=w2) a8;have mo:=BI.go (a:=w4) a8;have mr:=BI.go (a:=w6) a8;(try have V:=KI.go (t:=202) a8))
     | (go_at_call 119;have nv:=J;refine rR (xg qX qY qu qv _ (by omega) (by omega) (by omega) (by omega)) λw7 S=>?_;have mf:=BI.go (a:=X) S;have lr:=BI.go (a:=w2) S;have lx:=BI.go (a:=w4) S;have ly:=BI.go (a:=w6) S;(try have V:=KI.go (t:=202) S))
     | (go_at_call 118;have c5:=j;refine(spt _ _ _ o5 o6).mono ?_;rintro e w6 ⟨v6,rfl,h6,J⟩;replace h6:=h6.lower (Nat.zero_le _);have lo:=BI.go (a:=X) J;have lg:=BI.go (a:=w2) J;have lk:=BI.go (a:=w4) J;(try have V:=KI.go (t:=202) J))
     | (go_at_call 119;have ns:=bl;refine rR (xg qx Z qu qv _ (by omega) (by omega) (by omega) (by omega)) λw5 j=>?_;have lf:=BI.go (a:=X) j;have la:=BI.go (a:=w2) j;have lb:=BI.go (a:=w4) j;(try have V:=KI.go (t:=202) j))
     | (go_at_call 118;have nr:=bd;refine(spt _ _ _ o3 o4).mono ?_;rintro e w4 ⟨v4,rfl,h4,bl⟩;replace h4:=h4.lower (Nat.zero_le _);have l6:=BI.go (a:=X) bl;have l5:=BI.go (a:=w2) bl;(try have V:=KI.go (t:=202) bl))
     | (go_at_call 119;have nq:=P;refine rR (xg pX pY pu pv _ (by omega) (by omega) (by omega) (by omega)) λw3 bd=>?_;have l4:=BI.go (a:=X) bd;have l3:=BI.go (a:=w2) bd;(try have V:=KI.go (t:=202) bd))
     | (go_at_call 118;have bx:=I;refine(spt _ _ _ o1 o2).mono ?_;rintro e w2 ⟨v2,rfl,h2,P⟩;replace h2:=h2.lower (Nat.zero_le _);have l2:=BI.go (a:=X) P;(try have V:=KI.go (t:=202) P))
     | (go_at_call 119;refine(xg px py pu pv _ (by omega) (by omega) (by omega) (by omega)).mono ?_;rintro e w1 ⟨rfl,I⟩;have l1:=BI.go (a:=X) I;(try have V:=KI.go (t:=202) I))))
  all_goals go_wp2_with fail
  all_goals go_meet
  all_goals (first
   | with_reducible exact⟨_,p5,B1,n1,c1,B2,n2,c2,q5,B3,n3,c3,B4,n4,c4,rfl,rfl,λh=>((h9 h).lower (Nat.zero_le _)).keep blA,Bf.new _ _ _,BI.h⟩
   | with_reducible exact⟨_,p5,B1,n1,c1,B2,n2,c2,q5,B3,n3,c3,B4,n4,c4,rfl,rfl,λh=>((h9 h).lower (Nat.zero_le _)).farB6 V.h Aht _ _ _ _ _ _,V.h.set6,BI.h⟩)
 obtain⟨g,b1,B1,n1,c1,B2,n2,c2,b2,B3,n3,c3,B4,n4,c4,rfl,rfl,Q,hG,F⟩:=hcut;by_cases hd:D.num=0
 .obtain rfl:kk=10:=HK.out.symm.trans (if_pos hd);have K:=Ar (H0.out hd);clear Q hd;have KG:=Ar λ(W:World) (h:Be wc W)=>Ai0 (hP.keep (An F h)) (hQ.keep (An F h));have i:=Aw (Below.refl wc.heap.size wc);have M:=An R F;go_upto_region 9 with fail
  go_region_held3 (sB KG.out)
   (first|with_reducible exact KG.out _ i|with_reducible exact KG.out _ (Ao i _))
   ((first
     | (go_at_call 119;have bx:=I;refine rR (xg qx Z qu qv _ (by omega) (by omega) (by omega) (by omega)) λw2 P=>?_;replace i:=An i P)
     | (go_at_call 119;refine(xg pX pY pu pv _ (by omega) (by omega) (by omega) (by omega)).mono ?_;rintro e w1 ⟨rfl,I⟩;replace i:=An i I)))
  go_wp2_with fail;go_ret;exact⟨_,by rw[K.out];rfl,(An M i).size,by rw[K.out];exact Vr rfl,Ao (An M i) _⟩
 obtain rfl:kk=0:=HK.out.symm.trans (if_neg hd);replace Q:=Q hd;have H:=H1.out hd;have gx:=gg.out hd;have gy:=gw.out hd;have tw:∀{x y:Rat},RB 22 x->RB 22 y->RB 45 (x-y):=λh k=>RB.sub (m:=22) (n:=22) h k
 have tT:=RB.div (m:=181) (n:=181) (HN.out ▸ RB.x r5 r1 r8 r6 r6 r2 r7 r5) (HD.out ▸ RB.x r3 r1 r8 r6 r4 r2 r7 r5) hd;have b8:=(RB.add (m:=22) r1 ((tw r3 r1).mul tT)).le (show _<=600 by decide);have b6:=(RB.sub (n:=22) (RB.add (m:=22) r1 ((tw r3 r1).mul tT)) (Nn T)).le (show _<=600 by decide);have b9:=(RB.add (m:=22) r2 ((tw r4 r2).mul tT)).le (show _<=600 by decide);have b7:=(RB.sub (n:=22) (RB.add (m:=22) r2 ((tw r4 r2).mul tT)) (Nn U)).le (show _<=600 by decide);let⟨zx,cu⟩:=gN (((px+pu:Int):Rat)+(((pX+pu:Int):Rat)-((px+pu:Int):Rat))*(N / D):Rat)
 let⟨zy,cv⟩:=gN (((py+pv:Int):Rat)+(((pY+pv:Int):Rat)-((py+pv:Int):Rat))*(N / D):Rat)
 rw[cu]at Q gx b8 b6;rw[cv]at Q gy b9 b7;have bu:RB 600 (qx:Rat):=(Nn T).le (by decide);have bw:RB 600 (Z:Rat):=(Nn U).le (by decide);have HX:=Ar λ(W:World) (h:Be wc W)=>Q.ab.1.keep h;have HY:=Ar λ(W:World) (h:Be wc W)=>Q.ab.2.keep h;have bc:=hV.keep F;have M:=An R F;let⟨y0,y1,y2,y3,y4,y5⟩:=cells6 hG;let⟨z0,z1⟩:=Jg bc
 have b5:=Ar (show ((inC O&&inC G)&&wS (O,G) (4*s+4))=(decide (-(4*s+4)<=O/\O<=4*s+4)&&decide (-(4*s+4)<=G/\G<=4*s+4)) by
  rw[Bool.eq_iff_iff];unfold inC wS wI;simp;omega)
 rw[b5.out]at H;replace H:=Ar H;rw[h3.out];clear hd Q cu cv tw tT;by_cases k1 : -(4*s+4)<=O/\O<=4*s+4
 .have K1:=Ar (show (if -(4*s+4)<=O/\O<=4*s+4 then qx+O else 0)=qx+O/\decide (-(4*s+4)<=O/\O<=4*s+4)=true from ⟨if_pos k1,decide_eq_true k1⟩);by_cases k2 : -(4*s+4)<=G/\G<=4*s+4
  .have K2:=Ar (show (if -(4*s+4)<=G/\G<=4*s+4 then Z+G else 0)=Z+G/\decide (-(4*s+4)<=G/\G<=4*s+4)=true from ⟨if_pos k2,decide_eq_true k2⟩);have K:=Ar (H.out.trans (if_pos (by simp[k1,k2])));clear k1 k2 b5
   go_wp2_with (first
    | (go_at_call 120;have c5:=j;refine rR (al (HY.out _ j) Z (4*s+4) b9 bw b7 gy U (by omega) (by omega)) λw6 J=>?_;rw[K2.out.1,K2.out.2])
    | (go_at_call 120;refine(al (HX.out _ bl0) qx (4*s+4) b8 bu b6 gx T (by omega) (by omega)).mono ?_;rintro e w5 ⟨rfl,j⟩;rw[K1.out.1,K1.out.2];let⟨u0',u1',u2',u3',u4',u5'⟩:=cells6 (hG.keep j);let⟨ds,dx⟩:=Jg (bc.keep j)))
   go_ret;exact⟨_,by rw[K.out];rfl,(An M (An j J)).size,by rw[K.out];exact Yp,Ao (An M (An j J)) _⟩
  have K2:=Ar (show (if -(4*s+4)<=G/\G<=4*s+4 then Z+G else 0)=0/\decide (-(4*s+4)<=G/\G<=4*s+4)=false from ⟨if_neg k2,decide_eq_false k2⟩);have K:=Ar (H.out.trans (if_neg (by simp only[decide_eq_false k2,Bool.and_false];decide)));clear k1 k2 b5
  go_upto_region 9 with (first
   | (go_at_call 120;have c5:=j;refine rR (al (HY.out _ j) Z (4*s+4) b9 bw b7 gy U (by omega) (by omega)) λw6 J=>?_;rw[K2.out.1,K2.out.2])
   | (go_at_call 120;refine(al (HX.out _ bl0) qx (4*s+4) b8 bu b6 gx T (by omega) (by omega)).mono ?_;rintro e w5 ⟨rfl,j⟩;rw[K1.out.1,K1.out.2];let⟨u0',u1',u2',u3',u4',u5'⟩:=cells6 (hG.keep j);let⟨ds,dx⟩:=Jg (bc.keep j)))
  replace F:=An F (An j J);have KG:=Ar λ(W:World) (h:Be w6 W)=>Ai0 (hP.keep (An F h)) (hQ.keep (An F h));have i:=Aw (Below.refl w6.heap.size w6);have M:=An R F
  go_region_held3 (sB KG.out)
   (first|with_reducible exact KG.out _ i|with_reducible exact KG.out _ (Ao i _))
   ((first
     | (go_at_call 119;have bx:=I;refine rR (xg qx Z qu qv _ (by omega) (by omega) (by omega) (by omega)) λw2 P=>?_;replace i:=An i P)
     | (go_at_call 119;refine(xg pX pY pu pv _ (by omega) (by omega) (by omega) (by omega)).mono ?_;rintro e w1 ⟨rfl,I⟩;replace i:=An i I)))
  go_wp2_with fail;go_ret;exact⟨_,by rw[K.out];rfl,(An M i).size,by rw[K.out];exact Vr rfl,Ao (An M i) _⟩
 have K1:=Ar (show (if -(4*s+4)<=O/\O<=4*s+4 then qx+O else 0)=0/\decide (-(4*s+4)<=O/\O<=4*s+4)=false from ⟨if_neg k1,decide_eq_false k1⟩);have K:=Ar (H.out.trans (if_neg (by simp only[decide_eq_false k1,Bool.false_and];decide)));let⟨rY,cn⟩:=gN (if -(4*s+4)<=G/\G<=4*s+4 then Z+G else 0)
 let⟨dY,ck⟩:=gN (decide (-(4*s+4)<=G/\G<=4*s+4))
 have K2:=Ar (And.intro cn ck);clear k1 b5 cn ck
 go_upto_region 9 with (first
  | (go_at_call 120;have c5:=j;refine rR (al (HY.out _ j) Z (4*s+4) b9 bw b7 gy U (by omega) (by omega)) λw6 J=>?_;rw[K2.out.1,K2.out.2])
  | (go_at_call 120;refine(al (HX.out _ bl0) qx (4*s+4) b8 bu b6 gx T (by omega) (by omega)).mono ?_;rintro e w5 ⟨rfl,j⟩;rw[K1.out.1,K1.out.2];let⟨u0',u1',u2',u3',u4',u5'⟩:=cells6 (hG.keep j);let⟨ds,dx⟩:=Jg (bc.keep j)))
 replace F:=An F (An j J);have KG:=Ar λ(W:World) (h:Be w6 W)=>Ai0 (hP.keep (An F h)) (hQ.keep (An F h));have i:=Aw (Below.refl w6.heap.size w6);have M:=An R F
 go_region_held3 (sB KG.out)
  (first|with_reducible exact KG.out _ i|with_reducible exact KG.out _ (Ao i _))
  ((first
    | (go_at_call 119;have bx:=I;refine rR (xg qx Z qu qv _ (by omega) (by omega) (by omega) (by omega)) λw2 P=>?_;replace i:=An i P)
    | (go_at_call 119;refine(xg pX pY pu pv _ (by omega) (by omega) (by omega) (by omega)).mono ?_;rintro e w1 ⟨rfl,I⟩;replace i:=An i I)))
 go_wp2_with fail;go_ret;exact⟨_,by rw[K.out];rfl,(An M i).size,by rw[K.out];exact Vr rfl,Ao (An M i) _⟩
end
theorem af{w:World} {f:Array Oper} {o:Oper}  {K:Act->World->Prop} {Q:Exit->Act->World->Prop} {Z:Prop} (n:o.guard=none) (s x:Operand)
 (G:o.op=.call { callee:=.builtin .append,args:=#[s,x],argTypes:=#[46,46] })
 (a:Nat) (v:Value) (l:LP) (I:m.eval s=v) (e:OwS w a v l)
 (k:Addr) (j c:Nat) (A:LP) (M:m.eval x=.slice (some k) j c) (q:SpS w (some k) j A)
 (B:l.length+j<=1000000) (b:a<=w.heap.size)
 (h:∀d g,OwS g a d (l++A)->w.grownBy g v.ownBlock->(d.ownBlock=v.ownBlock\/d.ownBlock=some w.heap.size)->K (m.put o.dst d) g) :
 if Region.wanted o (yielded f m.tmps)=true then Oper.wp Tryz.prog o m w K Q else Z:=by
 let⟨i,F,t,y,z⟩:=info_parts Si;have L:Region.wanted o (yielded f m.tmps)=true:=by simp[Region.wanted,n]
 rw[if_pos L]
 obtain⟨d,g,r,C,D,-,E⟩:=run_append_own_at (P:=Tryz.prog) w a 46 o.type 60 i (.agg #[.int .i64 0,.int .i64 0]) 2 16 Tryz.underlying46 F t y z rfl (by omega) v l.length (l.flatMap enS) e k j c (A.flatMap enS) (by rw[Cz Cm,q.1]) (Ij q) (λu J=>by
  let⟨p,_,H⟩:=List.mem_flatMap.1 J;exact Io p u H) (by unfold maxLen;omega) (by omega) b
 unfold Oper.wp execOp;simp only[G,resolve,invoke,builtin,Sem.run_bind,Sem.run_pure,Result.andThen_ok,List.map_toArray,List.map_cons,List.map_nil,I,M,r];refine h d g ?_ D E;unfold OwS OwG;rw[List.length_append,List.flatMap_append,q.1];exact C
theorem Aax(h:b<o.length):o[b]? = some (gsr o b):=by
 unfold gsr;rw[List.getD,List.getElem?_eq_getElem h];rfl
theorem Aej.cells{w:World} {n:Nat}  (h:Aej w b (.slice (some ⟨p,0,none⟩) n q) o) (e:o.length=n) {k:Nat} (d:k<n) :
 Cq w p (k*7) (gsr o k).a.1/\Cq w p (k*7+1) (gsr o k).a.2/\Cq w p (k*7+2) (gsr o k).b.1/\Cq w p (k*7+3) (gsr o k).b.2/\Cq w p (k*7+4) (gsr o k).w/\Cq w p (k*7+5) (gsr o k).s.1/\Cq w p (k*7+6) (gsr o k).s.2:=by
 subst e
 have c:∀j,j<7->w.cell? ⟨p,k*7+j,none⟩=(Abd (gsr o k))[j]? := λj a=>by
  rw[OwG.cells h (k*7+j) (by omega),Bu Zg o k j _ (Aax d) a]
 exact⟨(c 0 (by omega)).trans rfl,(c 1 (by omega)).trans rfl,(c 2 (by omega)).trans rfl,(c 3 (by omega)).trans rfl,(c 4 (by omega)).trans rfl,(c 5 (by omega)).trans rfl,(c 6 (by omega)).trans rfl⟩
theorem yr(h:(K6 i j).2≠0):Ff i j=([],(K6 i j).2):=by
 have e:(Ed i j).2=(K6 i j).2:=by
  unfold Ed K6;split
  .rfl
  split
  .rfl
  split<;>rfl
 unfold Ff;rw[if_pos (by rw[e];exact h),e]
theorem kv(h:(K6 i j).2=0):C7 i=0/\j.length=i.length/\Bp (wdB j) j.length=false/\K6 i j=(Nb i j (Kp (Bj i)) i.length,0):=by
 unfold K6 at h ⊢;split at h
 .rename_i g;exact absurd h g
 rename_i a;split at h
 .cases h
 rename_i b;split at h
 .cases h
 rename_i c;rw[if_neg a,if_neg b,if_neg c];exact⟨by simpa using a,by simpa using b,by simpa using c,rfl⟩
theorem Acg(h:(K6 i j).2=0):Ff i j=if Bp (λa=>Cc 1048576 (gt (Dy i j) a)) (Dy i j).length then ([],3)
 else if Bg (Dy i j) (Dy i j).length≠0 then ([],Bg (Dy i j) (Dy i j).length) else if Kp (Dy i j)≠Kp (Bj i) then ([],11) else (Dy i j,0):=by
 obtain⟨c,d,f,-⟩:=kv h;unfold Ff;rw[show (Ed i j).2=0 by unfold Ed;rw[if_neg (by rw[c];simp),if_neg (by rw[d];simp),if_neg (by rw[f];simp)],if_neg (by simp)]
 have e:(λa=>!wS (gt (Dy i j) a) 1048576)=(λa=>Cc 1048576 (gt (Dy i j) a)):=by
  funext a;unfold wS wI Cc
  rw[Bool.eq_iff_iff];simp;omega
 rw[e];split
 .rfl
 by_cases b:Bg (Dy i j) (Dy i j).length=0
 .have n:¬Bg (Dy i j) (Dy i j).length≠0:=by rw[b];simp
  refine(if_neg n).trans (Eq.trans ?_ (if_neg n).symm);rw[Afk b,Afk (D5 c).2.2.2.2]
 rw[if_pos b,if_pos b]
theorem xz(n p:Int) (a:0<p):(n.tmod p+p) % p=n % p:=by
 have h:=Int.tmod_add_mul_tdiv n p;have e:n % p=(n.tmod p+p*n.tdiv p) % p:=by rw[h]
 rw[e,Int.add_mul_emod_self_left,Int.add_emod_right]
theorem xw(n p:Int) (a:0<p) : -p<n.tmod p/\n.tmod p<p:=by
 have c:=Int.tmod_lt_of_pos n a;have b:=Int.tmod_lt_of_pos (-n) a;rw[Int.neg_tmod]at b;omega
theorem Bf.new4(w:World) (o c a:Obj) (t:TypeId) (b:Array Value):Bf ((((w.alloc o).alloc c).alloc a).alloc (.cells b t)) (w.heap.size+1+1+1) t b:=by
 have h:=Bf.new (((w.alloc o).alloc c).alloc a) t b;simpa using h
theorem Qu(f:Bool) (q:Int) (w:World) :
 Calls Tryz.prog 49 #[.agg #[.bool f,q]] w (Bz w (.agg #[.bool f,(q % 4:Int)])):=by
 have b:=xw q 4 (by omega);have c:=xz q 4 (by omega);generalize ht:q.tmod 4=t at b c;by_cases d:t<0
 .have a:t+4=q % 4:=by omega
  have e:IntKind.i64.wrap (t+4)=q % 4:=by rw[Fm _ (by omega) (by omega)];exact a
  clear b c a;go_in;go_wp2;exact bR ⟨rfl,Ao blA _⟩ rfl (by simp[results,Tryz.results49,go_sem])
 have a:t=q % 4:=by omega
 clear b c;rw[a]at ht d;go_in;go_wp2;exact bR ⟨rfl,Ao blA _⟩ rfl (by simp[results,Tryz.results49,go_sem])
theorem L6(f:Bool) (q x y:Int) (w:World) :
 Calls Tryz.prog 24 #[.agg #[.bool f,q],.agg #[x,y]] w (Bz w (.agg #[(Cd f q (x,y)).1,(Cd f q (x,y)).2])):=by
 cases f with
 | true =>
   go_enter Tryz.func24,Tryz.ntmps24;go_upto_region 4 with fail;refine Cu (λX=>Bf X w.heap.size 59 #[.bool true,q]/\Bf X (w.heap.size+1+1) 60 #[.int .i64 0,.int .i64 0]/\Bf X (w.heap.size+1+1+1) 60 #[(wrap64 (-x),y).1,(wrap64 (-x),y).2]/\Be w X) ?_ ?_
   .exact⟨(((Bf.new _ _ _).alloc _).alloc _).alloc _,(Bf.new3 _ _ _ _ _).alloc _,Bf.new4 _ _ _ _ _ _,(Ao (Ao (Ao (Ao (Below.refl _ _) _) _) _) _)⟩
   rintro X ⟨o,C,n,B⟩;let⟨L,M⟩:Cq X w.heap.size 0 (.bool true)/\Cq X w.heap.size 1 q:=⟨o.cell 0,o.cell 1⟩
   go_wp2_with (go_at_call 49;refine rR (Qu _ _ _) λh a=>?_)
   let⟨m,E,K⟩:∃m:Nat,q % 4=(m:Int)/\m<=3:=⟨(q % 4).toNat,by omega,by omega⟩
   have F:=Ar (show (q % 4).toNat=m by omega);have l:=Ar (show Bf (h.alloc (.cells #[.bool true,(q % 4:Int)] 59)) h.heap.size 59 #[.bool true,(m:Int)] by rw[<-E];exact Bf.new _ _ _);have g:w.heap.size+1+1+1<h.heap.size:=(n.keep a).lt;let⟨j,d⟩:=gN h.heap.size
   rw[d]at l g ⊢;have t:=Ar ((C.keep a).alloc (.cells #[.bool true,(q % 4:Int)] 59));have s:=Ar ((n.keep a).alloc (.cells #[.bool true,(q % 4:Int)] 59));have r:=Ar (Ao (An B a) (.cells #[.bool true,(q % 4:Int)] 59));clear o C n B L M a E d;go_loopw [7] (λi wr=>∃k:Nat,k<=m/\i=.int .i64 k/\Bf wr (w.heap.size+1+1+1) 60 #[(Tc k (wrap64 (-x),y)).1,(Tc k (wrap64 (-x),y)).2]/\Bf wr (w.heap.size+1+1) 60 #[.int .i64 0,.int .i64 0]/\Bf wr j 59 #[.bool true,(m:Int)]/\Be w wr) λi _=>m-(intOf i).toNat
   case atStart=>exact⟨0,Nat.zero_le _,rfl,s.out,t.out,l.out,r.out⟩
   clear s t l r;obtain⟨k,R,rfl,b,c,A,D⟩:=hrel;have G:=b.cell 0;have H:=b.cell 1;have N:=b.frozen 0;have O:=b.frozen 1;have S:=b.lt;have u:=c.cell 0;have z:=c.cell 1;have P:=c.frozen 0;have Q:=c.frozen 1;have T:=c.lt;have I:=A.cell 1;simp only[List.getElem?_toArray,List.getElem?_cons_zero,List.getElem?_cons_succ]at G H u z I;by_cases J:k<m
   .go_wp2_with fail
    exact⟨⟨k+1,by omega,by go_num,(b.set_ 0 _).set_ 1 _,(c.far (p:=⟨w.heap.size+1+1+1,0,none⟩) (by simp) _).far (p:=⟨w.heap.size+1+1+1,1,none⟩) (by simp) _,(A.far (p:=⟨w.heap.size+1+1+1,0,none⟩) (by simp;omega) _).far (p:=⟨w.heap.size+1+1+1,1,none⟩) (by simp;omega) _,Ba (Ba D (p:=⟨w.heap.size+1+1+1,0,none⟩) (by simp;omega) _) (p:=⟨w.heap.size+1+1+1,1,none⟩) (by simp;omega) _⟩,by simp[intOf];omega⟩
   obtain rfl:m=k:=by omega
   go_wp2_with fail;refine bodyPost_ret (v:=.agg #[(Tc m (wrap64 (-x),y)).1,(Tc m (wrap64 (-x),y)).2]) (by simp[results,Tryz.results24,go_sem,u,z]) rfl ⟨by unfold Cd;rw[F.out];rfl,Ba (Ba D (p:=⟨w.heap.size+1+1,0,none⟩) (by simp;omega) _) (p:=⟨w.heap.size+1+1,1,none⟩) (by simp;omega) _⟩
 | false =>
   go_enter Tryz.func24,Tryz.ntmps24;go_upto_region 4 with fail;refine Cu (λX=>Bf X w.heap.size 59 #[.bool false,q]/\Bf X (w.heap.size+1+1) 60 #[.int .i64 0,.int .i64 0]/\Bf X (w.heap.size+1+1+1) 60 #[(x,y).1,(x,y).2]/\Be w X) ?_ ?_
   .exact⟨(((Bf.new _ _ _).alloc _).alloc _).alloc _,(Bf.new3 _ _ _ _ _).alloc _,Bf.new4 _ _ _ _ _ _,(Ao (Ao (Ao (Ao (Below.refl _ _) _) _) _) _)⟩
   rintro X ⟨o,C,n,B⟩;let⟨L,M⟩:Cq X w.heap.size 0 (.bool false)/\Cq X w.heap.size 1 q:=⟨o.cell 0,o.cell 1⟩
   go_wp2_with (go_at_call 49;refine rR (Qu _ _ _) λh a=>?_)
   let⟨m,E,K⟩:∃m:Nat,q % 4=(m:Int)/\m<=3:=⟨(q % 4).toNat,by omega,by omega⟩
   have F:=Ar (show (q % 4).toNat=m by omega);have l:=Ar (show Bf (h.alloc (.cells #[.bool false,(q % 4:Int)] 59)) h.heap.size 59 #[.bool false,(m:Int)] by rw[<-E];exact Bf.new _ _ _);have g:w.heap.size+1+1+1<h.heap.size:=(n.keep a).lt;let⟨j,d⟩:=gN h.heap.size
   rw[d]at l g ⊢;have t:=Ar ((C.keep a).alloc (.cells #[.bool false,(q % 4:Int)] 59));have s:=Ar ((n.keep a).alloc (.cells #[.bool false,(q % 4:Int)] 59));have r:=Ar (Ao (An B a) (.cells #[.bool false,(q % 4:Int)] 59));clear o C n B L M a E d;go_loopw [7] (λi wr=>∃k:Nat,k<=m/\i=.int .i64 k/\Bf wr (w.heap.size+1+1+1) 60 #[(Tc k (x,y)).1,(Tc k (x,y)).2]/\Bf wr (w.heap.size+1+1) 60 #[.int .i64 0,.int .i64 0]/\Bf wr j 59 #[.bool false,(m:Int)]/\Be w wr) λi _=>m-(intOf i).toNat
   case atStart=>exact⟨0,Nat.zero_le _,rfl,s.out,t.out,l.out,r.out⟩
   clear s t l r;obtain⟨k,R,rfl,b,c,A,D⟩:=hrel;have G:=b.cell 0;have H:=b.cell 1;have N:=b.frozen 0;have O:=b.frozen 1;have S:=b.lt;have u:=c.cell 0;have z:=c.cell 1;have P:=c.frozen 0;have Q:=c.frozen 1;have T:=c.lt;have I:=A.cell 1;simp only[List.getElem?_toArray,List.getElem?_cons_zero,List.getElem?_cons_succ]at G H u z I;by_cases J:k<m
   .go_wp2_with fail
    exact⟨⟨k+1,by omega,by go_num,(b.set_ 0 _).set_ 1 _,(c.far (p:=⟨w.heap.size+1+1+1,0,none⟩) (by simp) _).far (p:=⟨w.heap.size+1+1+1,1,none⟩) (by simp) _,(A.far (p:=⟨w.heap.size+1+1+1,0,none⟩) (by simp;omega) _).far (p:=⟨w.heap.size+1+1+1,1,none⟩) (by simp;omega) _,Ba (Ba D (p:=⟨w.heap.size+1+1+1,0,none⟩) (by simp;omega) _) (p:=⟨w.heap.size+1+1+1,1,none⟩) (by simp;omega) _⟩,by simp[intOf];omega⟩
   obtain rfl:m=k:=by omega
   go_wp2_with fail;refine bodyPost_ret (v:=.agg #[(Tc m (x,y)).1,(Tc m (x,y)).2]) (by simp[results,Tryz.results24,go_sem,u,z]) rfl ⟨by unfold Cd;rw[F.out];rfl,Ba (Ba D (p:=⟨w.heap.size+1+1,0,none⟩) (by simp;omega) _) (p:=⟨w.heap.size+1+1,1,none⟩) (by simp;omega) _⟩
theorem jd{f:Bool} {q:Int} {l:LP} {k:Nat} (h:k<l.length):(F6 f q l).take (k+1)=(F6 f q l).take k++[Cd f q (gt l (if f then l.length-1-k else k))]:=by
 rw[List.take_succ_eq_append_getElem (by rw[E8];exact h),<-Xt h];simp[gt,E8,h]
theorem bg(f:Bool) (q:Int) (A:Option Addr) (M n:Nat) (l:List (Int×Int)) (w:World) (hn:n<=1000000) (V:SpS w A n l) :
 Calls Tryz.prog 22 #[.agg #[.bool f,.int .i64 q],.slice A n M] w (Vi w (F6 f q l)):=by
 have L:=Ar V.1;go_enter Tryz.func22,Tryz.ntmps22;go_wp2_with fail;go_loopw [5,6] (λs i wr=>∃k:Nat,k<=n/\i=.int .i64 k/\OwS wr (w.heap.size+1) s ((F6 f q l).take k)/\Bf wr w.heap.size 59 #[.bool f,.int .i64 q]/\Below w.heap.size w wr) λ_ i _=>n-(intOf i).toNat
 case atStart=>exact⟨0,Nat.zero_le _,rfl,OwG.nil,Bf.new _ _ _,blA⟩
 obtain⟨k,hk,rfl,j,E,x⟩:=hrel;by_cases C:k<n
 ·obtain⟨b,y,rfl,Y,F⟩:=V.at_ C;have G:=Ar (jd (f:=f) (q:=q) (l:=l) (k:=k) (by rw[L.out];exact C));rw[L.out]at G;cases f with
  | true =>
    let⟨i,U,o⟩:∃i:Nat,n-1-k=i/\i<n:=⟨_,rfl,by omega⟩
    have Q:(n:Int)-1-(k:Int)=(i:Int):=by omega
    have q1:IntKind.i64.wrap ((n:Int)-1)=(n:Int)-1:=Fm _ (by omega) (by omega);have q2:IntKind.i64.wrap ((n:Int)-1-(k:Int))=(i:Int):=by rw[Q];exact Fm _ (by omega) (by omega)
    rw[if_pos rfl,U]at G;clear U;have I:=Aq x (F i o).1;have J:=Aq x (F i o).2;clear F;have p:((F6 true q l).take k).length<=1000000:=by rw[List.length_take];omega
    have z1:(0:Int)<=(i:Int):=by omega
    have z2:(i:Int)<(n:Int):=by omega
    have O:=x.size;let⟨h,u⟩:∃h,h=u5:=⟨_,rfl⟩
    rw[<-u]at j ⊢;clear u;have r:some b≠h.ownBlock:=λe=>by have:=(OwG.lt j _ e.symm).1;omega
    have d:some w.heap.size≠h.ownBlock:=λe=>by have:=(OwG.lt j _ e.symm).1;omega
    have K:b<wr.heap.size:=by omega
    let⟨B,H⟩:Cq wr w.heap.size 0 (.bool true)/\Cq wr w.heap.size 1 q:=⟨E.cell 0,E.cell 1⟩;have P:w.heap.size<wr.heap.size:=Bi B;go_wp2_with fail
    go_region_held3 (λz=>Cq z b (y+i*2) (gt l i).1/\Cq z b (y+i*2+1) (gt l i).2/\Cq z w.heap.size 0 (.bool true)/\Cq z w.heap.size 1 q) (first
     | (go_keep;done)
     | exact⟨Aq a I,Aq a J,Aq a B,Aq a H⟩
     | exact⟨Aq blA (Aq a I),Aq blA (Aq a J),Aq blA (Aq a B),Aq blA (Aq a H)⟩
     | (go_split_ands
        refine⟨?_,?_,?_,?_⟩
        ·(show World.cell? _ _=_;rw[c.cell_far _ (by simp;omega) r];assumption)
        ·(show World.cell? _ _=_;rw[c.cell_far _ (by simp;omega) r];assumption)
        ·(show World.cell? _ _=_;rw[c.cell_far _ (by simp;omega) d];assumption)
        (show World.cell? _ _=_;rw[c.cell_far _ (by simp;omega) d];assumption)))
     ((first
       | (go_at_call 24;refine rR (L6 _ _ _ _ _) λv a=>?_;have T:wr.heap.size<=v.heap.size:=a.size)
       | (refine Kx (by rfl) _ _ (by rfl) (w.heap.size+1) h ((F6 true q l).take k) (by rfl) (OwG.alloc (OwG.keep j (An blD a)) _) v.heap.size 1 (Cd true q ((gt l i).1,(gt l i).2)) 60 (by rfl) (Bf.new _ _ _) p (by simp;omega) (v.heap.size+1) (by simp) ?_;intro X W Z t c N S)))
    have g:Below wr.heap.size wr v:=An blD a;have D:OwS (v.alloc (.cells #[.int .i64 (Cd true q ((gt l i).1,(gt l i).2)).1,.int .i64 (Cd true q ((gt l i).1,(gt l i).2)).2] 60)) (w.heap.size+1) h ((F6 true q l).take k):=OwG.alloc (OwG.keep j g) _;have m:=(E.keep g).alloc (.cells #[.int .i64 (Cd true q ((gt l i).1,(gt l i).2)).1,.int .i64 (Cd true q ((gt l i).1,(gt l i).2)).2] 60);go_wp2_with fail;exact⟨⟨k+1,by omega,by go_num,by rw[G.out];rw[List.length_take]at t;exact t,(c.block w.heap.size m.lt d).trans m,Bk (Ao (An x g) _) (OwG.lower D (by omega)) c⟩,by simp[intOf];omega⟩
  | false =>
    let⟨i,R,o⟩:∃i:Nat,k=i/\i<n:=⟨_,rfl,C⟩
    rw[if_neg (by simp)]at G;subst R;have I:=Aq x (F k o).1;have J:=Aq x (F k o).2;clear F;have p:((F6 false q l).take k).length<=1000000:=by rw[List.length_take];omega
    have z1:(0:Int)<=(k:Int):=by omega
    have z2:(k:Int)<(n:Int):=by omega
    have O:=x.size;let⟨h,u⟩:∃h,h=u5:=⟨_,rfl⟩
    rw[<-u]at j ⊢;clear u;have r:some b≠h.ownBlock:=λe=>by have:=(OwG.lt j _ e.symm).1;omega
    have d:some w.heap.size≠h.ownBlock:=λe=>by have:=(OwG.lt j _ e.symm).1;omega
    have K:b<wr.heap.size:=by omega
    let⟨B,H⟩:Cq wr w.heap.size 0 (.bool false)/\Cq wr w.heap.size 1 q:=⟨E.cell 0,E.cell 1⟩;have P:w.heap.size<wr.heap.size:=Bi B;go_wp2_with fail
    go_region_held3 (λz=>Cq z b (y+k*2) (gt l k).1/\Cq z b (y+k*2+1) (gt l k).2/\Cq z w.heap.size 0 (.bool false)/\Cq z w.heap.size 1 q) (first
     | (go_keep;done)
     | exact⟨Aq a I,Aq a J,Aq a B,Aq a H⟩
     | exact⟨Aq blA (Aq a I),Aq blA (Aq a J),Aq blA (Aq a B),Aq blA (Aq a H)⟩
     | (go_split_ands
        refine⟨?_,?_,?_,?_⟩
        ·(show World.cell? _ _=_;rw[c.cell_far _ (by simp;omega) r];assumption)
        ·(show World.cell? _ _=_;rw[c.cell_far _ (by simp;omega) r];assumption)
        ·(show World.cell? _ _=_;rw[c.cell_far _ (by simp;omega) d];assumption)
        (show World.cell? _ _=_;rw[c.cell_far _ (by simp;omega) d];assumption)))
     ((first
       | (go_at_call 24;refine rR (L6 _ _ _ _ _) λv a=>?_;have T:wr.heap.size<=v.heap.size:=a.size)
       | (refine Kx (by rfl) _ _ (by rfl) (w.heap.size+1) h ((F6 false q l).take k) (by rfl) (OwG.alloc (OwG.keep j (An blD a)) _) v.heap.size 1 (Cd false q ((gt l k).1,(gt l k).2)) 60 (by rfl) (Bf.new _ _ _) p (by simp;omega) (v.heap.size+1) (by simp) ?_;intro X W Z t c N S)))
    have g:Below wr.heap.size wr v:=An blD a;have D:OwS (v.alloc (.cells #[.int .i64 (Cd false q ((gt l k).1,(gt l k).2)).1,.int .i64 (Cd false q ((gt l k).1,(gt l k).2)).2] 60)) (w.heap.size+1) h ((F6 false q l).take k):=OwG.alloc (OwG.keep j g) _;have m:=(E.keep g).alloc (.cells #[.int .i64 (Cd false q ((gt l k).1,(gt l k).2)).1,.int .i64 (Cd false q ((gt l k).1,(gt l k).2)).2] 60);go_wp2_with fail;exact⟨⟨k+1,by omega,by go_num,by rw[G.out];rw[List.length_take]at t;exact t,(c.block w.heap.size m.lt d).trans m,Bk (Ao (An x g) _) (OwG.lower D (by omega)) c⟩,by simp[intOf];omega⟩
 obtain rfl:n=k:=by omega
 rw[List.take_of_length_le (by rw[E8,L.out];exact Nat.le_refl _)] at j
 go_wp2_with fail;go_ret;exact⟨_,rfl,OwG.lower j (by omega),x⟩
theorem Zx(S:List SgR) (n k:Nat):(ib S n k).length<=2*k:=by
 induction k with
 | zero=>simp[ib]
 | succ k ih=>rw[ib,List.length_append];have:=Ip (gsr S k).a (Fj (gsr S ((k+n-1) % n))) (Fj (gsr S k));omega
theorem Ai1(A:Option Addr) (K n:Nat) (E:List EdgeP) (A2:Option Addr) (n2 c2:Nat) (B:List Int) (w:World) (M:n<=K) (hn:n<=9223372036854775807) (da:n2<=9223372036854775807) (hE:EdS w A n E) (hW:InS w A2 n2 B) :
 Calls Tryz.prog 48 #[.slice A n K,.slice A2 n2 c2] w (Ng w (Ff E B)):=by
 by_cases h:(K6 E B).2=0
 .obtain⟨o1,o2,o3,o4⟩:=kv h;have HA:=Ar (Acg h);have a8:=(D5 o1).2.2.2.2;obtain⟨h3,h6,cy,-⟩:=Je a8;have U:=Ar (Afa (E:=E) (wd:=B) o1);have X:(Nb E B (Kp (Bj E)) E.length).length=(Bj E).length:=K5 _ _ _ _;have b5:∀i,0<=gi (Hl E B) i/\gi (Hl E B) i<=500:=Agg (Wv λk z=>Aen o3 k (by omega))
  have bq:=ot (Bj E)
  have F:=Ar (λt (ht:t<(Bj E).length)=>show (Fj (gsr (Nb E B (Kp (Bj E)) E.length) t)).ok/\Nd (gsr (Nb E B (Kp (Bj E)) E.length) t).a from by
   rw[(Tt o1 ht).1,(Tt o1 ht).2];refine⟨ky a8 rfl b5 ?_ ht,cy t ht⟩;unfold Ec;rw[Oe rfl ht];exact Ade a8 rfl bq.1 bq.2 b5 ht)
  have gf:=Ar (show (if C7 E=0 then (Bj E,0) else ([],C7 E))=(Bj E,(0:Int)) by rw[o1];rfl);let⟨S,hS⟩:=gN (Nb E B (Kp (Bj E)) E.length)
  rw[hS]at o4 U X F;have b0:=Ar o4;let⟨a,bd⟩:=gN ((Bj E).length)
  rw[bd]at h3 h6 U X F;have fv:=Ar bd;let⟨G,hG⟩:=gN (Dy E B)
  let⟨R,hR⟩:=gN (Ff E B)
  rw[hG]at HA U;rw[hR]at HA ⊢;have b1:=Ar X;clear h o1 o2 o3 o4 a8 cy b5 bq hS bd hG hR X;go_enter Tryz.func48,Tryz.ntmps48
  go_upto_region 6 with (go_at_call 72;refine(Aio A K n E A2 n2 c2 B _ M hn da hE hW).mono ?_;rintro e w1 ⟨v1,rfl,y,a1⟩;rw[b0.out]at y ⊢)
  obtain⟨As,cs,rfl,ba,cn,b2⟩:=OwG.form2 y
  try dsimp only at ba b2 y ⊢
  rw[b1.out]at y ba b2 ⊢;obtain⟨g,rfl,n3,n5⟩:=b2 (by omega);have cb:=hE.keep a1;clear hE hW;go_loopw [8,9] (λv i wr=>∃k:Nat,k<=a/\i=.int .i64 k/\OwS wr w1.heap.size v (ib S a k)/\Be w1 wr) λ_ i _=>a-(intOf i).toNat
  case atStart=>exact⟨0,Nat.zero_le _,rfl,OwG.nil,bl0⟩
  obtain⟨k,z,rfl,ho,C⟩:=hrel;by_cases cz:k<a
  .obtain⟨q0,ds⟩:∃q,k+a-1=q:=⟨_,rfl⟩
   have bc:q0 % a<a:=Nat.mod_lt _ (by omega);have mf:=Q6 (q0:Int) q0 a rfl (by omega);have na:=Aca (n:=a) (by omega);let⟨s0,s1,s2,s3,s4,s5,s6⟩:=Aej.cells y b1.out bc;let⟨t0,t1,t2,t3,t4,t5,t6⟩:=Aej.cells y b1.out cz;have ha:=(F.out _ bc).1;have a6:=F.out k cz;have T:=Ar (show ib S a (k+1)=ib S a k++C9 (gsr S k).a (Fj (gsr S (q0 % a))) (Fj (gsr S k)) by rw[ib,ds]);have W1:IntKind.i64.wrap ((k:Int)+(a:Int))=(k:Int)+(a:Int):=by rw[IntKind.wrap_i64];omega
   have W2:IntKind.i64.wrap ((k:Int)+(a:Int)-1)=(q0:Int):=by rw[IntKind.wrap_i64];omega
   let⟨q,hq⟩:=gN (q0 % a)
   rw[hq]at s0 s1 s2 s3 s4 s5 s6 ha bc T;have T1:Int.tmod (q0:Int) (a:Int)=(q:Int):=by rw[<-hq,mf.1];rfl
   have T2:(q0:Int) % (a:Int)=(q:Int):=by rw[<-hq];rfl
   have W4:IntKind.i64.wrap (q:Int)=(q:Int):=by rw[IntKind.wrap_i64];omega
   have W5:IntKind.i64.wrap (Int.tmod (q0:Int) (a:Int))=(q:Int):=by rw[T1];exact W4
   have B1:(k:Int)<(a:Int):=by omega
   have B0:(0:Int)<=(k:Int):=by omega
   have B2:(0:Int)<=(q:Int):=by omega
   have B3:(q:Int)<(a:Int):=by omega
   have B4:¬(a:Int)=0:=by omega
   have B5:¬a=0:=by omega
   have D:=λW=>Al5 (gsr S q) (gsr S k) W (by have:=a6.2;unfold Nd at this;unfold Pz;omega) (by have:=a6.2;unfold Nd at this;unfold Pz;omega) ha a6.1
   have hd:=Ip (gsr S k).a (Fj (gsr S q)) (Fj (gsr S k));have b9:=Zx S a k;let⟨c,N⟩:=gN (C9 (gsr S k).a (Fj (gsr S q)) (Fj (gsr S k)))
   rw[N]at D hd T;let⟨L,hL⟩:=gN (ib S a k)
   rw[hL]at T ho b9;unfold sgC at D;let⟨⟨⟨ax,ay⟩,⟨aX,aY⟩,aw,⟨au,av⟩⟩,cw⟩:∃r,gsr S q=r:=⟨_,rfl⟩
   let⟨⟨⟨bx,h2⟩,⟨bX,bY⟩,bw,⟨bu,bv⟩⟩,cx⟩:∃r,gsr S k=r:=⟨_,rfl⟩
   rw[cw]at s0 s1 s2 s3 s4 s5 s6 D;rw[cx]at t0 t1 t2 t3 t4 t5 t6 D;dsimp only at s0 s1 s2 s3 s4 s5 s6 t0 t1 t2 t3 t4 t5 t6 D;have fs:=Ar D;have HS:=Ar λ(b:World) (z:∀j u,Cq w1 g j u->Cq b g j u)=>show Cq b g (q*7) ax/\Cq b g (q*7+1) ay/\Cq b g (q*7+2) aX/\Cq b g (q*7+3) aY/\Cq b g (q*7+4) aw/\Cq b g (q*7+5) au/\Cq b g (q*7+6) av/\Cq b g (k*7) bx/\Cq b g (k*7+1) h2/\Cq b g (k*7+2) bX/\Cq b g (k*7+3) bY/\Cq b g (k*7+4) bw/\Cq b g (k*7+5) bu/\Cq b g (k*7+6) bv from ⟨z _ _ s0,z _ _ s1,z _ _ s2,z _ _ s3,z _ _ s4,z _ _ s5,z _ _ s6,z _ _ t0,z _ _ t1,z _ _ t2,z _ _ t3,z _ _ t4,z _ _ t5,z _ _ t6⟩;let⟨sv,dy⟩:∃sv,sv=u8:=⟨_,rfl⟩
   rw[<-dy]at ho ⊢;have hx:some g≠sv.ownBlock:=λe=>by have:=(OwG.lt ho _ e.symm).1;omega
   have hc:=C.size;have dk:=Ar λq hq=>(OwG.lt ho q hq).1;have HB:=Ar λ(b:World) (h:Be wr b)=>HS.out b λj u e=>Aq h (Aq C e);have HG:=Ar (λ(W b:World) (h:Be wr W) (hg:W.grownBy b sv.ownBlock)=>HS.out b λj u e=>(hg.cell_far _ (by have:=h.size;simp;omega) hx).trans (Aq h (Aq C e)));clear s0 s1 s2 s3 s4 s5 s6 t0 t1 t2 t3 t4 t5 t6 D N hL cw cx dy hq ds mf ha a6 HS;go_upto_region 8 with fail;have x:=Aw (Below.refl wr.heap.size wr)
   go_region_held3 (sB HB.out)
    (first
     | with_reducible exact HB.out _ x
     | with_reducible exact HG.out _ _ x cu)
    ((first
      | (refine af rfl _ _ rfl w1.heap.size sv L rfl (OwG.keep ho x) ⟨g8,0,none⟩ c.length c.length c rfl dx (by omega) (Nat.le_trans hc x.size) ?_;intro v9 w9 hh cu k1)
      | (go_at_call 73;(with_reducible refine(fs.out _).mono ?_);rintro e w8 ⟨g8,rfl,k3,dx,d⟩;replace x:=An x d)))
   all_goals clear W1 W2 T1 T2 W4 W5
   all_goals go_wp2_with fail
   exact⟨⟨k+1,by omega,by go_num,by rw[T.out];exact hh,Below.grown (An C x) cu (An C x).size dk.out⟩,by simp[intOf];omega⟩
  obtain rfl:a=k:=by omega
  obtain⟨Ac,cc,rfl,N,b3,-⟩:=ho.sps;have b9:=Zx S a a;let⟨nc,db⟩:=gN ((ib S a a).length)
  rw[db]at b3 N b9 ⊢;have s:=An a1 C;have cf:=cb.keep C;clear ho db cb y ba cn
  go_upto_region 11 with (go_at_call 74;refine(Al1 Ac cc nc _ _ (by omega) b3).mono ?_;rintro e w2 ⟨v2,rfl,Q,b6⟩;rw[U.out]at Q)
  obtain⟨Ag,cg,rfl,O,Y,-⟩:=Q.sps;let⟨m,hm⟩:=gN G.length
  rw[hm]at Y O HA ⊢
  have H:m<=9223372036854775807:=by
   obtain⟨A',c',e',-,q',-⟩:=OwG.form2 Q;injection e' with e1 e2 e3
   unfold maxLen at q';omega
  have cd:=cf.keep b6;have ch:=An s b6;have HM:=Ar hm;rw[<-hm]at H;rw[hm]at H;have hl:=Ar (show OwS w2 w.heap.size (.slice Ag m cg) G from by have t:=Q.lower s.size;rw[hm]at t;exact t);clear hm b3 N cf s b6 Q;go_loopw [11] (λi wx=>∃j:Nat,j<=m/\i=.int .i64 j/\Hid (Bp (λi=>Cc 1048576 (gt G i)) j=false)/\Be w2 wx) λi _=>m-(intOf i).toNat
  case atStart=>exact⟨0,Nat.zero_le _,rfl,Ar rfl,bl0⟩
  obtain⟨j,hj,rfl,hz,C⟩:=hrel;by_cases bb:j<m
  .obtain⟨b8,o8,rfl,-,cj⟩:=(Y.keep C).at_ bb;let⟨x1,x2⟩:=cj j bb;have HY:=Ar λ(h:Cc 1048576 (gt G j)=false)=>Bp.succ (f:=λi=>Cc 1048576 (gt G i)) hz.out h;have HN:=Ar λ(h:Cc 1048576 (gt G j)=true)=>Bp.yes (f:=λi=>Cc 1048576 (gt G i)) bb h;let⟨⟨px,py⟩,hp⟩:∃p,gt G j=p:=⟨_,rfl⟩
   rw[hp]at x1 x2 HY HN;dsimp only at x1 x2;clear hp cj;have B8:(j:Int)<(m:Int):=by omega
   cases hw:Cc 1048576 (px,py) with
   | false =>
     have h0:=Ar (HY.out hw)
     go_wp2_with (go_at_call 75;refine rR (Ic px py _) λw8 d=>?_;rw[hw])
     exact⟨⟨j+1,by omega,by go_num,h0,An C d⟩,by simp[intOf];omega⟩
   | true =>
     have gw:=Ar (show R=([],3) by rw[HA.out,if_pos (HN.out hw)])
     go_wp2_with (go_at_call 75;refine rR (Ic px py _) λw8 d=>?_;rw[hw])
     go_ret2
     rw[gw.out];exact⟨_,rfl,OwG.nil,An ch (An C d)⟩
  obtain rfl:m=j:=by omega
  have I:=Ar (show R=if Bg G m≠0 then ([],Bg G m) else if Kp G≠Kp (Bj E) then ([],11) else (G,0) by rw[HA.out,if_neg (by rw[hz.out];simp)]);have b4:=Y.keep C;have b7:=An ch C;have h7:=cd.keep C;let⟨ck,P⟩:=gN (Bg G m)
  have c5:=Ar P;rw[P]at I;let⟨V,hV⟩:=gN (Bj E)
  let⟨og,bm⟩:=gN (Kp G)
  let⟨ov,bp⟩:=gN (Kp V)
  rw[hV,bm,bp]at I;have c9:=Ar (gf.out.trans (by rw[hV]):(if C7 E=0 then (Bj E,0) else ([],C7 E))=(V,(0:Int)));have c6:=Ar bm;have c7:=Ar bp;have gy:=Ar (show V.length=a by rw[<-hV];exact fv.out);clear P hV bm bp hz Y cd;by_cases a7:ck=0
  .subst a7
   go_upto_region 19 with (first
    | (go_at_call 77;have hX:=o;refine(Adj A K n E _ M hn (h7.keep o)).mono ?_;rintro e w8 ⟨v8,rfl,dc,d⟩;rw[c9.out]at dc ⊢)
    | (go_at_call 76;refine rR (Hr Ag cg m G _ H O b4) λw7 o=>?_;rw[c5.out]))
   obtain⟨Av,cv,rfl,ad,Z,-⟩:=dc.sps
   try dsimp only at ad Z ⊢
   rw[gy.out]at ad Z ⊢;have ar:=b4.keep (An o d);by_cases ai:og=ov
   .subst ai;have J:=Ar (show R=(G,0) by rw[I.out,if_neg (by simp),if_neg (by simp)])
    go_wp2_with (first
     | (go_at_call 78;have hX:=l;refine rR (Oc Av cv a V _ (by omega) ad (Z.keep l)) λw9 s=>?_;rw[c7.out])
     | (go_at_call 78;refine(Oc Ag cg m G _ H O ar).mono ?_;rintro e w3 ⟨rfl,l⟩;rw[c6.out]))
    go_ret2
    rw[J.out];exact⟨_,rfl,OwG.keep hl.out (An C (An (An o d) (An l s))),An b7 (An (An o d) (An l s))⟩
   have k4:(og != ov)=true:=by simpa using ai
   have J:=Ar (show R=([],11) by rw[I.out,if_neg (by simp),if_pos ai]);clear ai
   go_wp2_with (first
    | (go_at_call 78;have hX:=l;refine rR (Oc Av cv a V _ (by omega) ad (Z.keep l)) λw9 s=>?_;rw[c7.out])
    | (go_at_call 78;refine(Oc Ag cg m G _ H O ar).mono ?_;rintro e w3 ⟨rfl,l⟩;rw[c6.out]))
   go_ret2
   rw[J.out];exact⟨_,rfl,OwG.nil,An b7 (An (An o d) (An l s))⟩
  have k2:(ck != 0)=true:=by simpa using a7
  have J:=Ar (show R=([],ck) by rw[I.out,if_pos a7]);clear a7
  go_wp2_with (go_at_call 76;refine rR (Hr Ag cg m G _ H O b4) λw7 o=>?_;rw[c5.out])
  go_ret2
  rw[J.out];exact⟨_,rfl,OwG.nil,An b7 o⟩
 have HR:=Ar (yr h);let⟨r,hr⟩:=gN (K6 E B)
 have b0:=Ar hr;rw[hr]at h HR;obtain⟨S,c⟩:=r;dsimp only at h HR;have n9:(c != 0)=true:=by simpa using h
 rw[HR.out];clear h hr;go_enter Tryz.func48,Tryz.ntmps48
 go_wp2_with (go_at_call 72;refine(Aio A K n E A2 n2 c2 B _ M hn da hE hW).mono ?_;rintro e w1 ⟨v1,rfl,y,a1⟩;rw[b0.out])
 go_ret2
 exact⟨_,rfl,OwG.nil,a1⟩
def Alb (w:World) (r:(Int×Int)×Int) (e:Ending) (a:World):Prop:=e=.returned (.tuple #[.agg #[r.1.1,r.1.2],r.2])/\Be w a
theorem tz(vs:Array Value) (s:StyleP) (z u:Int) (w:World) (x:SmS s) (Z:StV w vs s):Calls Tryz.prog 38 #[.agg vs,z,u] w (Ng w (J5 s z u)):=by
 let⟨r,v⟩:=gN (Ii s z u)
 obtain⟨G,O,H,P,I,Q,J,R,K,S,L,T,rfl,-⟩:=id Z
 have m:=Ar (λ(X:World) (hX:StV X #[.string s.nm,.slice G s.sz.length O,.slice H s.mu.length P,.slice I s.pc.length Q,.slice J s.us.length R,.slice K s.se.length S,.slice L s.no T] s)=>show Calls Tryz.prog 64 #[.agg #[.string s.nm,.slice G s.sz.length O,.slice H s.mu.length P,.slice I s.pc.length Q,.slice J s.us.length R,.slice K s.se.length S,.slice L s.no T],z,u] X (Qj X r (Cg s u)) by
  rw[<-v];exact Yo _ s z u X x hX)
 have n:=Ar (show J5 s z u=if r.2≠0 then ([],r.2) else Ff r.1 (Cg s u).wd by unfold J5;rw[v]);obtain⟨E,c⟩:=r;dsimp only at m n;clear v;go_enter Tryz.func38,Tryz.ntmps38;go_upto_region 1 with fail;refine Bq λX b W=>?_
 let⟨p0,p1,p2,p3,p4,p5,p6⟩:=st7 W;have f:=Z.keep b;by_cases h:c=0
 .subst h;have k:=Ar (show J5 s z u=Ff E (Cg s u).wd by rw[n.out,if_neg (by simp)])
  go_upto_region 2 with (go_at_call 64;refine(m.out _ f).mono ?_;rintro e w1 ⟨M,U,F,l,rfl,y,i2,i,A,B,a⟩;have t:=B rfl;subst t;clear B;obtain⟨E1,d1,E2,d2,E3,d3,N,V,rfl,-,-,-,k1,k2,C⟩:=A)
  let⟨l,g⟩:=gN (Cg s u)
  rw[g]at k1 C k ⊢;clear g;refine Bq λY d hQ=>?_
  let⟨y0,y1,y2,y3,y4,y5,y6⟩:=pc7 hQ;have j:=i.keep d;have D:=C.keep d;have hl:=i.1
  try dsimp only at y i2 i j hl ⊢
  clear i C p0 p1 p2 p3 p4 p5 p6 W f
  go_wp2_with (go_at_call 65;refine(vn M U E.length E N l.wd.length V l.wd _ y (by omega) j D).mono ?_;rintro e w2 ⟨v2,rfl,q,o⟩)
  go_ret2
  rw[k.out];exact⟨_,rfl,OwG.lower q (An (An b a) d).size,An (An (An b a) d) o⟩
 have k:=Ar (show J5 s z u=([],c) by rw[n.out,if_pos h]);have b1:(c != 0)=true:=by simpa using h
 clear h
 go_wp2_with (go_at_call 64;refine(m.out _ f).mono ?_;rintro e w1 ⟨M,U,F,l,rfl,y,i2,i,A,B,a⟩;obtain⟨E1,d1,E2,d2,E3,d3,N,V,rfl,-⟩:=A)
 go_ret2
 rw[k.out];exact⟨_,rfl,OwG.nil,Ao (An b a) _⟩
theorem Ry{s:StyleP} {z u:Int} {E:List EdgeP} (h:Ii s z u=(E,0)):Bv s=0/\0<=z/\z<s.sz.length/\0<=u/\u<s.us.length/\C7 E=0/\Ch (Cg s u) (gi s.mu z.toNat)=(E,0):=by
 unfold Ii at h;split at h
 .rename_i g;exact absurd (congrArg Prod.snd h) g
 rename_i c;split at h
 .exact absurd (congrArg Prod.snd h) (by simp)
 rename_i d;obtain⟨a,-,b,-⟩:=Sk (show (Ch (Cg s u) (gi s.mu z.toNat)).2=0 by rw[h]);rw[h]at a;dsimp only at a;rw[<-a]at b;exact⟨by simpa using c,by omega,by omega,by omega,by omega,b,h⟩
theorem ic(vs:Array Value) (s:StyleP) (z u:Int) (w:World) (F:SmS s) (hv:StV w vs s):Calls Tryz.prog 39 #[.agg vs,z,u] w (Alb w (Rn s z u)):=by
 let⟨r,x⟩:=gN (Ii s z u)
 obtain⟨N,T,O,U,P,V,Q,W,R,Z,S,c6,rfl,-⟩:=id hv
 have A:=Ar (λ(X:World) (hX:StV X #[.string s.nm,.slice N s.sz.length T,.slice O s.mu.length U,.slice P s.pc.length V,.slice Q s.us.length W,.slice R s.se.length Z,.slice S s.no c6] s)=>show Calls Tryz.prog 64 #[.agg #[.string s.nm,.slice N s.sz.length T,.slice O s.mu.length U,.slice P s.pc.length V,.slice Q s.us.length W,.slice R s.se.length Z,.slice S s.no c6],z,u] X (Qj X r (Cg s u)) by
  rw[<-x];exact Yo _ s z u X F hX)
 have B:=Ar (show Rn s z u=if r.2≠0 then ((0,0),r.2) else (gt (edg r.1 0).ln 0,0) by unfold Rn;rw[x]);obtain⟨E,c⟩:=r;dsimp only at A B
 have HK:=Ar (λ(h:c=0)=>show 2<=E.length/\2<=(edg E 0).ln.length from by
  have o:=(Ry (E:=E) (by rw[x,h])).2.2.2.2.2.1;obtain⟨q1,-,q3,-⟩:=D5 o;exact⟨q1,(Er (q3 0 (by omega)).2).1⟩)
 clear x;go_enter Tryz.func39,Tryz.ntmps39;go_upto_region 1 with fail;refine Eo λX j C hR=>?_
 let⟨p0,p1,p2,p3,p4,p5,p6⟩:=st7 C;have i:=hv.keep j;by_cases h:c=0
 .obtain⟨hl,D⟩:=HK.out h;subst h;have g:=Ar (show Rn s z u=(gt (edg E 0).ln 0,0) by rw[B.out,if_neg (by simp)])
  go_upto_region 2 with (go_at_call 64;refine(A.out _ i).mono ?_;rintro e M ⟨A7,c7,L,p7,rfl,y,i2,t,G,i5,f⟩;obtain⟨E1,d1,E2,d2,E3,d3,E4,d4,rfl,-⟩:=G)
  refine Cj (λY=>Be M Y) blA ?_;rintro Y d;have a:=(hR.keep f).keep d;let⟨x0,x1⟩:=Vs a;have f0:=a.frozen 0;have f1:=a.frozen 1
  try dsimp only at y t ⊢
  obtain⟨b,cd,rfl,hc⟩:=(t.keep d).at_ (show 0<E.length by omega);have k:=hc 0 (by omega);rw[Nat.zero_mul,Nat.add_zero]at k;obtain⟨g0,Al,cl,g1,g2,g3,g4⟩:=k;obtain⟨bl,ol,rfl,-,l⟩:=g4.at_ (show 0<(edg E 0).ln.length by omega);let⟨H,I⟩:=l 0 (by omega);rw[Nat.zero_mul,Nat.add_zero]at H I;let⟨n,hn⟩:=gN E.length
  let⟨m,hm⟩:=gN ((edg E 0).ln.length)
  let⟨q,hq⟩:=gN (gt (edg E 0).ln 0)
  rw[hn]at hl ⊢;rw[hm]at D g1;rw[hq]at H I g;obtain⟨qx,qy⟩:=q;dsimp only at H I;have B1:(0:Int)<(n:Int):=by omega
  have B2:(0:Int)<(m:Int):=by omega
  clear p0 p1 p2 p3 p4 p5 p6 C i t hc l hn hm hq g4 y;go_wp2_with fail;let⟨J,K⟩:=Vs ((a.set_ 0 (.int .i64 qx)).set_ 1 (.int .i64 qy));exact bodyPost_ret (v:=.tuple #[.agg #[qx,qy],.int .i64 0]) (by simp[results,Tryz.results39,go_sem,J,K]) rfl ⟨by rw[g.out],Ba (Ba (An (An j f) d) (p:=⟨w.heap.size+1,0,none⟩) (by show w.heap.size<=w.heap.size+1;omega) _) (p:=⟨w.heap.size+1,1,none⟩) (by show w.heap.size<=w.heap.size+1;omega) _⟩
 have g:=Ar (show Rn s z u=((0,0),c) by rw[B.out,if_pos h]);have ca:(c != 0)=true:=by simpa using h
 clear h
 go_upto_region 2 with (go_at_call 64;refine(A.out _ i).mono ?_;rintro e M ⟨A7,c7,L,p7,rfl,y,i2,t,G,i5,f⟩;obtain⟨E1,d1,E2,d2,E3,d3,E4,d4,rfl,-⟩:=G)
 refine Cj (λY=>Be M Y) blA ?_;rintro Y d;have a:=(hR.keep f).keep d;let⟨x0,x1⟩:=Vs a;have f0:=a.frozen 0;have f1:=a.frozen 1;clear p0 p1 p2 p3 p4 p5 p6 C i t y;go_wp2_with fail;let⟨J,K⟩:=Vs ((a.set_ 0 (.int .i64 0)).set_ 1 (.int .i64 0));exact bodyPost_ret (v:=.tuple #[.agg #[.int .i64 0,.int .i64 0],c]) (by simp[results,Tryz.results39,go_sem,J,K]) rfl ⟨by rw[g.out],Ba (Ba (An (An j f) d) (p:=⟨w.heap.size+1,0,none⟩) (by show w.heap.size<=w.heap.size+1;omega) _) (p:=⟨w.heap.size+1,1,none⟩) (by show w.heap.size<=w.heap.size+1;omega) _⟩
theorem Aof(vs:Array Value) (s:StyleP) (z u:Int) (w:World) (x:SmS s) (Z:StV w vs s):Calls Tryz.prog 20 #[.agg vs,z,u] w (Ng w (J5 s z u)):=by
 let⟨r,v⟩:=gN (Ii s z u)
 obtain⟨G,O,H,P,I,Q,J,R,K,S,L,T,rfl,-⟩:=id Z
 have m:=Ar (λ(X:World) (hX:StV X #[.string s.nm,.slice G s.sz.length O,.slice H s.mu.length P,.slice I s.pc.length Q,.slice J s.us.length R,.slice K s.se.length S,.slice L s.no T] s)=>show Calls Tryz.prog 47 #[.agg #[.string s.nm,.slice G s.sz.length O,.slice H s.mu.length P,.slice I s.pc.length Q,.slice J s.us.length R,.slice K s.se.length S,.slice L s.no T],z,u] X (Qk X r (Cg s u)) by
  rw[<-v];exact jh _ s z u X x hX)
 have n:=Ar (show J5 s z u=if r.2≠0 then ([],r.2) else Ff r.1 (Cg s u).wd by unfold J5;rw[v]);obtain⟨E,c⟩:=r;dsimp only at m n;clear v;go_enter Tryz.func20,Tryz.ntmps20;go_upto_region 1 with fail;refine Bq λX b W=>?_
 let⟨p0,p1,p2,p3,p4,p5,p6⟩:=st7 W;have f:=Z.keep b;by_cases h:c=0
 .subst h;have k:=Ar (show J5 s z u=Ff E (Cg s u).wd by rw[n.out,if_neg (by simp)])
  go_upto_region 2 with (go_at_call 47;refine(m.out _ f).mono ?_;rintro e w1 ⟨M,U,F,l,rfl,y,i2,i,A,B,a⟩;have t:=B rfl;subst t;clear B;obtain⟨E1,d1,E2,d2,E3,d3,N,V,rfl,-,-,-,k1,k2,C⟩:=A)
  let⟨l,g⟩:=gN (Cg s u)
  rw[g]at k1 C k ⊢;clear g;refine Bq λY d hQ=>?_
  let⟨y0,y1,y2,y3,y4,y5,y6⟩:=pc7 hQ;have j:=i.keep d;have D:=C.keep d;have hl:=i.1
  try dsimp only at y i2 i j hl ⊢
  clear i C p0 p1 p2 p3 p4 p5 p6 W f
  go_wp2_with (go_at_call 48;refine(Ai1 M U E.length E N l.wd.length V l.wd _ y (by omega) (by omega) j D).mono ?_;rintro e w2 ⟨v2,rfl,q,o⟩)
  go_ret2
  rw[k.out];exact⟨_,rfl,OwG.lower q (An (An b a) d).size,An (An (An b a) d) o⟩
 have k:=Ar (show J5 s z u=([],c) by rw[n.out,if_pos h]);have b1:(c != 0)=true:=by simpa using h
 clear h
 go_wp2_with (go_at_call 47;refine(m.out _ f).mono ?_;rintro e w1 ⟨M,U,F,l,rfl,y,i2,i,A,B,a⟩;obtain⟨E1,d1,E2,d2,E3,d3,N,V,rfl,-⟩:=A)
 go_ret2
 rw[k.out];exact⟨_,rfl,OwG.nil,Ao (An b a) _⟩
theorem Aew(vs:Array Value) (s:StyleP) (z u:Int) (w:World) (F:SmS s) (hv:StV w vs s):Calls Tryz.prog 21 #[.agg vs,z,u] w (Alb w (Rn s z u)):=by
 let⟨r,x⟩:=gN (Ii s z u)
 obtain⟨N,T,O,U,P,V,Q,W,R,Z,S,c6,rfl,-⟩:=id hv
 have A:=Ar (λ(X:World) (hX:StV X #[.string s.nm,.slice N s.sz.length T,.slice O s.mu.length U,.slice P s.pc.length V,.slice Q s.us.length W,.slice R s.se.length Z,.slice S s.no c6] s)=>show Calls Tryz.prog 47 #[.agg #[.string s.nm,.slice N s.sz.length T,.slice O s.mu.length U,.slice P s.pc.length V,.slice Q s.us.length W,.slice R s.se.length Z,.slice S s.no c6],z,u] X (Qk X r (Cg s u)) by
  rw[<-x];exact jh _ s z u X F hX)
 have B:=Ar (show Rn s z u=if r.2≠0 then ((0,0),r.2) else (gt (edg r.1 0).ln 0,0) by unfold Rn;rw[x]);obtain⟨E,c⟩:=r;dsimp only at A B
 have HK:=Ar (λ(h:c=0)=>show 2<=E.length/\2<=(edg E 0).ln.length from by
  have o:=(Ry (E:=E) (by rw[x,h])).2.2.2.2.2.1;obtain⟨q1,-,q3,-⟩:=D5 o;exact⟨q1,(Er (q3 0 (by omega)).2).1⟩)
 clear x;go_enter Tryz.func21,Tryz.ntmps21;go_upto_region 1 with fail;refine Eo λX j C hR=>?_
 let⟨p0,p1,p2,p3,p4,p5,p6⟩:=st7 C;have i:=hv.keep j;by_cases h:c=0
 .obtain⟨hl,D⟩:=HK.out h;subst h;have g:=Ar (show Rn s z u=(gt (edg E 0).ln 0,0) by rw[B.out,if_neg (by simp)])
  go_upto_region 2 with (go_at_call 47;refine(A.out _ i).mono ?_;rintro e M ⟨A7,c7,L,p7,rfl,y,i2,t,G,i5,f⟩;obtain⟨E1,d1,E2,d2,E3,d3,E4,d4,rfl,-⟩:=G)
  refine Cj (λY=>Be M Y) blA ?_;rintro Y d;have a:=(hR.keep f).keep d;let⟨x0,x1⟩:=Vs a;have f0:=a.frozen 0;have f1:=a.frozen 1
  try dsimp only at y t ⊢
  obtain⟨b,cd,rfl,hc⟩:=(t.keep d).at_ (show 0<E.length by omega);have k:=hc 0 (by omega);rw[Nat.zero_mul,Nat.add_zero]at k;obtain⟨g0,Al,cl,g1,g2,g3,g4⟩:=k;obtain⟨bl,ol,rfl,-,l⟩:=g4.at_ (show 0<(edg E 0).ln.length by omega);let⟨H,I⟩:=l 0 (by omega);rw[Nat.zero_mul,Nat.add_zero]at H I;let⟨n,hn⟩:=gN E.length
  let⟨m,hm⟩:=gN ((edg E 0).ln.length)
  let⟨q,hq⟩:=gN (gt (edg E 0).ln 0)
  rw[hn]at hl ⊢;rw[hm]at D g1;rw[hq]at H I g;obtain⟨qx,qy⟩:=q;dsimp only at H I;have B1:(0:Int)<(n:Int):=by omega
  have B2:(0:Int)<(m:Int):=by omega
  clear p0 p1 p2 p3 p4 p5 p6 C i t hc l hn hm hq g4 y;go_wp2_with fail;let⟨J,K⟩:=Vs ((a.set_ 0 (.int .i64 qx)).set_ 1 (.int .i64 qy));exact bodyPost_ret (v:=.tuple #[.agg #[qx,qy],.int .i64 0]) (by simp[results,Tryz.results21,go_sem,J,K]) rfl ⟨by rw[g.out],Ba (Ba (An (An j f) d) (p:=⟨w.heap.size+1,0,none⟩) (by show w.heap.size<=w.heap.size+1;omega) _) (p:=⟨w.heap.size+1,1,none⟩) (by show w.heap.size<=w.heap.size+1;omega) _⟩
 have g:=Ar (show Rn s z u=((0,0),c) by rw[B.out,if_pos h]);have ca:(c != 0)=true:=by simpa using h
 clear h
 go_upto_region 2 with (go_at_call 47;refine(A.out _ i).mono ?_;rintro e M ⟨A7,c7,L,p7,rfl,y,i2,t,G,i5,f⟩;obtain⟨E1,d1,E2,d2,E3,d3,E4,d4,rfl,-⟩:=G)
 refine Cj (λY=>Be M Y) blA ?_;rintro Y d;have a:=(hR.keep f).keep d;let⟨x0,x1⟩:=Vs a;have f0:=a.frozen 0;have f1:=a.frozen 1;clear p0 p1 p2 p3 p4 p5 p6 C i t y;go_wp2_with fail;let⟨J,K⟩:=Vs ((a.set_ 0 (.int .i64 0)).set_ 1 (.int .i64 0));exact bodyPost_ret (v:=.tuple #[.agg #[.int .i64 0,.int .i64 0],c]) (by simp[results,Tryz.results21,go_sem,J,K]) rfl ⟨by rw[g.out],Ba (Ba (An (An j f) d) (p:=⟨w.heap.size+1,0,none⟩) (by show w.heap.size<=w.heap.size+1;omega) _) (p:=⟨w.heap.size+1,1,none⟩) (by show w.heap.size<=w.heap.size+1;omega) _⟩
def xi (c:PlcP):List Value:=[.int .i64 c.ga,.int .i64 c.us,.int .i64 c.cp,.bool c.fl,.int .i64 c.qu,.int .i64 c.x,.int .i64 c.y]
theorem Zi(c:PlcP):(xi c).length=7:=rfl
theorem Abg(c:PlcP):∀u∈xi c,u.oneCell'=true:=by
 intro u a;simp[xi]at a;rcases a with rfl|rfl|rfl|rfl|rfl|rfl|rfl<;>rfl
theorem Aj3:(Tryz.prog.info? 62).map (λi=>(i.zero,i.size,i.bytes))=some (some (.agg #[.int .i64 0,.int .i64 0,.int .i64 0,.bool false,.int .i64 0,.int .i64 0,.int .i64 0]),7,56):=by kernel_rfl
def Tb (w:World) (a:Nat) (v:Value) (l:List PlcP):Prop:=OwG 62 7 xi w a v l
def Ak6 (w:World) (b o:Nat) (c:PlcP):Prop:=Cq w b o c.ga/\Cq w b (o+1) c.us/\Cq w b (o+2) c.cp/\Cq w b (o+3) (.bool c.fl)/\Cq w b (o+4) c.qu/\Cq w b (o+5) c.x/\Cq w b (o+6) c.y
def PlS (w:World) (A:Option Addr) (n:Nat) (l:List PlcP):Prop:=l.length=n/\(n=0\/∃b a,A=some ⟨b,a,none⟩/\∀k,k<n->Ak6 w b (a+k*7) (plc l k))
theorem Ak6.keep{w:World}  {c:PlcP} (h:Ak6 w b p c) (d:Be w a):Ak6 a b p c :=
 ⟨Aq d h.1,Aq d h.2.1,Aq d h.2.2.1,Aq d h.2.2.2.1,Aq d h.2.2.2.2.1,Aq d h.2.2.2.2.2.1,Aq d h.2.2.2.2.2.2⟩
theorem PlS.keep{w:World}    (e:PlS w l b h) (g:Be w a):PlS a l b h:=by
 refine⟨e.1,?_⟩;rcases e.2 with c|⟨f,d,rfl,c⟩
 .exact .inl c
 exact .inr ⟨f,d,rfl,λk i=>(c k i).keep g⟩
theorem PlS.at_{w:World}    (e:PlS w l b h) {k:Nat} (f:k<b):∃c a,l=some ⟨c,a,none⟩/\∀k,k<b->Ak6 w c (a+k*7) (plc h k):=by
 rcases e.2 with d|⟨c,a,rfl,d⟩
 .omega
 exact⟨c,a,rfl,d⟩
theorem zl(a:b<h.length):h[b]? = some (plc h b):=by
 unfold plc;rw[List.getD,List.getElem?_eq_getElem a];rfl
theorem Tb.cells{w:World} {n:Nat}  (a:Tb w b (.slice (some ⟨p,0,none⟩) n q) h) (f:h.length=n) {k:Nat} (e:k<n):Ak6 w p (k*7) (plc h k):=by
 subst f
 have c:∀j,j<7->w.cell? ⟨p,k*7+j,none⟩=(xi (plc h k))[j]? := λj d=>by
  rw[OwG.cells a (k*7+j) (by omega),Bu Zi h k j _ (zl e) d]
 exact⟨(c 0 (by omega)).trans rfl,(c 1 (by omega)).trans rfl,(c 2 (by omega)).trans rfl,(c 3 (by omega)).trans rfl,(c 4 (by omega)).trans rfl,(c 5 (by omega)).trans rfl,(c 6 (by omega)).trans rfl⟩
theorem Tb.pls{w:World}    (e:Tb w b f h):∃A c,f=.slice A h.length c/\h.length<=c/\c<=9223372036854775807/\PlS w A h.length h:=by
 rcases OwG.form e with⟨rfl,rfl⟩|⟨g,a,rfl,l,m,i,d⟩
 .exact⟨none,0,rfl,Nat.le_refl _,by omega,rfl,.inl rfl⟩
 exact⟨_,a,rfl,i,by unfold maxLen at d;exact d,rfl,.inr ⟨g,0,rfl,λk j=>by rw[Nat.zero_add];exact Tb.cells e rfl j⟩⟩
theorem Eu{w:World} {g:Array Oper} {b:List Oper} {o:Oper}  {Q:Exit->Act->World->Prop} (k:o.guard=none) (s x:Operand)
 (t:o.op=.call { callee:=.builtin .append,args:=#[s,x],argTypes:=#[33,33] })
 (a:Nat) (v:Value) (l:List PlcP) (u:m.eval s=v) (f:Tb w a v l)
 (j c:Nat) (p:PlcP) (r:TypeId) (y:m.eval x=.slice (some ⟨j,0,none⟩) 1 c) (e:Bf w j r #[p.ga,p.us,p.cp,.bool p.fl,p.qu,p.x,p.y])
 (q:l.length<=1000000) (d:a<=w.heap.size)
 (h:∀i n,Tb n a i (l++[p])->w.grownBy n v.ownBlock->(i.ownBlock=v.ownBlock\/i.ownBlock=some w.heap.size)->wpList Tryz.prog g Q b (m.put o.dst i) n) :
 wpList Tryz.prog g Q (o::b) m w :=
 Co k s x 33 t xi a 62 (.agg #[.int .i64 0,.int .i64 0,.int .i64 0,.bool false,.int .i64 0,.int .i64 0,.int .i64 0]) 7 56 Tryz.underlying33 Aj3 rfl (by omega) Zi Abg v l u f j c p r y e (by unfold maxLen;omega) (by omega) d h
structure ShX where
 A:Option Addr
 n:Nat
 c:Nat
 gr:Int
 mt:Bool
 ax:Int
 ay:Int
def Abf (x:ShX):List Value:=[.slice x.A x.n x.c,.int .i64 x.gr,.bool x.mt,.int .i64 x.ax,.int .i64 x.ay]
theorem Zh(x:ShX):(Abf x).length=5:=rfl
theorem Abe(x:ShX):∀u∈Abf x,u.oneCell'=true:=by
 intro u a;simp[Abf]at a;rcases a with rfl|rfl|rfl|rfl|rfl<;>rfl
theorem Aj0:(Tryz.prog.info? 72).map (λi=>(i.zero,i.size,i.bytes))=some (some (.agg #[.slice none 0 0,.int .i64 0,.bool false,.int .i64 0,.int .i64 0]),5,56):=by kernel_rfl
def ShV (w:World) (a:Nat) (x:ShX) (s:Shp):Prop:=x.gr=s.grain/\x.mt=s.mat/\x.ax=s.anc.1/\x.ay=s.anc.2/\ElS w a (.slice x.A x.n x.c) s.poly/\x.c<=9223372036854775807
theorem ShV.keep{w:World} {base:Nat} {x:ShX}  (h:ShV w base x n) (b:Be w a):ShV a base x n:=⟨h.1,h.2.1,h.2.2.1,h.2.2.2.1,h.2.2.2.2.1.keep b,h.2.2.2.2.2⟩
def Vj (w:World) (a:Nat) (v:Value) (S:List Shp):Prop :=
 ∃b:List ShX,OwG 72 5 Abf w a v b/\b.length=S.length/\∀(i:Nat) (x:ShX),b[i]? = some x->ShV w a x (shp S i)
theorem Vj.nil{w:World} :Vj w b (.slice none 0 0) []:=⟨[],OwG.nil,rfl,by simp⟩
theorem Vj.keep{w:World} {base:Nat}   (h:Vj w base f e) (b:Be w a):Vj a base f e:=by
 obtain⟨k,c,d,g⟩:=h;exact⟨k,c.keep b,d,λi x j=>(g i x j).keep b⟩
theorem Vj.lower{w:World} {base':Nat}   (h:Vj w b f e) (d:base'<=b):Vj w base' f e:=by
 obtain⟨k,g,j,a⟩:=h;exact⟨k,g.lower d,j,λi x c=>⟨(a i x c).1,(a i x c).2.1,(a i x c).2.2.1,(a i x c).2.2.2.1,(a i x c).2.2.2.2.1.lower d,(a i x c).2.2.2.2.2⟩⟩
theorem Vj.own{w:World}    (h:Vj w b f e):∃a:List ShX,OwG 72 5 Abf w b f a:=by
 obtain⟨a,c,-⟩:=h;exact⟨a,c⟩
theorem Vj.shs{w:World}    (h:Vj w b f e) (O:e.length<=1000000):∃A c,f=.slice A e.length c/\e.length<=c/\c<=9223372036854775807/\ShS w A e.length e:=by
 obtain⟨m,v,a,F⟩:=h;rcases OwG.form v with⟨rfl,rfl⟩|⟨g,d,rfl,L,M,E,t⟩
 .have:e=[]:=List.eq_nil_of_length_eq_zero (by rw[<-a];rfl);subst this;exact⟨none,0,rfl,Nat.le_refl _,by omega,rfl,by simp,.inl rfl⟩
 refine⟨_,d,by rw[<-a],by rw[<-a];exact E,by unfold maxLen at t;exact t,rfl,by omega,.inr ⟨g,0,rfl,λk H=>?_⟩⟩;have l:k<m.length:=by rw[a];exact H
 let⟨x,y⟩:∃u,m[k]? = some u:=⟨_,List.getElem?_eq_getElem l⟩
 have c:∀j,j<5->w.cell? ⟨g,k*5+j,none⟩=(Abf x)[j]? := λj G=>by
  rw[OwG.cells v (k*5+j) (by omega),Bu Zh m k j _ y G]
 obtain⟨n,o,p,q,⟨A,K,r,B,C,D,-⟩,s⟩:=F k x y;obtain⟨z,Q,i,N,P,I,J⟩:=x;dsimp only at n o p q r s;injection r with q1 q2 q3
 subst q1 q2 q3;rw[Nat.zero_add];exact⟨z,i,(c 0 (by omega)).trans rfl,B,s,C,D,(c 1 (by omega)).trans (by rw[<-n];rfl),(c 2 (by omega)).trans (by rw[<-o];rfl),(c 3 (by omega)).trans (by rw[<-p];rfl),(c 4 (by omega)).trans (by rw[<-q];rfl)⟩
theorem OwG.apart{r s:Type} {n:TypeId}  {y:r->List Value} {e:s->List Value} {w:World} {t:Nat} {o:Value} {l:List r} {C:List s} (h:OwG k b y w q f l) (A:OwG n p e w t o C) (i:k≠n):f.ownBlock=none\/f.ownBlock≠o.ownBlock:=by
 rcases h.2 with⟨d,_⟩|⟨g,u,v,d,_,B,_⟩
 .left;rw[d];rfl
 right;rcases A.2 with⟨c,_⟩|⟨z,j,m,c,_,a,_⟩
 .rw[d,c];simp[Value.ownBlock]
 rw[d,c];intro x;have:g=z:=by simpa[Value.ownBlock] using x
 subst this;rw[B]at a;injection a with a
 injection a with _ ht
 exact i ht
theorem OwG.neB{i:Type} {t:TypeId}  {n:i->List Value} {w:World}   {l:List i} {g:Array Value} (h:OwG k b n w p f l) (r:Bf w q t g) (e:t≠k):some q≠f.ownBlock:=by
 intro c;rcases h.2 with⟨d,_⟩|⟨o,j,m,d,_,s,_⟩
 .rw[d]at c;simp[Value.ownBlock]at c
 rw[d]at c;have:q=o:=by simpa[Value.ownBlock] using c
 subst this;have a:w.heap[q]? = some (.cells g t (0,0)):=r;rw[s]at a;injection a with a
 injection a with _ ht
 exact e ht.symm
theorem Vj.grown{w:World}    {u:Type}   {l:u->List Value}  {t:Value} {K:List u} (h:Vj w b f e) (o:OwG k p l w q t K) (n:72≠k) (d:60≠k) (s:w.grownBy a t.ownBlock):Vj a b f e:=by
 obtain⟨L,r,F,G⟩:=h;refine⟨L,OwG.kept r s (OwG.apart r o n),F,λi x I=>?_⟩;let⟨z,A,B,C,D,E⟩:=G i x I;refine⟨z,A,B,C,D.grown s ?_,E⟩;intro J M N _ H j;rcases o.2 with⟨m,_⟩|⟨g,v,y,m,_,c,_⟩
 .rw[m]at j;simp[Value.ownBlock]at j
 rw[m]at j;have:J=g:=by simpa[Value.ownBlock] using j
 subst this;rw[H]at c;injection c with c
 injection c with _ ht
 exact d ht
theorem Ae1(h:b<e.length):shp (e++[n]) b=shp e b:=by
 unfold shp;rw[List.getD,List.getD,List.getElem?_append_left h]
theorem yp:shp (e++[n]) e.length=n:=by
 unfold shp;simp[List.getD]
theorem Mq{w:World} {H:Array Oper} {b:List Oper} {o:Oper}  {Q:Exit->Act->World->Prop} (T:o.guard=none) (s x:Operand)
 (ho:o.op=.call { callee:=.builtin .append,args:=#[s,x],argTypes:=#[32,32] })
 (a:Nat) (v:Value) (S:List Shp) (hs:m.eval s=v) (E:Vj w a v S)
 (I c:Nat) (A:Option Addr) (n z:Nat) (C:Int) (G:Bool) (r u:Int) (sh:Shp) (tb:TypeId) (hx:m.eval x=.slice (some ⟨I,0,none⟩) 1 c) (D:Bf w I tb #[.slice A n z,C,.bool G,r,u]) (hu:ShV w a ⟨A,n,z,C,G,r,u⟩ sh)
 (Z:S.length<=1000000) (d:a<=w.heap.size)
 (h:∀M l,Vj l a M (S++[sh])->w.grownBy l v.ownBlock->(∀k,v.ownBlock=some k->a<=k)->wpList Tryz.prog H Q b (m.put o.dst M) l) :
 wpList Tryz.prog H Q (o::b) m w:=by
 let⟨i,hi,V,W,X⟩:=info_parts Aj0;obtain⟨p,R,J,h3⟩:=E
 have F:∀k N O,a<=k->w.heap[k]? = some (.cells N 60 O)->some k≠v.ownBlock:=by
  intro k N O _ L Y;rcases R.2 with⟨rfl,_⟩|⟨g,a7,a8,rfl,_,K,_⟩
  .cases Y
  have:k=g:=by simpa[Value.ownBlock] using Y
  subst this;rw[K]at L;injection L with L
  injection L with _ ht
  exact absurd ht (by decide)
 refine wpList_append_own_at (P:=Tryz.prog) w T s x 32 ho a 72 i (.agg #[.slice none 0 0,.int .i64 0,.bool false,.int .i64 0,.int .i64 0]) 5 56 Tryz.underlying32 hi V W X rfl (by omega) v p.length (p.flatMap Abf) hs R ⟨I,0,none⟩ 1 c (Abf ⟨A,n,z,C,G,r,u⟩) hx (by rw[Zh]) ?_ (Abe _) (by rw[J];unfold maxLen;omega) (by rw[J];omega) d ?_
 .intro j y hj;exact World.news_of_block (w:=w) (B:=I) (cs:=(Abf ⟨A,n,z,C,G,r,u⟩).toArray) (t:=tb) (fr:=(0,0)) D j y (by simpa using hj)
 intro M l U K _ ai;refine h M l ⟨p++[⟨A,n,z,C,G,r,u⟩],?_,by simp[J],λj y e=>?_⟩ K λk hk=>(R.lt k hk).1
 .unfold OwG;rw[List.length_append,List.flatMap_append];simpa using U
 have kp:∀{x:ShX} {s:Shp},ShV w a x s->ShV l a x s:=λf=>⟨f.1,f.2.1,f.2.2.1,f.2.2.2.1,f.2.2.2.2.1.grown K F,f.2.2.2.2.2⟩
 rcases Nat.lt_or_ge j p.length with q|q
 .rw[List.getElem?_append_left q]at e;rw[Ae1 (by omega)];exact kp (h3 j y e)
 rcases Nat.lt_or_ge j (p.length+1) with q2|q2
 .obtain rfl:j=p.length:=by omega
  rw[List.getElem?_append_right (Nat.le_refl _),Nat.sub_self]at e;simp at e;subst e;rw[J,yp];exact kp hu
 rw[List.getElem?_eq_none (by simp;omega)]at e;cases e
end Go.Proofs.YtlogblbfbihleaaGreat

/- Lean texts of the claim. -/
import Derived.Test.YtpbchbcdgikonaaGreatQ33
namespace Go.Proofs.YtpbchbcdgikonaaGreat
set_option linter.unusedVariables false
set_option linter.unusedSimpArgs false
set_option maxRecDepth 100000
set_option maxHeartbeats 4000000
open Go.RowKit
section
open Go.RowKit Limb
theorem Dx (x y:Int) (w:World) (h1 : -4611686018427387904<=x) (h2:x<=4611686018427387904) (h3 : -4611686018427387904<=y) (h4:y<=4611686018427387904):Calls Tryz.prog 78 #[.agg #[.int .i64 x,.int .i64 y]] w (Ae5 w (x:Rat) (y:Rat)):=by
 obtain⟨zx,hzx⟩:∃z:Rat,(x:Rat)=z:=⟨_,rfl⟩
 obtain⟨zy,hzy⟩:∃z:Rat,(y:Rat)=z:=⟨_,rfl⟩
 have E1:=Lib.hid hzx;have E2:=Lib.hid hzy;rw[hzx,hzy];clear hzx hzy;go_enter Tryz.func78,Tryz.ntmps78;go_upto_region 1 with fail;refine Ar (fun X=>Below w.heap.size w X/\Bb X w.heap.size 49 #[.int .i64 x,.int .i64 y]/\Bb X (w.heap.size+1) 163 #[.bool false,.slice none 0 0,.slice none 0 0,.bool false,.slice none 0 0,.slice none 0 0]) ⟨An (An (Below.refl _ _) _) _,Bb.alloc (Bb.new _ _ _) _,Bb.new2 _ _ _ _⟩ ?_
 rintro X ⟨hbX,hP,hR⟩;have hltR:=hR.lt;obtain⟨p0,p1,-,-,-⟩:=hP.pair
 go_wp2_with (go_at_call 115;refine(pof x y _ h1 h2 h3 h4).mono ?_;rintro e w1 ⟨v1,rfl,h5,hb1⟩;rw[E1.out,E2.out] at h5;obtain⟨m1,d1,m2,d2,rfl,hm1,hd1,hm2,hd2⟩:=h5;obtain⟨B1,n1,c1,rfl⟩:=hm1.sl;obtain⟨B2,n2,c2,rfl⟩:=hd1.sl;obtain⟨B3,n3,c3,rfl⟩:=hm2.sl;obtain⟨B4,n4,c4,rfl⟩:=hd2.sl;obtain⟨r0,r1,r2,r3,r4,r5⟩:=cells6 (hR.keep hb1);obtain⟨f0,f1,f2,f3,f4,f5,flt⟩:=Mh (hR.keep hb1))
 obtain⟨hZ,HR⟩:=No (w:=w) (hR.keep hb1) hm1 hd1 hm2 hd2 hltR (by omega) (Ao hbX hb1) _ rfl
 obtain⟨s0,s1,s2,s3,s4,s5⟩:=cells6 hZ;exact bodyPost_ret (v:=.agg #[.bool (decide (zx.num<0)),.slice B1 n1 c1,.slice B2 n2 c2,.bool (decide (zy.num<0)),.slice B3 n3 c3,.slice B4 n4 c4]) (by simp[results,Tryz.results78,go_sem,s0,s1,s2,s3,s4,s5]) rfl HR
end
section
open Go.RowKit Limb
theorem Agp (w:World) (o o' o'' o3:Obj) (t:TypeId) (cs:Array Value):Bb (((((w.alloc o).alloc o').alloc o'').alloc o3).alloc (.cells cs t)) (w.heap.size+1+1+1+1) t cs:=by
 have h:=Bb.new ((((w.alloc o).alloc o').alloc o'').alloc o3) t cs;simpa using h
theorem c24 {w:World} {g1 g2 g3 g4:Nat} {t:TypeId} {a1 a2 a3 a4 a5 a6 b1 b2 b3 b4 b5 b6 c1 c2 c3 c4 c5 c6 d1 d2 d3 d4 d5 d6:Value} (h1:Bb w g1 t #[a1,a2,a3,a4,a5,a6]) (h2:Bb w g2 t #[b1,b2,b3,b4,b5,b6]) (h3:Bb w g3 t #[c1,c2,c3,c4,c5,c6]) (h4:Bb w g4 t #[d1,d2,d3,d4,d5,d6]) :
 w.cell? ⟨g1,0,none⟩=some a1/\w.cell? ⟨g1,1,none⟩=some a2/\w.cell? ⟨g1,2,none⟩=some a3/\w.cell? ⟨g1,3,none⟩=some a4/\w.cell? ⟨g1,4,none⟩=some a5/\w.cell? ⟨g1,5,none⟩=some a6/\w.cell? ⟨g2,0,none⟩=some b1/\w.cell? ⟨g2,1,none⟩=some b2/\w.cell? ⟨g2,2,none⟩=some b3/\w.cell? ⟨g2,3,none⟩=some b4/\w.cell? ⟨g2,4,none⟩=some b5/\w.cell? ⟨g2,5,none⟩=some b6/\w.cell? ⟨g3,0,none⟩=some c1/\w.cell? ⟨g3,1,none⟩=some c2/\w.cell? ⟨g3,2,none⟩=some c3/\w.cell? ⟨g3,3,none⟩=some c4/\w.cell? ⟨g3,4,none⟩=some c5/\w.cell? ⟨g3,5,none⟩=some c6/\w.cell? ⟨g4,0,none⟩=some d1/\w.cell? ⟨g4,1,none⟩=some d2/\w.cell? ⟨g4,2,none⟩=some d3/\w.cell? ⟨g4,3,none⟩=some d4/\w.cell? ⟨g4,4,none⟩=some d5/\w.cell? ⟨g4,5,none⟩=some d6 :=
 ⟨(h1.cell 0).trans rfl,(h1.cell 1).trans rfl,(h1.cell 2).trans rfl,(h1.cell 3).trans rfl,(h1.cell 4).trans rfl,(h1.cell 5).trans rfl,(h2.cell 0).trans rfl,(h2.cell 1).trans rfl,(h2.cell 2).trans rfl,(h2.cell 3).trans rfl,(h2.cell 4).trans rfl,(h2.cell 5).trans rfl,(h3.cell 0).trans rfl,(h3.cell 1).trans rfl,(h3.cell 2).trans rfl,(h3.cell 3).trans rfl,(h3.cell 4).trans rfl,(h3.cell 5).trans rfl,(h4.cell 0).trans rfl,(h4.cell 1).trans rfl,(h4.cell 2).trans rfl,(h4.cell 3).trans rfl,(h4.cell 4).trans rfl,(h4.cell 5).trans rfl⟩
theorem Cq.farB3 {w:World} {base a g:Nat} {v:Value} {t:TypeId} {b:Bool} {A D:Option Addr} {n c k e:Nat} (h:Cq w base v a) (hB:Bb w g t #[.bool b,.slice A n c,.slice D k e]) (b':Bool) (u u':Value):Cq (((w.setCell ⟨g,0,none⟩ (.bool b')).setCell ⟨g,1,none⟩ u).setCell ⟨g,2,none⟩ u') base v a:=by
 obtain⟨A',c',e',h1,h2,h3,h4,h5⟩:=h;refine⟨A',c',e',h1,h2,?_,h4,h5⟩;rcases Nat.eq_zero_or_pos (lmb a).length with g0|g0
 ·exact⟨h3.1,.inl g0⟩
 ·have hne:∀q,A'=some q->q.block≠g:=by
   intro q hq e2;obtain⟨b1,o1,e3,hc⟩:=h3.at_ g0;rw[hq] at e3;injection e3 with e3
   rw[e3] at e2;dsimp only at e2;subst e2;rw[hB.cell] at hc
   have:∀(i:Nat) (x:Int),(#[Value.bool b,Value.slice A n c,Value.slice D k e]:Array Value)[i]? = some (Value.int .u32 x)->False:=by
    intro i x hx
    match i with
    | 0=>simp at hx
    | 1=>simp at hx
    | 2=>simp at hx
    | i+3=>simp at hx
   exact this _ _ hc
  exact((h3.far (p:=⟨g,0,none⟩) hne _).far (p:=⟨g,1,none⟩) hne _).far (p:=⟨g,2,none⟩) hne _
theorem Agj {w:World} {ba:Nat} {ax ay bx b_y cx cy dx dy:Rat} {va vb vc vd:Value} (hA:PtV w ba va ax ay) (hB:PtV w ba vb bx b_y) (hC:PtV w ba vc cx cy) (hDp:PtV w ba vd dx dy) (r1:RB 22 ax) (r2:RB 22 ay) (r3:RB 22 bx) (r4:RB 22 b_y) (r5:RB 22 cx) (r6:RB 22 cy) (r7:RB 22 dx) (r8:RB 22 dy) (hD:((bx-ax)*(dy-cy)-(b_y-ay)*(dx-cx)).num≠0):Calls Tryz.prog 77 #[va,vb,vc,vd] w (fun e w'=>∃v,e=.returned (.tuple #[v,.int .i64 0])/\PtV w' w.heap.size v (ax+(bx-ax)*(((cx-ax)*(dy-cy)-(cy-ay)*(dx-cx)) / ((bx-ax)*(dy-cy)-(b_y-ay)*(dx-cx)))) (ay+(b_y-ay)*(((cx-ax)*(dy-cy)-(cy-ay)*(dx-cx)) / ((bx-ax)*(dy-cy)-(b_y-ay)*(dx-cx))))/\Below w.heap.size w w'):=by
 have q1:RB 600 ax:=r1.le (by decide)
 have q2:RB 600 ay:=r2.le (by decide)
 have q3:RB 600 bx:=r3.le (by decide)
 have q4:RB 600 b_y:=r4.le (by decide)
 have q5:RB 600 cx:=r5.le (by decide)
 have q6:RB 600 cy:=r6.le (by decide)
 have q7:RB 600 dx:=r7.le (by decide)
 have q8:RB 600 dy:=r8.le (by decide)
 have o1:RB 100 ax:=r1.le (by decide)
 have o2:RB 100 ay:=r2.le (by decide)
 have o3:RB 100 bx:=r3.le (by decide)
 have o4:RB 100 b_y:=r4.le (by decide)
 have twx:RB 45 (dx-cx):=RB.sub (m:=22) (n:=22) r7 r5;have twy:RB 45 (dy-cy):=RB.sub (m:=22) (n:=22) r8 r6;have tex:RB 45 (cx-ax):=RB.sub (m:=22) (n:=22) r5 r1;have tey:RB 45 (cy-ay):=RB.sub (m:=22) (n:=22) r6 r2;have tfx:RB 45 (bx-ax):=RB.sub (m:=22) (n:=22) r3 r1;have tfy:RB 45 (b_y-ay):=RB.sub (m:=22) (n:=22) r4 r2;obtain⟨wx,hwx⟩:∃z,dx-cx=z:=⟨_,rfl⟩
 have Ewx:=Lib.hid hwx;obtain⟨wy,hwy⟩:∃z,dy-cy=z:=⟨_,rfl⟩
 have Ewy:=Lib.hid hwy;obtain⟨ex,hex⟩:∃z,cx-ax=z:=⟨_,rfl⟩
 have Eex:=Lib.hid hex;obtain⟨ey,hey⟩:∃z,cy-ay=z:=⟨_,rfl⟩
 have Eey:=Lib.hid hey;obtain⟨fx,hfx⟩:∃z,bx-ax=z:=⟨_,rfl⟩
 have Efx:=Lib.hid hfx;obtain⟨fy,hfy⟩:∃z,b_y-ay=z:=⟨_,rfl⟩
 have Efy:=Lib.hid hfy;rw[hfx,hwy,hfy,hwx] at hD;rw[hwx] at twx;rw[hwy] at twy;rw[hex] at tex;rw[hey] at tey;rw[hfx] at tfx;rw[hfy] at tfy;have twx':RB 300 wx:=twx.le (by decide)
 have twy':RB 300 wy:=twy.le (by decide)
 have tex':RB 300 ex:=tex.le (by decide)
 have tey':RB 300 ey:=tey.le (by decide)
 have tfx':RB 300 fx:=tfx.le (by decide)
 have tfy':RB 300 fy:=tfy.le (by decide)
 have tN:RB 181 (ex*wy-ey*wx):=RB.sub (m:=45+45) (n:=45+45) (tex.mul twy) (tey.mul twx);have tD:RB 181 (fx*wy-fy*wx):=RB.sub (m:=45+45) (n:=45+45) (tfx.mul twy) (tfy.mul twx);obtain⟨N,hN⟩:∃z,ex*wy-ey*wx=z:=⟨_,rfl⟩
 obtain⟨D,hDe⟩:∃z,fx*wy-fy*wx=z:=⟨_,rfl⟩
 have EN:=Lib.hid hN;have ED:=Lib.hid hDe;rw[hN] at tN;rw[hDe] at tD hD;have tN':RB 600 N:=tN.le (by decide)
 have tD':RB 600 D:=tD.le (by decide)
 obtain⟨T,hT⟩:∃z,N / D=z:=⟨_,rfl⟩
 have ET:=Lib.hid hT;have tT:RB 390 T:=by rw[<-hT];exact(RB.div (m:=181) (n:=181) tN tD hD).le (by decide)
 rw[hex,hey,hfx,hfy,hwx,hwy,hN,hDe,hT];have EP:Hid (bx-ax=fx):=Efx;obtain⟨zx,hzx⟩:∃z,ax+fx*T=z:=⟨_,rfl⟩
 obtain⟨zy,hzy⟩:∃z,ay+fy*T=z:=⟨_,rfl⟩
 have EX:Hid (ax+(bx-ax)*T=zx):=Lib.hid (by rw[hfx,hzx])
 have EY:Hid (ay+(b_y-ay)*T=zy):=Lib.hid (by rw[hfy,hzy])
 rw[hzx,hzy];clear hzx hzy hT;clear hwx hwy hex hey hfx hfy hN hDe r1 r2 r3 r4 r5 r6 r7 r8;obtain⟨M1,D1,M2,D2,rfl,x1,x2,x3,x4⟩:=hA;obtain⟨Aa1,na1,ca1,rfl⟩:=x1.sl;obtain⟨Aa2,na2,ca2,rfl⟩:=x2.sl;obtain⟨Aa3,na3,ca3,rfl⟩:=x3.sl;obtain⟨Aa4,na4,ca4,rfl⟩:=x4.sl;obtain⟨pa1,hp1⟩:∃p,decide (ax.num<0)=p:=⟨_,rfl⟩
 obtain⟨pa2,hp2⟩:∃p,decide (ay.num<0)=p:=⟨_,rfl⟩
 have Ha:PtV w ba (.agg #[.bool pa1,.slice Aa1 na1 ca1,.slice Aa2 na2 ca2,.bool pa2,.slice Aa3 na3 ca3,.slice Aa4 na4 ca4]) ax ay:=⟨_,_,_,_,by rw[hp1,hp2],x1,x2,x3,x4⟩
 rw[hp1,hp2];clear hp1 hp2 x1 x2 x3 x4;obtain⟨M1,D1,M2,D2,rfl,x1,x2,x3,x4⟩:=hB;obtain⟨Ab1,nb1,cb1,rfl⟩:=x1.sl;obtain⟨Ab2,nb2,cb2,rfl⟩:=x2.sl;obtain⟨Ab3,nb3,cb3,rfl⟩:=x3.sl;obtain⟨Ab4,nb4,cb4,rfl⟩:=x4.sl;obtain⟨pb1,hp1⟩:∃p,decide (bx.num<0)=p:=⟨_,rfl⟩
 obtain⟨pb2,hp2⟩:∃p,decide (b_y.num<0)=p:=⟨_,rfl⟩
 have Hb:PtV w ba (.agg #[.bool pb1,.slice Ab1 nb1 cb1,.slice Ab2 nb2 cb2,.bool pb2,.slice Ab3 nb3 cb3,.slice Ab4 nb4 cb4]) bx b_y:=⟨_,_,_,_,by rw[hp1,hp2],x1,x2,x3,x4⟩
 rw[hp1,hp2];clear hp1 hp2 x1 x2 x3 x4;obtain⟨M1,D1,M2,D2,rfl,x1,x2,x3,x4⟩:=hC;obtain⟨Ac1,nc1,cc1,rfl⟩:=x1.sl;obtain⟨Ac2,nc2,cc2,rfl⟩:=x2.sl;obtain⟨Ac3,nc3,cc3,rfl⟩:=x3.sl;obtain⟨Ac4,nc4,cc4,rfl⟩:=x4.sl;obtain⟨pc1,hp1⟩:∃p,decide (cx.num<0)=p:=⟨_,rfl⟩
 obtain⟨pc2,hp2⟩:∃p,decide (cy.num<0)=p:=⟨_,rfl⟩
 have Hc:PtV w ba (.agg #[.bool pc1,.slice Ac1 nc1 cc1,.slice Ac2 nc2 cc2,.bool pc2,.slice Ac3 nc3 cc3,.slice Ac4 nc4 cc4]) cx cy:=⟨_,_,_,_,by rw[hp1,hp2],x1,x2,x3,x4⟩
 rw[hp1,hp2];clear hp1 hp2 x1 x2 x3 x4;obtain⟨M1,D1,M2,D2,rfl,x1,x2,x3,x4⟩:=hDp;obtain⟨Ad1,nd1,cd1,rfl⟩:=x1.sl;obtain⟨Ad2,nd2,cd2,rfl⟩:=x2.sl;obtain⟨Ad3,nd3,cd3,rfl⟩:=x3.sl;obtain⟨Ad4,nd4,cd4,rfl⟩:=x4.sl;obtain⟨pd1,hp1⟩:∃p,decide (dx.num<0)=p:=⟨_,rfl⟩
 obtain⟨pd2,hp2⟩:∃p,decide (dy.num<0)=p:=⟨_,rfl⟩
 have Hd:PtV w ba (.agg #[.bool pd1,.slice Ad1 nd1 cd1,.slice Ad2 nd2 cd2,.bool pd2,.slice Ad3 nd3 cd3,.slice Ad4 nd4 cd4]) dx dy:=⟨_,_,_,_,by rw[hp1,hp2],x1,x2,x3,x4⟩
 rw[hp1,hp2];clear hp1 hp2 x1 x2 x3 x4;go_enter Tryz.func77,Tryz.ntmps77;go_upto_region 1 with fail;refine Ar (fun X=>Below w.heap.size w X/\Bb X (w.heap.size) 163 #[.bool pa1,.slice Aa1 na1 ca1,.slice Aa2 na2 ca2,.bool pa2,.slice Aa3 na3 ca3,.slice Aa4 na4 ca4]/\Bb X (w.heap.size+1) 163 #[.bool pb1,.slice Ab1 nb1 cb1,.slice Ab2 nb2 cb2,.bool pb2,.slice Ab3 nb3 cb3,.slice Ab4 nb4 cb4]/\Bb X (w.heap.size+1+1) 163 #[.bool pc1,.slice Ac1 nc1 cc1,.slice Ac2 nc2 cc2,.bool pc2,.slice Ac3 nc3 cc3,.slice Ac4 nc4 cc4]/\Bb X (w.heap.size+1+1+1) 163 #[.bool pd1,.slice Ad1 nd1 cd1,.slice Ad2 nd2 cd2,.bool pd2,.slice Ad3 nd3 cd3,.slice Ad4 nd4 cd4]/\Bb X (w.heap.size+1+1+1+1) 163 #[.bool false,.slice none 0 0,.slice none 0 0,.bool false,.slice none 0 0,.slice none 0 0]) ⟨An (An (An (An (An (Below.refl _ _) _) _) _) _) _,Bb.alloc (Bb.alloc (Bb.alloc (Bb.alloc (Bb.new _ _ _) _) _) _) _,Bb.alloc (Bb.alloc (Bb.alloc (Bb.new2 _ _ _ _) _) _) _,Bb.alloc (Bb.alloc (Bb.new3 _ _ _ _ _) _) _,Bb.alloc (Adf _ _ _ _ _ _) _,Agp _ _ _ _ _ _ _⟩ ?_
 rintro X ⟨hbX,hP1,hP2,hP3,hP4,hR⟩;obtain⟨y0,y1,y2,y3,y4,y5⟩:=cells6 hP4;obtain⟨z0,z1,z2,z3,z4,z5⟩:=cells6 hP3
 go_upto_region 2 with (go_at_call 80;refine(S5 (Hd.keep hbX) (Hc.keep hbX) q7 q8 q5 q6).mono ?_;rintro e w1 ⟨v1,rfl,h1,hb1⟩;rw[Ewx.out,Ewy.out] at h1;obtain⟨m1,d1,m2,d2,rfl,g1,g2,g3,g4⟩:=h1;obtain⟨W1,u1,k1,rfl⟩:=g1.sl;obtain⟨W2,u2,k2,rfl⟩:=g2.sl;obtain⟨W3,u3,k3,rfl⟩:=g3.sl;obtain⟨W4,u4,k4,rfl⟩:=g4.sl)
 have hbW:=Ao hbX hb1;refine Ar (fun Y=>Below w1.heap.size w1 Y/\Bb Y w1.heap.size 163 #[.bool (decide (wx.num<0)),.slice W1 u1 k1,.slice W2 u2 k2,.bool (decide (wy.num<0)),.slice W3 u3 k3,.slice W4 u4 k4]) ⟨An (Below.refl _ _) _,Bb.new _ _ _⟩ ?_
 rintro Y ⟨hbY,hW⟩;obtain⟨gw,hgw⟩:∃g,w1.heap.size=g:=⟨_,rfl⟩
 have hwl:w.heap.size+1+1+1+1<gw:=by rw[<-hgw];exact Nat.lt_of_lt_of_le hR.lt hb1.size
 have hbG:=Ao hb1 hbY;have hb0:=Ao hbX hbG;have HWp:PtV Y 0 (.agg #[.bool (decide (wx.num<0)),.slice W1 u1 k1,.slice W2 u2 k2,.bool (decide (wy.num<0)),.slice W3 u3 k3,.slice W4 u4 k4]) wx wy:=⟨_,_,_,_,rfl,(g1.keep hbY).lower (Nat.zero_le _),(g2.keep hbY).lower (Nat.zero_le _),(g3.keep hbY).lower (Nat.zero_le _),(g4.keep hbY).lower (Nat.zero_le _)⟩;replace hP1:=hP1.keep hbG;replace hP2:=hP2.keep hbG;replace hP3:=hP3.keep hbG;replace hP4:=hP4.keep hbG;replace hR:=hR.keep hbG;replace Ha:=Ha.keep hb0;replace Hb:=Hb.keep hb0;replace Hc:=Hc.keep hb0;replace Hd:=Hd.keep hb0;rw[hgw] at hW ⊢;clear hbX hb1 hbY hbG hbW g1 g2 g3 g4 y0 y1 y2 y3 y4 y5 z0 z1 z2 z3 z4 z5 hgw;have KA:=Lib.hid (fun (w':World) (h:Below Y.heap.size Y w')=>Ha.keep h)
 have KB:=Lib.hid (fun (w':World) (h:Below Y.heap.size Y w')=>Hb.keep h)
 have KC:=Lib.hid (fun (w':World) (h:Below Y.heap.size Y w')=>Hc.keep h)
 have KW:=Lib.hid (fun (w':World) (h:Below Y.heap.size Y w')=>HWp.keep h)
 have hbD:=Aw (Below.refl Y.heap.size Y);have hsX:Y.heap.size<=Y.heap.size:=Nat.le_refl _;have hbA:Below Y.heap.size Y (Y.alloc (.cells #[.bool false,.slice none 0 0,.slice none 0 0] 161)).drew:=Aw (An (Below.refl _ _) _);go_cut [11,12] (fun v11 v12 wx'=>∃(g:Nat) (A:Option Addr) (n c:Nat) (E:Option Addr) (k l:Nat),v11=.pointer (some ⟨g,0,none⟩)/\v12=.bool true/\Cq wx' 0 (.slice A n c) T.num.natAbs/\Cq wx' 0 (.slice E k l) T.den/\Bb wx' g 161 #[.bool (decide (T.num<0)),.slice A n c,.slice E k l]/\Y.heap.size<=g/\Below Y.heap.size Y wx')
 case first =>
  go_region_held3 (fun w'=>w'.cell? ⟨w.heap.size,0,none⟩=some (.bool pa1)/\w'.cell? ⟨w.heap.size,1,none⟩=some (.slice Aa1 na1 ca1)/\w'.cell? ⟨w.heap.size,2,none⟩=some (.slice Aa2 na2 ca2)/\w'.cell? ⟨w.heap.size,3,none⟩=some (.bool pa2)/\w'.cell? ⟨w.heap.size,4,none⟩=some (.slice Aa3 na3 ca3)/\w'.cell? ⟨w.heap.size,5,none⟩=some (.slice Aa4 na4 ca4)/\w'.cell? ⟨w.heap.size+1,0,none⟩=some (.bool pb1)/\w'.cell? ⟨w.heap.size+1,1,none⟩=some (.slice Ab1 nb1 cb1)/\w'.cell? ⟨w.heap.size+1,2,none⟩=some (.slice Ab2 nb2 cb2)/\w'.cell? ⟨w.heap.size+1,3,none⟩=some (.bool pb2)/\w'.cell? ⟨w.heap.size+1,4,none⟩=some (.slice Ab3 nb3 cb3)/\w'.cell? ⟨w.heap.size+1,5,none⟩=some (.slice Ab4 nb4 cb4)/\w'.cell? ⟨w.heap.size+1+1,0,none⟩=some (.bool pc1)/\w'.cell? ⟨w.heap.size+1+1,1,none⟩=some (.slice Ac1 nc1 cc1)/\w'.cell? ⟨w.heap.size+1+1,2,none⟩=some (.slice Ac2 nc2 cc2)/\w'.cell? ⟨w.heap.size+1+1,3,none⟩=some (.bool pc2)/\w'.cell? ⟨w.heap.size+1+1,4,none⟩=some (.slice Ac3 nc3 cc3)/\w'.cell? ⟨w.heap.size+1+1,5,none⟩=some (.slice Ac4 nc4 cc4)/\w'.cell? ⟨gw,0,none⟩=some (.bool (decide (wx.num<0)))/\w'.cell? ⟨gw,1,none⟩=some (.slice W1 u1 k1)/\w'.cell? ⟨gw,2,none⟩=some (.slice W2 u2 k2)/\w'.cell? ⟨gw,3,none⟩=some (.bool (decide (wy.num<0)))/\w'.cell? ⟨gw,4,none⟩=some (.slice W3 u3 k3)/\w'.cell? ⟨gw,5,none⟩=some (.slice W4 u4 k4))
   (first
    | with_reducible exact c24 (hP1.keep hbD) (hP2.keep hbD) (hP3.keep hbD) (hW.keep hbD)
    | with_reducible exact c24 (hP1.keep (An hbD _)) (hP2.keep (An hbD _)) (hP3.keep (An hbD _)) (hW.keep (An hbD _))
    | with_reducible exact c24 (hP1.keep hbA) (hP2.keep hbA) (hP3.keep hbA) (hW.keep hbA)
    | with_reducible exact c24 (hP1.keep (Ca hbD (by assumption) _ _ _)) (hP2.keep (Ca hbD (by assumption) _ _ _)) (hP3.keep (Ca hbD (by assumption) _ _ _)) (hW.keep (Ca hbD (by assumption) _ _ _)))
   ((first
     | (go_at_call 112;have hX5:=h5;(first|refine(Akf (h3.keep hc3) h5 tN' tD' hD).mono ?_|refine(Akf (h3.keep (An hc3 _)) (h5.keep (An (Below.refl _ _) _)) tN' tD' hD).mono ?_);rintro e w6 ⟨v6,rfl,h6,hb6⟩;rw[ET.out] at h6;obtain⟨m6,d6,rfl,hm6,hd6⟩:=h6;obtain⟨A6,n6,c6,rfl⟩:=hm6.sl;obtain⟨E6,k6,l6,rfl⟩:=hd6.sl;(first|(replace hbD:=Ao hbD hb6)|(replace hbD:=Ao (An hbD _) hb6)|(replace hbD:=Ao hbA hb6));have hs6:=hbD.size;(first|(replace kB:=Bb.keep kB hb6;obtain⟨j1,j2,j3,j4,j5,j6,j7⟩:=Bb.triple kB)|(have kB:=Bb.keep (Bb.new _ _ _) hb6;obtain⟨j1,j2,j3,j4,j5,j6,j7⟩:=Bb.triple kB)|(have kB:=Bb.keep (Bb.drew (Bb.new _ _ _)) hb6;obtain⟨j1,j2,j3,j4,j5,j6,j7⟩:=Bb.triple kB)|skip))
     | (go_at_call 113;have hX4:=h4;(first|refine(Me h4 (KW.out _ hbD) tfx' tfy' twx' twy').mono ?_|refine(Me (h4.keep (An (Below.refl _ _) _)) (KW.out _ (An hbD _)) tfx' tfy' twx' twy').mono ?_);rintro e w5 ⟨v5,rfl,h5,hb5⟩;rw[ED.out] at h5;(first|(replace hbD:=Ao hbD hb5)|(replace hbD:=Ao (An hbD _) hb5)|(replace hbD:=Ao hbA hb5));(first|(replace hc3:=Ao hc3 hb5)|(replace hc3:=Ao (An hc3 _) hb5)|(replace hc3:=Ao hbA hb5));have hs5:=hbD.size;(first|(replace kB:=Bb.keep kB hb5;obtain⟨j1,j2,j3,j4,j5,j6,j7⟩:=Bb.triple kB)|(have kB:=Bb.keep (Bb.new _ _ _) hb5;obtain⟨j1,j2,j3,j4,j5,j6,j7⟩:=Bb.triple kB)|(have kB:=Bb.keep (Bb.drew (Bb.new _ _ _)) hb5;obtain⟨j1,j2,j3,j4,j5,j6,j7⟩:=Bb.triple kB)|skip))
     | (go_at_call 80;have hX3:=h3;(first|refine(S5 (KB.out _ hbD) (KA.out _ hbD) q3 q4 q1 q2).mono ?_|refine(S5 (KB.out _ (An hbD _)) (KA.out _ (An hbD _)) q3 q4 q1 q2).mono ?_|refine(S5 (KB.out _ hbA) (KA.out _ hbA) q3 q4 q1 q2).mono ?_);rintro e w4 ⟨v4,rfl,h4,hb4⟩;rw[Efx.out,Efy.out] at h4;(first|(replace hbD:=Ao hbD hb4)|(replace hbD:=Ao (An hbD _) hb4)|(replace hbD:=Ao hbA hb4));(first|(replace hc3:=Ao hc3 hb4)|(replace hc3:=Ao (An hc3 _) hb4)|(replace hc3:=Ao hbA hb4));have hs4:=hbD.size;(first|(replace kB:=Bb.keep kB hb4;obtain⟨j1,j2,j3,j4,j5,j6,j7⟩:=Bb.triple kB)|(have kB:=Bb.keep (Bb.new _ _ _) hb4;obtain⟨j1,j2,j3,j4,j5,j6,j7⟩:=Bb.triple kB)|(have kB:=Bb.keep (Bb.drew (Bb.new _ _ _)) hb4;obtain⟨j1,j2,j3,j4,j5,j6,j7⟩:=Bb.triple kB)|skip))
     | (go_at_call 113;(first|refine(Me h2 (KW.out _ hbD) tex' tey' twx' twy').mono ?_|refine(Me (h2.keep (An (Below.refl _ _) _)) (KW.out _ (An hbD _)) tex' tey' twx' twy').mono ?_);rintro e w3 ⟨v3,rfl,h3,hb3⟩;rw[EN.out] at h3;have hc3:=Below.refl w3.heap.size w3;(first|(replace hbD:=Ao hbD hb3)|(replace hbD:=Ao (An hbD _) hb3)|(replace hbD:=Ao hbA hb3));have hs3:=hbD.size;(first|(replace kB:=Bb.keep kB hb3;obtain⟨j1,j2,j3,j4,j5,j6,j7⟩:=Bb.triple kB)|(have kB:=Bb.keep (Bb.new _ _ _) hb3;obtain⟨j1,j2,j3,j4,j5,j6,j7⟩:=Bb.triple kB)|(have kB:=Bb.keep (Bb.drew (Bb.new _ _ _)) hb3;obtain⟨j1,j2,j3,j4,j5,j6,j7⟩:=Bb.triple kB)|skip))
     | (go_at_call 80;(first|refine(S5 (KC.out _ hbD) (KA.out _ hbD) q5 q6 q1 q2).mono ?_|refine(S5 (KC.out _ (An hbD _)) (KA.out _ (An hbD _)) q5 q6 q1 q2).mono ?_|refine(S5 (KC.out _ hbA) (KA.out _ hbA) q5 q6 q1 q2).mono ?_);rintro e w2 ⟨v2,rfl,h2,hb2⟩;rw[Eex.out,Eey.out] at h2;(first|(replace hbD:=Ao hbD hb2)|(replace hbD:=Ao (An hbD _) hb2)|(replace hbD:=Ao hbA hb2));have hs2:=hbD.size;(first|(have kB:Bb w2 Y.heap.size 161 #[.bool false,.slice none 0 0,.slice none 0 0]:=Bb.keep (Bb.drew (Bb.new Y 161 #[.bool false,.slice none 0 0,.slice none 0 0])) hb2;obtain⟨j1,j2,j3,j4,j5,j6,j7⟩:=Bb.triple kB)|skip))))
  all_goals go_wp2_with fail
  all_goals go_meet
  all_goals (first
   | exact⟨w6.heap.size,A6,n6,c6,E6,k6,l6,rfl,rfl,(hm6.lower (Nat.zero_le _)).keep (Below.alloc (Below.refl _ _) (Nat.le_refl _) _),(hd6.lower (Nat.zero_le _)).keep (Below.alloc (Below.refl _ _) (Nat.le_refl _) _),Bb.new _ _ _,hs6,An hbD _⟩
   | exact⟨_,A6,n6,c6,E6,k6,l6,rfl,rfl,(hm6.lower (Nat.zero_le _)).farB3 kB _ _ _,(hd6.lower (Nat.zero_le _)).farB3 kB _ _ _,kB.set3,by assumption,Ca hbD (by assumption) _ _ _⟩)
 case rest =>
  obtain⟨g,A6,n6,c6,E6,k6,l6,rfl,rfl,hm6,hd6,hG,hgY,hbC⟩:=hcut;have hTv:Gr _ 0 (.agg #[.bool (decide (T.num<0)),.slice A6 n6 c6,.slice E6 k6 l6]) T:=⟨_,_,rfl,hm6,hd6⟩;obtain⟨a0,a1,a2,a3,a4,a5⟩:=cells6 (hP1.keep hbC);obtain⟨b0,b1,b2,b3,b4,b5⟩:=cells6 (hP2.keep hbC);obtain⟨g0,g1,g2,-,-,-,-⟩:=hG.triple;have hbE:=Ao hb0 hbC;have hlR:=hR.lt;clear hbD hsX hbA
  go_wp2_with (go_at_call 114;refine(pon (Ha.keep hbC) (Hb.keep hbC) hTv o1 o2 o3 o4 tT).mono ?_;rintro e w7 ⟨v7,rfl,h7,hb7⟩;rw[EX.out,EY.out] at h7;obtain⟨m1,d1,m2,d2,rfl,hm1,hd1,hm2,hd2⟩:=h7;obtain⟨B1,n1,e1,rfl⟩:=hm1.sl;obtain⟨B2,n2,e2,rfl⟩:=hd1.sl;obtain⟨B3,n3,e3,rfl⟩:=hm2.sl;obtain⟨B4,n4,e4,rfl⟩:=hd2.sl;have hbF:=Ao hbC hb7;obtain⟨r0,r1,r2,r3,r4,r5⟩:=cells6 (hR.keep hbF);obtain⟨f0,f1,f2,f3,f4,f5,flt⟩:=Mh (hR.keep hbF))
  obtain⟨hZ,v9,hv9,HPt,HBl⟩:=No (w:=w) (hR.keep hbF) hm1 hd1 hm2 hd2 (Nat.lt_of_lt_of_le hlR hbC.size) (by omega) (Ao hb0 hbF) _ rfl
  injection hv9 with hv9
  obtain⟨s0,s1,s2,s3,s4,s5⟩:=cells6 hZ;exact bodyPost_ret (v:=.tuple #[.agg #[.bool (decide (zx.num<0)),.slice B1 n1 e1,.slice B2 n2 e2,.bool (decide (zy.num<0)),.slice B3 n3 e3,.slice B4 n4 e4],.int .i64 0]) (by simp[results,Tryz.results77,go_sem,s0,s1,s2,s3,s4,s5]) rfl ⟨_,rfl,by rw[hv9];exact HPt,HBl⟩
theorem Abf {w:World} {ba:Nat} {ax ay bx b_y cx cy dx dy:Rat} {va vb vc vd:Value} (hA:PtV w ba va ax ay) (hB:PtV w ba vb bx b_y) (hC:PtV w ba vc cx cy) (hDp:PtV w ba vd dx dy) (r1:RB 22 ax) (r2:RB 22 ay) (r3:RB 22 bx) (r4:RB 22 b_y) (r5:RB 22 cx) (r6:RB 22 cy) (r7:RB 22 dx) (r8:RB 22 dy) (hD:((bx-ax)*(dy-cy)-(b_y-ay)*(dx-cx)).num=0):Calls Tryz.prog 77 #[va,vb,vc,vd] w (fun e w'=>e=.returned (.tuple #[.agg #[.bool false,.slice none 0 0,.slice none 0 0,.bool false,.slice none 0 0,.slice none 0 0],.int .i64 10])/\Below w.heap.size w w'):=by
 have q1:RB 600 ax:=r1.le (by decide)
 have q2:RB 600 ay:=r2.le (by decide)
 have q3:RB 600 bx:=r3.le (by decide)
 have q4:RB 600 b_y:=r4.le (by decide)
 have q5:RB 600 cx:=r5.le (by decide)
 have q6:RB 600 cy:=r6.le (by decide)
 have q7:RB 600 dx:=r7.le (by decide)
 have q8:RB 600 dy:=r8.le (by decide)
 have o1:RB 100 ax:=r1.le (by decide)
 have o2:RB 100 ay:=r2.le (by decide)
 have o3:RB 100 bx:=r3.le (by decide)
 have o4:RB 100 b_y:=r4.le (by decide)
 have twx:RB 45 (dx-cx):=RB.sub (m:=22) (n:=22) r7 r5;have twy:RB 45 (dy-cy):=RB.sub (m:=22) (n:=22) r8 r6;have tex:RB 45 (cx-ax):=RB.sub (m:=22) (n:=22) r5 r1;have tey:RB 45 (cy-ay):=RB.sub (m:=22) (n:=22) r6 r2;have tfx:RB 45 (bx-ax):=RB.sub (m:=22) (n:=22) r3 r1;have tfy:RB 45 (b_y-ay):=RB.sub (m:=22) (n:=22) r4 r2;obtain⟨wx,hwx⟩:∃z,dx-cx=z:=⟨_,rfl⟩
 have Ewx:=Lib.hid hwx;obtain⟨wy,hwy⟩:∃z,dy-cy=z:=⟨_,rfl⟩
 have Ewy:=Lib.hid hwy;obtain⟨ex,hex⟩:∃z,cx-ax=z:=⟨_,rfl⟩
 have Eex:=Lib.hid hex;obtain⟨ey,hey⟩:∃z,cy-ay=z:=⟨_,rfl⟩
 have Eey:=Lib.hid hey;obtain⟨fx,hfx⟩:∃z,bx-ax=z:=⟨_,rfl⟩
 have Efx:=Lib.hid hfx;obtain⟨fy,hfy⟩:∃z,b_y-ay=z:=⟨_,rfl⟩
 have Efy:=Lib.hid hfy;rw[hfx,hwy,hfy,hwx] at hD;rw[hwx] at twx;rw[hwy] at twy;rw[hex] at tex;rw[hey] at tey;rw[hfx] at tfx;rw[hfy] at tfy;have twx':RB 300 wx:=twx.le (by decide)
 have twy':RB 300 wy:=twy.le (by decide)
 have tex':RB 300 ex:=tex.le (by decide)
 have tey':RB 300 ey:=tey.le (by decide)
 have tfx':RB 300 fx:=tfx.le (by decide)
 have tfy':RB 300 fy:=tfy.le (by decide)
 have tN:RB 181 (ex*wy-ey*wx):=RB.sub (m:=45+45) (n:=45+45) (tex.mul twy) (tey.mul twx);have tD:RB 181 (fx*wy-fy*wx):=RB.sub (m:=45+45) (n:=45+45) (tfx.mul twy) (tfy.mul twx);obtain⟨N,hN⟩:∃z,ex*wy-ey*wx=z:=⟨_,rfl⟩
 obtain⟨D,hDe⟩:∃z,fx*wy-fy*wx=z:=⟨_,rfl⟩
 have EN:=Lib.hid hN;have ED:=Lib.hid hDe;rw[hN] at tN;rw[hDe] at tD hD;have tN':RB 600 N:=tN.le (by decide)
 have tD':RB 600 D:=tD.le (by decide)
 clear hwx hwy hex hey hfx hfy hN hDe r1 r2 r3 r4 r5 r6 r7 r8;obtain⟨M1,D1,M2,D2,rfl,x1,x2,x3,x4⟩:=hA;obtain⟨Aa1,na1,ca1,rfl⟩:=x1.sl;obtain⟨Aa2,na2,ca2,rfl⟩:=x2.sl;obtain⟨Aa3,na3,ca3,rfl⟩:=x3.sl;obtain⟨Aa4,na4,ca4,rfl⟩:=x4.sl;obtain⟨pa1,hp1⟩:∃p,decide (ax.num<0)=p:=⟨_,rfl⟩
 obtain⟨pa2,hp2⟩:∃p,decide (ay.num<0)=p:=⟨_,rfl⟩
 have Ha:PtV w ba (.agg #[.bool pa1,.slice Aa1 na1 ca1,.slice Aa2 na2 ca2,.bool pa2,.slice Aa3 na3 ca3,.slice Aa4 na4 ca4]) ax ay:=⟨_,_,_,_,by rw[hp1,hp2],x1,x2,x3,x4⟩
 rw[hp1,hp2];clear hp1 hp2 x1 x2 x3 x4;obtain⟨M1,D1,M2,D2,rfl,x1,x2,x3,x4⟩:=hB;obtain⟨Ab1,nb1,cb1,rfl⟩:=x1.sl;obtain⟨Ab2,nb2,cb2,rfl⟩:=x2.sl;obtain⟨Ab3,nb3,cb3,rfl⟩:=x3.sl;obtain⟨Ab4,nb4,cb4,rfl⟩:=x4.sl;obtain⟨pb1,hp1⟩:∃p,decide (bx.num<0)=p:=⟨_,rfl⟩
 obtain⟨pb2,hp2⟩:∃p,decide (b_y.num<0)=p:=⟨_,rfl⟩
 have Hb:PtV w ba (.agg #[.bool pb1,.slice Ab1 nb1 cb1,.slice Ab2 nb2 cb2,.bool pb2,.slice Ab3 nb3 cb3,.slice Ab4 nb4 cb4]) bx b_y:=⟨_,_,_,_,by rw[hp1,hp2],x1,x2,x3,x4⟩
 rw[hp1,hp2];clear hp1 hp2 x1 x2 x3 x4;obtain⟨M1,D1,M2,D2,rfl,x1,x2,x3,x4⟩:=hC;obtain⟨Ac1,nc1,cc1,rfl⟩:=x1.sl;obtain⟨Ac2,nc2,cc2,rfl⟩:=x2.sl;obtain⟨Ac3,nc3,cc3,rfl⟩:=x3.sl;obtain⟨Ac4,nc4,cc4,rfl⟩:=x4.sl;obtain⟨pc1,hp1⟩:∃p,decide (cx.num<0)=p:=⟨_,rfl⟩
 obtain⟨pc2,hp2⟩:∃p,decide (cy.num<0)=p:=⟨_,rfl⟩
 have Hc:PtV w ba (.agg #[.bool pc1,.slice Ac1 nc1 cc1,.slice Ac2 nc2 cc2,.bool pc2,.slice Ac3 nc3 cc3,.slice Ac4 nc4 cc4]) cx cy:=⟨_,_,_,_,by rw[hp1,hp2],x1,x2,x3,x4⟩
 rw[hp1,hp2];clear hp1 hp2 x1 x2 x3 x4;obtain⟨M1,D1,M2,D2,rfl,x1,x2,x3,x4⟩:=hDp;obtain⟨Ad1,nd1,cd1,rfl⟩:=x1.sl;obtain⟨Ad2,nd2,cd2,rfl⟩:=x2.sl;obtain⟨Ad3,nd3,cd3,rfl⟩:=x3.sl;obtain⟨Ad4,nd4,cd4,rfl⟩:=x4.sl;obtain⟨pd1,hp1⟩:∃p,decide (dx.num<0)=p:=⟨_,rfl⟩
 obtain⟨pd2,hp2⟩:∃p,decide (dy.num<0)=p:=⟨_,rfl⟩
 have Hd:PtV w ba (.agg #[.bool pd1,.slice Ad1 nd1 cd1,.slice Ad2 nd2 cd2,.bool pd2,.slice Ad3 nd3 cd3,.slice Ad4 nd4 cd4]) dx dy:=⟨_,_,_,_,by rw[hp1,hp2],x1,x2,x3,x4⟩
 rw[hp1,hp2];clear hp1 hp2 x1 x2 x3 x4;go_enter Tryz.func77,Tryz.ntmps77;go_upto_region 1 with fail;refine Ar (fun X=>Below w.heap.size w X/\Bb X (w.heap.size) 163 #[.bool pa1,.slice Aa1 na1 ca1,.slice Aa2 na2 ca2,.bool pa2,.slice Aa3 na3 ca3,.slice Aa4 na4 ca4]/\Bb X (w.heap.size+1) 163 #[.bool pb1,.slice Ab1 nb1 cb1,.slice Ab2 nb2 cb2,.bool pb2,.slice Ab3 nb3 cb3,.slice Ab4 nb4 cb4]/\Bb X (w.heap.size+1+1) 163 #[.bool pc1,.slice Ac1 nc1 cc1,.slice Ac2 nc2 cc2,.bool pc2,.slice Ac3 nc3 cc3,.slice Ac4 nc4 cc4]/\Bb X (w.heap.size+1+1+1) 163 #[.bool pd1,.slice Ad1 nd1 cd1,.slice Ad2 nd2 cd2,.bool pd2,.slice Ad3 nd3 cd3,.slice Ad4 nd4 cd4]/\Bb X (w.heap.size+1+1+1+1) 163 #[.bool false,.slice none 0 0,.slice none 0 0,.bool false,.slice none 0 0,.slice none 0 0]) ⟨An (An (An (An (An (Below.refl _ _) _) _) _) _) _,Bb.alloc (Bb.alloc (Bb.alloc (Bb.alloc (Bb.new _ _ _) _) _) _) _,Bb.alloc (Bb.alloc (Bb.alloc (Bb.new2 _ _ _ _) _) _) _,Bb.alloc (Bb.alloc (Bb.new3 _ _ _ _ _) _) _,Bb.alloc (Adf _ _ _ _ _ _) _,Agp _ _ _ _ _ _ _⟩ ?_
 rintro X ⟨hbX,hP1,hP2,hP3,hP4,hR⟩;obtain⟨y0,y1,y2,y3,y4,y5⟩:=cells6 hP4;obtain⟨z0,z1,z2,z3,z4,z5⟩:=cells6 hP3
 go_upto_region 2 with (go_at_call 80;refine(S5 (Hd.keep hbX) (Hc.keep hbX) q7 q8 q5 q6).mono ?_;rintro e w1 ⟨v1,rfl,h1,hb1⟩;rw[Ewx.out,Ewy.out] at h1;obtain⟨m1,d1,m2,d2,rfl,g1,g2,g3,g4⟩:=h1;obtain⟨W1,u1,k1,rfl⟩:=g1.sl;obtain⟨W2,u2,k2,rfl⟩:=g2.sl;obtain⟨W3,u3,k3,rfl⟩:=g3.sl;obtain⟨W4,u4,k4,rfl⟩:=g4.sl)
 have hbW:=Ao hbX hb1;refine Ar (fun Y=>Below w1.heap.size w1 Y/\Bb Y w1.heap.size 163 #[.bool (decide (wx.num<0)),.slice W1 u1 k1,.slice W2 u2 k2,.bool (decide (wy.num<0)),.slice W3 u3 k3,.slice W4 u4 k4]) ⟨An (Below.refl _ _) _,Bb.new _ _ _⟩ ?_
 rintro Y ⟨hbY,hW⟩;obtain⟨gw,hgw⟩:∃g,w1.heap.size=g:=⟨_,rfl⟩
 have hwl:w.heap.size+1+1+1+1<gw:=by rw[<-hgw];exact Nat.lt_of_lt_of_le hR.lt hb1.size
 have hbG:=Ao hb1 hbY;have hb0:=Ao hbX hbG;have HWp:PtV Y 0 (.agg #[.bool (decide (wx.num<0)),.slice W1 u1 k1,.slice W2 u2 k2,.bool (decide (wy.num<0)),.slice W3 u3 k3,.slice W4 u4 k4]) wx wy:=⟨_,_,_,_,rfl,(g1.keep hbY).lower (Nat.zero_le _),(g2.keep hbY).lower (Nat.zero_le _),(g3.keep hbY).lower (Nat.zero_le _),(g4.keep hbY).lower (Nat.zero_le _)⟩;replace hP1:=hP1.keep hbG;replace hP2:=hP2.keep hbG;replace hP3:=hP3.keep hbG;replace hP4:=hP4.keep hbG;replace hR:=hR.keep hbG;replace Ha:=Ha.keep hb0;replace Hb:=Hb.keep hb0;replace Hc:=Hc.keep hb0;replace Hd:=Hd.keep hb0;rw[hgw] at hW ⊢;clear hbX hb1 hbY hbG hbW g1 g2 g3 g4 y0 y1 y2 y3 y4 y5 z0 z1 z2 z3 z4 z5 hgw;have KA:=Lib.hid (fun (w':World) (h:Below Y.heap.size Y w')=>Ha.keep h)
 have KB:=Lib.hid (fun (w':World) (h:Below Y.heap.size Y w')=>Hb.keep h)
 have KC:=Lib.hid (fun (w':World) (h:Below Y.heap.size Y w')=>Hc.keep h)
 have KW:=Lib.hid (fun (w':World) (h:Below Y.heap.size Y w')=>HWp.keep h)
 have hbD:=Aw (Below.refl Y.heap.size Y);have hsX:Y.heap.size<=Y.heap.size:=Nat.le_refl _;have hbA:Below Y.heap.size Y (Y.alloc (.cells #[.bool false,.slice none 0 0,.slice none 0 0] 161)).drew:=Aw (An (Below.refl _ _) _);go_cut [11,12] (fun v11 v12 wx'=>∃g:Nat,v11=.pointer (some ⟨g,0,none⟩)/\v12=.bool false/\Below Y.heap.size Y wx')
 case first =>
  go_region_held3 (fun w'=>w'.cell? ⟨w.heap.size,0,none⟩=some (.bool pa1)/\w'.cell? ⟨w.heap.size,1,none⟩=some (.slice Aa1 na1 ca1)/\w'.cell? ⟨w.heap.size,2,none⟩=some (.slice Aa2 na2 ca2)/\w'.cell? ⟨w.heap.size,3,none⟩=some (.bool pa2)/\w'.cell? ⟨w.heap.size,4,none⟩=some (.slice Aa3 na3 ca3)/\w'.cell? ⟨w.heap.size,5,none⟩=some (.slice Aa4 na4 ca4)/\w'.cell? ⟨w.heap.size+1,0,none⟩=some (.bool pb1)/\w'.cell? ⟨w.heap.size+1,1,none⟩=some (.slice Ab1 nb1 cb1)/\w'.cell? ⟨w.heap.size+1,2,none⟩=some (.slice Ab2 nb2 cb2)/\w'.cell? ⟨w.heap.size+1,3,none⟩=some (.bool pb2)/\w'.cell? ⟨w.heap.size+1,4,none⟩=some (.slice Ab3 nb3 cb3)/\w'.cell? ⟨w.heap.size+1,5,none⟩=some (.slice Ab4 nb4 cb4)/\w'.cell? ⟨w.heap.size+1+1,0,none⟩=some (.bool pc1)/\w'.cell? ⟨w.heap.size+1+1,1,none⟩=some (.slice Ac1 nc1 cc1)/\w'.cell? ⟨w.heap.size+1+1,2,none⟩=some (.slice Ac2 nc2 cc2)/\w'.cell? ⟨w.heap.size+1+1,3,none⟩=some (.bool pc2)/\w'.cell? ⟨w.heap.size+1+1,4,none⟩=some (.slice Ac3 nc3 cc3)/\w'.cell? ⟨w.heap.size+1+1,5,none⟩=some (.slice Ac4 nc4 cc4)/\w'.cell? ⟨gw,0,none⟩=some (.bool (decide (wx.num<0)))/\w'.cell? ⟨gw,1,none⟩=some (.slice W1 u1 k1)/\w'.cell? ⟨gw,2,none⟩=some (.slice W2 u2 k2)/\w'.cell? ⟨gw,3,none⟩=some (.bool (decide (wy.num<0)))/\w'.cell? ⟨gw,4,none⟩=some (.slice W3 u3 k3)/\w'.cell? ⟨gw,5,none⟩=some (.slice W4 u4 k4))
   (first
    | with_reducible exact c24 (hP1.keep hbD) (hP2.keep hbD) (hP3.keep hbD) (hW.keep hbD)
    | with_reducible exact c24 (hP1.keep (An hbD _)) (hP2.keep (An hbD _)) (hP3.keep (An hbD _)) (hW.keep (An hbD _))
    | with_reducible exact c24 (hP1.keep hbA) (hP2.keep hbA) (hP3.keep hbA) (hW.keep hbA)
    | with_reducible exact c24 (hP1.keep (Ca hbD (by assumption) _ _ _)) (hP2.keep (Ca hbD (by assumption) _ _ _)) (hP3.keep (Ca hbD (by assumption) _ _ _)) (hW.keep (Ca hbD (by assumption) _ _ _)))
   ((first
     | (go_at_call 112;have hX5:=h5;(first|refine(Age (h3.keep hc3) h5 tN' tD' hD).mono ?_|refine(Age (h3.keep (An hc3 _)) (h5.keep (An (Below.refl _ _) _)) tN' tD' hD).mono ?_);rintro e w6 ⟨rfl,hb6⟩;(first|(replace hbD:=Ao hbD hb6)|(replace hbD:=Ao (An hbD _) hb6)|(replace hbD:=Ao hbA hb6));have hs6:=hbD.size;(first|(replace kB:=Bb.keep kB hb6;obtain⟨j1,j2,j3,j4,j5,j6,j7⟩:=Bb.triple kB)|(have kB:=Bb.keep (Bb.new _ _ _) hb6;obtain⟨j1,j2,j3,j4,j5,j6,j7⟩:=Bb.triple kB)|(have kB:=Bb.keep (Bb.drew (Bb.new _ _ _)) hb6;obtain⟨j1,j2,j3,j4,j5,j6,j7⟩:=Bb.triple kB)|skip))
     | (go_at_call 113;have hX4:=h4;(first|refine(Me h4 (KW.out _ hbD) tfx' tfy' twx' twy').mono ?_|refine(Me (h4.keep (An (Below.refl _ _) _)) (KW.out _ (An hbD _)) tfx' tfy' twx' twy').mono ?_);rintro e w5 ⟨v5,rfl,h5,hb5⟩;rw[ED.out] at h5;(first|(replace hbD:=Ao hbD hb5)|(replace hbD:=Ao (An hbD _) hb5)|(replace hbD:=Ao hbA hb5));(first|(replace hc3:=Ao hc3 hb5)|(replace hc3:=Ao (An hc3 _) hb5)|(replace hc3:=Ao hbA hb5));have hs5:=hbD.size;(first|(replace kB:=Bb.keep kB hb5;obtain⟨j1,j2,j3,j4,j5,j6,j7⟩:=Bb.triple kB)|(have kB:=Bb.keep (Bb.new _ _ _) hb5;obtain⟨j1,j2,j3,j4,j5,j6,j7⟩:=Bb.triple kB)|(have kB:=Bb.keep (Bb.drew (Bb.new _ _ _)) hb5;obtain⟨j1,j2,j3,j4,j5,j6,j7⟩:=Bb.triple kB)|skip))
     | (go_at_call 80;have hX3:=h3;(first|refine(S5 (KB.out _ hbD) (KA.out _ hbD) q3 q4 q1 q2).mono ?_|refine(S5 (KB.out _ (An hbD _)) (KA.out _ (An hbD _)) q3 q4 q1 q2).mono ?_|refine(S5 (KB.out _ hbA) (KA.out _ hbA) q3 q4 q1 q2).mono ?_);rintro e w4 ⟨v4,rfl,h4,hb4⟩;rw[Efx.out,Efy.out] at h4;(first|(replace hbD:=Ao hbD hb4)|(replace hbD:=Ao (An hbD _) hb4)|(replace hbD:=Ao hbA hb4));(first|(replace hc3:=Ao hc3 hb4)|(replace hc3:=Ao (An hc3 _) hb4)|(replace hc3:=Ao hbA hb4));have hs4:=hbD.size;(first|(replace kB:=Bb.keep kB hb4;obtain⟨j1,j2,j3,j4,j5,j6,j7⟩:=Bb.triple kB)|(have kB:=Bb.keep (Bb.new _ _ _) hb4;obtain⟨j1,j2,j3,j4,j5,j6,j7⟩:=Bb.triple kB)|(have kB:=Bb.keep (Bb.drew (Bb.new _ _ _)) hb4;obtain⟨j1,j2,j3,j4,j5,j6,j7⟩:=Bb.triple kB)|skip))
     | (go_at_call 113;(first|refine(Me h2 (KW.out _ hbD) tex' tey' twx' twy').mono ?_|refine(Me (h2.keep (An (Below.refl _ _) _)) (KW.out _ (An hbD _)) tex' tey' twx' twy').mono ?_);rintro e w3 ⟨v3,rfl,h3,hb3⟩;rw[EN.out] at h3;have hc3:=Below.refl w3.heap.size w3;(first|(replace hbD:=Ao hbD hb3)|(replace hbD:=Ao (An hbD _) hb3)|(replace hbD:=Ao hbA hb3));have hs3:=hbD.size;(first|(replace kB:=Bb.keep kB hb3;obtain⟨j1,j2,j3,j4,j5,j6,j7⟩:=Bb.triple kB)|(have kB:=Bb.keep (Bb.new _ _ _) hb3;obtain⟨j1,j2,j3,j4,j5,j6,j7⟩:=Bb.triple kB)|(have kB:=Bb.keep (Bb.drew (Bb.new _ _ _)) hb3;obtain⟨j1,j2,j3,j4,j5,j6,j7⟩:=Bb.triple kB)|skip))
     | (go_at_call 80;(first|refine(S5 (KC.out _ hbD) (KA.out _ hbD) q5 q6 q1 q2).mono ?_|refine(S5 (KC.out _ (An hbD _)) (KA.out _ (An hbD _)) q5 q6 q1 q2).mono ?_|refine(S5 (KC.out _ hbA) (KA.out _ hbA) q5 q6 q1 q2).mono ?_);rintro e w2 ⟨v2,rfl,h2,hb2⟩;rw[Eex.out,Eey.out] at h2;(first|(replace hbD:=Ao hbD hb2)|(replace hbD:=Ao (An hbD _) hb2)|(replace hbD:=Ao hbA hb2));have hs2:=hbD.size;(first|(have kB:Bb w2 Y.heap.size 161 #[.bool false,.slice none 0 0,.slice none 0 0]:=Bb.keep (Bb.drew (Bb.new Y 161 #[.bool false,.slice none 0 0,.slice none 0 0])) hb2;obtain⟨j1,j2,j3,j4,j5,j6,j7⟩:=Bb.triple kB)|skip))))
  all_goals go_wp2_with fail
  all_goals go_meet
  all_goals (first
   | exact⟨w6.heap.size,rfl,rfl,An hbD _⟩
   | exact⟨_,rfl,rfl,Ca hbD (by assumption) _ _ _⟩)
 case rest =>
  obtain⟨g,rfl,rfl,hbC⟩:=hcut;obtain⟨r0,r1,r2,r3,r4,r5⟩:=cells6 (hR.keep hbC);obtain⟨f0,f1,f2,f3,f4,f5,flt⟩:=Mh (hR.keep hbC);have hbE:=Ao hb0 hbC;clear hbD hsX hbA;go_wp2_with fail;obtain⟨s0,s1,s2,s3,s4,s5⟩:=cells6 ((hR.keep hbC).set6 (a':=.bool false) (b':=.slice none 0 0) (c':=.slice none 0 0) (d':=.bool false) (e':=.slice none 0 0) (f':=.slice none 0 0));exact bodyPost_ret (v:=.tuple #[.agg #[.bool false,.slice none 0 0,.slice none 0 0,.bool false,.slice none 0 0,.slice none 0 0],.int .i64 10]) (by simp[results,Tryz.results77,go_sem,s0,s1,s2,s3,s4,s5]) rfl ⟨rfl,I6 hbE (by omega) _ _ _ _ _ _⟩
end
end Go.Proofs.YtpbchbcdgikonaaGreat

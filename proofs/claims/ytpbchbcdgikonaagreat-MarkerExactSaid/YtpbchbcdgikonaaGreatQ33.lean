/- Lean texts of the claim. -/
import Derived.Test.YtpbchbcdgikonaaGreatQ32
namespace Go.Proofs.YtpbchbcdgikonaaGreat
set_option linter.unusedVariables false
set_option linter.unusedSimpArgs false
set_option maxRecDepth 100000
set_option maxHeartbeats 4000000
open Go.RowKit
section
open Go.RowKit Limb
theorem Adf (w:World) (o o' o'':Obj) (t:TypeId) (cs:Array Value):Bb ((((w.alloc o).alloc o').alloc o'').alloc (.cells cs t)) (w.heap.size+1+1+1) t cs:=by
 have h:=Bb.new (((w.alloc o).alloc o').alloc o'') t cs;simpa using h
theorem Ahq {w:World} {g g' h':Nat} {t t':TypeId} {a b c d e f a' b' c' d' e' f' u v x:Value} (h:Bb w g t #[a,b,c,d,e,f]) (k:Bb w g' t #[a',b',c',d',e',f']) (l:Bb w h' t' #[u,v,x]):(w.cell? ⟨g,0,none⟩=some a/\w.cell? ⟨g,1,none⟩=some b/\w.cell? ⟨g,2,none⟩=some c/\w.cell? ⟨g,3,none⟩=some d/\w.cell? ⟨g,4,none⟩=some e/\w.cell? ⟨g,5,none⟩=some f/\w.cell? ⟨g',0,none⟩=some a'/\w.cell? ⟨g',1,none⟩=some b'/\w.cell? ⟨g',2,none⟩=some c'/\w.cell? ⟨g',3,none⟩=some d'/\w.cell? ⟨g',4,none⟩=some e'/\w.cell? ⟨g',5,none⟩=some f')/\w.cell? ⟨h',0,none⟩=some u/\w.cell? ⟨h',1,none⟩=some v/\w.cell? ⟨h',2,none⟩=some x :=
 ⟨Js h k,(l.cell 0).trans rfl,(l.cell 1).trans rfl,(l.cell 2).trans rfl⟩
theorem pon {w:World} {ba bb bt:Nat} {xx xy yx yy t:Rat} {vx vy vt:Value} (hX:PtV w ba vx xx xy) (hY:PtV w bb vy yx yy) (hT:Gr w bt vt t) (b1:RB 100 xx) (b2:RB 100 xy) (b3:RB 100 yx) (b4:RB 100 yy) (b5:RB 390 t):Calls Tryz.prog 114 #[vx,vy,vt] w (Ae5 w (xx+(yx-xx)*t) (xy+(yy-xy)*t)):=by
 obtain⟨M1,D1,M2,D2,rfl,x1,x2,x3,x4⟩:=hX;obtain⟨M3,D3,M4,D4,rfl,y1,y2,y3,y4⟩:=hY;obtain⟨Aa,na,ca,rfl⟩:=x1.sl;obtain⟨Ab,nb,cb,rfl⟩:=x2.sl;obtain⟨Ac,nc,cc,rfl⟩:=x3.sl;obtain⟨Ad,nd,cd,rfl⟩:=x4.sl;obtain⟨Ae,ne,ce,rfl⟩:=y1.sl;obtain⟨Af,nf,cf,rfl⟩:=y2.sl;obtain⟨Ag,ng,cg,rfl⟩:=y3.sl;obtain⟨Ah,nh,ch,rfl⟩:=y4.sl;obtain⟨p1,hp1⟩:∃p,decide (xx.num<0)=p:=⟨_,rfl⟩
 obtain⟨p2,hp2⟩:∃p,decide (xy.num<0)=p:=⟨_,rfl⟩
 obtain⟨p3,hp3⟩:∃p,decide (yx.num<0)=p:=⟨_,rfl⟩
 obtain⟨p4,hp4⟩:∃p,decide (yy.num<0)=p:=⟨_,rfl⟩
 have H1:Gr w ba (.agg #[.bool p1,.slice Aa na ca,.slice Ab nb cb]) xx:=⟨_,_,by rw[hp1],x1,x2⟩
 have H2:Gr w ba (.agg #[.bool p2,.slice Ac nc cc,.slice Ad nd cd]) xy:=⟨_,_,by rw[hp2],x3,x4⟩
 have H3:Gr w bb (.agg #[.bool p3,.slice Ae ne ce,.slice Af nf cf]) yx:=⟨_,_,by rw[hp3],y1,y2⟩
 have H4:Gr w bb (.agg #[.bool p4,.slice Ag ng cg,.slice Ah nh ch]) yy:=⟨_,_,by rw[hp4],y3,y4⟩
 rw[hp1,hp2,hp3,hp4];clear hp1 hp2 hp3 hp4 x1 x2 x3 x4 y1 y2 y3 y4;obtain⟨M5,D5,rfl,t1,t2⟩:=hT;obtain⟨Ai,ni,ci,rfl⟩:=t1.sl;obtain⟨Aj,nj,cj,rfl⟩:=t2.sl;obtain⟨p5,hp5⟩:∃p,decide (t.num<0)=p:=⟨_,rfl⟩
 have H5:Gr w bt (.agg #[.bool p5,.slice Ai ni ci,.slice Aj nj cj]) t:=⟨_,_,by rw[hp5],t1,t2⟩
 have HA:PtV w ba (.agg #[.bool p1,.slice Aa na ca,.slice Ab nb cb,.bool p2,.slice Ac nc cc,.slice Ad nd cd]) xx xy:=by
  obtain⟨m,d,e,h1,h2⟩:=H1;obtain⟨m',d',e',h1',h2'⟩:=H2;injection e with e;injection e with e;injection e' with e';injection e' with e'
  simp only[List.cons.injEq,and_true] at e e';obtain⟨e0,e1,e2⟩:=e;obtain⟨e0',e1',e2'⟩:=e';exact⟨_,_,_,_,by rw[e0,e0'],by rw[e1];exact h1,by rw[e2];exact h2,by rw[e1'];exact h1',by rw[e2'];exact h2'⟩
 have HB:PtV w bb (.agg #[.bool p3,.slice Ae ne ce,.slice Af nf cf,.bool p4,.slice Ag ng cg,.slice Ah nh ch]) yx yy:=by
  obtain⟨m,d,e,h1,h2⟩:=H3;obtain⟨m',d',e',h1',h2'⟩:=H4;injection e with e;injection e with e;injection e' with e';injection e' with e'
  simp only[List.cons.injEq,and_true] at e e';obtain⟨e0,e1,e2⟩:=e;obtain⟨e0',e1',e2'⟩:=e';exact⟨_,_,_,_,by rw[e0,e0'],by rw[e1];exact h1,by rw[e2];exact h2,by rw[e1'];exact h1',by rw[e2'];exact h2'⟩
 rw[hp5];clear hp5 t1 t2 H1 H2 H3 H4;have c1:RB 600 xx:=b1.le (by decide)
 have c2:RB 600 xy:=b2.le (by decide)
 have c3:RB 600 yx:=b3.le (by decide)
 have c4:RB 600 yy:=b4.le (by decide)
 have c5:RB 600 t:=b5.le (by decide)
 have s1:RB 201 (yx-xx):=RB.sub (m:=100) (n:=100) b3 b1;have s2:RB 201 (yy-xy):=RB.sub (m:=100) (n:=100) b4 b2;have s1':RB 600 (yx-xx):=s1.le (by decide)
 have s2':RB 600 (yy-xy):=s2.le (by decide)
 have u1:RB 600 ((yx-xx)*t):=(RB.mul (m:=201) (n:=390) s1 b5).le (by decide)
 have u2:RB 600 ((yy-xy)*t):=(RB.mul (m:=201) (n:=390) s2 b5).le (by decide)
 obtain⟨zx,hzx⟩:∃z,xx+(yx-xx)*t=z:=⟨_,rfl⟩
 obtain⟨zy,hzy⟩:∃z,xy+(yy-xy)*t=z:=⟨_,rfl⟩
 have E1:=Lib.hid hzx;have E2:=Lib.hid hzy;rw[hzx,hzy];clear hzx hzy b1 b2 b3 b4 b5 s1 s2;go_enter Tryz.func114,Tryz.ntmps114;go_upto_region 1 with fail;refine Ar (fun X=>Below w.heap.size w X/\Bb X w.heap.size 163 #[.bool p1,.slice Aa na ca,.slice Ab nb cb,.bool p2,.slice Ac nc cc,.slice Ad nd cd]/\Bb X (w.heap.size+1) 163 #[.bool p3,.slice Ae ne ce,.slice Af nf cf,.bool p4,.slice Ag ng cg,.slice Ah nh ch]/\Bb X (w.heap.size+1+1) 161 #[.bool p5,.slice Ai ni ci,.slice Aj nj cj]/\Bb X (w.heap.size+1+1+1) 163 #[.bool false,.slice none 0 0,.slice none 0 0,.bool false,.slice none 0 0,.slice none 0 0]) ⟨An (An (An (An (Below.refl _ _) _) _) _) _,Bb.alloc (Bb.alloc (Bb.alloc (Bb.new _ _ _) _) _) _,Bb.alloc (Bb.alloc (Bb.new2 _ _ _ _) _) _,Bb.alloc (Bb.new3 _ _ _ _ _) _,Adf _ _ _ _ _ _⟩ ?_
 rintro X ⟨hbX,hP,hQ,hT,hR⟩;have hne03:w.heap.size≠w.heap.size+1+1+1:=by omega
 have hne13:w.heap.size+1≠w.heap.size+1+1+1:=by omega
 have hne23:w.heap.size+1+1≠w.heap.size+1+1+1:=by omega
 have hltR:=hR.lt;have hbD:=Aw (Below.refl X.heap.size X);have KA:=(HA.keep hbX).keep hbD;have KB:=(HB.keep hbX).keep hbD;have KT:=(H5.keep hbX).keep hbD
 go_region_held3 (fun w'=>(w'.cell? ⟨w.heap.size,0,none⟩=some (.bool p1)/\w'.cell? ⟨w.heap.size,1,none⟩=some (.slice Aa na ca)/\w'.cell? ⟨w.heap.size,2,none⟩=some (.slice Ab nb cb)/\w'.cell? ⟨w.heap.size,3,none⟩=some (.bool p2)/\w'.cell? ⟨w.heap.size,4,none⟩=some (.slice Ac nc cc)/\w'.cell? ⟨w.heap.size,5,none⟩=some (.slice Ad nd cd)/\w'.cell? ⟨w.heap.size+1,0,none⟩=some (.bool p3)/\w'.cell? ⟨w.heap.size+1,1,none⟩=some (.slice Ae ne ce)/\w'.cell? ⟨w.heap.size+1,2,none⟩=some (.slice Af nf cf)/\w'.cell? ⟨w.heap.size+1,3,none⟩=some (.bool p4)/\w'.cell? ⟨w.heap.size+1,4,none⟩=some (.slice Ag ng cg)/\w'.cell? ⟨w.heap.size+1,5,none⟩=some (.slice Ah nh ch))/\w'.cell? ⟨w.heap.size+1+1,0,none⟩=some (.bool p5)/\w'.cell? ⟨w.heap.size+1+1,1,none⟩=some (.slice Ai ni ci)/\w'.cell? ⟨w.heap.size+1+1,2,none⟩=some (.slice Aj nj cj))
  (first
   | with_reducible exact Ahq (hP.keep hbD) (hQ.keep hbD) (hT.keep hbD)
   | with_reducible exact Ahq ((hP.keep hbD).far6 hne03 _ _ _ _ _ _) ((hQ.keep hbD).far6 hne13 _ _ _ _ _ _) ((hT.keep hbD).far6 hne23 _ _ _ _ _ _))
  ((first
    | (go_at_call 146;have hX2:=h2;refine(Ak7 ((KA.keep hb1).keep hb2) h2 c1 c2 u1 u2).mono ?_;rintro e w3 ⟨v3,rfl,h3,hb3⟩;rw[E1.out,E2.out] at h3;obtain⟨m1,d1,m2,d2,rfl,hm1,hd1,hm2,hd2⟩:=h3;obtain⟨B1,n1,k1,rfl⟩:=hm1.sl;obtain⟨B2,n2,k2,rfl⟩:=hd1.sl;obtain⟨B3,n3,k3,rfl⟩:=hm2.sl;obtain⟨B4,n4,k4,rfl⟩:=hd2.sl;replace hbD:=Ao hbD hb3;obtain⟨r0,r1,r2,r3,r4,r5⟩:=cells6 (hR.keep hbD);obtain⟨f0,f1,f2,f3,f4,f5,flt⟩:=Mh (hR.keep hbD))
    | (go_at_call 147;have hX1:=h1;refine(Agg h1 (KT.keep hb1) s1' s2' c5).mono ?_;rintro e w2 ⟨v2,rfl,h2,hb2⟩;replace hbD:=Ao hbD hb2)
    | (go_at_call 80;refine(S5 KB KA c3 c4 c1 c2).mono ?_;rintro e w1 ⟨v1,rfl,h1,hb1⟩;replace hbD:=Ao hbD hb1)))
 all_goals go_wp2_with fail
 obtain⟨hZ,HR⟩:=No (w:=w) (hR.keep hbD) hm1 hd1 hm2 hd2 (Nat.lt_of_lt_of_le hltR (Ao (Ao (Aw (Below.refl X.heap.size X)) hb1) hb2).size) (by omega) (Ao hbX hbD) _ rfl
 obtain⟨s0,s1,s2,s3,s4,s5⟩:=cells6 hZ;exact bodyPost_ret (v:=.agg #[.bool (decide (zx.num<0)),.slice B1 n1 k1,.slice B2 n2 k2,.bool (decide (zy.num<0)),.slice B3 n3 k3,.slice B4 n4 k4]) (by simp[results,Tryz.results114,go_sem,s0,s1,s2,s3,s4,s5]) rfl HR
end
section
open Go.RowKit Limb
theorem pof (x y:Int) (w:World) (h1 : -4611686018427387904<=x) (h2:x<=4611686018427387904) (h3 : -4611686018427387904<=y) (h4:y<=4611686018427387904):Calls Tryz.prog 115 #[.int .i64 x,.int .i64 y] w (Ae5 w (x:Rat) (y:Rat)):=by
 obtain⟨zx,hzx⟩:∃z:Rat,(x:Rat)=z:=⟨_,rfl⟩
 obtain⟨zy,hzy⟩:∃z:Rat,(y:Rat)=z:=⟨_,rfl⟩
 have E1:=Lib.hid hzx;have E2:=Lib.hid hzy;rw[hzx,hzy];clear hzx hzy;go_enter Tryz.func115,Tryz.ntmps115;go_upto_region 1 with fail;refine Ar (fun X=>Below w.heap.size w X/\Bb X w.heap.size 163 #[.bool false,.slice none 0 0,.slice none 0 0,.bool false,.slice none 0 0,.slice none 0 0]) ⟨An (Below.refl _ _) _,Bb.new _ _ _⟩ ?_
 rintro X ⟨hbX,hR⟩;have hltR:=hR.lt
 go_upto_region 2 with (go_at_call 148;refine(rof x _ h1 h2).mono ?_;rintro e w1 ⟨v1,rfl,hr1,hb1⟩;rw[E1.out] at hr1;obtain⟨m1,d1,rfl,hm1,hd1⟩:=hr1;obtain⟨B1,n1,c1,rfl⟩:=hm1.sl;obtain⟨B2,n2,c2,rfl⟩:=hd1.sl)
 refine Ar (fun Y=>Below w1.heap.size w1 Y/\Bb Y w1.heap.size 161 #[.bool (decide (zx.num<0)),.slice B1 n1 c1,.slice B2 n2 c2]) ⟨An (Below.refl _ _) _,Bb.new _ _ _⟩ ?_
 rintro Y ⟨hbY,hP⟩
 go_upto_region 3 with (go_at_call 148;refine(rof y _ h3 h4).mono ?_;rintro e w2 ⟨v2,rfl,hr2,hb2⟩;rw[E2.out] at hr2;obtain⟨m2,d2,rfl,hm2,hd2⟩:=hr2;obtain⟨B3,n3,c3,rfl⟩:=hm2.sl;obtain⟨B4,n4,c4,rfl⟩:=hd2.sl)
 have hbE:=Ao (Ao hb1 hbY) hb2;refine Ar (fun Z=>Below w2.heap.size w2 Z/\Bb Z w2.heap.size 161 #[.bool (decide (zy.num<0)),.slice B3 n3 c3,.slice B4 n4 c4]) ⟨An (Below.refl _ _) _,Bb.new _ _ _⟩ ?_
 rintro Z ⟨hbZ,hQ⟩;have hbF:=Ao hbE hbZ;have hP2:=(hP.keep hb2).keep hbZ;obtain⟨a0,a1,a2,-,-,-,-⟩:=hP2.triple;obtain⟨b0,b1,b2,-,-,-,-⟩:=hQ.triple;obtain⟨r0,r1,r2,r3,r4,r5⟩:=cells6 (hR.keep hbF);obtain⟨f0,f1,f2,f3,f4,f5,flt⟩:=Mh (hR.keep hbF);have k1:=((hm1.keep hbY).keep hb2).keep hbZ;have k2:=((hd1.keep hbY).keep hb2).keep hbZ;have hsz:X.heap.size<=Y.heap.size:=(Ao hb1 hbY).size;have k3:=(hm2.keep hbZ).lower hsz;have k4:=(hd2.keep hbZ).lower hsz;go_wp2_with fail;obtain⟨hZ,HR⟩:=No (w:=w) (hR.keep hbF) k1 k2 k3 k4 hltR (Nat.le_refl _) (Ao hbX hbF) _ rfl;obtain⟨s0,s1,s2,s3,s4,s5⟩:=cells6 hZ;exact bodyPost_ret (v:=.agg #[.bool (decide (zx.num<0)),.slice B1 n1 c1,.slice B2 n2 c2,.bool (decide (zy.num<0)),.slice B3 n3 c3,.slice B4 n4 c4]) (by simp[results,Tryz.results115,go_sem,s0,s1,s2,s3,s4,s5]) rfl HR
def inC (z:Int):Bool:=decide (-1048576<=z/\z<=1048576)
theorem Acu (n:Int) (d:Nat) (hd:0<d):(rnd n d).natAbs<=2*n.natAbs+d:=by
 unfold rnd;have:=Nat.div_le_self (2*n.natAbs+d) (2*d);generalize (2*n.natAbs+d) / (2*d)=k at *
 split<;>omega
theorem Abg {w:World} {ba:Nat} {x:Rat} {vx:Value} (hX:Gr w ba vx x) (bx:RB 600 x):Calls Tryz.prog 116 #[vx] w fun e w'=>∃n,e=.returned (.tuple #[.int .i64 n,.bool (inC (rnd x.num x.den))])/\(inC (rnd x.num x.den)=true->n=rnd x.num x.den)/\Below w.heap.size w w':=by
 obtain⟨mx,dx,rfl,hx,hxd⟩:=id hX;obtain⟨Ax,nx,cx,rfl⟩:=hx.sl;obtain⟨Bx,ox,ex,rfl⟩:=hxd.sl
 have hsz:Sm (rnd x.num x.den).natAbs:=by
  refine(H8 (m:=600+2) ?_ (by decide)).le (Acu x.num x.den x.den_pos)
  have:=si (m:=600) bx.1 bx.2
  rwa [<-Nat.two_mul] at this
 obtain⟨p,hp⟩:∃p,decide (x.num<0)=p:=⟨_,rfl⟩
 rw[hp] at hX ⊢;obtain⟨z,hz⟩:∃z,rnd x.num x.den=z:=⟨_,rfl⟩
 have HZ:=Lib.hid hz;rw[hz] at hsz ⊢;clear hp hz hx hxd;go_enter Tryz.func116,Tryz.ntmps116;go_upto_region 1 with fail;refine Ar (fun X=>Below w.heap.size w X/\Bb X w.heap.size 161 #[.bool p,.slice Ax nx cx,.slice Bx ox ex]) ⟨An (Below.refl _ _) _,Bb.new _ _ _⟩ ?_
 rintro X ⟨hbX,hP⟩;obtain⟨a0,a1,a2,-,-,-,-⟩:=hP.triple
 go_upto_region 2 with (first
  | (go_at_call 149;refine(Agz h1 hsz).mono ?_;rintro e w2 ⟨n,ok,rfl,hok,hno,hb2⟩)
  | (go_at_call 150;refine(Agc (hX.keep hbX) bx).mono ?_;rintro e w1 ⟨v1,rfl,h1,hb1⟩;rw[HZ.out] at h1))
 have hbE:=Ao (Ao hbX hb1) hb2;cases ok with
 | false =>
   have hf:Hid (inC z=false):=Lib.hid (by
    have:=hno rfl;unfold inC;exact decide_eq_false (by omega))
   clear hok hno;go_wp2_with fail
   go_ret2
   exact⟨n,by rw[hf.out];rfl,(fun h=>by rw[hf.out] at h;cases h),hbE⟩
 | true =>
   obtain rfl:=hok rfl;have hI:Hid (inC n=(decide (-1048576<=n)&&decide (n<=1048576))):=Lib.hid (by unfold inC;exact Bool.decide_and _ _)
   clear hok hno;by_cases c1 : -1048576<=n
   ·by_cases c2:n<=1048576
    ·have hf:Hid (inC n=true):=Lib.hid (by rw[hI.out];simp[c1,c2])
     go_wp2_with fail
     go_ret2
     exact⟨n,by rw[hf.out];rfl,(fun _=>rfl),hbE⟩
    ·have hf:Hid (inC n=false):=Lib.hid (by rw[hI.out];simp[c2])
     go_wp2_with fail
     go_ret2
     exact⟨n,by rw[hf.out];rfl,(fun _=>rfl),hbE⟩
   ·have hf:Hid (inC n=false):=Lib.hid (by rw[hI.out];simp[c1])
    go_wp2_with fail
    go_ret2
    exact⟨n,by rw[hf.out];rfl,(fun _=>rfl),hbE⟩
def Mn (zx zy:Int):(Int×Int)×Int:=if inC zx&&inC zy then ((zx,zy),0) else ((0,0),3)
theorem Agk {w:World} {ba:Nat} {x y:Rat} {vx:Value} (hX:PtV w ba vx x y) (bx:RB 600 x) (by_:RB 600 y) (zx zy:Int) (hzx:rnd x.num x.den=zx) (hzy:rnd y.num y.den=zy):Calls Tryz.prog 79 #[vx] w fun e w'=>e=.returned (.tuple #[.agg #[.int .i64 (Mn zx zy).1.1,.int .i64 (Mn zx zy).1.2],.int .i64 (Mn zx zy).2])/\Below w.heap.size w w':=by
 obtain⟨M1,D1,M2,D2,rfl,x1,x2,x3,x4⟩:=hX;obtain⟨Aa,na,ca,rfl⟩:=x1.sl;obtain⟨Ab,nb,cb,rfl⟩:=x2.sl;obtain⟨Ac,nc,cc,rfl⟩:=x3.sl;obtain⟨Ad,nd,cd,rfl⟩:=x4.sl;obtain⟨p1,hp1⟩:∃p,decide (x.num<0)=p:=⟨_,rfl⟩
 obtain⟨p2,hp2⟩:∃p,decide (y.num<0)=p:=⟨_,rfl⟩
 have H1:Gr w ba (.agg #[.bool p1,.slice Aa na ca,.slice Ab nb cb]) x:=⟨_,_,by rw[hp1],x1,x2⟩
 have H2:Gr w ba (.agg #[.bool p2,.slice Ac nc cc,.slice Ad nd cd]) y:=⟨_,_,by rw[hp2],x3,x4⟩
 have E1:=Lib.hid hzx;have E2:=Lib.hid hzy;rw[hp1,hp2];clear hp1 hp2 x1 x2 x3 x4 hzx hzy;go_enter Tryz.func79,Tryz.ntmps79;go_upto_region 1 with fail;refine Ar (fun X=>Below w.heap.size w X/\Bb X w.heap.size 163 #[.bool p1,.slice Aa na ca,.slice Ab nb cb,.bool p2,.slice Ac nc cc,.slice Ad nd cd]/\Bb X (w.heap.size+1) 49 #[.int .i64 0,.int .i64 0]) ⟨An (An (Below.refl _ _) _) _,Bb.alloc (Bb.new _ _ _) _,Bb.new2 _ _ _ _⟩ ?_
 rintro X ⟨hbX,hP,hR⟩;obtain⟨a0,a1,a2,a3,a4,a5⟩:=cells6 hP;obtain⟨c1,hc1⟩:∃c,inC zx=c:=⟨_,rfl⟩
 obtain⟨c2,hc2⟩:∃c,inC zy=c:=⟨_,rfl⟩
 have HC1:=Lib.hid hc1;have HC2:=Lib.hid hc2;have HG:Hid (Mn zx zy=if c1&&c2 then ((zx,zy),0) else ((0,0),3)):=Lib.hid (by unfold Mn;rw[hc1,hc2])
 clear hc1 hc2
 go_upto_region 3 with (first
  | (go_at_call 116;have hX1:=hn1;refine(Abg ((H2.keep hbX).keep hb1) by_).mono ?_;rintro e w2 ⟨n2,rfl,hn2,hb2⟩;rw[E2.out,HC2.out] at *)
  | (go_at_call 116;refine(Abg (H1.keep hbX) bx).mono ?_;rintro e w1 ⟨n1,rfl,hn1,hb1⟩;rw[E1.out,HC1.out] at *;obtain⟨b0,b1,b2,b3,b4,b5⟩:=cells6 (hP.keep hb1)))
 have hbE:=Ao hb1 hb2;have hR2:=hR.keep hbE;obtain⟨r0,r1,f0,f1,lt⟩:=hR2.pair;have hbF:=Ao hbX hbE;cases c1 with
 | true =>
   obtain rfl:=hn1 rfl;cases c2 with
   | true =>
     obtain rfl:=hn2 rfl;clear hn1 hn2;obtain⟨s0,s1,-,-,-⟩:=Bb.pair ((hR2.set_ 0 (.int .i64 n1)).set_ 1 (.int .i64 n2));go_wp2_with fail;exact bodyPost_ret (v:=.tuple #[.agg #[.int .i64 n1,.int .i64 n2],.int .i64 0]) (by simp[results,Tryz.results79,go_sem,s0,s1]) rfl ⟨by rw[HG.out];rfl,Bc (Bc hbF (p:=⟨w.heap.size+1,0,none⟩) (by simp) _) (p:=⟨w.heap.size+1,1,none⟩) (by simp) _⟩
   | false =>
     clear hn1 hn2;obtain⟨s0,s1,-,-,-⟩:=Bb.pair ((hR2.set_ 0 (.int .i64 0)).set_ 1 (.int .i64 0));go_wp2_with fail;exact bodyPost_ret (v:=.tuple #[.agg #[.int .i64 0,.int .i64 0],.int .i64 3]) (by simp[results,Tryz.results79,go_sem,s0,s1]) rfl ⟨by rw[HG.out];rfl,Bc (Bc hbF (p:=⟨w.heap.size+1,0,none⟩) (by simp) _) (p:=⟨w.heap.size+1,1,none⟩) (by simp) _⟩
 | false =>
   clear hn1 hn2;obtain⟨s0,s1,-,-,-⟩:=Bb.pair ((hR2.set_ 0 (.int .i64 0)).set_ 1 (.int .i64 0));go_wp2_with fail;exact bodyPost_ret (v:=.tuple #[.agg #[.int .i64 0,.int .i64 0],.int .i64 3]) (by simp[results,Tryz.results79,go_sem,s0,s1]) rfl ⟨by rw[HG.out];rfl,Bc (Bc hbF (p:=⟨w.heap.size+1,0,none⟩) (by simp) _) (p:=⟨w.heap.size+1,1,none⟩) (by simp) _⟩
end
section
open Go.RowKit Limb
structure Seg where
 fx:Int
 fy:Int
 tx:Int
 ty:Int
 wd:Int
def crD (a b:Seg):Int:=(a.tx-a.fx)*(b.ty-b.fy)-(a.ty-a.fy)*(b.tx-b.fx)
def crN (a b:Seg):Int:=(b.fx-a.fx)*(b.ty-b.fy)-(b.fy-a.fy)*(b.tx-b.fx)
def Air (v:Int×Int) (a b:Seg):Int:=rnd (((a.fx-v.1)*crD a b+(a.tx-a.fx)*crN a b)*(crD a b).sign) (crD a b).natAbs
def Aiq (v:Int×Int) (a b:Seg):Int:=rnd (((a.fy-v.2)*crD a b+(a.ty-a.fy)*crN a b)*(crD a b).sign) (crD a b).natAbs
def Ds (v:Int×Int) (a b:Seg):List (Int×Int) :=
 if crD a b=0 then [(a.tx,a.ty),(b.fx,b.fy)]
 else if (inC (Air v a b)&&inC (Aiq v a b))&&wS (Air v a b,Aiq v a b) (4*max a.wd b.wd+4) then [(v.1+Air v a b,v.2+Aiq v a b)]
 else [(a.tx,a.ty),(b.fx,b.fy)]
end
def R7 (v:List (Int×Int)):Int:=if Bf v v.length=0 then Ma v v.length v.length else 0
def orW (v:List (Int×Int)):Int:=Er (R7 v) 0
def Fl (E:List EdgeP) (wd:List Int):Nat->List Int
 | 0=>[]
 | k+1=>Fl E wd k++List.replicate ((edg E k).ln.length-1) (gi wd k)
def Kr (E:List EdgeP) (wd:List Int):List Int:=Fl E wd E.length
def shP (v:List (Int×Int)) (sg:Int) (each:List Int) (i:Nat):Int×Int :=
 (G8 (sg*gi each i*((gt v ((i+1) % v.length)).2-(gt v i).2)) (Cf (sqd (gt v i) (gt v ((i+1) % v.length)))),
  G8 (-(sg*gi each i)*((gt v ((i+1) % v.length)).1-(gt v i).1)) (Cf (sqd (gt v i) (gt v ((i+1) % v.length)))))
def Es (E:List EdgeP) (wd:List Int):List (Int×Int):=(List.range (Ck E).length).map (shP (Ck E) (orW (Ck E)) (Kr E wd))
def wdB (wd:List Int) (i:Nat):Bool:=decide (gi wd i<0) || decide (500<gi wd i)
def Et (E:List EdgeP) (wd:List Int):List (Int×Int)×Int :=
 if Fp E≠0 then ([],Fp E) else if wd.length≠E.length then ([],1) else if Bq (wdB wd) wd.length then ([],3) else (Es E wd,0)
def Xg (v sh:List (Int×Int)) (each:List Int) (i:Nat):Seg :=
 ⟨(gt v i).1+(gt sh i).1,(gt v i).2+(gt sh i).2,(gt v ((i+1) % v.length)).1+(gt sh i).1,(gt v ((i+1) % v.length)).2+(gt sh i).2,gi each i⟩
def Qt (l:List (Int×Int)) (p:Int×Int):List (Int×Int):=if l.length=0 then l++[p] else if eqS (gt l (l.length-1)) p then l else l++[p]
def Io (l c:List (Int×Int)):Nat->List (Int×Int)
 | 0=>l
 | k+1=>Qt (Io l c k) (gt c k)
def dn (v sh:List (Int×Int)) (each:List Int) (i:Nat):List (Int×Int):=Ds (gt v i) (Xg v sh each ((i+v.length-1) % v.length)) (Xg v sh each i)
def Mm (v sh:List (Int×Int)) (each:List Int):Nat->List (Int×Int)
 | 0=>[]
 | i+1=>Io (Mm v sh each i) (dn v sh each i) (dn v sh each i).length
def Nd (l:List (Int×Int)):Nat->Nat
 | 0=>0
 | k+1=>if 2<=k+1/\eqS (gt l k) (gt l 0)=true then Nd l k else k+1
def Abe (E:List EdgeP) (wd:List Int):List (Int×Int):=Mm (Ck E) (Es E wd) (Kr E wd) (Ck E).length
def H9 (E:List EdgeP) (wd:List Int):List (Int×Int):=(Abe E wd).take (Nd (Abe E wd) (Abe E wd).length)
def I5 (E:List EdgeP) (wd:List Int):List (Int×Int)×Int :=
 if (Et E wd).2≠0 then ([],(Et E wd).2)
 else if Bq (fun i=>!wS (gt (H9 E wd) i) 1048576) (H9 E wd).length then ([],3)
 else if Bf (H9 E wd) (H9 E wd).length≠0 then ([],Bf (H9 E wd) (H9 E wd).length)
 else if orW (H9 E wd)≠orW (Ck E) then ([],11) else (H9 E wd,0)
theorem Oh (v:Int×Int) (a b:Seg):(Ds v a b).length<=2:=by
 unfold Ds;split
 ·simp
 ·split<;>simp
theorem jo (l:List (Int×Int)) (p:Int×Int):(Qt l p).length<=l.length+1:=by
 unfold Qt;split
 ·simp
 ·split<;>simp
theorem Pm (l c:List (Int×Int)) (k:Nat):(Io l c k).length<=l.length+k:=by
 induction k with
 | zero=>simp[Io]
 | succ k ih =>
   rw[Io];have:=jo (Io l c k) (gt c k);omega
theorem S4 (v sh:List (Int×Int)) (each:List Int) (k:Nat):(Mm v sh each k).length<=2*k:=by
 induction k with
 | zero=>simp[Mm]
 | succ k ih =>
   rw[Mm];have h1:=Pm (Mm v sh each k) (dn v sh each k) (dn v sh each k).length;have h2:(dn v sh each k).length<=2:=Oh _ _ _;omega
theorem Ly {E:List EdgeP} {wd:List Int} (k:Nat):(Fl E wd k).length=(G4 E k).length:=by
 induction k with
 | zero=>rfl
 | succ k ih=>rw[Fl,G4,List.length_append,List.length_append,List.length_replicate,Y3,ih]
structure PlcP where
 ga:Int
 us:Int
 cp:Int
 fl:Bool
 qu:Int
 x:Int
 y:Int
structure MkP where
 len:Int
 wid:Int
 rx:Int
 ry:Int
 sz:List Int
 pl:List PlcP
def plc (l:List PlcP) (k:Nat):PlcP:=l.getD k ⟨0,0,0,false,0,0,0⟩
def dq (i:Nat) (pr:Bool) (k:Nat):PlcP:=⟨0,(i:Int),(k:Int),pr&&decide (k % 2=1),0,0,0⟩
def Fb (U:List UseP):Nat->List PlcP
 | 0=>[]
 | i+1=>Fb U i++(List.range (use U i).ct.toNat).map (dq i (use U i).pr)
def Em (s:StyleP):List PlcP:=if Bt s≠0 then [] else Fb s.us s.us.length
def Cl (s:StyleP) (u:Int):PieceP:=pce s.pc (use s.us u.toNat).pc.toNat
def Ki (s:StyleP) (z u:Int):List EdgeP×Int :=
 if Bt s≠0 then ([],Bt s) else if z<0\/(s.sz.length:Int)<=z\/u<0\/(s.us.length:Int)<=u then ([],3)
 else Cn (Cl s u) (gi s.mu z.toNat)
def Lb (s:StyleP) (z u:Int):List (Int×Int)×Int:=if (Ki s z u).2≠0 then ([],(Ki s z u).2) else I5 (Ki s z u).1 (Cl s u).wd
def Ze (s:StyleP) (z u:Int):(Int×Int)×Int:=if (Ki s z u).2≠0 then ((0,0),(Ki s z u).2) else (gt (edg (Ki s z u).1 0).ln 0,0)
def Wp:Shp:=⟨[],0,false,(0,0)⟩
def F8 (s:StyleP) (z:Int) (c:PlcP):Shp×Int :=
 if (Lb s z c.us).2≠0 then (Wp,(Lb s z c.us).2) else if (Ze s z c.us).2≠0 then (Wp,(Ze s z c.us).2)
 else (⟨if c.fl then Fv true 0 (Lb s z c.us).1 else (Lb s z c.us).1,(Cl s c.us).gr,(Cl s c.us).mt,if c.fl then C4 true 0 (Ze s z c.us).1 else (Ze s z c.us).1⟩,0)
def Ju (c:PlcP) (j:Int):PlcP:=⟨j,c.us,c.cp,c.fl,c.qu,c.x,c.y⟩
def Lj (s:StyleP) (z j:Int) (C:List PlcP) (a:Int×List Shp×List PlcP):Nat->Int×List Shp×List PlcP
 | 0=>a
 | k+1=>if (Lj s z j C a k).1≠0 then Lj s z j C a k else if (F8 s z (plc C k)).2≠0 then ((F8 s z (plc C k)).2,[],[])
   else (0,(Lj s z j C a k).2.1++[(F8 s z (plc C k)).1],(Lj s z j C a k).2.2++[Ju (plc C k) j])
def Li (s:StyleP) (Z:List Int) (C:List PlcP):Nat->Int×List Shp×List PlcP
 | 0=>(0,[],[])
 | j+1=>if (Li s Z C j).1≠0 then Li s Z C j else Lj s (gi Z j) j C (Li s Z C j) C.length
def Bd (s:StyleP) (Z:List Int):Int×List Shp×List PlcP :=
 if Bt s≠0 then (Bt s,[],[]) else if Z.length<1\/6<Z.length then (3,[],[])
 else if Bq (fun i=>decide (gi Z i<0) || decide ((s.sz.length:Int)<=gi Z i)) Z.length then (3,[],[])
 else if 60<(Em s).length*Z.length then (5,[],[]) else Li s Z (Em s) Z.length
def Kd (l:List (Int×Int)):Int:=max (R7 l) (-(R7 l))
def J1 (f:Int->Int->Int) (l:List Int):Nat->List Int
 | 0=>l
 | j+1=>if f (gi l (j+1)) (gi l j)<0 then J1 f ((l.set (j+1) (gi l j)).set j (gi l (j+1))) j else l
def Iw (f:Int->Int->Int) (l:List Int):Nat->List Int
 | 0=>l
 | i+1=>J1 f (Iw f l i) i
def Ns (S:List Shp) (i k:Int):Int:=Kd (shp S k.toNat).poly-Kd (shp S i.toNat).poly
def Jx (S:List Shp):List Int:=Iw (Ns S) ((List.range S.length).map fun i:Nat=>(i:Int)) S.length
def az (c:PlcP) (p:Pt5):PlcP:=⟨c.ga,c.us,c.cp,c.fl,p.qu,p.x,p.y⟩
def Cp (C:List PlcP) (P:List Pt5):Nat->List PlcP
 | 0=>C
 | k+1=>(Cp C P k).set (pt P k).sh.toNat (az (plc (Cp C P k) (pt P k).sh.toNat) (pt P k))
def Na:MkP:=⟨0,0,0,0,[],[]⟩
def Bz (s:StyleP) (b:Bed4) (Z:List Int):Int×MkP :=
 if (Bd s Z).1≠0 then ((Bd s Z).1,Na)
 else if (Ho b (Bd s Z).2.1 (Jx (Bd s Z).2.1)).1≠0 then ((Ho b (Bd s Z).2.1 (Jx (Bd s Z).2.1)).1,Na)
 else if (Mo (Bd s Z).2.1 (Ho b (Bd s Z).2.1 (Jx (Bd s Z).2.1)).2).1≠0 then ((Mo (Bd s Z).2.1 (Ho b (Bd s Z).2.1 (Jx (Bd s Z).2.1)).2).1,Na)
 else (0,⟨(Mo (Bd s Z).2.1 (Ho b (Bd s Z).2.1 (Jx (Bd s Z).2.1)).2).2,b.wid,b.rx,b.ry,Z,Cp (Bd s Z).2.2 (Ho b (Bd s Z).2.1 (Jx (Bd s Z).2.1)).2 (Ho b (Bd s Z).2.1 (Jx (Bd s Z).2.1)).2.length⟩)
def Aff (c p:PlcP):Bool:=decide (c.ga=p.ga)&&decide (c.us=p.us)&&decide (c.cp=p.cp)
def Pw (C:List PlcP) (p:PlcP):Nat->Int
 | 0 => -1
 | k+1=>if Aff (plc C k) p then (k:Int) else Pw C p k
def gbo (l:List Bool) (k:Nat):Bool:=l.getD k false
def Ft (C P:List PlcP):Nat->Int×List Bool×List Pt5
 | 0=>(0,List.replicate C.length false,[])
 | k+1=>if (Ft C P k).1≠0 then Ft C P k
   else if Pw C (plc P k) C.length<0 then (3,[],[])
   else if gbo (Ft C P k).2.1 (Pw C (plc P k) C.length).toNat then (7,[],[])
   else (0,(Ft C P k).2.1.set (Pw C (plc P k) C.length).toNat true,(Ft C P k).2.2++[⟨Pw C (plc P k) C.length,false,(plc P k).qu,(plc P k).x,(plc P k).y⟩])
def Ic (b:Bed4) (S:List Shp) (ps:List Pt5):Int:=if 60<ps.length then 5 else Gk (fun i=>Dm b S (ps.take i) (pt ps i)) ps.length
def Y8 (m:MkP):Bed4:=⟨m.len,m.wid,m.rx,m.ry⟩
def Aaj (C:List PlcP) (S:List Shp) (m:MkP) (r:Int×List Bool×List Pt5):Int×List Shp×List Pt5 :=
 if r.1≠0 then (r.1,[],[]) else if Bq (fun i=>!gbo r.2.1 i) C.length then (20,[],[])
 else if Bq (fun i=>(plc m.pl i).fl != (plc C (pt r.2.2 i).sh.toNat).fl) m.pl.length then (12,[],[])
 else if Ic (Y8 m) S r.2.2≠0 then (Ic (Y8 m) S r.2.2,[],[]) else (0,S,r.2.2)
def Fs (s:StyleP) (m:MkP):Int×List Shp×List Pt5 :=
 if (Bd s m.sz).1≠0 then ((Bd s m.sz).1,[],[]) else Aaj (Bd s m.sz).2.2 (Bd s m.sz).2.1 m (Ft (Bd s m.sz).2.2 m.pl m.pl.length)
def Gq (S:List Shp) (ps:List Pt5):Nat->Int×List (List (Int×Int))
 | 0=>(0,[])
 | k+1=>if (Gq S ps k).1≠0 then Gq S ps k else if (Be S (pt ps k)).1≠0 then ((Be S (pt ps k)).1,[]) else (0,(Gq S ps k).2++[(Be S (pt ps k)).2])
def Ia (s:StyleP) (m:MkP):Int×List (List (Int×Int)):=if (Fs s m).1≠0 then ((Fs s m).1,[]) else Gq (Fs s m).2.1 (Fs s m).2.2 (Fs s m).2.2.length
def Gt (l:List (List (Int×Int))):Nat->Int
 | 0=>0
 | k+1=>Gt l k+Kd (lt_ l k)
def Zo (s:StyleP) (m:MkP):Int×Int:=if (Ia s m).1≠0 then (0,(Ia s m).1) else (Gt (Ia s m).2 (Ia s m).2.length,0)
end Go.Proofs.YtpbchbcdgikonaaGreat

/- Lean texts of the claim. -/
import Derived.Test.YtpbchbcdgikonaaGreatQ10
namespace Go.Proofs.YtpbchbcdgikonaaGreat
set_option linter.unusedVariables false
set_option linter.unusedSimpArgs false
set_option maxRecDepth 100000
set_option maxHeartbeats 4000000
open Go.RowKit
def tl (n:Int):Int:=if n<1\/n > 1048576 then 0 else n
def Abl (n:Int):Int:=min (max n (-1048576)) 1048576
def Agr (n p:Int):Int:=if p=0 then 0 else (wrap64 (n.tmod p+p)).tmod p
def Adb (p a b:Int):Int:=wrap64 (a+Agr (wrap64 (b-a)) p)
theorem Pq (n:Int) (w:World):Calls Tryz.prog 225 #[.int .i64 n] w fun e w'=>e=.returned (.int .i64 (tl n))/\w'=w:=by
 go_enter Tryz.func225,Tryz.ntmps225;go_wp2;all_goals go_ret
 all_goals exact⟨Bh (by unfold tl;split<;>omega),rfl⟩
theorem E7 (n:Int) (w:World):Calls Tryz.prog 187 #[.int .i64 n] w fun e w'=>e=.returned (.int .i64 (Abl n))/\w'=w:=by
 go_enter Tryz.func187,Tryz.ntmps187;go_wp2;all_goals go_ret
 all_goals exact⟨Bh (by unfold Abl;omega),rfl⟩
theorem Ln (n p:Int) (w:World):Calls Tryz.prog 206 #[.int .i64 n,.int .i64 p] w fun e w'=>e=.returned (.int .i64 (Agr n p))/\w'=w:=by
 by_cases hp:p=0
 ·subst hp
  go_enter Tryz.func206,Tryz.ntmps206;go_wp2;all_goals go_ret
  all_goals exact⟨Bh rfl,rfl⟩
 ·have hq:(p == 0)=false:=by simpa using hp
  go_enter Tryz.func206,Tryz.ntmps206;go_wp2;all_goals go_ret
  all_goals exact⟨Bh (by unfold Agr;rw[if_neg hp]),rfl⟩
theorem Xu (p a b:Int) (w:World):Calls Tryz.prog 186 #[.int .i64 p,.int .i64 a,.int .i64 b] w fun e w'=>e=.returned (.int .i64 (Adb p a b))/\w'=w:=by
 go_enter Tryz.func186,Tryz.ntmps186
 go_wp2_with (go_at_call 206;refine(Ln _ _ _).mono ?_;rintro e w1 ⟨rfl,rfl⟩)
 all_goals go_ret
 all_goals exact⟨Bh rfl,rfl⟩
theorem Sp (x y:Int) (w:World):Calls Tryz.prog 185 #[.agg #[.int .i64 x,.int .i64 y]] w fun e w'=>e=.returned (.agg #[.int .i64 (tl x),.int .i64 (tl y)])/\Below w.heap.size w w':=by
 go_enter Tryz.func185,Tryz.ntmps185;go_wp2_with fail;refine Br 7 (by kernel_rfl) (by kernel_rfl) ?_
 simp only[List.take_succ_cons,List.take_zero,List.drop_succ_cons,List.drop_zero]
 repeat still_step
 still_call (Pq _ _)
 repeat still_step
 still_call (Pq _ _)
 repeat still_step
 refine wpStill_nil ?_;go_wp2_with fail;exact bodyPost_ret (v:=.agg #[.int .i64 (tl x),.int .i64 (tl y)]) (by simp[results,Tryz.results185,go_sem]) rfl ⟨rfl,Aw (An (An (Below.refl _ _) _) _)⟩
def Nq (rx ry x y:Int):Int×Int:=(Agr (Abl x) (tl rx),Agr (Abl y) (tl ry))
def Jl (rx ry ax ay bx bY:Int):Int×Int:=(Adb (tl rx) (Abl ax) (Abl bx),Adb (tl ry) (Abl ay) (Abl bY))
theorem ka (rx ry x y:Int) (w:World):Calls Tryz.prog 169 #[.agg #[.int .i64 rx,.int .i64 ry],.agg #[.int .i64 x,.int .i64 y]] w fun e w'=>e=.returned (.agg #[.int .i64 (Nq rx ry x y).1,.int .i64 (Nq rx ry x y).2])/\Below w.heap.size w w':=by
 go_enter Tryz.func169,Tryz.ntmps169;have h0:Bb (((w.alloc (.cells #[.int .i64 rx,.int .i64 ry] 31)).alloc (.cells #[.int .i64 x,.int .i64 y] 49)).alloc (.cells #[.int .i64 0,.int .i64 0] 49)) w.heap.size 31 #[.int .i64 rx,.int .i64 ry]:=((Bb.new _ _ _).alloc _).alloc _;have h1:Bb (((w.alloc (.cells #[.int .i64 rx,.int .i64 ry] 31)).alloc (.cells #[.int .i64 x,.int .i64 y] 49)).alloc (.cells #[.int .i64 0,.int .i64 0] 49)) (w.heap.size+1) 49 #[.int .i64 x,.int .i64 y]:=(Bb.new2 _ _ _ _).alloc _;have h2:Bb (((w.alloc (.cells #[.int .i64 rx,.int .i64 ry] 31)).alloc (.cells #[.int .i64 x,.int .i64 y] 49)).alloc (.cells #[.int .i64 0,.int .i64 0] 49)) (w.heap.size+1+1) 49 #[.int .i64 0,.int .i64 0]:=Bb.new3 _ _ _ _ _;have H0:=Lib.hid h0;have H1:=Lib.hid h1;have H2:=Lib.hid h2;clear h0 h1 h2
 go_wp2_with (go_at_call 185;refine(Sp _ _ _).mono ?_;rintro e w1 ⟨rfl,hb1⟩;have k0:=H0.out.keep hb1;have k1:=H1.out.keep hb1;have k2:=H2.out.keep hb1;have a1:=k0.cell 0;have a2:=k0.cell 1;have a3:=k0.frozen 0;have a4:=k0.frozen 1;have a5:=k1.cell 0;have a6:=k1.cell 1;have a7:=k2.cell 0;have a8:=k2.cell 1;have a9:=k2.frozen 0;have a10:=k2.frozen 1;have l0:=k0.lt;have l1:=k1.lt;have l2:=k2.lt;simp only[List.getElem?_toArray,List.getElem?_cons_zero,List.getElem?_cons_succ] at a1 a2 a5 a6 a7 a8)
 refine Br 13 (by kernel_rfl) (by kernel_rfl) ?_
 simp only[List.take_succ_cons,List.take_zero,List.drop_succ_cons,List.drop_zero]
 repeat still_step
 still_call (E7 _ _)
 repeat still_step
 still_call (Ln _ _ _)
 repeat still_step
 still_call (E7 _ _)
 repeat still_step
 still_call (Ln _ _ _)
 repeat still_step
 refine wpStill_nil ?_;go_wp2_with fail;exact bodyPost_ret (v:=.agg #[.int .i64 (Nq rx ry x y).1,.int .i64 (Nq rx ry x y).2]) (by simp[results,Tryz.results169,go_sem,a7,a8,Nq]) rfl ⟨rfl,by have hbb:=Ao (An (An (An (Below.refl _ _) _) _) _) hb1;(repeat first|exact hbb|refine Aw ?_|refine Bc ?_ (by dsimp only;omega) _)⟩
def Acr (rx ry ax ay bx bY:Int):Bool:=eqS (Nq rx ry ax ay) (Nq rx ry bx bY)
theorem vp (rx ry ax ay bx bY:Int) (w:World):Calls Tryz.prog 138 #[.agg #[.int .i64 rx,.int .i64 ry],.agg #[.int .i64 ax,.int .i64 ay],.agg #[.int .i64 bx,.int .i64 bY]] w fun e w'=>e=.returned (.bool (Acr rx ry ax ay bx bY))/\Below w.heap.size w w':=by
 have heq:=Gw;go_enter Tryz.func138,Tryz.ntmps138;go_wp2_with fail;refine Bi w [(⟨w.heap.size,0,none⟩,.int .i64 rx),(⟨w.heap.size,1,none⟩,.int .i64 ry),(⟨w.heap.size+1,0,none⟩,.int .i64 ax),(⟨w.heap.size+1,1,none⟩,.int .i64 ay),(⟨w.heap.size+1+1,0,none⟩,.int .i64 bx),(⟨w.heap.size+1+1,1,none⟩,.int .i64 bY)] (by kernel_rfl) (by kernel_rfl) ⟨(An (An (An (Below.refl _ _) _) _) _),by simp only[List.mem_cons,List.not_mem_nil,forall_eq_or_imp,or_false,forall_eq];go_simp⟩ ?_
 repeat
  apply Cv
  ·rfl
  ·intro w1 hw1
   have hx:=hw1.2;simp only[List.mem_cons,List.not_mem_nil,forall_eq_or_imp,or_false,forall_eq] at hx
   go_simp
   first|rfl|exact Cg hw1 (ka _ _ _ _ _)
  go_simp
 refine wpQuiet_nil ?_;intro w1 hCw1;have hb:=hCw1.1;clear hCw1;go_wp2;go_ret;exact⟨rfl,hb⟩
theorem ij (rx ry x y bx bY:Int) (w:World):Calls Tryz.prog 157 #[.agg #[.int .i64 rx,.int .i64 ry],.agg #[.int .i64 x,.int .i64 y],.agg #[.int .i64 bx,.int .i64 bY]] w fun e w'=>e=.returned (.agg #[.int .i64 (Jl rx ry x y bx bY).1,.int .i64 (Jl rx ry x y bx bY).2])/\Below w.heap.size w w':=by
 go_enter Tryz.func157,Tryz.ntmps157;obtain⟨W4,hW4⟩:∃W4,W4=((((w.alloc (.cells #[.int .i64 rx,.int .i64 ry] 31)).alloc (.cells #[.int .i64 x,.int .i64 y] 49)).alloc (.cells #[.int .i64 bx,.int .i64 bY] 49)).alloc (.cells #[.int .i64 0,.int .i64 0] 49)):=⟨_,rfl⟩
 have h0:Bb W4 w.heap.size 31 #[.int .i64 rx,.int .i64 ry]:=by rw[hW4];exact(((Bb.new _ _ _).alloc _).alloc _).alloc _
 have h1:Bb W4 (w.heap.size+1) 49 #[.int .i64 x,.int .i64 y]:=by rw[hW4];exact((Bb.new2 _ _ _ _).alloc _).alloc _
 have h2:Bb W4 (w.heap.size+1+1) 49 #[.int .i64 bx,.int .i64 bY]:=by rw[hW4];exact(Bb.new3 _ _ _ _ _).alloc _
 have h3:Bb W4 (w.heap.size+1+1+1) 49 #[.int .i64 0,.int .i64 0]:=by
  rw[hW4];have:=Bb.new (((w.alloc (.cells #[.int .i64 rx,.int .i64 ry] 31)).alloc (.cells #[.int .i64 x,.int .i64 y] 49)).alloc (.cells #[.int .i64 bx,.int .i64 bY] 49)) 49 #[.int .i64 0,.int .i64 0];simpa using this
 subst hW4;have H0:=Lib.hid h0;have H1:=Lib.hid h1;have H2:=Lib.hid h2;have H3:=Lib.hid h3;clear h0 h1 h2 h3
 go_wp2_with (go_at_call 185;refine(Sp _ _ _).mono ?_;rintro e w1 ⟨rfl,hb1⟩;have k0:=H0.out.keep hb1;have k1:=H1.out.keep hb1;have k2:=H2.out.keep hb1;have k3:=H3.out.keep hb1;have a1:=k0.cell 0;have a2:=k0.cell 1;have a3:=k0.frozen 0;have a4:=k0.frozen 1;have a5:=k1.cell 0;have a6:=k1.cell 1;have a7:=k2.cell 0;have a8:=k2.cell 1;have b1:=k3.cell 0;have b2:=k3.cell 1;have a9:=k3.frozen 0;have a10:=k3.frozen 1;have l0:=k0.lt;have l1:=k1.lt;have l2:=k2.lt;have l3:=k3.lt;simp only[List.getElem?_toArray,List.getElem?_cons_zero,List.getElem?_cons_succ] at a1 a2 a5 a6 a7 a8 b1 b2)
 refine Br 19 (by kernel_rfl) (by kernel_rfl) ?_
 simp only[List.take_succ_cons,List.take_zero,List.drop_succ_cons,List.drop_zero]
 repeat still_step
 still_call (E7 _ _)
 repeat still_step
 still_call (E7 _ _)
 repeat still_step
 still_call (Xu _ _ _ _)
 repeat still_step
 still_call (E7 _ _)
 repeat still_step
 still_call (E7 _ _)
 repeat still_step
 still_call (Xu _ _ _ _)
 repeat still_step
 refine wpStill_nil ?_;go_wp2_with fail;exact bodyPost_ret (v:=.agg #[.int .i64 (Jl rx ry x y bx bY).1,.int .i64 (Jl rx ry x y bx bY).2]) (by simp[results,Tryz.results157,go_sem,b1,b2,Jl]) rfl ⟨rfl,by have hbb:=Ao (An (An (An (An (Below.refl _ _) _) _) _) _) hb1;(repeat first|exact hbb|refine Aw ?_|refine Bc ?_ (by dsimp only;omega) _)⟩
def tm (rx ry:Int) (anc:Int×Int) (p:Pt5):Bool :=
 !Ce 1048576 anc&&(!Ce 1048576 (tp (C4 p.fl p.qu anc) (p.x,p.y))&&Acr rx ry (tp (C4 p.fl p.qu anc) (p.x,p.y)).1 (tp (C4 p.fl p.qu anc) (p.x,p.y)).2 0 0)
theorem Bb.cells2 {w:World} {g:Nat} {t:TypeId} {u v:Value} (h:Bb w g t #[u,v]):w.cell? ⟨g,0,none⟩=some u/\w.cell? ⟨g,1,none⟩=some v/\w.frozen? ⟨g,0,none⟩=false/\w.frozen? ⟨g,1,none⟩=false/\g<w.heap.size :=
 ⟨h.cell 0,h.cell 1,h.frozen 0,h.frozen 1,h.lt⟩
theorem Bb.cells5 {w:World} {g:Nat} {t:TypeId} {u0 u1 u2 u3 u4:Value} (h:Bb w g t #[u0,u1,u2,u3,u4]):w.cell? ⟨g,0,none⟩=some u0/\w.cell? ⟨g,1,none⟩=some u1/\w.cell? ⟨g,2,none⟩=some u2/\w.cell? ⟨g,3,none⟩=some u3/\w.cell? ⟨g,4,none⟩=some u4/\g<w.heap.size :=
 ⟨h.cell 0,h.cell 1,h.cell 2,h.cell 3,h.cell 4,h.lt⟩
theorem Bb.cells4 {w:World} {g:Nat} {t:TypeId} {u0 u1 u2 u3:Value} (h:Bb w g t #[u0,u1,u2,u3]):w.cell? ⟨g,0,none⟩=some u0/\w.cell? ⟨g,1,none⟩=some u1/\w.cell? ⟨g,2,none⟩=some u2/\w.cell? ⟨g,3,none⟩=some u3/\g<w.heap.size :=
 ⟨h.cell 0,h.cell 1,h.cell 2,h.cell 3,h.lt⟩
theorem Ny (rx ry ax ay:Int) (p:Pt5) (w:World) :
 Calls Tryz.prog 107 #[.agg #[.int .i64 rx,.int .i64 ry],.agg #[.int .i64 ax,.int .i64 ay],Lk p] w fun e w'=>e=.returned (.bool (tm rx ry (ax,ay) p))/\Below w.heap.size w w':=by
 obtain⟨sh,fl,qu,x,y⟩:=p;unfold Lk;dsimp only;obtain⟨W3,hW3⟩:∃W3,W3=(((w.alloc (.cells #[.int .i64 rx,.int .i64 ry] 31)).alloc (.cells #[.int .i64 ax,.int .i64 ay] 49)).alloc (.cells #[.int .i64 sh,.bool fl,.int .i64 qu,.int .i64 x,.int .i64 y] 89)):=⟨_,rfl⟩
 have h0:Bb W3 w.heap.size 31 #[.int .i64 rx,.int .i64 ry]:=by rw[hW3];exact((Bb.new _ _ _).alloc _).alloc _
 have h1:Bb W3 (w.heap.size+1) 49 #[.int .i64 ax,.int .i64 ay]:=by rw[hW3];exact(Bb.new2 _ _ _ _).alloc _
 have h2:Bb W3 (w.heap.size+1+1) 89 #[.int .i64 sh,.bool fl,.int .i64 qu,.int .i64 x,.int .i64 y]:=by rw[hW3];exact Bb.new3 _ _ _ _ _
 have hbw:Below w.heap.size w W3:=by rw[hW3];exact(An (An (An (Below.refl _ _) _) _) _)
 have H0:=Lib.hid h0;have H1:=Lib.hid h1;have H2:=Lib.hid h2;have HBW:=Lib.hid hbw;subst hW3;clear h0 h1 h2 hbw;by_cases ho:Ce 1048576 (ax,ay)=true
 ·have hm:tm rx ry (ax,ay) ⟨sh,fl,qu,x,y⟩=false:=by unfold tm;rw[ho];rfl
  have HMM:=Lib.hid hm;clear hm;go_enter Tryz.func107,Tryz.ntmps107
  go_wp2_with (go_at_call 47;refine(Dp _ _ _).mono ?_;rintro e w1 ⟨rfl,hb1⟩)
  go_ret;exact⟨Bn HMM.out.symm,Ao HBW.out hb1⟩
 ·have ho':Ce 1048576 (ax,ay)=false:=by simpa using ho
  clear ho;obtain⟨im,him⟩:∃im,C4 fl qu (ax,ay)=im:=⟨_,rfl⟩
  obtain⟨ix,iy⟩:=im;have HIM:=Lib.hid him;have hm:tm rx ry (ax,ay) ⟨sh,fl,qu,x,y⟩=(!Ce 1048576 (wrap64 (ix+x),wrap64 (iy+y))&&Acr rx ry (wrap64 (ix+x)) (wrap64 (iy+y)) 0 0):=by unfold tm;rw[ho',him];rfl
  have HMM:=Lib.hid hm;clear hm him;by_cases ho2:Ce 1048576 (wrap64 (ix+x),wrap64 (iy+y))=true
  ·have tok:True:=trivial
   go_enter Tryz.func107,Tryz.ntmps107
   go_wp2_with (first|(go_at_call 31;refine(Gn _ _ _ _ _).mono ?_;rintro e w2 ⟨rfl,hb2⟩;rw[HIM.out];have k12:=k11.keep hb2;have k22:=k21.keep hb2;have k02:=k01.keep hb2;obtain⟨c1,c2,c3,c4,c5,c6⟩:=k22.cells5;obtain⟨n1,n2,n3,n4,n5⟩:=k02.cells2)|(go_at_call 47;first|(have _t:=tok;refine(Dp _ _ _).mono ?_;rintro e w1 ⟨rfl,hb1⟩;clear tok;have k11:=H1.out.keep hb1;have k21:=H2.out.keep hb1;have k01:=H0.out.keep hb1;obtain⟨a1,a2,a3,a4,a5⟩:=k11.cells2;obtain⟨b1,b2,b3,b4,b5,b6⟩:=k21.cells5)|(refine(Dp _ _ _).mono ?_;rintro e w3 ⟨rfl,hb3⟩)))
   go_ret;exact⟨Bn (by rw[HMM.out,ho2];rfl),Ao (An (Ao (Ao HBW.out hb1) hb2) _) hb3⟩
  ·have ho3:Ce 1048576 (wrap64 (ix+x),wrap64 (iy+y))=false:=by simpa using ho2
   clear ho2;have tok:True:=trivial;go_enter Tryz.func107,Tryz.ntmps107
   go_wp2_with (first|(go_at_call 31;refine(Gn _ _ _ _ _).mono ?_;rintro e w2 ⟨rfl,hb2⟩;rw[HIM.out];have k12:=k11.keep hb2;have k22:=k21.keep hb2;have k02:=k01.keep hb2;obtain⟨c1,c2,c3,c4,c5,c6⟩:=k22.cells5;obtain⟨n1,n2,n3,n4,n5⟩:=k02.cells2)|(go_at_call 47;first|(have _t:=tok;refine(Dp _ _ _).mono ?_;rintro e w1 ⟨rfl,hb1⟩;clear tok;have k11:=H1.out.keep hb1;have k21:=H2.out.keep hb1;have k01:=H0.out.keep hb1;obtain⟨a1,a2,a3,a4,a5⟩:=k11.cells2;obtain⟨b1,b2,b3,b4,b5,b6⟩:=k21.cells5)|(refine(Dp _ _ _).mono ?_;rintro e w3 ⟨rfl,hb3⟩;have k03:=(k02.alloc _).keep hb3;have k33:=Bb.keep (Bb.new w2 49 #[.int .i64 (wrap64 (ix+x)),.int .i64 (wrap64 (iy+y))]) hb3;obtain⟨m1,m2,m3,m4,m5⟩:=k03.cells2;obtain⟨r1,r2,r3,r4,r5⟩:=k33.cells2))|(go_at_call 138;refine(vp _ _ _ _ _ _ _).mono ?_;rintro e w4 ⟨rfl,hb4⟩))
   go_ret;exact⟨Bn (by rw[HMM.out,ho3];rfl),Ao (Ao (An (Ao (Ao HBW.out hb1) hb2) _) hb3) hb4⟩
structure Bed4 where
 len:Int
 wid:Int
 rx:Int
 ry:Int
def Hz (b:Bed4):Value:=.agg #[.int .i64 b.len,.int .i64 b.wid,.int .i64 b.rx,.int .i64 b.ry]
def Dc (b:Bed4):Bool:=decide (b.len<1) || decide (b.len > 1048576) || decide (b.wid<1) || decide (b.wid > 1048576)
def Da (b:Bed4) (v:Int×Int):Bool:=decide (v.1<0) || decide (v.1 > b.len) || decide (v.2<0) || decide (v.2 > b.wid)
def Jh (S:List Shp) (poly:List (Int×Int)) (ps:List Pt5):Nat->Int
 | 0=>0
 | k+1=>if Jh S poly ps k≠0 then Jh S poly ps k else if (Be S (pt ps k)).1≠0 then (Be S (pt ps k)).1 else if (Ej (Be S (pt ps k)).2 poly).2≠0 then (Ej (Be S (pt ps k)).2 poly).2 else if (Ej (Be S (pt ps k)).2 poly).1 then 14 else 0
def Lt (b:Bed4) (S:List Shp) (ps:List Pt5) (p:Pt5) (s:Shp) (r:List (Int×Int)):Int :=
 if Zf s.grain false p.fl p.qu=false then 12 else if Bq (fun i=>Da b (gt r i)) r.length then 13 else if s.mat&&!tm b.rx b.ry s.anc p then 15 else Jh S r ps ps.length
def Dm (b:Bed4) (S:List Shp) (ps:List Pt5) (p:Pt5):Int :=
 if Dc b then 3 else if (Be S p).1≠0 then (Be S p).1 else Lt b S ps p (shp S p.sh.toNat) (Be S p).2
theorem Hj {S:List Shp} {poly:List (Int×Int)} {ps:List Pt5} {k:Nat} {x:Int} (h:Jh S poly ps k=x) (hx:x≠0):∀m,Jh S poly ps (k+m)=x:=by
 intro m;induction m with
 | zero=>exact h
 | succ m ih=>rw[<-Nat.add_assoc,Jh,if_pos (by rw[ih];exact hx)];exact ih
theorem Fj (S:List Shp) (p:Pt5):(Be S p).2.length<=40:=by
 unfold Be;split
 ·simp
 ·unfold Ip
  split
  ·simp
  ·split
   ·simp
   ·rename_i h _
    show (Th _ _).length<=40
    rw[Kl,Fg];exact(D9 (by simpa using h)).2
theorem Xo {S:List Shp} {p:Pt5} (h:(Be S p).1=0):∃k:Nat,p.sh=(k:Int)/\k<S.length/\p.sh.toNat=k:=by
 unfold Be at h;split at h
 ·cases h
 ·rename_i hh
  simp only[not_or] at hh;exact⟨p.sh.toNat,by omega,by omega,rfl⟩
theorem Ahp (A1 A2:Option Addr) (c1 c2 n1 n2:Nat) (b:Bed4) (S:List Shp) (ps:List Pt5) (p:Pt5) (w:World) (hb:Dc b=true) :
 Calls Tryz.prog 69 #[Hz b,.slice A1 n1 c1,.slice A2 n2 c2,Lk p] w fun e w'=>e=.returned (.int .i64 3)/\Below w.heap.size w w':=by
 obtain⟨sh,fl,qu,x,y⟩:=p;obtain⟨len,wid,rx,ry⟩:=b;unfold Lk Hz;unfold Dc at hb;simp only[Bool.or_eq_true,decide_eq_true_eq] at hb;dsimp only at hb ⊢;go_enter Tryz.func69,Tryz.ntmps69;go_upto_region 3 with fail
 all_goals first
  | (go_ret;exact⟨rfl,(An (An (Below.refl _ _) _) _)⟩)
  | (exfalso;omega)
theorem Aho (A1 A2:Option Addr) (c1 c2 n1 n2:Nat) (b:Bed4) (S:List Shp) (ps:List Pt5) (p:Pt5) (w:World) (hS:ShS w A1 n1 S) (hb:Dc b=false) (hp:¬(Be S p).1=0) :
 Calls Tryz.prog 69 #[Hz b,.slice A1 n1 c1,.slice A2 n2 c2,Lk p] w fun e w'=>e=.returned (.int .i64 (Be S p).1)/\Below w.heap.size w w':=by
 have hp':((Be S p).1 != 0)=true:=by simpa using hp
 clear hp;obtain⟨len,wid,rx,ry⟩:=b;unfold Dc at hb;simp only[Bool.or_eq_false_iff,decide_eq_false_iff_not] at hb;obtain⟨r,hr⟩:∃r,Be S p=r:=⟨_,rfl⟩
 rw[hr] at hp' ⊢;have HR:=Lib.hid hr;clear hr;obtain⟨r1,r2⟩:=r;dsimp only at hp' ⊢;obtain⟨sh,fl,qu,x,y⟩:=p;unfold Lk Hz;dsimp only;go_enter Tryz.func69,Tryz.ntmps69
 go_wp2_with (go_at_call 26;refine(Bu _ _ _ S ⟨sh,fl,qu,x,y⟩ _ (hS.keep (An (An (Below.refl _ _) _) _))).mono ?_;rintro e w1 ⟨v1,rfl,ho1,hb1⟩;rw[HR.out])
 go_ret;exact⟨rfl,Ao (An (An (Below.refl _ _) _) _) hb1⟩
theorem Ahn (A1 A2:Option Addr) (c1 c2 n1 n2:Nat) (b:Bed4) (S:List Shp) (ps:List Pt5) (p:Pt5) (w:World) (hn2:n2<=1000000) (hS:ShS w A1 n1 S) (hPu:PuS w A2 n2 ps) (hb:Dc b=false) (hp:(Be S p).1=0) :
 Calls Tryz.prog 69 #[Hz b,.slice A1 n1 c1,.slice A2 n2 c2,Lk p] w fun e w'=>e=.returned (.int .i64 (Lt b S ps p (shp S p.sh.toNat) (Be S p).2))/\Below w.heap.size w w':=by
 obtain⟨k,hk,hkn,hkt⟩:=Xo hp;rw[hkt];clear hkt;obtain⟨len,wid,rx,ry⟩:=b;unfold Dc at hb;simp only[Bool.or_eq_false_iff,decide_eq_false_iff_not] at hb;have hrl:=Fj S p;obtain⟨r,hr⟩:∃r,Be S p=r:=⟨_,rfl⟩
 rw[hr] at hp hrl ⊢;have HR:=Lib.hid hr;clear hr;obtain⟨r1,r⟩:=r;dsimp only at hp hrl ⊢;subst hp;obtain⟨sh,fl,qu,x,y⟩:=p;dsimp only at hk;subst hk;have hn1:k<n1:=by rw[<-hS.1];exact hkn
 have hn1':=hS.2.1;clear hkn;obtain⟨ba,oa,rfl,hbl,Ak,ck,g1,g2,g3,g4,g5,g6,g7,g8,g9⟩:=hS.at_ hn1;obtain⟨s,hs⟩:∃s,shp S k=s:=⟨_,rfl⟩
 rw[hs] at g1 g2 g4 g6 g7 g8 g9 ⊢;have HSH:=Lib.hid hs;clear hs;obtain⟨pl,gr,mt,⟨ax,ay⟩⟩:=s;dsimp only at g1 g2 g4 g6 g7 g8 g9;obtain⟨npl,hnpl⟩:∃npl,pl.length=npl:=⟨_,rfl⟩
 rw[hnpl] at g1 g2 g4;clear hnpl g4 g2;unfold Lk Hz;dsimp only;obtain⟨bed,hbed⟩:∃bed:Bed4,bed=⟨len,wid,rx,ry⟩:=⟨_,rfl⟩
 obtain⟨pp,hpp⟩:∃pp:Pt5,pp=⟨(k:Int),fl,qu,x,y⟩:=⟨_,rfl⟩
 obtain⟨RES,hres⟩:∃RES,Lt ⟨len,wid,rx,ry⟩ S ps ⟨(k:Int),fl,qu,x,y⟩ ⟨pl,gr,mt,(ax,ay)⟩ r=RES:=⟨_,rfl⟩
 rw[hres];have HRES:=Lib.hid (show RES=if Zf gr false fl qu=false then 12 else if Bq (fun i=>Da ⟨len,wid,rx,ry⟩ (gt r i)) r.length then 13 else if mt&&!tm rx ry (ax,ay) ⟨(k:Int),fl,qu,x,y⟩ then 15 else Jh S r ps ps.length from hres.symm)
 clear hres;obtain⟨W2,hW2⟩:∃W2,W2=((w.alloc (.cells #[.int .i64 len,.int .i64 wid,.int .i64 rx,.int .i64 ry] 33)).alloc (.cells #[.int .i64 (k:Int),.bool fl,.int .i64 qu,.int .i64 x,.int .i64 y] 89)):=⟨_,rfl⟩
 have h0:Bb W2 w.heap.size 33 #[.int .i64 len,.int .i64 wid,.int .i64 rx,.int .i64 ry]:=by rw[hW2];exact(Bb.new _ _ _).alloc _
 have h1:Bb W2 (w.heap.size+1) 89 #[.int .i64 (k:Int),.bool fl,.int .i64 qu,.int .i64 x,.int .i64 y]:=by rw[hW2];exact Bb.new2 _ _ _ _
 have hbw:Below w.heap.size w W2:=by rw[hW2];exact(An (An (Below.refl _ _) _) _)
 have H0:=Lib.hid h0;have H1:=Lib.hid h1;have HBW:=Lib.hid hbw;subst hW2;clear h0 h1 hbw hbed hpp;by_cases ha:Zf gr false fl qu=true
 ·rw[if_neg (by rw[ha];simp)] at HRES
  go_enter Tryz.func69,Tryz.ntmps69
  go_upto_region 9 with (first|(go_at_call 26;refine(Bu _ _ _ S ⟨(k:Int),fl,qu,x,y⟩ _ (hS.keep HBW.out)).mono ?_;rintro e w1 ⟨v1,rfl,ho1,hb1⟩;rw[HR.out] at ho1 ⊢;have k01:=H0.out.keep hb1;have k11:=H1.out.keep hb1;obtain⟨a1,a2,a3,a4,a5⟩:=k01.cells4;obtain⟨b1,b2,b3,b4,b5,b6⟩:=k11.cells5;have hbb:=Ao HBW.out hb1;have e1:=Aq hbb g1;have e2:=Aq hbb g6;have e3:=Aq hbb g7;have e4:=Aq hbb g8;have e5:=Aq hbb g9)|(go_at_call 16;refine(Hu _ _ _ _ _).mono ?_;rintro e w2 ⟨rfl,hb2⟩))
  have hbA:Below w.heap.size w w2:=Ao (An hbb _) hb2;have K0:=(k01.alloc _).keep hb2;have K1:=(k11.alloc _).keep hb2;have K2:=(Bb.new w1 104 #[.slice Ak npl ck,.int .i64 gr,.bool mt,.int .i64 ax,.int .i64 ay]).keep hb2;have ho2:=OwG.keep (OwG.alloc ho1 (.cells #[.slice Ak npl ck,.int .i64 gr,.bool mt,.int .i64 ax,.int .i64 ay] 104)) hb2;obtain⟨B11,hB11⟩:∃B11,B11=w1.heap.size:=⟨_,rfl⟩
  rw[<-hB11] at K2 ⊢;obtain⟨A9,c9,rfl,hc9,hS9,-,-⟩:=OwS.els ho2;have hSA:=hS.keep hbA;have hPA:=hPu.keep hbA;have HK0:=Lib.hid K0;have HK1:=Lib.hid K1;have HK2:=Lib.hid K2;clear ho1 ho2 a1 a2 a3 a4 a5 b1 b2 b3 b4 b5 b6 e1 e2 e3 e4 e5 k01 k11 hb1 hb2 hbb hB11 K0 K1 K2 g1 g6 g7 g8 g9 hbl hS hPu H0 H1 HBW;obtain⟨nr,hnr⟩:∃nr,r.length=nr:=⟨_,rfl⟩
  rw[hnr] at hc9 hS9 hrl HRES ⊢;clear hnr;go_wp2_with fail;go_loopw [59] (fun i wr=>∃j:Nat,j<=nr/\i=.int .i64 j/\Hid (Bq (fun i=>Da ⟨len,wid,rx,ry⟩ (gt r i)) j=false)/\Below w2.heap.size w2 wr) (fun i _=>nr-(intOf i).toNat)
  case atStart=>exact⟨0,Nat.zero_le _,rfl,Lib.hid (Bq.zero _),Below.refl _ _⟩
  case round =>
   obtain⟨j,hj,rfl,hp,hbr⟩:=hrel;obtain⟨a1,a2,a3,a4,a5⟩:=(HK0.out.keep hbr).cells4;by_cases hlt:j<nr
   ·obtain⟨bb,ob,rfl,hbl,hc⟩:=(hS9.keep hbr).at_ hlt
    obtain⟨d1,d2⟩:=hc j hlt;clear hc a3 a4;by_cases hq:Da ⟨len,wid,rx,ry⟩ (gt r j)=true
    ·have HQ:=Lib.hid hq
     unfold Da at hq;simp only[Bool.or_eq_true,decide_eq_true_eq] at hq;rw[if_pos (Bq.yes hlt HQ.out)] at HRES;go_wp2_with fail
     all_goals first
      | (go_ret;exact⟨Bh HRES.out.symm,Ao hbA (An hbr _)⟩)
      | (exfalso;omega)
    ·have HQ:=Lib.hid (show Da ⟨len,wid,rx,ry⟩ (gt r j)=false by simpa using hq)
     unfold Da at hq;simp only[Bool.or_eq_true,decide_eq_true_eq,not_or] at hq;go_wp2_with fail
     all_goals first
      | exact⟨⟨j+1,by omega,by go_num,Lib.hid (Bq.succ hp.out HQ.out),An hbr _⟩,by simp[intOf];omega⟩
      | (exfalso;omega)
   ·obtain rfl:nr=j:=by omega
    rw[if_neg (by rw[hp.out];simp)] at HRES
    obtain⟨b1,b2,b3,b4,b5,b6⟩:=(HK1.out.keep hbr).cells5;obtain⟨e1,e2,e3,e4,e5,e6⟩:=(HK2.out.keep hbr).cells5;cases mt with
    | true =>
      rw[Bool.true_and] at HRES;by_cases hm:tm rx ry (ax,ay) ⟨(k:Int),fl,qu,x,y⟩=true
      ·rw[hm,if_neg (by simp)] at HRES
       go_wp2_with (go_at_call 107;refine(Ny _ _ _ _ ⟨(k:Int),fl,qu,x,y⟩ _).mono ?_;rintro e w3 ⟨rfl,hb3⟩)
       clear a1 a2 a3 a4 a5 b1 b2 b3 b4 b5 b6 e1 e2 e3 e4 e5 e6;go_loopw [99] (fun i wx=>∃j:Nat,j<=n2/\i=.int .i64 j/\Hid (Jh S r ps j=0)/\Below w2.heap.size w2 wx) (fun i _=>n2-(intOf i).toNat)
       case atStart=>exact⟨0,Nat.zero_le _,rfl,Lib.hid rfl,Ao hbr hb3⟩
       case round =>
        clear hbr hb3;obtain⟨j,hj,rfl,hp,hbr⟩:=hrel;by_cases hlt2:j<n2
        ·obtain⟨bb,ob,rfl,hbl,d1,d2,d3,d4,d5⟩:=(hPA.keep hbr).at_ hlt2
         have hql:=Fj S (pt ps j);have hstep:=Lib.hid (show Jh S r ps (j+1)=if (Be S (pt ps j)).1≠0 then (Be S (pt ps j)).1 else if (Ej (Be S (pt ps j)).2 r).2≠0 then (Ej (Be S (pt ps j)).2 r).2 else if (Ej (Be S (pt ps j)).2 r).1 then 14 else 0 by rw[Jh,if_neg (by rw[hp.out];simp)])
         obtain⟨qq,hqq⟩:∃qq,Be S (pt ps j)=qq:=⟨_,rfl⟩
         rw[hqq] at hql hstep;have HQQ:=Lib.hid hqq;clear hqq;obtain⟨q1,q⟩:=qq;dsimp only at hql hstep;obtain⟨pq,hpt⟩:∃pq,pt ps j=pq:=⟨_,rfl⟩
         rw[hpt] at d1 d2 d3 d4 d5 HQQ;clear hpt;obtain⟨sh2,fl2,qu2,x2,y2⟩:=pq;dsimp only at d1 d2 d3 d4 d5;by_cases hq1:q1=0
         ·subst hq1
          rw[if_neg (by simp)] at hstep
          by_cases ho1:(Ej q r).2=0
          ·rw[if_neg (by rw[ho1];simp)] at hstep
           by_cases ho2:(Ej q r).1=true
           ·rw[if_pos ho2] at hstep
            have hbad:=Hj hstep.out (by omega) (n2-(j+1))
            rw[show j+1+(n2-(j+1))=n2 by omega] at hbad
            rw[hPA.1,hbad] at HRES;clear hbad
            go_wp2_with (first|(go_at_call 26;refine(Bu _ _ _ S ⟨sh2,fl2,qu2,x2,y2⟩ _ (hSA.keep (An hbr _))).mono ?_;rintro e w5 ⟨v5,rfl,ho5,hb5⟩;rw[HQQ.out] at ho5 ⊢;obtain⟨A5,c5,rfl,hc5,hS5,-,-⟩:=OwS.els ho5)|(go_at_call 18;refine(Ez _ _ _ _ _ _ q r _ (by omega) (by omega) hc5 hc9 hS5 (hS9.keep (Ao (An hbr _) hb5))).mono ?_;rintro e w6 ⟨rfl,hb6⟩))
            go_ret;exact⟨Bh HRES.out.symm,Ao hbA (Ao (Ao (An hbr _) hb5) hb6)⟩
           ·have ho2':(Ej q r).1=false:=by simpa using ho2
            rw[if_neg ho2] at hstep;clear ho2
            go_wp2_with (first|(go_at_call 26;refine(Bu _ _ _ S ⟨sh2,fl2,qu2,x2,y2⟩ _ (hSA.keep (An hbr _))).mono ?_;rintro e w5 ⟨v5,rfl,ho5,hb5⟩;rw[HQQ.out] at ho5 ⊢;obtain⟨A5,c5,rfl,hc5,hS5,-,-⟩:=OwS.els ho5)|(go_at_call 18;refine(Ez _ _ _ _ _ _ q r _ (by omega) (by omega) hc5 hc9 hS5 (hS9.keep (Ao (An hbr _) hb5))).mono ?_;rintro e w6 ⟨rfl,hb6⟩))
            exact⟨⟨j+1,by omega,by go_num,hstep,Ao (Ao (An hbr _) hb5) hb6⟩,by simp[intOf];omega⟩
          ·have qo:((Ej q r).2 != 0)=true:=by simpa using ho1
           rw[if_pos ho1] at hstep;have hbad:=Hj hstep.out ho1 (n2-(j+1));rw[show j+1+(n2-(j+1))=n2 by omega] at hbad
           rw[hPA.1,hbad] at HRES;clear hbad ho1
           go_wp2_with (first|(go_at_call 26;refine(Bu _ _ _ S ⟨sh2,fl2,qu2,x2,y2⟩ _ (hSA.keep (An hbr _))).mono ?_;rintro e w5 ⟨v5,rfl,ho5,hb5⟩;rw[HQQ.out] at ho5 ⊢;obtain⟨A5,c5,rfl,hc5,hS5,-,-⟩:=OwS.els ho5)|(go_at_call 18;refine(Ez _ _ _ _ _ _ q r _ (by omega) (by omega) hc5 hc9 hS5 (hS9.keep (Ao (An hbr _) hb5))).mono ?_;rintro e w6 ⟨rfl,hb6⟩))
           go_ret;exact⟨Bh HRES.out.symm,Ao hbA (Ao (Ao (An hbr _) hb5) hb6)⟩
         ·have qo:(q1 != 0)=true:=by simpa using hq1
          rw[if_pos hq1] at hstep;have hbad:=Hj hstep.out hq1 (n2-(j+1));rw[show j+1+(n2-(j+1))=n2 by omega] at hbad
          rw[hPA.1,hbad] at HRES;clear hbad hq1
          go_wp2_with (go_at_call 26;refine(Bu _ _ _ S ⟨sh2,fl2,qu2,x2,y2⟩ _ (hSA.keep (An hbr _))).mono ?_;rintro e w5 ⟨v5,rfl,ho5,hb5⟩;rw[HQQ.out])
          go_ret;exact⟨Bh HRES.out.symm,Ao hbA (Ao (An hbr _) hb5)⟩
        ·obtain rfl:n2=j:=by omega
         rw[hPA.1,hp.out] at HRES;go_wp2_with fail;go_ret;exact⟨Bh HRES.out.symm,Ao hbA hbr⟩
      ·have hm':tm rx ry (ax,ay) ⟨(k:Int),fl,qu,x,y⟩=false:=by simpa using hm
       rw[hm',if_pos (by decide)] at HRES
       clear hm
       go_wp2_with (go_at_call 107;refine(Ny _ _ _ _ ⟨(k:Int),fl,qu,x,y⟩ _).mono ?_;rintro e w3 ⟨rfl,hb3⟩)
       go_ret;exact⟨Bh HRES.out.symm,Ao hbA (Ao hbr hb3)⟩
    | false =>
      rw[Bool.false_and,if_neg (by simp)] at HRES
      go_wp2_with fail;clear a1 a2 a3 a4 a5 b1 b2 b3 b4 b5 b6 e1 e2 e3 e4 e5 e6;go_loopw [99] (fun i wx=>∃j:Nat,j<=n2/\i=.int .i64 j/\Hid (Jh S r ps j=0)/\Below w2.heap.size w2 wx) (fun i _=>n2-(intOf i).toNat)
      case atStart=>exact⟨0,Nat.zero_le _,rfl,Lib.hid rfl,hbr⟩
      case round =>
       clear hbr ;obtain⟨j,hj,rfl,hp,hbr⟩:=hrel;by_cases hlt2:j<n2
       ·obtain⟨bb,ob,rfl,hbl,d1,d2,d3,d4,d5⟩:=(hPA.keep hbr).at_ hlt2
        have hql:=Fj S (pt ps j);have hstep:=Lib.hid (show Jh S r ps (j+1)=if (Be S (pt ps j)).1≠0 then (Be S (pt ps j)).1 else if (Ej (Be S (pt ps j)).2 r).2≠0 then (Ej (Be S (pt ps j)).2 r).2 else if (Ej (Be S (pt ps j)).2 r).1 then 14 else 0 by rw[Jh,if_neg (by rw[hp.out];simp)])
        obtain⟨qq,hqq⟩:∃qq,Be S (pt ps j)=qq:=⟨_,rfl⟩
        rw[hqq] at hql hstep;have HQQ:=Lib.hid hqq;clear hqq;obtain⟨q1,q⟩:=qq;dsimp only at hql hstep;obtain⟨pq,hpt⟩:∃pq,pt ps j=pq:=⟨_,rfl⟩
        rw[hpt] at d1 d2 d3 d4 d5 HQQ;clear hpt;obtain⟨sh2,fl2,qu2,x2,y2⟩:=pq;dsimp only at d1 d2 d3 d4 d5;by_cases hq1:q1=0
        ·subst hq1
         rw[if_neg (by simp)] at hstep
         by_cases ho1:(Ej q r).2=0
         ·rw[if_neg (by rw[ho1];simp)] at hstep
          by_cases ho2:(Ej q r).1=true
          ·rw[if_pos ho2] at hstep
           have hbad:=Hj hstep.out (by omega) (n2-(j+1))
           rw[show j+1+(n2-(j+1))=n2 by omega] at hbad
           rw[hPA.1,hbad] at HRES;clear hbad
           go_wp2_with (first|(go_at_call 26;refine(Bu _ _ _ S ⟨sh2,fl2,qu2,x2,y2⟩ _ (hSA.keep (An hbr _))).mono ?_;rintro e w5 ⟨v5,rfl,ho5,hb5⟩;rw[HQQ.out] at ho5 ⊢;obtain⟨A5,c5,rfl,hc5,hS5,-,-⟩:=OwS.els ho5)|(go_at_call 18;refine(Ez _ _ _ _ _ _ q r _ (by omega) (by omega) hc5 hc9 hS5 (hS9.keep (Ao (An hbr _) hb5))).mono ?_;rintro e w6 ⟨rfl,hb6⟩))
           go_ret;exact⟨Bh HRES.out.symm,Ao hbA (Ao (Ao (An hbr _) hb5) hb6)⟩
          ·have ho2':(Ej q r).1=false:=by simpa using ho2
           rw[if_neg ho2] at hstep;clear ho2
           go_wp2_with (first|(go_at_call 26;refine(Bu _ _ _ S ⟨sh2,fl2,qu2,x2,y2⟩ _ (hSA.keep (An hbr _))).mono ?_;rintro e w5 ⟨v5,rfl,ho5,hb5⟩;rw[HQQ.out] at ho5 ⊢;obtain⟨A5,c5,rfl,hc5,hS5,-,-⟩:=OwS.els ho5)|(go_at_call 18;refine(Ez _ _ _ _ _ _ q r _ (by omega) (by omega) hc5 hc9 hS5 (hS9.keep (Ao (An hbr _) hb5))).mono ?_;rintro e w6 ⟨rfl,hb6⟩))
           exact⟨⟨j+1,by omega,by go_num,hstep,Ao (Ao (An hbr _) hb5) hb6⟩,by simp[intOf];omega⟩
         ·have qo:((Ej q r).2 != 0)=true:=by simpa using ho1
          rw[if_pos ho1] at hstep;have hbad:=Hj hstep.out ho1 (n2-(j+1));rw[show j+1+(n2-(j+1))=n2 by omega] at hbad
          rw[hPA.1,hbad] at HRES;clear hbad ho1
          go_wp2_with (first|(go_at_call 26;refine(Bu _ _ _ S ⟨sh2,fl2,qu2,x2,y2⟩ _ (hSA.keep (An hbr _))).mono ?_;rintro e w5 ⟨v5,rfl,ho5,hb5⟩;rw[HQQ.out] at ho5 ⊢;obtain⟨A5,c5,rfl,hc5,hS5,-,-⟩:=OwS.els ho5)|(go_at_call 18;refine(Ez _ _ _ _ _ _ q r _ (by omega) (by omega) hc5 hc9 hS5 (hS9.keep (Ao (An hbr _) hb5))).mono ?_;rintro e w6 ⟨rfl,hb6⟩))
          go_ret;exact⟨Bh HRES.out.symm,Ao hbA (Ao (Ao (An hbr _) hb5) hb6)⟩
        ·have qo:(q1 != 0)=true:=by simpa using hq1
         rw[if_pos hq1] at hstep;have hbad:=Hj hstep.out hq1 (n2-(j+1));rw[show j+1+(n2-(j+1))=n2 by omega] at hbad
         rw[hPA.1,hbad] at HRES;clear hbad hq1
         go_wp2_with (go_at_call 26;refine(Bu _ _ _ S ⟨sh2,fl2,qu2,x2,y2⟩ _ (hSA.keep (An hbr _))).mono ?_;rintro e w5 ⟨v5,rfl,ho5,hb5⟩;rw[HQQ.out])
         go_ret;exact⟨Bh HRES.out.symm,Ao hbA (Ao (An hbr _) hb5)⟩
       ·obtain rfl:n2=j:=by omega
        rw[hPA.1,hp.out] at HRES;go_wp2_with fail;go_ret;exact⟨Bh HRES.out.symm,Ao hbA hbr⟩
 ·have ha':Zf gr false fl qu=false:=by simpa using ha
  rw[if_pos ha'] at HRES;clear ha;go_enter Tryz.func69,Tryz.ntmps69
  go_wp2_with (first|(go_at_call 26;refine(Bu _ _ _ S ⟨(k:Int),fl,qu,x,y⟩ _ (hS.keep HBW.out)).mono ?_;rintro e w1 ⟨v1,rfl,ho1,hb1⟩;rw[HR.out] at ho1 ⊢;have k01:=H0.out.keep hb1;have k11:=H1.out.keep hb1;obtain⟨a1,a2,a3,a4,a5⟩:=k01.cells4;obtain⟨b1,b2,b3,b4,b5,b6⟩:=k11.cells5;have hbb:=Ao HBW.out hb1;have e1:=Aq hbb g1;have e2:=Aq hbb g6;have e3:=Aq hbb g7;have e4:=Aq hbb g8;have e5:=Aq hbb g9)|(go_at_call 16;refine(Hu _ _ _ _ _).mono ?_;rintro e w2 ⟨rfl,hb2⟩))
  go_ret;exact⟨Bh HRES.out.symm,Ao (An (Ao HBW.out hb1) _) hb2⟩
theorem Rh (A1 A2:Option Addr) (c1 c2 n1 n2:Nat) (b:Bed4) (S:List Shp) (ps:List Pt5) (p:Pt5) (w:World) (hn2:n2<=1000000) (hS:ShS w A1 n1 S) (hPu:PuS w A2 n2 ps) :
 Calls Tryz.prog 69 #[Hz b,.slice A1 n1 c1,.slice A2 n2 c2,Lk p] w fun e w'=>e=.returned (.int .i64 (Dm b S ps p))/\Below w.heap.size w w':=by
 by_cases hb:Dc b=true
 ·rw[show Dm b S ps p=3 by unfold Dm;rw[if_pos hb]]
  exact Ahp A1 A2 c1 c2 n1 n2 b S ps p w hb
 ·by_cases hp:(Be S p).1=0
  ·rw[show Dm b S ps p=Lt b S ps p (shp S p.sh.toNat) (Be S p).2 by unfold Dm;rw[if_neg hb,if_neg (by rw[hp];simp)]]
   exact Ahn A1 A2 c1 c2 n1 n2 b S ps p w hn2 hS hPu (by simpa using hb) hp
  ·rw[show Dm b S ps p=(Be S p).1 by unfold Dm;rw[if_neg hb,if_pos hp]]
   exact Aho A1 A2 c1 c2 n1 n2 b S ps p w hS (by simpa using hb) hp
def Mk (rx ry:Int) (s:Shp) (fl:Bool) (qu:Int) (p:Int×Int):Option (Int×Int) :=
 if s.mat then
  if Ce 1048576 s.anc then none
  else if Ce 1048576 (tp (C4 fl qu s.anc) p) then none
  else some (wrap64 ((Jl rx ry (tp (C4 fl qu s.anc) p).1 (tp (C4 fl qu s.anc) p).2 0 0).1-(C4 fl qu s.anc).1),wrap64 ((Jl rx ry (tp (C4 fl qu s.anc) p).1 (tp (C4 fl qu s.anc) p).2 0 0).2-(C4 fl qu s.anc).2))
 else some p
def Ajg (o:Option (Int×Int)):Value:=.tuple #[.agg #[.int .i64 (o.getD (0,0)).1,.int .i64 (o.getD (0,0)).2],.bool o.isSome]
theorem Pg (rx ry:Int) (Ak:Option Addr) (nk ck:Nat) (pl:List (Int×Int)) (gr:Int) (mt:Bool) (ax ay:Int) (fl:Bool) (qu x y:Int) (w:World) :
 Calls Tryz.prog 129 #[.agg #[.int .i64 rx,.int .i64 ry],.agg #[.slice Ak nk ck,.int .i64 gr,.bool mt,.int .i64 ax,.int .i64 ay],.agg #[.bool fl,.int .i64 qu],.agg #[.int .i64 x,.int .i64 y]] w fun e w'=>e=.returned (Ajg (Mk rx ry ⟨pl,gr,mt,(ax,ay)⟩ fl qu (x,y)))/\Below w.heap.size w w':=by
 obtain⟨W5,hW5⟩:∃W5,W5=(((((w.alloc (.cells #[.int .i64 rx,.int .i64 ry] 31)).alloc (.cells #[.slice Ak nk ck,.int .i64 gr,.bool mt,.int .i64 ax,.int .i64 ay] 104)).alloc (.cells #[.bool fl,.int .i64 qu] 48)).alloc (.cells #[.int .i64 x,.int .i64 y] 49)).alloc (.cells #[.int .i64 0,.int .i64 0] 49)):=⟨_,rfl⟩
 have h0:Bb W5 w.heap.size 31 #[.int .i64 rx,.int .i64 ry]:=by rw[hW5];exact((((Bb.new _ _ _).alloc _).alloc _).alloc _).alloc _
 have h1:Bb W5 (w.heap.size+1) 104 #[.slice Ak nk ck,.int .i64 gr,.bool mt,.int .i64 ax,.int .i64 ay]:=by rw[hW5];exact(((Bb.new2 _ _ _ _).alloc _).alloc _).alloc _
 have h2:Bb W5 (w.heap.size+1+1) 48 #[.bool fl,.int .i64 qu]:=by rw[hW5];exact((Bb.new3 _ _ _ _ _).alloc _).alloc _
 have h3:Bb W5 (w.heap.size+1+1+1) 49 #[.int .i64 x,.int .i64 y]:=by
  rw[hW5];have:=(Bb.new (((w.alloc (.cells #[.int .i64 rx,.int .i64 ry] 31)).alloc (.cells #[.slice Ak nk ck,.int .i64 gr,.bool mt,.int .i64 ax,.int .i64 ay] 104)).alloc (.cells #[.bool fl,.int .i64 qu] 48)) 49 #[.int .i64 x,.int .i64 y]).alloc (.cells #[.int .i64 0,.int .i64 0] 49);simpa using this
 have h4:Bb W5 (w.heap.size+1+1+1+1) 49 #[.int .i64 0,.int .i64 0]:=by
  rw[hW5];have:=Bb.new ((((w.alloc (.cells #[.int .i64 rx,.int .i64 ry] 31)).alloc (.cells #[.slice Ak nk ck,.int .i64 gr,.bool mt,.int .i64 ax,.int .i64 ay] 104)).alloc (.cells #[.bool fl,.int .i64 qu] 48)).alloc (.cells #[.int .i64 x,.int .i64 y] 49)) 49 #[.int .i64 0,.int .i64 0];simpa using this
 have hbw:Below w.heap.size w W5:=by rw[hW5];exact(An (An (An (An (An (Below.refl _ _) _) _) _) _) _)
 have H0:=Lib.hid h0;have H1:=Lib.hid h1;have H2:=Lib.hid h2;have H3:=Lib.hid h3;have H4:=Lib.hid h4;have HBW:=Lib.hid hbw;subst hW5;clear h0 h1 h2 h3 h4 hbw;cases mt with
 | false =>
   go_enter Tryz.func129,Tryz.ntmps129;go_wp2_with fail;exact bodyPost_ret (v:=.tuple #[.agg #[.int .i64 x,.int .i64 y],.bool true]) (by simp[results,Tryz.results129,go_sem]) rfl ⟨rfl,(An (An (An (An (An (Below.refl _ _) _) _) _) _) _)⟩
 | true =>
   by_cases ho:Ce 1048576 (ax,ay)=true
   ·have HE:=Lib.hid (show Mk rx ry ⟨pl,gr,true,(ax,ay)⟩ fl qu (x,y)=none by unfold Mk;dsimp only;rw[if_pos rfl,if_pos ho])
    go_enter Tryz.func129,Tryz.ntmps129
    go_wp2_with (go_at_call 156;refine(Gl _ _ _).mono ?_;rintro e w1 ⟨rfl,hb1⟩;obtain⟨a1,a2,a3,a4,a5⟩:=(H4.out.keep hb1).cells2)
    exact bodyPost_ret (v:=.tuple #[.agg #[.int .i64 0,.int .i64 0],.bool false]) (by simp[results,Tryz.results129,go_sem,a1,a2]) rfl ⟨by rw[HE.out];rfl,by have hbb:=Ao HBW.out hb1;(repeat first|exact hbb|refine Bc ?_ (by dsimp only;omega) _)⟩
   ·have ho':Ce 1048576 (ax,ay)=false:=by simpa using ho
    clear ho;obtain⟨im,him⟩:∃im,C4 fl qu (ax,ay)=im:=⟨_,rfl⟩
    obtain⟨ix,iy⟩:=im;have HIM:=Lib.hid him
    have hE:Mk rx ry ⟨pl,gr,true,(ax,ay)⟩ fl qu (x,y)=if Ce 1048576 (wrap64 (ix+x),wrap64 (iy+y))=true then none else some (wrap64 ((Jl rx ry (wrap64 (ix+x)) (wrap64 (iy+y)) 0 0).1-ix),wrap64 ((Jl rx ry (wrap64 (ix+x)) (wrap64 (iy+y)) 0 0).2-iy)):=by
     unfold Mk;dsimp only;rw[if_pos rfl,if_neg (by rw[ho'];simp),him];rfl
    have HE:=Lib.hid hE;clear hE him;by_cases ho2:Ce 1048576 (wrap64 (ix+x),wrap64 (iy+y))=true
    ·rw[if_pos ho2] at HE
     have tok:True:=trivial;go_enter Tryz.func129,Tryz.ntmps129
     go_wp2_with (first|(go_at_call 31;refine(Gn _ _ _ _ _).mono ?_;rintro e w2 ⟨rfl,hb2⟩;rw[HIM.out];have k32:=k31.keep hb2;have k42:=k41.keep hb2;obtain⟨c1,c2,c3,c4,c5⟩:=k32.cells2;have kk2:=Bb.lt k42)|(go_at_call 156;first|(have _t:=tok;refine(Gl _ _ _).mono ?_;rintro e w1 ⟨rfl,hb1⟩;clear tok;have k11:=H1.out.keep hb1;have k21:=H2.out.keep hb1;have k31:=H3.out.keep hb1;have k41:=H4.out.keep hb1;obtain⟨a1,a2,a3,a4,a5,a6⟩:=k11.cells5;obtain⟨b1,b2,b3,b4,b5⟩:=k21.cells2)|(refine(Gl _ _ _).mono ?_;rintro e w3 ⟨rfl,hb3⟩;have k43:=((k42.alloc _).alloc _).keep hb3;obtain⟨m1,m2,m3,m4,m5⟩:=k43.cells2)))
     exact bodyPost_ret (v:=.tuple #[.agg #[.int .i64 0,.int .i64 0],.bool false]) (by simp[results,Tryz.results129,go_sem,m1,m2]) rfl ⟨by rw[HE.out];rfl,by have hbb:=Ao (An (An (Ao (Ao HBW.out hb1) hb2) _) _) hb3;(repeat first|exact hbb|refine Bc ?_ (by dsimp only;omega) _)⟩
    ·have ho3:Ce 1048576 (wrap64 (ix+x),wrap64 (iy+y))=false:=by simpa using ho2
     rw[if_neg ho2] at HE;clear ho2;obtain⟨nx,hnx⟩:∃nx,Jl rx ry (wrap64 (ix+x)) (wrap64 (iy+y)) 0 0=nx:=⟨_,rfl⟩
     rw[hnx] at HE;have HNX:=Lib.hid hnx;clear hnx;obtain⟨nx1,nx2⟩:=nx;have tok:True:=trivial;go_enter Tryz.func129,Tryz.ntmps129
     go_wp2_with (first|(go_at_call 31;refine(Gn _ _ _ _ _).mono ?_;rintro e w2 ⟨rfl,hb2⟩;rw[HIM.out];have k32:=k31.keep hb2;have k42:=k41.keep hb2;have k02:=k01.keep hb2;obtain⟨c1,c2,c3,c4,c5⟩:=k32.cells2;have kk2:=Bb.lt k42)|(go_at_call 157;refine(ij _ _ _ _ _ _ _).mono ?_;rintro e w4 ⟨rfl,hb4⟩;rw[HNX.out];have k44:=k43.keep hb4;have k54:=k53.keep hb4;obtain⟨s1,s2,s3,s4,s5⟩:=k44.cells2;obtain⟨t1,t2,t3,t4,t5⟩:=k54.cells2)|(go_at_call 156;first|(have _t:=tok;refine(Gl _ _ _).mono ?_;rintro e w1 ⟨rfl,hb1⟩;clear tok;have k11:=H1.out.keep hb1;have k21:=H2.out.keep hb1;have k31:=H3.out.keep hb1;have k41:=H4.out.keep hb1;have k01:=H0.out.keep hb1;obtain⟨a1,a2,a3,a4,a5,a6⟩:=k11.cells5;obtain⟨b1,b2,b3,b4,b5⟩:=k21.cells2)|(refine(Gl _ _ _).mono ?_;rintro e w3 ⟨rfl,hb3⟩;have k43:=((k42.alloc _).alloc _).keep hb3;have k03:=((k02.alloc _).alloc _).keep hb3;have k53:=Bb.keep ((Bb.new w2 49 #[.int .i64 ix,.int .i64 iy]).alloc _) hb3;have k63:=Bb.keep (Bb.new2 w2 _ 49 #[.int .i64 (wrap64 (ix+x)),.int .i64 (wrap64 (iy+y))]) hb3;obtain⟨m1,m2,m3,m4,m5⟩:=k03.cells2;obtain⟨n1,n2,n3,n4,n5⟩:=k63.cells2)))
     exact bodyPost_ret (v:=.tuple #[.agg #[.int .i64 (wrap64 (nx1-ix)),.int .i64 (wrap64 (nx2-iy))],.bool true]) (by simp[results,Tryz.results129,go_sem,s1,s2,s5]) rfl ⟨by rw[HE.out];rfl,by have hbb:=Ao (Ao (An (An (Ao (Ao HBW.out hb1) hb2) _) _) hb3) hb4;(repeat first|exact hbb|refine An ?_ _|refine Bc ?_ (by dsimp only;omega) _)⟩
end Go.Proofs.YtpbchbcdgikonaaGreat

/- Lean texts of the claim. -/
import Derived.Test.YtlogblbfbihleaaGreatZr23
namespace Go.Proofs.YtlogblbfbihleaaGreat
set_option linter.all false
set_option maxRecDepth 100000
set_option maxHeartbeats 0
open Go.RowKit
variable{a:World}{b:List EdgeP}{e n:Nat}{f o:Value}{g:TypeId}{h:Int}{i:Exit->Act->World->Prop}{j:Act->World->Prop}{k:EdgeP}{l:Prop}{m:Act}
section
open Go.RowKit Limb
def Two (X:World) (x y:Rat) (u v:Value) (W:World):Prop:=∃(g h:Nat) (A:Option Addr) (a e:Nat) (B:Option Addr) (b f:Nat) (C:Option Addr) (c i:Nat) (D:Option Addr) (d j:Nat),
 u=.pointer (some ⟨g,0,none⟩)/\v=.pointer (some ⟨h,0,none⟩)/\Bf W g 171 #[.bool (decide (x.num<0)),.slice A a e,.slice B b f]/\Bf W h 171 #[.bool (decide (y.num<0)),.slice C c i,.slice D d j] /\
 Ce W 0 (.slice A a e) x.num.natAbs/\Ce W 0 (.slice B b f) x.den/\Ce W 0 (.slice C c i) y.num.natAbs/\Ce W 0 (.slice D d j) y.den/\X.heap.size<=g/\X.heap.size<=h/\Be X W
section
variable {X w : World} {x y : Rat} {A B C D : Option Addr} {a a' b b' c c' d d' g h : Nat} {p q : Bool} {A0 B0 C0 D0 : Option Addr} {a0 a1 b0 b1 c0 c1 d0 d1 : Nat} (h1 : Ce w 0 (.slice A a a') x.num.natAbs) (h2 : Ce w 0 (.slice B b b') x.den) (h3 : Ce w 0 (.slice C c c') y.num.natAbs) (h4 : Ce w 0 (.slice D d d') y.den) (hb : Be X w)
abbrev rx (x:Rat) (A:Option Addr) (a a':Nat) (B:Option Addr) (b b':Nat):Array Value:=#[.bool (decide (x.num<0)),.slice A a a',.slice B b b']
abbrev st3 (w:World) (g:Nat) (x:Rat) (A:Option Addr) (a a':Nat) (B:Option Addr) (b b':Nat):World:=((w.setCell ⟨g,0,none⟩ (.bool (decide (x.num<0)))).setCell ⟨g,1,none⟩ (.slice A a a')).setCell ⟨g,2,none⟩ (.slice B b b')
include h1 h2 h3 h4 hb
theorem Aoe:Two X x y (.pointer (some ⟨w.heap.size,0,none⟩)) (.pointer (some ⟨w.heap.size+1,0,none⟩)) ((w.alloc (.cells (rx x A a a' B b b') 171)).alloc (.cells (rx y C c c' D d d') 171)):=by
 have k:=Ao (Ao (Below.refl w.heap.size w) (.cells (rx x A a a' B b b') 171)) (.cells (rx y C c c' D d d') 171);exact⟨_,_,A,a,a',B,b,b',C,c,c',D,d,d',rfl,rfl,(Bf.new _ _ _).alloc _,Bf.new2 _ _ _ _,h1.keep k,h2.keep k,h3.keep k,h4.keep k,hb.size,Nat.le_succ_of_le hb.size,Ao (Ao hb _) _⟩
theorem Alv:Two X x y (.pointer (some ⟨w.heap.size+1,0,none⟩)) (.pointer (some ⟨w.heap.size,0,none⟩)) ((w.alloc (.cells (rx y C c c' D d d') 171)).alloc (.cells (rx x A a a' B b b') 171)):=by
 have k:=Ao (Ao (Below.refl w.heap.size w) (.cells (rx y C c c' D d d') 171)) (.cells (rx x A a a' B b b') 171);exact⟨_,_,A,a,a',B,b,b',C,c,c',D,d,d',rfl,rfl,Bf.new2 _ _ _ _,(Bf.new _ _ _).alloc _,h1.keep k,h2.keep k,h3.keep k,h4.keep k,Nat.le_succ_of_le hb.size,hb.size,Ao (Ao hb _) _⟩
theorem Ank (k:Bf w g 171 #[.bool p,.slice A0 a0 a1,.slice B0 b0 b1]) (hg:X.heap.size<=g):Two X x y (.pointer (some ⟨g,0,none⟩)) (.pointer (some ⟨w.heap.size,0,none⟩)) ((st3 w g x A a a' B b b').alloc (.cells (rx y C c c' D d d') 171)):=by
 have s:(st3 w g x A a a' B b b').heap.size=w.heap.size:=by simp[st3]
 have k':Bf (st3 w g x A a a' B b b') g 171 (rx x A a a' B b b'):=k.set3;have f:=Ao (Below.refl _ (st3 w g x A a a' B b b')) (.cells (rx y C c c' D d d') 171);have n:=Bf.new (st3 w g x A a a' B b b') 171 (rx y C c c' D d d');rw[s] at n;exact⟨_,_,A,a,a',B,b,b',C,c,c',D,d,d',rfl,rfl,k'.alloc _,n,(h1.farB3 k _ _ _).keep f,(h2.farB3 k _ _ _).keep f,(h3.farB3 k _ _ _).keep f,(h4.farB3 k _ _ _).keep f,hg,hb.size,Ao (Dw hb hg _ _ _) _⟩
theorem Ah3 (k:Bf w g 171 #[.bool p,.slice A0 a0 a1,.slice B0 b0 b1]) (hg:X.heap.size<=g):Two X x y (.pointer (some ⟨w.heap.size,0,none⟩)) (.pointer (some ⟨g,0,none⟩)) ((st3 w g y C c c' D d d').alloc (.cells (rx x A a a' B b b') 171)):=by
 have s:(st3 w g y C c c' D d d').heap.size=w.heap.size:=by simp[st3]
 have k':Bf (st3 w g y C c c' D d d') g 171 (rx y C c c' D d d'):=k.set3;have f:=Ao (Below.refl _ (st3 w g y C c c' D d d')) (.cells (rx x A a a' B b b') 171);have n:=Bf.new (st3 w g y C c c' D d d') 171 (rx x A a a' B b b');rw[s] at n;exact⟨_,_,A,a,a',B,b,b',C,c,c',D,d,d',rfl,rfl,n,k'.alloc _,(h1.farB3 k _ _ _).keep f,(h2.farB3 k _ _ _).keep f,(h3.farB3 k _ _ _).keep f,(h4.farB3 k _ _ _).keep f,hb.size,hg,Ao (Dw hb hg _ _ _) _⟩
theorem Ahg (k:Bf w g 171 #[.bool p,.slice A0 a0 a1,.slice B0 b0 b1]) (l:Bf w h 171 #[.bool q,.slice C0 c0 c1,.slice D0 d0 d1]) (hg:X.heap.size<=g) (hh:X.heap.size<=h) (ne:g≠h) :
 Two X x y (.pointer (some ⟨g,0,none⟩)) (.pointer (some ⟨h,0,none⟩)) (st3 (st3 w g x A a a' B b b') h y C c c' D d d'):=by
 have k':Bf (st3 w g x A a a' B b b') g 171 (rx x A a a' B b b'):=k.set3;have l':Bf (st3 w g x A a a' B b b') h 171 #[.bool q,.slice C0 c0 c1,.slice D0 d0 d1]:=l.far3 ne.symm _ _ _;exact⟨_,_,A,a,a',B,b,b',C,c,c',D,d,d',rfl,rfl,k'.far3 ne _ _ _,l'.set3,(h1.farB3 k _ _ _).farB3 l' _ _ _,(h2.farB3 k _ _ _).farB3 l' _ _ _,(h3.farB3 k _ _ _).farB3 l' _ _ _,(h4.farB3 k _ _ _).farB3 l' _ _ _,hg,hh,Dw (Dw hb hg _ _ _) hh _ _ _⟩
end
theorem Ams {w:World} {ba bb:Nat} {x y:Rat} {vx vy:Value} (hX:Ib w ba vx x) (hY:Ib w bb vy y) (bx:RB 600 x) (by_:RB 600 y):Calls Tryz.prog 216 #[vx,vy] w (Xi w (x*y))/\Calls Tryz.prog 224 #[vx,vy] w (Xi w (x+y))/\Calls Tryz.prog 165 #[vx,vy] w (An9 w x y):=by
 obtain⟨p,Ax,nx,cx,Bx,ox,ex,rfl,hp,-,-⟩:=hX.op;obtain⟨q,Ay,ny,cy,By,oy,ey,rfl,hq,-,-⟩:=hY.op;obtain⟨sxn,sxd⟩:=Qe bx;obtain⟨syn,syd⟩:=Qe by_;obtain⟨s11,s22,s12,s21⟩:=Adk bx by_;have HX0:=x.den_nz;have HY0:=y.den_nz;have HP:=Ar hp;have HQ:=Ar hq;have HX:=Ar (fun (W:World) (h:Be w W)=>hX.keep h)
 have HY:=Ar (fun (W:World) (h:Be w W)=>hY.keep h)
 clear hX hY hp hq;refine⟨?_,?_,?_⟩
 all_goals
  go_in
  go_upto_region 1 with fail;refine Jy fun X hbX hP hQ hR=>?_
  try
   obtain⟨b0,b1,b2,-⟩:=hQ.triple;by_cases hy0:y.num=0
   ·have hd0:=decide_eq_true hy0
    have HY1:=Ar hy0;clear hy0
    go_wp2_with (go_at_call 212;refine(Aal (HY.out _ hbX) by_).mono ?_;rintro e w1 ⟨rfl,hb1⟩;rw[hd0];obtain⟨r0,r1,r2,f0,f1,f2,lt⟩:=(hR.keep hb1).triple)
    obtain⟨s0,s1,s2,-,-,-,-⟩:=((hR.keep hb1).set3 (u':=.bool false) (v':=.slice none 0 0) (x':=.slice none 0 0)).triple;exact bodyPost_ret (v:=.tuple #[.agg #[.bool false,.slice none 0 0,.slice none 0 0],.bool false]) (by simp[results,Tryz.results165,go_sem,s0,s1,s2]) rfl ⟨_,_,_,_,_,_,_,by rw[HY1.out];rfl,fun h=>absurd HY1.out h,Dw (An hbX hb1) (by omega) _ _ _⟩
   have hd0:=decide_eq_false hy0;have HY1:=Ar hy0;clear hy0
   go_upto_region 3 with (go_at_call 212;refine(Aal (HY.out _ hbX) by_).mono ?_;rintro e X ⟨rfl,hb1⟩;rw[hd0])
   replace hbX:=An hbX hb1;replace hP:=hP.keep hb1;replace hQ:=hQ.keep hb1;replace hR:=hR.keep hb1;clear b0 b1 b2 hb1 hd0
  have KF:=Ar (fun (W:World) (h:Be X W)=>Kf (hP.keep h) (hQ.keep h))
  first
   | (have:=HY1;go_cut [6,7] (fun u v W=>Two X x y u v W))
   | go_cut [5,6] (fun u v W=>Two X x y u v W)
  ·have hbD:BI X X.drew:=inferInstance
   go_region_held3 (fun w'=>Cq w' w.heap.size 0 (.bool p)/\Cq w' w.heap.size 1 (.slice Ax nx cx)/\Cq w' w.heap.size 2 (.slice Bx ox ex)/\Cq w' (w.heap.size+1) 0 (.bool q)/\Cq w' (w.heap.size+1) 1 (.slice Ay ny cy)/\Cq w' (w.heap.size+1) 2 (.slice By oy ey))
    (exact KF.out _ BI.h)
    ((first
      | (go_at_call 213;have hX1:=hb5;refine(Aam (HY.out _ (An hbX BI.h)) by_).mono ?_;rintro e w6 ⟨v6,rfl,h6,hb6⟩;obtain⟨_,A6,n6,c6,B6,o6,e6,rfl,rfl,hm6,hd6⟩:=h6.op;have hbD:BI X w6:=BI.go hb6;have hs6:=hbD.h.size;(try (have lA:=Bf.keep (Bf.alloc (Bf.new w5 _ _) _) hb6;obtain⟨x0,x1,x2,x3,x4,x5,x6⟩:=lA.triple));(try (have lB:=Bf.keep (Bf.new2 w5 _ _ _) hb6;obtain⟨x0,x1,x2,x3,x4,x5,x6⟩:=lB.triple));(try (have lA:=Bf.keep (Bf.new w5 _ _) hb6;obtain⟨x0,x1,x2,x3,x4,x5,x6⟩:=lA.triple));(try (have mA:=Bf.keep kA hb6;obtain⟨x0,x1,x2,x3,x4,x5,x6⟩:=mA.triple));(try (have mA:=Bf.keep (Bf.alloc kA _) hb6;obtain⟨x0,x1,x2,x3,x4,x5,x6⟩:=mA.triple));(try (have mB:=Bf.keep kB hb6;obtain⟨x0,x1,x2,x3,x4,x5,x6⟩:=mB.triple)))
      | (go_at_call 213;refine(Aam (HX.out _ (An hbX BI.h)) bx).mono ?_;rintro e w5 ⟨v5,rfl,h5,hb5⟩;obtain⟨_,A5,n5,c5,B5,o5,e5,rfl,rfl,hm5,hd5⟩:=h5.op;have hbD:BI X w5:=BI.go hb5;have hs5:=hbD.h.size;(try (have kA:=Bf.keep (Bf.drew (Bf.alloc (Bf.new X _ _) _)) hb5;obtain⟨x0,x1,x2,x3,x4,x5,x6⟩:=kA.triple));(try (have kB:=Bf.keep (Bf.drew (Bf.new2 X _ _ _)) hb5;obtain⟨x0,x1,x2,x3,x4,x5,x6⟩:=kB.triple));(try (have kA:=Bf.keep (Bf.drew (Bf.new X _ _)) hb5;obtain⟨x0,x1,x2,x3,x4,x5,x6⟩:=kA.triple)))))
   all_goals go_wp2_with fail
   all_goals go_meet
   all_goals
    have hb7:Be w5 w6:=(BI.go hb6).h;have n1:=(hm5.keep hb7).lower (Nat.zero_le _);have n2:=(hd5.keep hb7).lower (Nat.zero_le _);have n3:=hm6.lower (Nat.zero_le _);have n4:=hd6.lower (Nat.zero_le _);replace hbD:=hbD.h
    first
     | with_reducible exact Aoe n1 n2 n3 n4 hbD
     | with_reducible exact Alv n1 n2 n3 n4 hbD
     | with_reducible exact Ank n1 n2 n3 n4 hbD lA (by omega)
     | with_reducible exact Ank n1 n2 n3 n4 hbD mA (by omega)
     | with_reducible exact Ah3 n1 n2 n3 n4 hbD lA (by omega)
     | with_reducible exact Ah3 n1 n2 n3 n4 hbD mA (by omega)
     | with_reducible exact Ahg n1 n2 n3 n4 hbD lA lB (by omega) (by omega) (by omega)
     | with_reducible exact Ahg n1 n2 n3 n4 hbD lB lA (by omega) (by omega) (by omega)
     | with_reducible exact Ahg n1 n2 n3 n4 hbD mA mB (by omega) (by omega) (by omega)
     | with_reducible exact Ahg n1 n2 n3 n4 hbD mB mA (by omega) (by omega) (by omega)
     | with_reducible exact Ahg n1 n2 n3 n4 hbD mA lA (by omega) (by omega) (by omega)
     | with_reducible exact Ahg n1 n2 n3 n4 hbD lA mA (by omega) (by omega) (by omega)
  obtain⟨g,h,A5,n5,c5,B5,o5,e5,A6,n6,c6,B6,o6,e6,rfl,rfl,hG,hH,m1,m2,m3,m4,hgX,hhX,hbC⟩:=hcut;rw[HP.out] at hG;rw[HQ.out] at hH;have hlR:=hR.lt;have ng:g≠w.heap.size+1+1:=by omega
  have nh:h≠w.heap.size+1+1:=by omega
  have hR2:=hR.keep hbC;have hbW:=An hbX hbC;have hbE:=Aw (Below.refl wc.heap.size wc);have hbF:=hbE;clear hP hQ KF HX HY hR
 ·obtain⟨P,hP1⟩:∃P,x.num.natAbs*y.num.natAbs=P:=⟨_,rfl⟩
  obtain⟨D,hD1⟩:∃P,x.den*y.den=P:=⟨_,rfl⟩
  have EQ:=Ar (show mkRat (sg (p != q) P) D=x*y by rw[<-hP1,<-hD1,<-HP.out,<-HQ.out,Adg];exact(Rat.mul_def' x y).symm)
  have HN:=Ar hP1;have HD:=Ar hD1;have hd0:D≠0:=by rw[<-hD1];exact Nat.mul_ne_zero HX0 HY0
  have sP:Sm P:=by rw[<-hP1];exact s11
  have sD:Sm D:=by rw[<-hD1];exact s22
  clear hP1 hD1;go_upto_region 2 with fail
  go_region_held3 (sB fun W h=>Kf (hG.keep h) (hH.keep h))
   (first
    | with_reducible exact Kf (hG.keep hbE) (hH.keep hbE)
    | with_reducible exact Kf ((hG.keep hbE).far3 ng _ _ _) ((hH.keep hbE).far3 nh _ _ _))
   ((first
     | (go_at_call 214;have hX2:=h8;refine(O9 (p != q) (h7.keep hb8) h8 sP sD hd0).mono ?_;rintro e w9 ⟨v9,rfl,h9,hb9⟩;rw[EQ.out] at h9;obtain⟨_,A9,n9,c9,B9,o9,e9,rfl,rfl,hm9,hd9⟩:=h9.op;replace hbE:=An hbE hb9;obtain⟨r0,r1,r2,f0,f1,f2,lt⟩:=(hR2.keep hbE).triple)
     | (go_at_call 215;have hX1:=h7;refine(Acs ((m2.keep hbF).keep hb7) ((m4.keep hbF).keep hb7) sxd syd).mono ?_;rintro e w8 ⟨v8,rfl,h8,hb8⟩;rw[HD.out] at h8;replace hbE:=An hbE hb8)
     | (go_at_call 215;refine(Acs (m1.keep hbF) (m3.keep hbF) sxn syn).mono ?_;rintro e w7 ⟨v7,rfl,h7,hb7⟩;rw[HN.out] at h7;replace hbE:=An hbE hb7)))
  all_goals go_wp2_with fail
  obtain⟨s0,s1,s2,HR⟩:=Dn (w:=w) (hR2.keep hbE) hm9 hd9 (Nat.lt_of_lt_of_le hR2.lt (An (An blD hb7) hb8).size) (by omega) (An hbW hbE)
  exact bodyPost_ret (v:=.agg #[.bool (decide ((x*y).num<0)),.slice A9 n9 c9,.slice B9 o9 e9]) (by simp[results,Tryz.results216,go_sem,s0,s1,s2]) rfl HR
 ·obtain⟨Z,hZ⟩:∃Z:World,Z=wc:=⟨_,rfl⟩
  rw[<-hZ] at hG hH m1 m2 m3 m4 hbC hR2 hbW ⊢;clear hZ hbE hbF;obtain⟨z,hz⟩:∃z,x.num*(y.den:Int)+y.num*(x.den:Int)=z:=⟨_,rfl⟩
  have EQ:Hid (mkRat z (x.den*y.den)=x+y):=Ar (by rw[<-hz];exact(Rat.add_def' x y).symm)
  have HZ:=Ar hz
  have ssum:Sm ((x.num*(y.den:Int)).natAbs+(y.num*(x.den:Int)).natAbs):=by
   rw[Jj,Jj];exact F7 (m:=600+600+1) (Ac7 (m:=600) (Fv (m:=600) (n:=600) bx.1 by_.2) (Fv (m:=600) (n:=600) by_.1 bx.2)) (by decide)
  have sz:Sm z.natAbs:=by rw[<-hz];exact ssum.le (Int.natAbs_add_le _ _)
  have s12':Sm (x.num*(y.den:Int)).natAbs:=by rw[Jj];exact s12
  have s21':Sm (y.num*(x.den:Int)).natAbs:=by rw[Jj];exact s21
  have s12n:Sm (x.num.natAbs*((y.den:Int)).natAbs):=by rw[Int.natAbs_natCast];exact s12
  have s21n:Sm (y.num.natAbs*((x.den:Int)).natAbs):=by rw[Int.natAbs_natCast];exact s21
  have sxd':Sm ((x.den:Int)).natAbs:=by rw[Int.natAbs_natCast];exact sxd
  have syd':Sm ((y.den:Int)).natAbs:=by rw[Int.natAbs_natCast];exact syd
  have HXi:=Ar (fun (W:World) (h:Be Z W)=>(show P9 W 0 (.agg #[.bool p,.slice A5 n5 c5]) x.num from ⟨_,by rw[HP.out],m1.keep h⟩))
  have HYi:=Ar (fun (W:World) (h:Be Z W)=>(show P9 W 0 (.agg #[.bool q,.slice A6 n6 c6]) y.num from ⟨_,by rw[HQ.out],m3.keep h⟩))
  have HXd:=Ar (fun (W:World) (h:Be Z W)=>Sh (m2.keep h))
  have HYd:=Ar (fun (W:World) (h:Be Z W)=>Sh (m4.keep h))
  have KS:=Ar (fun (W:World) (k:Be Z W)=>Kf (hG.keep k) (hH.keep k))
  clear hz;go_upto_region 2 with fail;go_cut [7] (fun v W=>∃(n:Nat) (A:Option Addr) (a c:Nat),v=.pointer (some ⟨n,0,none⟩)/\Ce W 0 (.slice A a c) z.natAbs/\Bf W n 169 #[.bool (decide (z<0)),.slice A a c]/\Z.heap.size<=n/\Be Z W)
  case first =>
   go_region_held3 (fun W'=>Cq W' g 0 (.bool p)/\Cq W' g 1 (.slice A5 n5 c5)/\Cq W' g 2 (.slice B5 o5 e5)/\Cq W' h 0 (.bool q)/\Cq W' h 1 (.slice A6 n6 c6)/\Cq W' h 2 (.slice B6 o6 e6))
    (exact KS.out _ BI.h)
    ((first
      | (go_at_call 280;have hX4:=h8;have hc8:BI w7 w8:=⟨hc8⟩;refine(Api (h7.keep BI.h) (h8.keep BI.h) s12' s21' ssum).mono ?_;rintro e w9 ⟨v9,rfl,h9,hb9⟩;rw[HZ.out] at h9;obtain⟨m9,rfl,hm9⟩:=h9;obtain⟨A9,n9,c9,rfl⟩:=hm9.sl;have hbE:BI Z w9:=BI.go hb9;have hs9:=hbE.h.size;(first|(have nA:=Bf.keep kA hb9;obtain⟨k1,k2,k3,k4,k5⟩:=Bf.pair nA)|(have nA:=Bf.keep (Bf.new w8 _ _) hb9;obtain⟨k1,k2,k3,k4,k5⟩:=Bf.pair nA)|skip))
      | (go_at_call 281;have hX2:=h7;refine(An2 (HYi.out _ BI.h) (HXd.out _ BI.h) syn sxd' s21n).mono ?_;rintro e w8 ⟨v8,rfl,h8,hb8⟩;have hc8:Be w7 w8:=(BI.go hb8).h;have hbE:BI Z w8:=BI.go hb8;have hs8:=hbE.h.size;(first|(replace kA:=Bf.keep kA hb8;obtain⟨k1,k2,k3,k4,k5⟩:=Bf.pair kA)|(have kA:=Bf.keep (Bf.new w7 _ _) hb8;obtain⟨k1,k2,k3,k4,k5⟩:=Bf.pair kA)|skip))
      | (go_at_call 281;refine(An2 (HXi.out _ BI.h) (HYd.out _ BI.h) sxn syd' s12n).mono ?_;rintro e w7 ⟨v7,rfl,h7,hb7⟩;have hbE:BI Z w7:=BI.go hb7;have hs7:=hbE.h.size;(first|(have kA:=Bf.keep (Bf.drew (Bf.new Z _ _)) hb7;obtain⟨k1,k2,k3,k4,k5⟩:=Bf.pair kA)|skip))))
   all_goals go_wp2_with fail
   all_goals go_meet
   all_goals (first
    | exact⟨w9.heap.size,A9,n9,c9,rfl,(hm9.lower (Nat.zero_le _)).keep blA,Bf.new _ _ _,hs9,Ao hbE.h _⟩
    | exact⟨_,A9,n9,c9,rfl,(hm9.lower (Nat.zero_le _)).farB nA _ _,(nA.set_ 0 _).set_ 1 _,by omega,Ba (Ba hbE.h (p:=⟨_,0,none⟩) (by simp only[];omega) _) (p:=⟨_,1,none⟩) (by simp only[];omega) _⟩)
  case rest =>
   obtain⟨n,A7,n7,c7,rfl,hm7,hN,hnX,hbC2⟩:=hcut;replace hG:=hG.keep hbC2;replace hH:=hH.keep hbC2;replace hR2:=hR2.keep hbC2;replace m2:=m2.keep hbC2;replace m4:=m4.keep hbC2;replace hbW:=An hbW hbC2;have hXZ:=hbC.size;have nn:n≠w.heap.size+1+1:=by omega
   have hd0:x.den*y.den≠0:=Nat.mul_ne_zero HX0 HY0;obtain⟨D,hD1⟩:∃P,x.den*y.den=P:=⟨_,rfl⟩
   have HD:=Ar hD1;have E2:=EQ.out;rw[hD1] at E2 hd0;have EQ2:=Ar E2;have sD:Sm D:=by rw[<-hD1];exact s22
   obtain⟨b,hbz⟩:∃b,decide (z<0)=b:=⟨_,rfl⟩
   have HSZ:=Ar (show sg b z.natAbs=z by rw[<-hbz];exact I7 z)
   rw[hbz] at hN;obtain⟨P,hP1⟩:∃P,z.natAbs=P:=⟨_,rfl⟩
   rw[hP1] at hm7 sz HSZ;have E3:=EQ2.out;rw[<-HSZ.out] at E3;have EQ3:=Ar E3;obtain⟨r,hr⟩:∃r,x+y=r:=⟨_,rfl⟩
   have E4:=EQ3.out;rw[hr] at E4;have EQ4:=Ar E4;have HRR:=Ar hr;have hbE:=Aw (Below.refl wc.heap.size wc);have hbF:=hbE;clear hbz hP1 hD1 E2 E3 E4 EQ EQ2 EQ3 hr HZ HXi HYi HXd HYd KS ssum s12' s21' s12n s21n sxd' syd' hbC hbC2 m1 m3;go_upto_region 3 with fail
   go_region_held3 (sB fun W h=>ft (hN.keep h) (hG.keep h) (hH.keep h))
    (first
     | with_reducible exact ft (hN.keep hbE) (hG.keep hbE) (hH.keep hbE)
     | with_reducible exact ft ((hN.keep hbE).far3 nn _ _ _) ((hG.keep hbE).far3 ng _ _ _) ((hH.keep hbE).far3 nh _ _ _))
    ((first
      | (go_at_call 214;have hX2:=h8;refine(O9 b ((hm7.keep hbF).keep hb8) h8 sz sD hd0).mono ?_;rintro e w9 ⟨v9,rfl,h9,hb9⟩;rw[EQ4.out] at h9;obtain⟨_,A9,n9,c9,B9,o9,e9,rfl,rfl,hm9,hd9⟩:=h9.op;replace hbE:=An hbE hb9;obtain⟨r0,r1,r2,f0,f1,f2,lt⟩:=(hR2.keep hbE).triple)
      | (go_at_call 215;refine(Acs (m2.keep hbF) (m4.keep hbF) sxd syd).mono ?_;rintro e w8 ⟨v8,rfl,h8,hb8⟩;rw[HD.out] at h8;replace hbE:=An hbE hb8)))
   all_goals go_wp2_with fail
   rw[HRR.out];obtain⟨s0,s1,s2,HR⟩:=Dn (w:=w) (hR2.keep hbE) hm9 hd9 (Nat.lt_of_lt_of_le hR2.lt (An (Aw (Below.refl wc.heap.size wc)) hb8).size) (by omega) (An hbW hbE)
   exact bodyPost_ret (v:=.agg #[.bool (decide (r.num<0)),.slice A9 n9 c9,.slice B9 o9 e9]) (by simp[results,Tryz.results224,go_sem,s0,s1,s2]) rfl HR
 ·have hd0':x.den*y.num.natAbs≠0:=Nat.mul_ne_zero HX0 (by have:=HY1.out;omega)
  have EQ:=Ar (show mkRat (sg (p != q) (x.num.natAbs*y.den)) (x.den*y.num.natAbs)=x / y by
   rw[<-HP.out,<-HQ.out,Aea x y HY1.out,<-Adh y.den HY1.out];rfl)
  have s21':Sm (x.den*y.num.natAbs):=by rw[Nat.mul_comm];exact s21
  obtain⟨z,hz⟩:∃z,x / y=z:=⟨_,rfl⟩
  have HZ:=Ar hz;rw[hz] at EQ;clear hz;go_upto_region 4 with fail
  go_region_held3 (sB fun W h=>Kf (hG.keep h) (hH.keep h))
   (first
    | with_reducible exact Kf (hG.keep hbE) (hH.keep hbE)
    | with_reducible exact Kf ((hG.keep hbE).far3 ng _ _ _) ((hH.keep hbE).far3 nh _ _ _))
   ((first
     | (go_at_call 214;have hX2:=h8;refine(O9 (p != q) (h7.keep hb8) h8 s12 s21' hd0').mono ?_;rintro e w9 ⟨v9,rfl,h9,hb9⟩;rw[EQ.out] at h9;obtain⟨_,A9,n9,c9,B9,o9,e9,rfl,rfl,hm9,hd9⟩:=h9.op;replace hbE:=An hbE hb9;obtain⟨r0,r1,r2,f0,f1,f2,lt⟩:=(hR2.keep hbE).triple)
     | (go_at_call 215;have hX1:=h7;refine(Acs ((m2.keep hbF).keep hb7) ((m3.keep hbF).keep hb7) sxd syn).mono ?_;rintro e w8 ⟨v8,rfl,h8,hb8⟩;replace hbE:=An hbE hb8)
     | (go_at_call 215;refine(Acs (m1.keep hbF) (m4.keep hbF) sxn syd).mono ?_;rintro e w7 ⟨v7,rfl,h7,hb7⟩;replace hbE:=An hbE hb7)))
  all_goals go_wp2_with fail
  obtain⟨s0,s1,s2,v10,hv10,HR,HB⟩:=Dn (w:=w) (hR2.keep hbE) hm9 hd9 (Nat.lt_of_lt_of_le hR2.lt (An (An blD hb7) hb8).size) (by omega) (An hbW hbE)
  injection hv10 with hv10
  exact bodyPost_ret (v:=.tuple #[.agg #[.bool (decide (z.num<0)),.slice A9 n9 c9,.slice B9 o9 e9],.bool true]) (by simp[results,Tryz.results165,go_sem,s0,s1,s2]) rfl ⟨_,_,_,_,_,_,_,by rw[decide_eq_false HY1.out];rfl,fun _=>by rw[HZ.out,hv10];exact HR,HB⟩
theorem An0:RC 216 HMul.hMul:=λa b c d=>(Ams a b c d).1
theorem An1:RC 224 HAdd.hAdd:=λa b c d=>(Ams a b c d).2.1
end
def Af9 (p:Int×Int):Prop := -100000<=p.1/\p.1<=100000 /\ -100000<=p.2/\p.2<=100000
theorem Mv{d:Int} (a:0<=d) (g:d<=40) (b : -100000<=h) (c:h<=100000) : -4000000<=d*h/\d*h<=4000000:=by
 have e:=Int.mul_le_mul_of_nonneg_left c a;have f:=Int.mul_le_mul_of_nonneg_left b a;omega
theorem Ye{u s:Int} (a:1<=s) (b : -8000000<=u) (c:u<=8000000) : -8000000<=F8 u s/\F8 u s<=8000000:=by
 have:=Int.mul_le_mul_of_nonneg_right a (show (0:Int)<=8000000 by omega);exact L4 (M:=8000000) (by omega) (by omega) (by omega) (by omega)
theorem Al3{w:World} {a:Nat}  {c d b i:Value} (h:Bf w e g #[f,o]) (k:Bf w n g #[c,d]) (m:Bf w a g #[b,i]) :
 Cq w e 0 f/\Cq w e 1 o/\Cq w n 0 c/\Cq w n 1 d/\Cq w a 0 b/\Cq w a 1 i :=
 ⟨(h.cell 0).trans rfl,(h.cell 1).trans rfl,(k.cell 0).trans rfl,(k.cell 1).trans rfl,(m.cell 0).trans rfl,(m.cell 1).trans rfl⟩
theorem Bf.farS{w:World} {o:Nat}  {b:Array Value} (h:Bf w n g b) (a:n≠e) (u v:Value):Bf ((w.setCell ⟨e,o,none⟩ u).setCell ⟨e,o+1,none⟩ v) n g b :=
 (h.far (p:=⟨e,o,none⟩) a u).far (p:=⟨e,o+1,none⟩) a v
theorem fp(A:Option Addr) (ar n:Nat) (l:LP) (a b:Int×Int) (w:World) (hs:SpS w A n l) (G:plW l n=0) (ha:Af9 a) (Q:Af9 b) :
 Calls Tryz.prog 101 #[.slice A n ar,.agg #[a.1,a.2],.agg #[b.1,b.2]] w (Vi w (He l a b)):=by
 let⟨e7,e8⟩:=Er G;have a8:=Ar λk (hk:k<n)=>(Lb G hk).1;have o:=Ar hs.1;obtain⟨C,D⟩:=a;obtain⟨F,E⟩:=b;obtain⟨a1,a2,a3,a4⟩:=ha;obtain⟨b1,b2,b3,b4⟩:=Q;dsimp only at a1 a2 a3 a4 b1 b2 b3 b4;let⟨s,bb⟩:∃s,s+1=n:=⟨n-1,by omega⟩
 have hN:(n:Int)-1=(s:Int):=by omega
 have e9:1<=s:=by omega
 have ec:s<=39:=by omega
 have ee:s<n:=by omega
 have ad:=Ar (λk=>show Mw l (C,D) (F,E) k=((gt l k).1+F8 (((s:Int)-k)*C+k*F) s,(gt l k).2+F8 (((s:Int)-k)*D+k*E) s) by unfold Mw;rw[o.out,hN]);let⟨Z,b9,hZ⟩:=Ht n (by omega);clear bb G;go_enter Tryz.func101,Tryz.ntmps101;go_upto_region 4 with fail;go_loopw [9,10,19] (λ_ _ i wr=>∃(k:Nat) (z:LP),k<=n/\i=.int .i64 k/\z.length=n/\(∀p,p<k->gt z p=Mw l (C,D) (F,E) p)/\Bf wr w.heap.size 60 #[C,D]/\Bf wr (w.heap.size+1) 60 #[F,E]/\OwS wr (w.heap.size+1+1) (.slice (some ⟨w.heap.size+1+1,0,none⟩) n n) z/\Be w wr) λ_ _ i _=>n-(intOf i).toNat
 case atStart=>exact⟨0,_,Nat.zero_le _,rfl,List.length_replicate,λp G=>absurd G (Nat.not_lt_zero _),((Bf.new _ _ _).alloc _).alloc _,(Bf.new2 _ _ _ _).alloc _,by have:=hZ ((w.alloc (.cells #[C,D] 60)).alloc (.cells #[F,E] 60));simpa using this,Ao (Ao blA _) _⟩
 clear b9 hZ;obtain⟨k,z,hk,rfl,O,G,hA,hB,ho,hb⟩:=hrel;by_cases g:k<n
 .obtain⟨b0,eg,rfl,e4,hc⟩:=(hs.keep hb).at_ g;let⟨h1,P⟩:=hc k g;let⟨i1,i2,i3,i4⟩:=a8.out k g;have f:=ad.out k;let⟨⟨x,y⟩,a6⟩:∃p,gt l k=p:=⟨_,rfl⟩
  rw[a6]at h1 P i1 i2 i3 i4 f;dsimp only at h1 P i1 i2 i3 i4 f;let⟨c1,c2,f1,f2⟩:=ho.cells O g;have e5:w.heap.size+1+1<wr.heap.size:=Bi c1;have e6:k<=s:=by omega
  let⟨d,hd⟩:=gN ((s:Int)-(k:Int):Int)
  have j:0<=d/\d<=40:=by omega
  have m1:=Mv j.1 j.2 a1 a2;have m2:=Mv (show (0:Int)<=(k:Int) by omega) (by omega) b1 b2;have m3:=Mv j.1 j.2 a3 a4;have m4:=Mv (show (0:Int)<=(k:Int) by omega) (by omega) b3 b4;rw[hd]at f;let⟨u1,K⟩:=gN (d*C)
  let⟨u2,L⟩:=gN ((k:Int)*F)
  let⟨u3,M⟩:=gN (d*D)
  let⟨u4,N⟩:=gN ((k:Int)*E)
  rw[K]at m1 f;rw[L]at m2 f;rw[M]at m3 f;rw[N]at m4 f;let⟨u,hu⟩:=gN (u1+u2)
  let⟨v,hv⟩:=gN (u3+u4)
  rw[hu,hv]at f;have r1:=Ye (u:=u) (s:=(s:Int)) (by omega) (by omega) (by omega);have r2:=Ye (u:=v) (s:=(s:Int)) (by omega) (by omega) (by omega);have R:∀m:World,Calls Tryz.prog 149 #[u,(s:Int)] m (Bz m (F8 u s)):=λm=>Zc u s m (by omega) (by omega) (by omega) (by omega)
  have S:∀m:World,Calls Tryz.prog 149 #[v,(s:Int)] m (Bz m (F8 v s)):=λm=>Zc v s m (by omega) (by omega) (by omega) (by omega)
  let⟨rx,V⟩:=gN (F8 u s)
  let⟨ry,X⟩:=gN (F8 v s)
  rw[V]at R r1 f;rw[X]at S r2 f;let⟨X',I⟩:=gN (x+rx)
  let⟨Y',J⟩:=gN (y+ry)
  rw[I,J]at f;have HM:=Ar f;have W1:IntKind.i64.wrap ((s:Int)-(k:Int))=d:=by rw[hd,IntKind.wrap_i64];omega
  have W2:IntKind.i64.wrap (d*C)=u1:=by rw[K,IntKind.wrap_i64];omega
  have W3:IntKind.i64.wrap ((k:Int)*F)=u2:=by rw[L,IntKind.wrap_i64];omega
  have W4:IntKind.i64.wrap (u1+u2)=u:=by rw[hu,IntKind.wrap_i64];omega
  have W5:IntKind.i64.wrap (d*D)=u3:=by rw[M,IntKind.wrap_i64];omega
  have W6:IntKind.i64.wrap ((k:Int)*E)=u4:=by rw[N,IntKind.wrap_i64];omega
  have W7:IntKind.i64.wrap (u3+u4)=v:=by rw[hv,IntKind.wrap_i64];omega
  have W8:IntKind.i64.wrap (x+rx)=X':=by rw[I,IntKind.wrap_i64];omega
  have W9:IntKind.i64.wrap (y+ry)=Y':=by rw[J,IntKind.wrap_i64];omega
  have B1:(0:Int)<=(k:Int):=by omega
  have B2:(k:Int)<(n:Int):=by omega
  clear hc a6 hd K L M N hu hv V X I J f m1 m2 m3 m4 r1 r2 j;go_upto_region 6 with fail;refine Bq λY B hV=>?_
  have q:=hA.keep B;have t:=hB.keep B;have H:OwS Y (w.heap.size+1+1) (.slice (some ⟨w.heap.size+1+1,0,none⟩) n n) z:=OwG.keep ho B;have T:w.heap.size≠w.heap.size+1+1:=by omega
  have U:w.heap.size+1≠w.heap.size+1+1:=by omega
  have ba:wr.heap.size≠w.heap.size+1+1:=by omega
  have c:=Aw (Below.refl Y.heap.size Y);clear h1 P c1 c2 f1 f2 hA hB ho
  go_region_held3 (sB λW h=>Al3 (hV.keep h) (q.keep h) (t.keep h))
   (first
    | with_reducible exact Al3 (hV.keep c) (q.keep c) (t.keep c)
    | with_reducible exact Al3 ((hV.keep c).farS ba _ _) ((q.keep c).farS T _ _) ((t.keep c).farS U _ _))
   ((first
     | (go_at_call 149;(with_reducible refine(R _).mono ?_);rintro e m ⟨rfl,b6⟩;replace c:=An c b6;let⟨z1,z2,z3,z4⟩:=OwS.cells (OwG.keep H c) O g)
     | (go_at_call 149;(with_reducible refine(S _).mono ?_);rintro e w3 ⟨rfl,b7⟩;replace c:=An c b7;let⟨z1,z2,z3,z4⟩:=OwS.cells (OwG.keep H c) O g)))
  all_goals clear W1 W2 W3 W4 W5 W6 W7 W8 W9
  all_goals go_wp2_with fail
  all_goals (refine⟨⟨k+1,z.set k (X',Y'),by omega,by go_num,by rw[List.length_set];exact O,λp h=>?_,(q.keep c).farS T _ _,(t.keep c).farS U _ _,OwS.store (OwG.keep H c) O g X' Y',Ba (Ba (An hb (An B c)) (p:=⟨w.heap.size+1+1,k*2,none⟩) (by simp;omega) _) (p:=⟨w.heap.size+1+1,k*2+1,none⟩) (by simp;omega) _⟩,by simp[intOf];omega⟩
             rw[Lg (by rw[O];exact g)];by_cases P:k=p
             .subst P;rw[if_pos rfl,HM.out]
             rw[if_neg P];exact G p (by omega))
 obtain rfl:n=k:=by omega
 go_wp2_with fail;go_ret;refine⟨_,rfl,?_,hb⟩
 rw[show He l (C,D) (F,E)=z from Gn (by unfold He;rw[List.length_map,List.length_range,o.out,O]) (λp h=>by
  unfold He at h;rw[List.length_map,List.length_range,o.out]at h;rw[G p h];unfold He gt;rw[List.getD,List.getElem?_map,List.getElem?_range (by rw[o.out];exact h)];rfl)]
 exact ho.lower (by omega)
theorem Yt{a:Int} (f : -100<=h) (g:h<=100) (i : -1000<=a) (j:a<=1000) : -100000<=h*a/\h*a<=100000:=by
 have b:=Int.mul_nonneg (show 0<=100-h by omega) (show 0<=1000+a by omega);have c:=Int.mul_nonneg (show 0<=100+h by omega) (show 0<=1000-a by omega);have d:=Int.mul_nonneg (show 0<=100-h by omega) (show 0<=1000-a by omega);have e:=Int.mul_nonneg (show 0<=100+h by omega) (show 0<=1000+a by omega);simp only[Int.add_mul,Int.sub_mul,Int.mul_add,Int.mul_sub]at b c d e;omega
theorem rq(A:Option Addr) (e n k:Nat) (l:LP) (m:Int) (w:World) (O:SpS w A n l) (N:0<n) (hn:n<=1000) (hk:k<=1000) (t : -100<=m) (u:m<=100) (D:∀i,i<n -> -1000<=(gt l i).1/\(gt l i).1<=1000 /\ -1000<=(gt l i).2/\(gt l i).2<=1000) :
 Calls Tryz.prog 100 #[.agg #[.slice A n e,m],(k:Int)] w (Bz w (.agg #[(Iq l m k).1,(Iq l m k).2])):=by
 let⟨r,B⟩:=gN (k % n)
 have C:r<n:=by rw[<-B];exact Nat.mod_lt _ N
 have F:=Ar (show Iq l m k=(m*(gt l r).1,m*(gt l r).2) by unfold Iq;rw[O.1,B]);obtain⟨G,d,rfl,au,hc⟩:=O.at_ N;let⟨J,K⟩:=hc r C;let⟨P,Q,R,S⟩:=D r C;let⟨⟨x,y⟩,E⟩:∃p,gt l r=p:=⟨_,rfl⟩
 rw[E]at J K P Q R S F;dsimp only at J K P Q R S F;have m1:=Yt t u P Q;have m2:=Yt t u R S;have U:Int.tmod (k:Int) (n:Int)=(r:Int):=by rw[<-B,Int.ofNat_tmod]
 have T2:(k:Int) % (n:Int)=(r:Int):=by rw[<-B];rfl
 have V:IntKind.i64.wrap (r:Int)=(r:Int):=by rw[IntKind.wrap_i64];omega
 have W2:IntKind.i64.wrap (Int.tmod (k:Int) (n:Int))=(r:Int):=by rw[U];exact V
 have B1:(0:Int)<=(r:Int):=by omega
 have B2:(r:Int)<(n:Int):=by omega
 have B3:((n:Int) == 0)=false:=Aca N;have B4:¬(n:Int)=0:=by omega
 have B5:¬n=0:=by omega
 let⟨q,f⟩:=gN (m*x)
 let⟨Y1,g⟩:=gN (m*y)
 rw[f,g]at F;rw[f]at m1;rw[g]at m2;have V1:IntKind.i64.wrap q=q:=by rw[IntKind.wrap_i64];omega
 have V2:IntKind.i64.wrap Y1=Y1:=by rw[IntKind.wrap_i64];omega
 have V3:IntKind.i64.wrap (m*x)=q:=by rw[f];exact V1
 have V4:IntKind.i64.wrap (m*y)=Y1:=by rw[g];exact V2
 clear hc E B m1 m2 O D;go_in;go_upto_region 1 with fail;refine Eo λX h W hR=>?_
 have T:Cq X w.heap.size 0 (.slice (some ⟨G,d,none⟩) n e):=(W.cell 0).trans rfl;have H:Cq X w.heap.size 1 m:=(W.cell 1).trans rfl;have L:=Aq h J;have M:=Aq h K;have c:=Aw (Below.refl X.heap.size X);have b:=λo=>Aw (Ao (Below.refl X.heap.size X) o)
 have a:=λo=>Ao c o
 go_region_held3 (λI=>Cq I w.heap.size 0 (.slice (some ⟨G,d,none⟩) n e)/\Cq I w.heap.size 1 m/\Cq I G (d+r*2) x/\Cq I G (d+r*2+1) y)
  (first
   | with_reducible exact⟨Aq c T,Aq c H,Aq c L,Aq c M⟩
   | with_reducible exact⟨Aq (b _) T,Aq (b _) H,Aq (b _) L,Aq (b _) M⟩
   | with_reducible exact⟨Aq (a _) T,Aq (a _) H,Aq (a _) L,Aq (a _) M⟩)
  (fail)
 clear V W2 U T2;go_upto_region 2 with fail;refine Cj (λY=>Be X Y/\Bf Y X.heap.size 60 #[x,y]) ⟨b _,Bf.new _ _ _⟩ ?_;rintro Y ⟨j,Z⟩;have q1:=Aq j H;have q2:Cq Y X.heap.size 0 x:=(Z.cell 0).trans rfl;have q3:Cq Y X.heap.size 1 y:=(Z.cell 1).trans rfl;have s:=hR.keep j;let⟨r0,r1,f0,f1,lt⟩:=s.pair;obtain⟨s0,s1,-,-,-⟩:=Bf.pair ((s.set_ 0 (.int .i64 q)).set_ 1 (.int .i64 Y1));go_wp2;exact bodyPost_ret (v:=.agg #[q,Y1]) (by simp[results,Tryz.results100,go_sem,s0,s1]) rfl ⟨by rw[F.out],Ba (Ba (An h j) (p:=⟨w.heap.size+1,0,none⟩) (by simp) _) (p:=⟨w.heap.size+1,1,none⟩) (by simp) _⟩
abbrev EdX:=ByteArray×Option Addr×Nat×Nat
def Ags (x:EdX):List Value:=[.string x.1,.slice x.2.1 x.2.2.1 x.2.2.2]
theorem St(x:EdX):(Ags x).length=2:=rfl
theorem Abh(x:EdX):∀u∈Ags x,u.oneCell'=true:=by
 intro u a;simp[Ags]at a;rcases a with rfl|rfl<;>rfl
theorem Aj6:(Tryz.prog.info? 50).map (λi=>(i.zero,i.size,i.bytes))=some (some (.agg #[.string ⟨#[]⟩,.slice none 0 0]),2,40):=by kernel_rfl
def OwE (w:World) (a:Nat) (v:Value) (E:List EdgeP):Prop :=
 ∃b:List EdX,OwG 50 2 Ags w a v b/\b.length=E.length/\∀(i:Nat) (x:EdX),b[i]? = some x->x.1=(edg E i).nm/\ElS w a (.slice x.2.1 x.2.2.1 x.2.2.2) (edg E i).ln/\x.2.2.2<=9223372036854775807
theorem OwE.nil{w:World} :OwE w e (.slice none 0 0) []:=⟨[],OwG.nil,rfl,by simp⟩
theorem OwE.keep{w:World} {base:Nat}   (h:OwE w base f b) (e:Be w a):OwE a base f b:=by
 obtain⟨k,g,j,c⟩:=h;exact⟨k,g.keep e,j,λi x d=>⟨(c i x d).1,(c i x d).2.1.keep e,(c i x d).2.2⟩⟩
theorem Agt(h:e<b.length):edg (b++[k]) e=edg b e:=by
 unfold edg;rw[List.getD,List.getD,List.getElem?_append_left h]
theorem Abk:edg (b++[k]) b.length=k:=by
 unfold edg;simp[List.getD]
theorem OwE.eds{w:World}    (h:OwE w e f b):∃A c,f=.slice A b.length c/\b.length<=c/\c<=9223372036854775807/\EdS w A b.length b:=by
 obtain⟨d,j,a,E⟩:=h;rcases OwG.form j with⟨rfl,rfl⟩|⟨g,i,rfl,G,H,D,t⟩
 .have:b=[]:=List.eq_nil_of_length_eq_zero (by rw[<-a];rfl);subst this;exact⟨none,0,rfl,Nat.le_refl _,by omega,rfl,.inl rfl⟩
 refine⟨_,i,by rw[<-a],by rw[<-a];exact D,by unfold maxLen at t;exact t,rfl,.inr ⟨g,0,rfl,λk F=>?_⟩⟩;have l:k<d.length:=by rw[a];exact F
 let⟨x,m⟩:∃u,d[k]? = some u:=⟨_,List.getElem?_eq_getElem l⟩
 have c0:=OwG.cells j (k*2) (by omega);have n:=OwG.cells j (k*2+1) (by omega);have r:=Bu St d k 0 x m (by omega);have C:=Bu St d k 1 x m (by omega);rw[Nat.add_zero]at r;rw[r]at c0;rw[C]at n;obtain⟨o,⟨A,c,p,z,B,-,-⟩,q⟩:=E k x m;obtain⟨s,v,I,y⟩:=x;dsimp only at o p q;injection p with q1 q2 q3
 subst q1 q2 q3;rw[Nat.zero_add];exact⟨by rw[<-o];exact c0,v,y,n,z,q,B⟩
theorem Tm{w:World} {a6:Array Oper} {o:Oper}  {K:Act->World->Prop} {Q:Exit->Act->World->Prop}  (W:o.guard=none) (s x:Operand)
 (ho:o.op=.call { callee:=.builtin .append,args:=#[s,x],argTypes:=#[44,44] })
 (a:Nat) (v:Value) (E:List EdgeP) (hs:m.eval s=v) (J:OwE w a v E)
 (M c:Nat) (L:ByteArray) (A:Option Addr) (n z:Nat) (ad:LP) (tb:TypeId) (hx:m.eval x=.slice (some ⟨M,0,none⟩) 1 c) (G:Bf w M tb #[.string L,.slice A n z])
 (hl:ElS w a (.slice A n z) ad) (U:z<=9223372036854775807) (a8:E.length<=1000000) (p:a<=w.heap.size) (H:Nat) (hH:w.heap.size=H)
 (h:∀g b C,OwE C a (.slice (some ⟨g,0,none⟩) (E.length+1) b) (E++[⟨L,ad⟩])->w.grownBy C v.ownBlock->(v.ownBlock=some g\/g=H)->g<C.heap.size->(∀k,v.ownBlock=some k->a<=k/\k<w.heap.size)->K (m.put o.dst (.slice (some ⟨g,0,none⟩) (E.length+1) b)) C) :
 if Region.wanted o (yielded a6 m.tmps)=true then Oper.wp Tryz.prog o m w K Q else l:=by
 obtain⟨D,S,F,h3⟩:=J;let⟨i,hi,Y,Z,a1⟩:=info_parts Aj6;refine step_append_lies (P:=Tryz.prog) w W s x 44 ho a 50 i (.agg #[.string ⟨#[]⟩,.slice none 0 0]) 2 40 Tryz.underlying44 hi Y Z a1 rfl (by omega) v D.length (D.flatMap Ags) hs S ⟨M,0,none⟩ 1 c (Ags (L,A,n,z)) hx (by rw[St]) ?_ (Abh _) (by omega) (by unfold maxLen;omega) (by omega) p H hH ?_
 .intro j u hj;exact World.news_of_block (w:=w) (B:=M) (cs:=(Ags (L,A,n,z)).toArray) (t:=tb) (fr:=(0,0)) G j u (by simpa using hj)
 intro g b C I V T X;rw[F]at I;rw[F];refine h g b C ⟨D++[(L,A,n,z)],?_,by simp[F],λj y r=>?_⟩ V T X S.lt
 .unfold OwG;rw[List.length_append,List.flatMap_append,F];simpa using I
 have f:∀k N R,a<=k->w.heap[k]? = some (.cells N 60 R)->some k≠v.ownBlock:=by
  intro k N R _ hh e;rcases S.2 with⟨O,_⟩|⟨g',a7,ak,O,_,d,_⟩
  .rw[O]at e;simp[Value.ownBlock]at e
  rw[O]at e;have:k=g':=by simpa[Value.ownBlock] using e
  subst this;rw[hh]at d;injection d with d
  injection d with _ ht
  exact absurd ht (by decide)
 rcases Nat.lt_or_ge j D.length with q|q
 .rw[List.getElem?_append_left q]at r;rw[Agt (by omega)];let⟨e1,e2,e3⟩:=h3 j y r;exact⟨e1,e2.grown V f,e3⟩
 rcases Nat.lt_or_ge j (D.length+1) with q2|q2
 .obtain rfl:j=D.length:=by omega
  rw[List.getElem?_append_right (Nat.le_refl _),Nat.sub_self]at r;simp at r;subst r;rw[F,Abk];exact⟨rfl,hl.grown V f,U⟩
 rw[List.getElem?_eq_none (by simp;omega)]at r;cases r
theorem OwE.lower{w:World} {base':Nat}   (h:OwE w e f b) (d:base'<=e):OwE w base' f b:=by
 obtain⟨k,g,j,a⟩:=h;exact⟨k,g.lower d,j,λi x c=>⟨(a i x c).1,(a i x c).2.1.lower d,(a i x c).2.2⟩⟩
theorem OwE.keepAbove{w w':World}    (h:OwE w e f b) (g:∀k,e<=k->w'.heap[k]? = w.heap[k]?):OwE w' e f b:=by
 obtain⟨m,j,l,a⟩:=h;exact⟨m,j.keepAbove λk c _=>g k c,l,λi x d=>⟨(a i x d).1,(a i x d).2.1.keepAbove λk n o c _=>g k c,(a i x d).2.2⟩⟩
theorem OwE.edsA{w:World} {c:Nat} {A:Option Addr}  (h:OwE w e (.slice A b.length c) b):EdS w A b.length b:=by
 obtain⟨f,g,a,-,-,d⟩:=h.eds;injection a with e1
 rw[e1];exact d
def Xk (w:World) (r:List EdgeP×Int) (e:Ending) (a:World):Prop:=∃A c,e=.returned (.tuple #[.slice A r.1.length c,r.2])/\(r.1.length<=c/\OwE a w.heap.size (.slice A r.1.length c) r.1)/\c<=9223372036854775807/\EdS a A r.1.length r.1/\Be w a
theorem Xk.none_{w:World} {x:Int} (b:Be w a):Xk w ([],x) (.returned (.tuple #[.slice none 0 0,x])) a:=⟨none,0,rfl,⟨Nat.le_refl _,OwE.nil⟩,by omega,⟨rfl,.inl rfl⟩,b⟩
theorem pc7{w:World}   {c d a b h:Value} (H:Bf w e g #[f,o,c,d,a,b,h]):Cq w e 0 f/\Cq w e 1 o/\Cq w e 2 c/\Cq w e 3 d/\Cq w e 4 a/\Cq w e 5 b/\Cq w e 6 h :=
 ⟨(H.cell 0).trans rfl,(H.cell 1).trans rfl,(H.cell 2).trans rfl,(H.cell 3).trans rfl,(H.cell 4).trans rfl,(H.cell 5).trans rfl,(H.cell 6).trans rfl⟩
theorem Js (p:PieceP) (m:Int):∀k,(Fl p m k).length=k
 | 0=>rfl
 | k+1=>by rw[Fl,List.length_append,Js p m k];rfl
theorem Ah1{b:Int} (a:wI h b=true) : -b<=h/\h<=b:=by unfold wI at a;simpa using a
theorem Zn{cr:LP}   (g:0<cr.length) (a : -100<=h) (b:h<=100) (c:∀i,i<cr.length -> -1000<=(gt cr i).1/\(gt cr i).1<=1000 /\ -1000<=(gt cr i).2/\(gt cr i).2<=1000):Af9 (Iq cr h e):=by
 let⟨j,k,l,m⟩:=c _ (Nat.mod_lt e g);have d:=Yt a b j k;have f:=Yt a b l m;exact⟨d.1,d.2,f.1,f.2⟩
theorem Ah0{q:Int×Int} (h:wS q 1000=true) : -1000<=q.1/\q.1<=1000 /\ -1000<=q.2/\q.2<=1000:=by
 unfold wS wI at h;simp at h;omega
theorem Fe{w:World}    (h:Bf w e g #[f,o]):Cq w e 0 f/\Cq w e 1 o:=⟨(h.cell 0).trans rfl,(h.cell 1).trans rfl⟩
theorem Apr(vs:Array Value) (p:PieceP) (m:Int) (w:World) (hv:PcV w vs p) (h:wI m 100=true) (G:p.cr.length=p.ed.length):Calls Tryz.prog 62 #[.agg vs,m] w (Xk w (Ch p m)):=by
 have HG:=Ar (show Ch p m=if Bp (λi=>!wS (gt p.cr i) 1000) p.cr.length then ([],3) else if C7 p.ed≠0 then ([],C7 p.ed) else if C7 (Ej p m)≠0 then ([],C7 (Ej p m)) else (Ej p m,0) by
  unfold Ch;rw[if_neg (by rw[h];simp),if_neg (by simpa using G)])
 let⟨b4,b5⟩:=Ah1 h;have HW:=Ar h;have e6:=Ar G;clear h G;obtain⟨A1,c1,A2,c2,A3,c3,A4,c4,rfl,⟨v1,v2,v3⟩,⟨v4,v5,v6⟩,⟨v7,v8,v9⟩,⟨h4,h6,h7⟩⟩:=hv;go_enter Tryz.func62,Tryz.ntmps62;go_upto_region 1 with fail;refine Bq λX A hP=>?_
 let⟨p0,p1,p2,p3,p4,p5,p6⟩:=pc7 hP;have G:=e6.out;let⟨g,I⟩:=gN p.ed.length
 rw[G]at p4 v7 v9 HG;rw[I]at p1 p4 v1 v3 v7 v9 HG hP;rw[G,I]at hP;have J:=Ar (show p.cr.length=g by rw[G,I]);have a1:=Ar I;clear G I;let⟨cr,b2⟩:=gN p.cr
 rw[b2]at v9 HG J;have e0:=Ar b2;clear b2;have au:=hP;have b7:=v9.keep A;have R:=v3.keep A
 go_upto_region 6 with (go_at_call 98;refine rR (D7 m 100 _ (by omega) (by omega)) λw1 bs=>?_;rw[HW.out];let⟨q0,q1,q2,q3,q4,q5,q6⟩:=pc7 (au.keep bs))
 go_loopw [7,27] (λ_ i wr=>∃k:Nat,k<=g/\i=.int .i64 k/\Hid (Bp (λi=>!wS (gt cr i) 1000) k=false)/\Be X wr) λ_ i _=>g-(intOf i).toNat
 case atStart=>exact⟨0,Nat.zero_le _,rfl,Ar (Bp.zero _),bs⟩
 clear q0 q1 q2 q3 q4 q5 q6 p0 p1 p2 p3 p4 p5 p6;obtain⟨k,hk,rfl,hz,t⟩:=hrel;by_cases z:k<g
 .obtain⟨b0,fc,rfl,lb,hc⟩:=(b7.keep t).at_ z;let⟨e1,e2⟩:=hc k z;have HS:=Ar (show wS (gt cr k) 1000=(wI (gt cr k).1 1000&&wI (gt cr k).2 1000) from rfl);let⟨x,hx⟩:=gN ((gt cr k).1)
  let⟨y,hy⟩:=gN ((gt cr k).2)
  rw[hx]at e1 HS;rw[hy]at e2 HS;clear hc hx hy;have U:=Ar (λ(hf:wS (gt cr k) 1000=false)=>show Ch p m=([],3) by rw[HG.out,if_pos (Bp.yes (f:=λi=>!wS (gt cr i) 1000) z (by rw[hf];rfl))]);let⟨bx,b1⟩:=gN (wI x 1000)
  let⟨bY,d⟩:=gN (wI y 1000)
  rw[b1,d]at HS;have HX:=Ar b1;have HY:=Ar d;clear b1 d;cases bx with
  | false =>
    have HF:=Ar (U.out HS.out)
    go_wp2_with (go_at_call 98;refine rR (D7 x 1000 _ (by omega) (by omega)) λr c=>?_;rw[HX.out])
    go_ret2
    rw[HF.out];exact Xk.none_ (An A (An (Ao t _) c))
  | true =>
    cases bY with
    | false =>
      have HF:=Ar (U.out HS.out);go_upto_region 8 with fail;refine Bq λY d O=>?_
      let⟨z0,z1⟩:=Fe O
      go_wp2_with (first
       | (go_at_call 98;have hz:=c;refine rR (D7 y 1000 _ (by omega) (by omega)) λw3 o=>?_;rw[HY.out])
       | (go_at_call 98;refine(D7 x 1000 _ (by omega) (by omega)).mono ?_;rintro e r ⟨rfl,c⟩;rw[HX.out];have hg:=Aq c z1))
      go_ret2
      rw[HF.out];exact Xk.none_ (An A (An (An (An t d) c) o))
    | true =>
      have HP:=Bp.succ (f:=λi=>!wS (gt cr i) 1000) hz.out (by rw[HS.out];rfl);go_upto_region 8 with fail;refine Bq λY d O=>?_
      let⟨z0,z1⟩:=Fe O
      go_wp2_with (first
       | (go_at_call 98;have hz:=c;refine rR (D7 y 1000 _ (by omega) (by omega)) λw3 o=>?_;rw[HY.out])
       | (go_at_call 98;refine(D7 x 1000 _ (by omega) (by omega)).mono ?_;rintro e r ⟨rfl,c⟩;rw[HX.out];have hg:=Aq c z1))
      exact⟨⟨k+1,by omega,by go_num,Ar HP,An (An (An t d) c) o⟩,by simp[intOf];omega⟩
 obtain rfl:g=k:=by omega
 have C:=Ar (show Ch p m=if C7 p.ed≠0 then ([],C7 p.ed) else if C7 (Ej p m)≠0 then ([],C7 (Ej p m)) else (Ej p m,0) by rw[HG.out,if_neg (by rw[hz.out];simp)])
 have a7:=Ar (show ∀i,i<g -> -1000<=(gt cr i).1/\(gt cr i).1<=1000 /\ -1000<=(gt cr i).2/\(gt cr i).2<=1000 from λi hi=>by
  cases hw:wS (gt cr i) 1000 with
  | true=>exact Ah0 hw
  | false=>exact absurd (Bp.yes (f:=λi=>!wS (gt cr i) 1000) hi (by rw[hw];rfl)) (by rw[hz.out];simp))
 clear HG hz;let⟨q0,q1,q2,q3,q4,q5,q6⟩:=pc7 (au.keep t);let⟨eo,u⟩:=gN (C7 p.ed)
 have K:=Ar u;rw[u]at C;clear u;by_cases h0:eo=0
 .subst h0;have M:=Ar (show Ch p m=if C7 (Ej p m)≠0 then ([],C7 (Ej p m)) else (Ej p m,0) by rw[C.out,if_neg (by simp)]);have a6:=Ar (D5 K.out)
  have j8:g<=16/\2<=g:=by
   have:=a6.out;rw[a1.out]at this;omega
  clear C
  go_upto_region 17 with (go_at_call 99;refine rR (Gs A1 c1 g p.ed _ v1 (by omega) (R.keep t)) λw3 o=>?_;rw[K.out];let⟨t0,t1,t2,t3,t4,t5,t6⟩:=pc7 ((au.keep t).keep o))
  clear q0 q1 q2 q3 q4 q5 q6;have aw:=An t o;have ha:=b7.keep aw;have h9:=R.keep aw;have ar:∀(k:Nat) (r:World),k<=1000->Be w3 r->Calls Tryz.prog 100 #[.agg #[.slice A3 g c3,m],(k:Int)] r (Bz r (.agg #[(Iq cr m k).1,(Iq cr m k).2])):=λk r hk c=>rq A3 c3 g k cr m r (ha.keep c) (by omega) (by omega) hk b4 b5 a7.out
  have S:=Ar (show ∀k,Af9 (Iq cr m k) from λk=>Zn (by rw[J.out];omega) b4 b5 (by rw[J.out];exact a7.out));have e7:=Ar (show ∀k,k<g->plW (edg p.ed k).ln (edg p.ed k).ln.length=0 from λk hk=>(a6.out.2.2.1 k (by rw[a1.out];exact hk)).2);have e5:=Ar (show ∀k,Fl p m (k+1)=Fl p m k++[⟨(edg p.ed k).nm,He (edg p.ed k).ln (Iq cr m k) (Iq cr m (k+1))⟩] from λk=>by rw[Fl,e0.out]);have bd:=Ar (Js p m);have V:=An A aw;clear b4 b5 a7 J t o b7 R v9 v3 v6 h7 v4 v5 h4 h6;go_loopw [10,11,12,56] (λv _ _ i wr=>∃k:Nat,k<=g/\i=.int .i64 k/\OwE wr w3.heap.size v (Fl p m k)/\Be w3 wr) λ_ _ _ i _=>g-(intOf i).toNat
  case atStart=>exact⟨0,Nat.zero_le _,rfl,OwE.nil,bl0⟩
  clear t0 t1 t2 t3 t4 t5 t6;obtain⟨k,hk,rfl,Z,t⟩:=hrel;by_cases z:k<g
  .obtain⟨b0,fc,rfl,hc⟩:=(h9.keep t).at_ z;let⟨e1,Al,cl,e2,g1,g2,g3⟩:=hc k z;have Q:=e7.out k z;have B:=e5.out k;have H:=bd.out k;let⟨l,G⟩:=gN ((edg p.ed k).ln)
   let⟨nm,cd⟩:=gN ((edg p.ed k).nm)
   rw[G]at e2 g1 g3 Q B;rw[cd]at e1 B;let⟨nl,cc⟩:=gN l.length
   rw[cc]at e2 g1 g3 Q;have a8:=S.out k;have ad:=S.out (k+1);let⟨⟨cx,cy⟩,bw⟩:∃q,Iq cr m k=q:=⟨_,rfl⟩
   let⟨⟨dx,dy⟩,c6⟩:∃q,Iq cr m (k+1)=q:=⟨_,rfl⟩
   have ak:=λr h2=>ar k r (by omega) h2
   have N:=λr h2=>ar (k+1) r (by omega) h2
   rw[bw]at ak B a8;rw[c6]at N B ad;have HM:=Ar B;have bq:∀r:World,Be wr r->Calls Tryz.prog 101 #[.slice Al nl cl,.agg #[cx,cy],.agg #[dx,dy]] r (Vi r (He l (cx,cy) (dx,dy))):=λr c=>fp Al cl nl l (cx,cy) (dx,dy) r (g3.keep c) Q a8 ad
   let⟨L2,bp⟩:=gN (He l (cx,cy) (dx,dy))
   rw[bp]at bq HM;dsimp only at ak N;rw[show ((k+1:Nat):Int)=(k:Int)+1 by omega]at N;have W1:IntKind.i64.wrap ((k:Int)+1)=(k:Int)+1:=by rw[IntKind.wrap_i64];omega
   let⟨E0,bm⟩:=gN (Fl p m k)
   rw[bm]at Z H HM;have j5:E0.length<=1000:=by omega
   have hs:=Ar H;clear H;let⟨sv,cg⟩:∃sv,sv=u10:=⟨_,rfl⟩
   rw[<-cg]at Z ⊢;clear cg hc G cd cc bw c6 B bp bm a8 ad Q ar;go_upto_region 19 with fail;refine Bq λY d O=>?_
   have ek:=Z.keep d;have a:=Aw (Below.refl Y.heap.size Y);have j:=An t d;have lk:=t.size;have j9:=d.size;have j7:=O.lt;have cb:some wr.heap.size≠sv.ownBlock:=λe=>by obtain⟨xs,h1,-⟩:=Z;have:=(OwG.lt h1 _ e.symm).2;omega
   go_region_held3 (sB λW h=>Fe (O.keep h))
    (first
     | with_reducible exact Fe (O.keep a)
     | with_reducible exact Fe (O.keep (Ao a _))
     | with_reducible exact Fe ((O.keep (Ao a _)).grown c9 cb))
    ((first
      | (refine Tm rfl _ _ rfl w3.heap.size sv E0 rfl (OwE.keep ek (Ao a _)) w8.heap.size 1 nm A8 L2.length c8 L2 50 rfl (Bf.new _ _ _) ((c7.keep blA).lower b3) fa (by omega) (Ao (An j a) _).size (w8.heap.size+1) (by simp) ?_;intro g9 j0 w9 fb c9 j4 j6 cf)
      | (go_at_call 101;refine(bq _ (An d a)).mono ?_;rintro e w8 ⟨v8,rfl,b6,ey⟩;obtain⟨A8,c8,rfl,-⟩:=OwG.form2 b6;have c7:=OwS.els b6;have b3:=Nat.le_trans j.size a.size;have fa:c8<=9223372036854775807:=(by obtain⟨A',c',e',-,q',-⟩:=OwG.form2 b6;injection e' with e1 e2 e3;rw[e3];unfold maxLen at q';exact q');replace a:=An a ey)
      | (go_at_call 100;(with_reducible refine(N _ (An j a)).mono ?_);rintro e w7 ⟨rfl,ev⟩;replace a:=An a ev)
      | (go_at_call 100;(with_reducible refine(ak _ (An j a)).mono ?_);rintro e w6 ⟨rfl,er⟩;replace a:=An a er)))
   all_goals clear W1
   all_goals go_wp2_with fail
   exact⟨⟨k+1,by omega,by go_num,by rw[HM.out];exact fb,Below.grown (Ao (An j a) _) c9 (Ao (An j a) _).size λq hq=>(cf q hq).1⟩,by simp[intOf];omega⟩
  obtain rfl:g=k:=by omega
  have bc:=Ar (show Ej p m=Fl p m g by unfold Ej;rw[a1.out]);have P:=bd.out g;let⟨E,hE⟩:=gN (Fl p m g)
  rw[hE]at Z bc P;rw[bc.out]at M;obtain⟨A5,c5,rfl,i1,i2,i3⟩:=Z.eds;have HO:=Ar Z;rw[P]at i1 i3 ⊢;have D:=Ar P;let⟨eo,u⟩:=gN (C7 E)
  have T:=Ar u;rw[u]at M;have bt:=An V t;clear hE u P Z a6 K;by_cases h5:eo=0
  .subst h5;have U:=Ar (show Ch p m=(E,0) by rw[M.out,if_neg (by simp)])
   go_wp2_with (go_at_call 99;refine rR (Gs A5 c5 g E _ i1 (by omega) i3) λw5 F=>?_;rw[T.out])
   go_ret2
   rw[U.out];refine⟨A5,c5,?_,?_,i2,?_,An bt F⟩
   .rw[show ((E,(0:Int)).1).length=g from D.out];rfl
   .refine⟨by rw[show ((E,(0:Int)).1).length=g from D.out];exact i1,(HO.out.keep F).lower V.size⟩
   rw[show ((E,(0:Int)).1).length=g from D.out];exact i3.keep F
  have U:=Ar (show Ch p m=([],eo) by rw[M.out,if_pos h5]);have la:(eo != 0)=true:=by simpa using h5
  clear h5
  go_wp2_with (go_at_call 99;refine rR (Gs A5 c5 g E _ i1 (by omega) i3) λw5 F=>?_;rw[T.out])
  go_ret2
  rw[U.out];exact Xk.none_ (An bt F)
 have U:=Ar (show Ch p m=([],eo) by rw[C.out,if_pos h0]);have l5:(eo != 0)=true:=by simpa using h0
 clear h0 C
 go_wp2_with (go_at_call 99;refine rR (Gs A1 c1 g p.ed _ v1 (by omega) (R.keep t)) λw3 o=>?_;rw[K.out])
 go_ret2
 rw[U.out];exact Xk.none_ (An A (An t o))
theorem Kx{w:World} {F:Array Oper} {o:Oper}  {K:Act->World->Prop} {Q:Exit->Act->World->Prop}  (y:o.guard=none) (s x:Operand)
 (O:o.op=.call { callee:=.builtin .append,args:=#[s,x],argTypes:=#[46,46] })
 (a:Nat) (v:Value) (e:LP) (R:m.eval s=v) (n:OwS w a v e)
 (q c:Nat) (p:Int×Int) (I:TypeId) (S:m.eval x=.slice (some ⟨q,0,none⟩) 1 c) (k:Bf w q I #[p.1,p.2])
 (G:e.length<=1000000) (d:a<=w.heap.size) (H:Nat) (J:w.heap.size=H)
 (h:∀g b f,OwS f a (.slice (some ⟨g,0,none⟩) (e.length+1) b) (e++[p])->w.grownBy f v.ownBlock->(v.ownBlock=some g\/g=H)->g<f.heap.size->K (m.put o.dst (.slice (some ⟨g,0,none⟩) (e.length+1) b)) f) :
 if Region.wanted o (yielded F m.tmps)=true then Oper.wp Tryz.prog o m w K Q else l:=by
 let⟨i,M,C,D,E⟩:=info_parts Si;refine step_append_lies (P:=Tryz.prog) w y s x 46 O a 60 i (.agg #[.int .i64 0,.int .i64 0]) 2 16 Tryz.underlying46 M C D E rfl (by omega) v e.length (e.flatMap enS) R n ⟨q,0,none⟩ 1 c (enS p) S (by rw[Cm]) ?_ (Io p) (by omega) (by unfold maxLen;omega) (by omega) d H J ?_
 .intro j u N;exact World.news_of_block (w:=w) (B:=q) (cs:=(enS p).toArray) (t:=I) (fr:=(0,0)) k j u (by simpa using N)
 intro g b f A L r z;refine h g b f ?_ L r z;unfold OwS OwG;rw[List.length_append,List.flatMap_append];simpa using A
end Go.Proofs.YtlogblbfbihleaaGreat

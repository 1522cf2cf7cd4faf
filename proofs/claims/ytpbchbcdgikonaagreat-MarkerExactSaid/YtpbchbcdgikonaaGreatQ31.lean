/- Lean texts of the claim. -/
import Derived.Test.YtpbchbcdgikonaaGreatQ24
namespace Go.Proofs.YtpbchbcdgikonaaGreat
set_option linter.unusedVariables false
set_option linter.unusedSimpArgs false
set_option maxRecDepth 100000
set_option maxHeartbeats 4000000
open Go.RowKit
section
open Go.RowKit Limb
theorem lz {w:World} {b d:Nat} {A:Option Addr} {n c:Nat} (h:Cq w b (.slice A n c) d):Mq w b (.agg #[.bool false,.slice A n c]) (d:Int) :=
 ⟨_,by rw[decide_eq_false (by omega)],by rw[Int.natAbs_natCast];exact h⟩
theorem Ahm {w:World} {g g0 g1:Nat} {t t2:TypeId} {a b c d e f h k:Value} (hG:Bb w g t2 #[h,k]) (hP:Bb w g0 t #[a,b,c]) (hQ:Bb w g1 t #[d,e,f]) :
 w.cell? ⟨g,0,none⟩=some h/\w.cell? ⟨g,1,none⟩=some k/\w.cell? ⟨g0,2,none⟩=some c/\w.cell? ⟨g1,2,none⟩=some f :=
 ⟨(hG.cell 0).trans rfl,(hG.cell 1).trans rfl,(hP.cell 2).trans rfl,(hQ.cell 2).trans rfl⟩
theorem Cq.farB {w:World} {base a g:Nat} {v:Value} {t:TypeId} {b:Bool} {A:Option Addr} {n c:Nat} (h:Cq w base v a) (hB:Bb w g t #[.bool b,.slice A n c]) (b':Bool) (u:Value):Cq ((w.setCell ⟨g,0,none⟩ (.bool b')).setCell ⟨g,1,none⟩ u) base v a:=by
 obtain⟨A',c',e,h1,h2,h3,h4,h5⟩:=h;refine⟨A',c',e,h1,h2,?_,h4,h5⟩;rcases Nat.eq_zero_or_pos (lmb a).length with g0|g0
 ·exact⟨h3.1,.inl g0⟩
 ·have hne:∀q,A'=some q->q.block≠g:=by
   intro q hq e2;obtain⟨b1,o1,e3,hc⟩:=h3.at_ g0;rw[hq] at e3;injection e3 with e3
   rw[e3] at e2;dsimp only at e2;subst e2;rw[hB.cell] at hc
   have:∀(i:Nat) (x:Int),(#[Value.bool b,Value.slice A n c]:Array Value)[i]? = some (Value.int .u32 x)->False:=by
    intro i x hx
    match i with
    | 0=>simp at hx
    | 1=>simp at hx
    | i+2=>simp at hx
   exact this _ _ hc
  exact(h3.far (p:=⟨g,0,none⟩) hne _).far (p:=⟨g,1,none⟩) hne _
theorem Afz {a b m:Nat} (h1:a<2 ^ (m+m)) (h2:b<2 ^ (m+m)):a+b<2 ^ (m+m+1):=by rw[Nat.pow_succ];omega
theorem Rv (x y:Rat):(x.num*y.den).natAbs=x.num.natAbs*y.den:=by rw[Int.natAbs_mul,Int.natAbs_natCast]
theorem Aje {w:World} {ba bb:Nat} {x y:Rat} {vx vy:Value} (hX:Gr w ba vx x) (hY:Gr w bb vy y) (bx:RB 600 x) (by_:RB 600 y):Calls Tryz.prog 151 #[vx,vy] w (Ab9 w (x+y)):=by
 obtain⟨mx,dx,rfl,hx,hxd⟩:=hX;obtain⟨my,dy,rfl,hy,hyd⟩:=hY;obtain⟨Ax,nx,cx,rfl⟩:=hx.sl;obtain⟨Bx,ox,ex,rfl⟩:=hxd.sl;obtain⟨Ay,ny,cy,rfl⟩:=hy.sl;obtain⟨By,oy,ey,rfl⟩:=hyd.sl;obtain⟨sxn,sxd⟩:=Ml bx;obtain⟨syn,syd⟩:=Ml by_;obtain⟨s11,s22,s12,s21⟩:=Sz bx by_;have HX0:=x.den_nz;have HY0:=y.den_nz;obtain⟨p,hp⟩:∃p,decide (x.num<0)=p:=⟨_,rfl⟩
 obtain⟨q,hq⟩:∃q,decide (y.num<0)=q:=⟨_,rfl⟩
 have HP:=Lib.hid hp;have HQ:=Lib.hid hq;rw[hp,hq];clear hp hq;go_enter Tryz.func151,Tryz.ntmps151;go_upto_region 1 with fail;refine Ar (fun X=>Below w.heap.size w X/\Bb X w.heap.size 161 #[.bool p,.slice Ax nx cx,.slice Bx ox ex]/\Bb X (w.heap.size+1) 161 #[.bool q,.slice Ay ny cy,.slice By oy ey]/\Bb X (w.heap.size+1+1) 161 #[.bool false,.slice none 0 0,.slice none 0 0]) ⟨An (An (An (Below.refl _ _) _) _) _,Bb.alloc (Bb.alloc (Bb.new _ _ _) _) _,Bb.alloc (Bb.new2 _ _ _ _) _,Bb.new3 _ _ _ _ _⟩ ?_
 rintro X ⟨hbX,hP,hQ,hR⟩;have hne01:w.heap.size≠w.heap.size+1:=by omega
 have hne10:w.heap.size+1≠w.heap.size:=by omega
 have hne02:w.heap.size≠w.heap.size+1+1:=by omega
 have hne12:w.heap.size+1≠w.heap.size+1+1:=by omega
 have hbD:=Aw (Below.refl X.heap.size X)
 go_region_held3 (fun w'=>w'.cell? ⟨w.heap.size,0,none⟩=some (.bool p)/\w'.cell? ⟨w.heap.size,1,none⟩=some (.slice Ax nx cx)/\w'.cell? ⟨w.heap.size,2,none⟩=some (.slice Bx ox ex)/\w'.cell? ⟨w.heap.size+1,0,none⟩=some (.bool q)/\w'.cell? ⟨w.heap.size+1,1,none⟩=some (.slice Ay ny cy)/\w'.cell? ⟨w.heap.size+1,2,none⟩=some (.slice By oy ey))
  (first
   | with_reducible exact Mt (hP.keep hbD) (hQ.keep hbD)
   | with_reducible exact Mt (hP.keep hbD).set3 ((hQ.keep hbD).far3 hne10 _ _ _)
   | with_reducible exact Mt ((hP.keep hbD).set3.far3 hne01 _ _ _) ((hQ.keep hbD).far3 hne10 _ _ _).set3)
  ((first
    | (go_at_call 141;have hX1:=hb1;refine(Jm (((hyd.keep hbX).keep (Aw (Below.refl _ _))).keep hb1) syd HY0).mono ?_;rintro e w2 ⟨rfl,hb2⟩;replace hbD:=Ao hbD hb2;obtain⟨a0,a1,a2,a3,a4,a5,a6⟩:=(hP.keep hbD).triple;obtain⟨b0,b1,b2,b3,b4,b5,b6⟩:=(hQ.keep hbD).triple)
    | (go_at_call 141;refine(Jm ((hxd.keep hbX).keep (Aw (Below.refl _ _))) sxd HX0).mono ?_;rintro e w1 ⟨rfl,hb1⟩;replace hbD:=Ao hbD hb1)))
 all_goals go_wp2_with fail
 refine Ar (fun Y=>Below w.heap.size w Y/\Bb Y w.heap.size 161 #[.bool p,.slice Ax nx cx,.slice Bx ox ex]/\Bb Y (w.heap.size+1) 161 #[.bool q,.slice Ay ny cy,.slice By oy ey]/\Bb Y (w.heap.size+1+1) 161 #[.bool false,.slice none 0 0,.slice none 0 0]) ⟨Ca (Ca (Ao hbX hbD) (Nat.le_refl _) _ _ _) (by omega) _ _ _,(hP.keep hbD).set3.far3 hne01 _ _ _,((hQ.keep hbD).far3 hne10 _ _ _).set3,((hR.keep hbD).far3 hne02.symm _ _ _).far3 hne12.symm _ _ _⟩ ?_
 clear hbX hbD hP hQ hR hb1 hb2 hX1 a0 a1 a2 a3 a4 a5 a6 b0 b1 b2 b3 b4 b5 b6;rintro X ⟨hbX,hP,hQ,hR⟩;have hltR:=hR.lt;have hbD:=Aw (Below.refl X.heap.size X);have hx':=(hx.keep hbX).keep hbD;have hxd':=(hxd.keep hbX).keep hbD;have hy':=(hy.keep hbX).keep hbD;have hyd':=(hyd.keep hbX).keep hbD;have hXi:Mq X.drew ba (.agg #[.bool p,.slice Ax nx cx]) x.num:=⟨_,by rw[HP.out],hx'⟩
 have hYi:Mq X.drew bb (.agg #[.bool q,.slice Ay ny cy]) y.num:=⟨_,by rw[HQ.out],hy'⟩
 have s12':Sm (x.num*(y.den:Int)).natAbs:=by rw[Rv];exact s12
 have s21':Sm (y.num*(x.den:Int)).natAbs:=by rw[Rv];exact s21
 have s12n:Sm (x.num.natAbs*((y.den:Int)).natAbs):=by rw[Int.natAbs_natCast];exact s12
 have s21n:Sm (y.num.natAbs*((x.den:Int)).natAbs):=by rw[Int.natAbs_natCast];exact s21
 have sxd':Sm ((x.den:Int)).natAbs:=by rw[Int.natAbs_natCast];exact sxd
 have syd':Sm ((y.den:Int)).natAbs:=by rw[Int.natAbs_natCast];exact syd
 have ssum:Sm ((x.num*(y.den:Int)).natAbs+(y.num*(x.den:Int)).natAbs):=by
  rw[Rv,Rv];exact H8 (m:=600+600+1) (Afz (m:=600) (F9 (m:=600) (n:=600) bx.1 by_.2) (F9 (m:=600) (n:=600) by_.1 bx.2)) (by decide)
 have hs0:X.heap.size<=X.drew.heap.size:=Nat.le_refl _;have hsX:X.heap.size<=X.heap.size:=Nat.le_refl _;have HXi:=Lib.hid (fun (w':World) (h:Below X.heap.size X w')=>(show Mq w' ba (.agg #[.bool p,.slice Ax nx cx]) x.num from ⟨_,by rw[HP.out],(hx.keep hbX).keep h⟩))
 have HYi:=Lib.hid (fun (w':World) (h:Below X.heap.size X w')=>(show Mq w' bb (.agg #[.bool q,.slice Ay ny cy]) y.num from ⟨_,by rw[HQ.out],(hy.keep hbX).keep h⟩))
 have HXd:=Lib.hid (fun (w':World) (h:Below X.heap.size X w')=>lz ((hxd.keep hbX).keep h))
 have HYd:=Lib.hid (fun (w':World) (h:Below X.heap.size X w')=>lz ((hyd.keep hbX).keep h))
 clear hx' hxd' hy' hyd' hXi hYi;obtain⟨z,hz⟩:∃z,x.num*(y.den:Int)+y.num*(x.den:Int)=z:=⟨_,rfl⟩
 have HZ:=Lib.hid hz;have sz:Sm z.natAbs:=by rw[<-hz];exact ssum.le (Int.natAbs_add_le _ _)
 clear hz;go_cut [5] (fun v5 wx=>∃(g:Nat) (A:Option Addr) (n c:Nat),v5=.pointer (some ⟨g,0,none⟩)/\Cq wx 0 (.slice A n c) z.natAbs/\Bb wx g 159 #[.bool (decide (z<0)),.slice A n c]/\X.heap.size<=g/\Below X.heap.size X wx)
 case first =>
  go_region_held3 (fun w'=>w'.cell? ⟨w.heap.size,0,none⟩=some (.bool p)/\w'.cell? ⟨w.heap.size,1,none⟩=some (.slice Ax nx cx)/\w'.cell? ⟨w.heap.size,2,none⟩=some (.slice Bx ox ex)/\w'.cell? ⟨w.heap.size+1,0,none⟩=some (.bool q)/\w'.cell? ⟨w.heap.size+1,1,none⟩=some (.slice Ay ny cy)/\w'.cell? ⟨w.heap.size+1,2,none⟩=some (.slice By oy ey))
   (first
    | with_reducible exact Mt (hP.keep hbD) (hQ.keep hbD)
    | with_reducible exact Mt (hP.keep (An hbD _)) (hQ.keep (An hbD _))
    | with_reducible exact Mt (hP.keep (Aw (An (Below.refl _ _) _))) (hQ.keep (Aw (An (Below.refl _ _) _)))
    | with_reducible exact Mt (hP.keep (Bc (Bc hbD (p:=⟨_,0,none⟩) (by assumption) _) (p:=⟨_,1,none⟩) (by assumption) _)) (hQ.keep (Bc (Bc hbD (p:=⟨_,0,none⟩) (by assumption) _) (p:=⟨_,1,none⟩) (by assumption) _)))
   ((first
     | (go_at_call 179;have hX4:=h4;(first|refine(Akk (h2.keep hc2) h4 s12' s21' ssum).mono ?_|refine(Akk (h2.keep (An hc2 _)) (h4.keep (An (Below.refl _ _) _)) s12' s21' ssum).mono ?_);rintro e w5 ⟨v5,rfl,h5,hb5⟩;rw[HZ.out] at h5;obtain⟨m5,rfl,hm5⟩:=h5;obtain⟨A5,n5,c5,rfl⟩:=hm5.sl;(first|(replace hbD:=Ao hbD hb5)|(replace hbD:=Ao (An hbD _) hb5)|(replace hbD:=Ao (Aw (An (Below.refl _ _) _)) hb5));have hs5:=hbD.size;(first|(replace kB:=Bb.keep kB hb5;obtain⟨k1,k2,k3,k4,k5⟩:=Bb.pair kB)|(have kB:=Bb.keep (Bb.new _ _ _) hb5;obtain⟨k1,k2,k3,k4,k5⟩:=Bb.pair kB)|(have kB:=Bb.keep (Bb.drew (Bb.new _ _ _)) hb5;obtain⟨k1,k2,k3,k4,k5⟩:=Bb.pair kB)|skip))
     | (go_at_call 176;have hX2:=h2;(first|refine(Adv (HYi.out _ hbD) (HXd.out _ hbD) syn sxd' s21n).mono ?_|refine(Adv (HYi.out _ (An hbD _)) (HXd.out _ (An hbD _)) syn sxd' s21n).mono ?_);rintro e w4 ⟨v4,rfl,h4,hb4⟩;(first|(replace hbD:=Ao hbD hb4)|(replace hbD:=Ao (An hbD _) hb4)|(replace hbD:=Ao (Aw (An (Below.refl _ _) _)) hb4));have hs4:=hbD.size;(first|(replace hc2:=Ao hc2 hb4)|(replace hc2:=Ao (An hc2 _) hb4)|(replace hc2:=Ao (Aw (An (Below.refl _ _) _)) hb4));(first|(replace kB:=Bb.keep kB hb4;obtain⟨k1,k2,k3,k4,k5⟩:=Bb.pair kB)|(have kB:=Bb.keep (Bb.new _ _ _) hb4;obtain⟨k1,k2,k3,k4,k5⟩:=Bb.pair kB)|(have kB:=Bb.keep (Bb.drew (Bb.new _ _ _)) hb4;obtain⟨k1,k2,k3,k4,k5⟩:=Bb.pair kB)|skip))
     | (go_at_call 180;have hX2:=h2;refine(Aim _ _ _ _).mono ?_;rintro e w3 ⟨rfl,hb3⟩;(first|(replace hbD:=Ao hbD hb3)|(replace hbD:=Ao (An hbD _) hb3)|(replace hbD:=Ao (Aw (An (Below.refl _ _) _)) hb3));have hs3:=hbD.size;(first|(replace hc2:=Ao hc2 hb3)|(replace hc2:=Ao (An hc2 _) hb3)|(replace hc2:=Ao (Aw (An (Below.refl _ _) _)) hb3));(first|(replace kB:=Bb.keep kB hb3;obtain⟨k1,k2,k3,k4,k5⟩:=Bb.pair kB)|(have kB:=Bb.keep (Bb.new _ _ _) hb3;obtain⟨k1,k2,k3,k4,k5⟩:=Bb.pair kB)|(have kB:=Bb.keep (Bb.drew (Bb.new _ _ _)) hb3;obtain⟨k1,k2,k3,k4,k5⟩:=Bb.pair kB)|skip))
     | (go_at_call 176;(first|refine(Adv (HXi.out _ hbD) (HYd.out _ hbD) sxn syd' s12n).mono ?_|refine(Adv (HXi.out _ (An hbD _)) (HYd.out _ (An hbD _)) sxn syd' s12n).mono ?_);rintro e w2 ⟨v2,rfl,h2,hb2⟩;have hc2:=Below.refl w2.heap.size w2;(first|(replace hbD:=Ao hbD hb2)|(replace hbD:=Ao (An hbD _) hb2)|(replace hbD:=Ao (Aw (An (Below.refl _ _) _)) hb2));have hs2:=hbD.size;(first|(replace kB:=Bb.keep kB hb2;obtain⟨k1,k2,k3,k4,k5⟩:=Bb.pair kB)|(have kB:=Bb.keep (Bb.new _ _ _) hb2;obtain⟨k1,k2,k3,k4,k5⟩:=Bb.pair kB)|(have kB:=Bb.keep (Bb.drew (Bb.new _ _ _)) hb2;obtain⟨k1,k2,k3,k4,k5⟩:=Bb.pair kB)|skip))
     | (go_at_call 180;refine(Aim _ _ _ _).mono ?_;rintro e w1 ⟨rfl,hb1⟩;(first|(replace hbD:=Ao hbD hb1)|(replace hbD:=Ao (An hbD _) hb1)|(replace hbD:=Ao (Aw (An (Below.refl _ _) _)) hb1));have hs1:=hbD.size;(first|(replace kB:=Bb.keep kB hb1;obtain⟨k1,k2,k3,k4,k5⟩:=Bb.pair kB)|(have kB:=Bb.keep (Bb.new _ _ _) hb1;obtain⟨k1,k2,k3,k4,k5⟩:=Bb.pair kB)|(have kB:=Bb.keep (Bb.drew (Bb.new _ _ _)) hb1;obtain⟨k1,k2,k3,k4,k5⟩:=Bb.pair kB)|skip))))
  all_goals go_wp2_with fail
  all_goals go_meet
  all_goals (first
   | exact⟨w5.heap.size,A5,n5,c5,rfl,(hm5.lower (Nat.zero_le _)).keep (Below.alloc (Below.refl _ _) (Nat.le_refl _) _),Bb.new _ _ _,hs5,An hbD _⟩
   | exact⟨_,A5,n5,c5,rfl,(hm5.lower (Nat.zero_le _)).farB kB _ _,(kB.set_ 0 _).set_ 1 _,by assumption,Bc (Bc hbD (p:=⟨_,0,none⟩) (by assumption) _) (p:=⟨_,1,none⟩) (by assumption) _⟩)
 case rest =>
  obtain⟨g,A5,n5,c5,rfl,hm5,hG,hgX,hbC⟩:=hcut;have hd0:x.den*y.den≠0:=Nat.mul_ne_zero HX0 HY0;have EQ:Hid (mkRat z (x.den*y.den)=x+y):=Lib.hid (by rw[<-HZ.out];exact(Rat.add_def' x y).symm)
  have hP2:=hP.keep hbC;have hQ2:=hQ.keep hbC;have hR2:=hR.keep hbC;have hlR:w.heap.size+1+1<X.heap.size:=hltR;have hneG:g≠w.heap.size+1+1:=by omega
  have hbE:=Ao hbX hbC;have hxe:=hxd.keep hbE;have hye:=hyd.keep hbE;have hZi:Mq wc 0 (.agg #[.bool (decide (z<0)),.slice A5 n5 c5]) z:=⟨_,rfl,hm5⟩;have hbF:=Aw (Below.refl wc.heap.size wc);have hxe':=hxe.keep hbF;have hye':=hye.keep hbF;have hZi':=hZi.keep hbF;clear hbD hP hQ hR hbC hbX HXi HYi HXd HYd hs0 hsX;go_wp2_with fail
  go_region_held3 (fun w'=>w'.cell? ⟨g,0,none⟩=some (.bool (decide (z<0)))/\w'.cell? ⟨g,1,none⟩=some (.slice A5 n5 c5)/\w'.cell? ⟨w.heap.size,2,none⟩=some (.slice Bx ox ex)/\w'.cell? ⟨w.heap.size+1,2,none⟩=some (.slice By oy ey))
   (first
    | with_reducible exact Ahm (hG.keep hbF) (hP2.keep hbF) (hQ2.keep hbF)
    | with_reducible exact Ahm ((hG.keep hbF).far3 hneG _ _ _) ((hP2.keep hbF).far3 hne02 _ _ _) ((hQ2.keep hbF).far3 hne12 _ _ _))
   ((first
     | (go_at_call 144;have hX2:=h6;refine(U1 (hZi'.keep hb6) h6 sz s22 hd0).mono ?_;rintro e w7 ⟨v7,rfl,h7,hb7⟩;rw[EQ.out] at h7;obtain⟨m7,d7,rfl,hm7,hd7⟩:=h7;obtain⟨A7,n7,c7,rfl⟩:=hm7.sl;obtain⟨B7,o7,e7,rfl⟩:=hd7.sl;replace hbF:=Ao hbF hb7;obtain⟨r0,r1,r2,f0,f1,f2,lt⟩:=(hR2.keep hbF).triple)
     | (go_at_call 143;refine(Afa hxe' hye' sxd syd).mono ?_;rintro e w6 ⟨v6,rfl,h6,hb6⟩;replace hbF:=Ao hbF hb6)))
  all_goals go_wp2_with fail
  obtain⟨s0,s1,s2,HR⟩:=Im (w:=w) (hR2.keep hbF) hm7 hd7 (Nat.lt_of_lt_of_le hR2.lt (Ao (Aw (Below.refl wc.heap.size wc)) hb6).size) (by omega) (Ao hbE hbF)
  exact bodyPost_ret (v:=.agg #[.bool (decide ((x+y).num<0)),.slice A7 n7 c7,.slice B7 o7 e7]) (by simp[results,Tryz.results151,go_sem,s0,s1,s2]) rfl HR
end
section
open Go.RowKit Limb
theorem Af8 (x:Int):sg (!(decide (x<0))) x.natAbs = -x:=by unfold sg;by_cases h:x<0<;>simp[h]<;>omega
theorem fu {w:World} {g:Nat} {t:TypeId} {a b c:Value} (hP:Bb w g t #[a,b,c]):w.cell? ⟨g,0,none⟩=some a/\w.cell? ⟨g,1,none⟩=some b/\w.cell? ⟨g,2,none⟩=some c:=⟨(hP.cell 0).trans rfl,(hP.cell 1).trans rfl,(hP.cell 2).trans rfl⟩
theorem Ak5 {w:World} {ba:Nat} {x:Rat} {vx:Value} (hX:Gr w ba vx x) (bx:RB 600 x):Calls Tryz.prog 152 #[vx] w (Ab9 w (-x)):=by
 obtain⟨mx,dx,rfl,hx,hxd⟩:=hX;obtain⟨Ax,nx,cx,rfl⟩:=hx.sl;obtain⟨Bx,ox,ex,rfl⟩:=hxd.sl;obtain⟨sxn,sxd⟩:=Ml bx;have HX0:=x.den_nz;have HS:=Lib.hid (Af8 x.num);obtain⟨z,hz⟩:∃z,-x=z:=⟨_,rfl⟩
 have EQ:Hid (mkRat (-x.num) x.den=z):=Lib.hid (by rw[<-Rat.neg_mkRat,Rat.mkRat_self,hz])
 rw[hz];clear hz;obtain⟨p,hp⟩:∃p,decide (x.num<0)=p:=⟨_,rfl⟩
 rw[hp] at HS;rw[hp];have sxn':Sm (-x.num).natAbs:=by rw[Int.natAbs_neg];exact sxn
 clear hp;go_enter Tryz.func152,Tryz.ntmps152;go_upto_region 1 with fail;refine Ar (fun X=>Below w.heap.size w X/\Bb X w.heap.size 161 #[.bool p,.slice Ax nx cx,.slice Bx ox ex]/\Bb X (w.heap.size+1) 161 #[.bool false,.slice none 0 0,.slice none 0 0]) ⟨An (An (Below.refl _ _) _) _,Bb.alloc (Bb.new _ _ _) _,Bb.new2 _ _ _ _⟩ ?_
 rintro X ⟨hbX,hP,hR⟩;have hne01:w.heap.size≠w.heap.size+1:=by omega
 have hne10:w.heap.size+1≠w.heap.size:=by omega
 obtain⟨p0,p1,p2,-,-,-,-⟩:=hP.triple
 go_upto_region 2 with (go_at_call 141;refine(Jm (hxd.keep hbX) sxd HX0).mono ?_;rintro e w1 ⟨rfl,hb1⟩;obtain⟨a0,a1,a2,a3,a4,a5,a6⟩:=(hP.keep hb1).triple)
 refine Ar (fun Y=>Below w.heap.size w Y/\Bb Y w.heap.size 161 #[.bool p,.slice Ax nx cx,.slice Bx ox ex]/\Bb Y (w.heap.size+1) 161 #[.bool false,.slice none 0 0,.slice none 0 0]) ⟨Ca (Ao hbX hb1) (Nat.le_refl _) _ _ _,(hP.keep hb1).set3,(hR.keep hb1).far3 hne10 _ _ _⟩ ?_
 clear hbX hb1 hP hR p0 p1 p2 a0 a1 a2 a3 a4 a5 a6;rintro X ⟨hbX,hP,hR⟩;have hltR:=hR.lt;have hbD:=Aw (Below.refl X.heap.size X);have hx':=(hx.keep hbX).keep hbD;have hxd':=(hxd.keep hbX).keep hbD
 go_region_held3 (fun w'=>w'.cell? ⟨w.heap.size,0,none⟩=some (.bool p)/\w'.cell? ⟨w.heap.size,1,none⟩=some (.slice Ax nx cx)/\w'.cell? ⟨w.heap.size,2,none⟩=some (.slice Bx ox ex))
  (first
   | with_reducible exact fu (hP.keep hbD)
   | with_reducible exact fu ((hP.keep hbD).far3 hne01 _ _ _))
  ((first
    | (go_at_call 144;have hX2:=h2;refine(U1 h2 (hxd'.keep hb2) sxn' sxd HX0).mono ?_;rintro e w3 ⟨v3,rfl,h3,hb3⟩;rw[EQ.out] at h3;obtain⟨m3,d3,rfl,hm3,hd3⟩:=h3;obtain⟨A3,n3,c3,rfl⟩:=hm3.sl;obtain⟨B3,o3,e3,rfl⟩:=hd3.sl;replace hbD:=Ao hbD hb3;obtain⟨r0,r1,r2,f0,f1,f2,lt⟩:=(hR.keep hbD).triple)
    | (go_at_call 181;refine(Alj p hx' sxn).mono ?_;rintro e w2 ⟨v2,rfl,h2,hb2⟩;rw[HS.out] at h2;replace hbD:=Ao hbD hb2)))
 all_goals go_wp2_with fail
 obtain⟨s0,s1,s2,HR⟩:=Im (w:=w) (hR.keep hbD) hm3 hd3 (Nat.lt_of_lt_of_le hltR (Ao (Aw (Below.refl X.heap.size X)) hb2).size) (by omega) (Ao hbX hbD)
 exact bodyPost_ret (v:=.agg #[.bool (decide (z.num<0)),.slice A3 n3 c3,.slice B3 o3 e3]) (by simp[results,Tryz.results152,go_sem,s0,s1,s2]) rfl HR
theorem Ajd {w:World} {ba bb:Nat} {x y:Rat} {vx vy:Value} (hX:Gr w ba vx x) (hY:Gr w bb vy y) (bx:RB 600 x) (by_:RB 600 y):Calls Tryz.prog 117 #[vx,vy] w (Ab9 w (x-y)):=by
 obtain⟨mx,dx,rfl,hx,hxd⟩:=hX;obtain⟨my,dy,rfl,hy,hyd⟩:=hY;obtain⟨Ax,nx,cx,rfl⟩:=hx.sl;obtain⟨Bx,ox,ex,rfl⟩:=hxd.sl;obtain⟨Ay,ny,cy,rfl⟩:=hy.sl;obtain⟨By,oy,ey,rfl⟩:=hyd.sl;obtain⟨sxn,sxd⟩:=Ml bx;obtain⟨syn,syd⟩:=Ml by_;obtain⟨s11,s22,s12,s21⟩:=Sz bx by_;have HX0:=x.den_nz;have HY0:=y.den_nz;obtain⟨p,hp⟩:∃p,decide (x.num<0)=p:=⟨_,rfl⟩
 obtain⟨q,hq⟩:∃q,decide (y.num<0)=q:=⟨_,rfl⟩
 have HP:=Lib.hid hp;have HQ:=Lib.hid hq;rw[hp,hq];clear hp hq;go_enter Tryz.func117,Tryz.ntmps117;go_upto_region 1 with fail;refine Ar (fun X=>Below w.heap.size w X/\Bb X w.heap.size 161 #[.bool p,.slice Ax nx cx,.slice Bx ox ex]/\Bb X (w.heap.size+1) 161 #[.bool q,.slice Ay ny cy,.slice By oy ey]/\Bb X (w.heap.size+1+1) 161 #[.bool false,.slice none 0 0,.slice none 0 0]) ⟨An (An (An (Below.refl _ _) _) _) _,Bb.alloc (Bb.alloc (Bb.new _ _ _) _) _,Bb.alloc (Bb.new2 _ _ _ _) _,Bb.new3 _ _ _ _ _⟩ ?_
 rintro X ⟨hbX,hP,hQ,hR⟩;have hne01:w.heap.size≠w.heap.size+1:=by omega
 have hne10:w.heap.size+1≠w.heap.size:=by omega
 have hne02:w.heap.size≠w.heap.size+1+1:=by omega
 have hne12:w.heap.size+1≠w.heap.size+1+1:=by omega
 have hltR:=hR.lt;obtain⟨z,hz⟩:∃z,x-y=z:=⟨_,rfl⟩
 have EQ:Hid (x + -y=z):=Lib.hid (by rw[<-hz];exact(Rat.sub_eq_add_neg x y).symm)
 have HZZ:=Lib.hid hz;clear hz;have bny:RB 600 (-y):=by_.neg;have hbD:=Aw (Below.refl X.heap.size X);have hXr:Gr X.drew ba (.agg #[.bool p,.slice Ax nx cx,.slice Bx ox ex]) x:=⟨_,_,by rw[HP.out],(hx.keep hbX).keep hbD,(hxd.keep hbX).keep hbD⟩
 have hYr:Gr X.drew bb (.agg #[.bool q,.slice Ay ny cy,.slice By oy ey]) y:=⟨_,_,by rw[HQ.out],(hy.keep hbX).keep hbD,(hyd.keep hbX).keep hbD⟩
 go_region_held3 (fun w'=>w'.cell? ⟨w.heap.size,0,none⟩=some (.bool p)/\w'.cell? ⟨w.heap.size,1,none⟩=some (.slice Ax nx cx)/\w'.cell? ⟨w.heap.size,2,none⟩=some (.slice Bx ox ex)/\w'.cell? ⟨w.heap.size+1,0,none⟩=some (.bool q)/\w'.cell? ⟨w.heap.size+1,1,none⟩=some (.slice Ay ny cy)/\w'.cell? ⟨w.heap.size+1,2,none⟩=some (.slice By oy ey))
  (first
   | with_reducible exact Mt (hP.keep hbD) (hQ.keep hbD)
   | with_reducible exact Mt ((hP.keep hbD).far3 hne02 _ _ _) ((hQ.keep hbD).far3 hne12 _ _ _))
  ((first
    | (go_at_call 151;have hX2:=h2;refine(Aje (hXr.keep hb2) h2 bx bny).mono ?_;rintro e w3 ⟨v3,rfl,h3,hb3⟩;rw[EQ.out] at h3;obtain⟨m3,d3,rfl,hm3,hd3⟩:=h3;obtain⟨A3,n3,c3,rfl⟩:=hm3.sl;obtain⟨B3,o3,e3,rfl⟩:=hd3.sl;replace hbD:=Ao hbD hb3;obtain⟨r0,r1,r2,f0,f1,f2,lt⟩:=(hR.keep hbD).triple)
    | (go_at_call 152;refine(Ak5 hYr by_).mono ?_;rintro e w2 ⟨v2,rfl,h2,hb2⟩;replace hbD:=Ao hbD hb2)))
 all_goals go_wp2_with fail
 obtain⟨s0,s1,s2,HR⟩:=Im (w:=w) (hR.keep hbD) hm3 hd3 (Nat.lt_of_lt_of_le hltR (Ao (Aw (Below.refl X.heap.size X)) hb2).size) (by omega) (Ao hbX hbD)
 exact bodyPost_ret (v:=.agg #[.bool (decide (z.num<0)),.slice A3 n3 c3,.slice B3 o3 e3]) (by simp[results,Tryz.results117,go_sem,s0,s1,s2]) rfl (by rw[HZZ.out];exact HR)
end
section
open Go.RowKit Limb
theorem Agb {xn yn:Int} (d:Nat) (h:yn≠0):sg (!(decide (xn<0) == decide (yn<0))) (xn.natAbs*d)=xn*yn.sign*d:=by
 unfold sg;rw[Int.natCast_mul];rcases Int.lt_or_gt_of_ne h with h2|h2
 ·rw[Int.sign_eq_neg_one_of_neg h2]
  by_cases h1:xn<0
  ·rw[show ((xn.natAbs:Nat):Int) = -xn by omega];simp[h1,h2,Int.neg_mul]
  ·rw[show ((xn.natAbs:Nat):Int)=xn by omega];simp[h1,h2,Int.neg_mul]
 ·rw[Int.sign_eq_one_of_pos h2]
  have h4:¬yn<0:=by omega
  by_cases h1:xn<0
  ·rw[show ((xn.natAbs:Nat):Int) = -xn by omega];simp[h1,h4,Int.neg_mul]
  ·rw[show ((xn.natAbs:Nat):Int)=xn by omega];simp[h1,h4]
theorem Wo {w:World} {g g0 g1:Nat} {t t2:TypeId} {a b c d e f h k:Value} (hG:Bb w g t2 #[h,k]) (hP:Bb w g0 t #[a,b,c]) (hQ:Bb w g1 t #[d,e,f]) :
 w.cell? ⟨g,0,none⟩=some h/\w.cell? ⟨g,1,none⟩=some k/\w.cell? ⟨g0,2,none⟩=some c/\w.cell? ⟨g1,1,none⟩=some e :=
 ⟨(hG.cell 0).trans rfl,(hG.cell 1).trans rfl,(hP.cell 2).trans rfl,(hQ.cell 1).trans rfl⟩
theorem Akf {w:World} {ba bb:Nat} {x y:Rat} {vx vy:Value} (hX:Gr w ba vx x) (hY:Gr w bb vy y) (bx:RB 600 x) (by_:RB 600 y) (hy0:y.num≠0):Calls Tryz.prog 112 #[vx,vy] w fun e w'=>∃v,e=.returned (.tuple #[v,.bool true])/\Gr w' w.heap.size v (x / y)/\Below w.heap.size w w':=by
 obtain⟨z,hz⟩:∃z,x / y=z:=⟨_,rfl⟩
 have EQ0:Hid (mkRat (x.num*y.num.sign*y.den) (x.den*y.num.natAbs)=z):=Lib.hid (by rw[<-hz];exact(Ah3 x y hy0).symm)
 have HSD:=Lib.hid (Agb (xn:=x.num) (yn:=y.num) y.den hy0);rw[hz];clear hz;obtain⟨mx,dx,rfl,hx,hxd⟩:=hX;obtain⟨my,dy,rfl,hy,hyd⟩:=hY;obtain⟨Ax,nx,cx,rfl⟩:=hx.sl;obtain⟨Bx,ox,ex,rfl⟩:=hxd.sl;obtain⟨Ay,ny,cy,rfl⟩:=hy.sl;obtain⟨By,oy,ey,rfl⟩:=hyd.sl;obtain⟨sxn,sxd⟩:=Ml bx;obtain⟨syn,syd⟩:=Ml by_;obtain⟨s11,s22,s12,s21⟩:=Sz bx by_;have HX0:=x.den_nz;have HY0:=y.den_nz;obtain⟨p,hp⟩:∃p,decide (x.num<0)=p:=⟨_,rfl⟩
 obtain⟨q,hq⟩:∃q,decide (y.num<0)=q:=⟨_,rfl⟩
 have HP:=Lib.hid hp;have HQ:=Lib.hid hq;rw[hp,hq];clear hp hq;go_enter Tryz.func112,Tryz.ntmps112;go_upto_region 1 with fail;refine Ar (fun X=>Below w.heap.size w X/\Bb X w.heap.size 161 #[.bool p,.slice Ax nx cx,.slice Bx ox ex]/\Bb X (w.heap.size+1) 161 #[.bool q,.slice Ay ny cy,.slice By oy ey]/\Bb X (w.heap.size+1+1) 161 #[.bool false,.slice none 0 0,.slice none 0 0]) ⟨An (An (An (Below.refl _ _) _) _) _,Bb.alloc (Bb.alloc (Bb.new _ _ _) _) _,Bb.alloc (Bb.new2 _ _ _ _) _,Bb.new3 _ _ _ _ _⟩ ?_
 rintro X ⟨hbX,hP,hQ,hR⟩;have hne01:w.heap.size≠w.heap.size+1:=by omega
 have hne10:w.heap.size+1≠w.heap.size:=by omega
 have hne02:w.heap.size≠w.heap.size+1+1:=by omega
 have hne12:w.heap.size+1≠w.heap.size+1+1:=by omega
 have hbD:=Aw (Below.refl X.heap.size X)
 go_region_held3 (fun w'=>w'.cell? ⟨w.heap.size,0,none⟩=some (.bool p)/\w'.cell? ⟨w.heap.size,1,none⟩=some (.slice Ax nx cx)/\w'.cell? ⟨w.heap.size,2,none⟩=some (.slice Bx ox ex)/\w'.cell? ⟨w.heap.size+1,0,none⟩=some (.bool q)/\w'.cell? ⟨w.heap.size+1,1,none⟩=some (.slice Ay ny cy)/\w'.cell? ⟨w.heap.size+1,2,none⟩=some (.slice By oy ey))
  (first
   | with_reducible exact Mt (hP.keep hbD) (hQ.keep hbD)
   | with_reducible exact Mt (hP.keep hbD).set3 ((hQ.keep hbD).far3 hne10 _ _ _)
   | with_reducible exact Mt ((hP.keep hbD).set3.far3 hne01 _ _ _) ((hQ.keep hbD).far3 hne10 _ _ _).set3)
  ((first
    | (go_at_call 141;have hX1:=hb1;refine(Jm (((hyd.keep hbX).keep (Aw (Below.refl _ _))).keep hb1) syd HY0).mono ?_;rintro e w2 ⟨rfl,hb2⟩;replace hbD:=Ao hbD hb2;obtain⟨a0,a1,a2,a3,a4,a5,a6⟩:=(hP.keep hbD).triple;obtain⟨b0,b1,b2,b3,b4,b5,b6⟩:=(hQ.keep hbD).triple)
    | (go_at_call 141;refine(Jm ((hxd.keep hbX).keep (Aw (Below.refl _ _))) sxd HX0).mono ?_;rintro e w1 ⟨rfl,hb1⟩;replace hbD:=Ao hbD hb1)))
 all_goals go_upto_region 2 with fail
 refine Ar (fun Y=>Below w.heap.size w Y/\Bb Y w.heap.size 161 #[.bool p,.slice Ax nx cx,.slice Bx ox ex]/\Bb Y (w.heap.size+1) 161 #[.bool q,.slice Ay ny cy,.slice By oy ey]/\Bb Y (w.heap.size+1+1) 161 #[.bool false,.slice none 0 0,.slice none 0 0]) ⟨Ca (Ca (Ao hbX hbD) (Nat.le_refl _) _ _ _) (by omega) _ _ _,(hP.keep hbD).set3.far3 hne01 _ _ _,((hQ.keep hbD).far3 hne10 _ _ _).set3,((hR.keep hbD).far3 hne02.symm _ _ _).far3 hne12.symm _ _ _⟩ ?_
 clear hbX hbD hP hQ hR hb1 hb2 hX1 a0 a1 a2 a3 a4 a5 a6 b0 b1 b2 b3 b4 b5 b6;rintro X ⟨hbX,hP,hQ,hR⟩;have hltR:=hR.lt;have hbD:=Aw (Below.refl X.heap.size X);have hx':=(hx.keep hbX).keep hbD;have hxd':=(hxd.keep hbX).keep hbD;have hy':=(hy.keep hbX).keep hbD;have hyd':=(hyd.keep hbX).keep hbD;have hXi:Mq X.drew ba (.agg #[.bool p,.slice Ax nx cx]) x.num:=⟨_,by rw[HP.out],hx'⟩
 have hYi:Mq X.drew bb (.agg #[.bool q,.slice Ay ny cy]) y.num:=⟨_,by rw[HQ.out],hy'⟩
 have EQ:Hid (mkRat (sg (!(p == q)) (x.num.natAbs*y.den)) (x.den*y.num.natAbs)=z):=Lib.hid (by
  have:=HSD.out;rw[HP.out,HQ.out] at this;rw[this];exact EQ0.out)
 have hyz:Hid (decide (y.num.natAbs=0)=false):=Lib.hid (by simpa using hy0)
 obtain⟨q0,q1,q2,-,-,-,-⟩:=hQ.triple
 go_upto_region 4 with (go_at_call 142;refine(vq (hy.keep hbX) syn).mono ?_;rintro e w3 ⟨rfl,hb3⟩;rw[hyz.out])
 refine Ar (fun Y=>Below w.heap.size w Y/\Bb Y w.heap.size 161 #[.bool p,.slice Ax nx cx,.slice Bx ox ex]/\Bb Y (w.heap.size+1) 161 #[.bool q,.slice Ay ny cy,.slice By oy ey]/\Bb Y (w.heap.size+1+1) 161 #[.bool false,.slice none 0 0,.slice none 0 0]) ⟨Ao hbX hb3,hP.keep hb3,hQ.keep hb3,hR.keep hb3⟩ ?_
 clear hbX hbD hP hQ hR hltR q0 q1 q2 hx' hy' hxd' hyd' hXi hYi hb3;rintro X ⟨hbX,hP,hQ,hR⟩;have hltR:=hR.lt;have hbD:=Aw (Below.refl X.heap.size X);have hsX:X.heap.size<=X.heap.size:=Nat.le_refl _;have HXn:=Lib.hid (fun (w':World) (h:Below X.heap.size X w')=>(hx.keep hbX).keep h)
 have HYd:=Lib.hid (fun (w':World) (h:Below X.heap.size X w')=>(hyd.keep hbX).keep h)
 have hbA:Below X.heap.size X (X.alloc (.cells #[.bool false,.slice none 0 0] 159)).drew:=Aw (An (Below.refl _ _) _);go_cut [6] (fun v6 wx=>∃(g:Nat) (A:Option Addr) (n c:Nat),v6=.pointer (some ⟨g,0,none⟩)/\Cq wx 0 (.slice A n c) (x.num.natAbs*y.den)/\Bb wx g 159 #[.bool (!(p == q)),.slice A n c]/\X.heap.size<=g/\Below X.heap.size X wx)
 case first =>
  go_region_held3 (fun w'=>w'.cell? ⟨w.heap.size,0,none⟩=some (.bool p)/\w'.cell? ⟨w.heap.size,1,none⟩=some (.slice Ax nx cx)/\w'.cell? ⟨w.heap.size,2,none⟩=some (.slice Bx ox ex)/\w'.cell? ⟨w.heap.size+1,0,none⟩=some (.bool q)/\w'.cell? ⟨w.heap.size+1,1,none⟩=some (.slice Ay ny cy)/\w'.cell? ⟨w.heap.size+1,2,none⟩=some (.slice By oy ey))
   (first
    | with_reducible exact Mt (hP.keep hbD) (hQ.keep hbD)
    | with_reducible exact Mt (hP.keep (An hbD _)) (hQ.keep (An hbD _))
    | with_reducible exact Mt (hP.keep hbA) (hQ.keep hbA)
    | with_reducible exact Mt (hP.keep (Bc (Bc hbD (p:=⟨_,0,none⟩) (by assumption) _) (p:=⟨_,1,none⟩) (by assumption) _)) (hQ.keep (Bc (Bc hbD (p:=⟨_,0,none⟩) (by assumption) _) (p:=⟨_,1,none⟩) (by assumption) _)))
   ((go_at_call 143;(first|refine(Afa (HXn.out _ hbD) (HYd.out _ hbD) sxn syd).mono ?_|refine(Afa (HXn.out _ hbA) (HYd.out _ hbA) sxn syd).mono ?_);rintro e w4 ⟨v4,rfl,hm4,hb4⟩;obtain⟨A4,n4,c4,rfl⟩:=hm4.sl;(first|(replace hbD:=Ao hbD hb4)|(replace hbD:=Ao (An hbD _) hb4)|(replace hbD:=Ao (Aw (An (Below.refl _ _) _)) hb4));have hs4:=hbD.size;(first|(have kB:=Bb.keep (Bb.new _ _ _) hb4;obtain⟨k1,k2,k3,k4,k5⟩:=Bb.pair kB)|(have kB:=Bb.keep (Bb.drew (Bb.new _ _ _)) hb4;obtain⟨k1,k2,k3,k4,k5⟩:=Bb.pair kB)|skip)))
  all_goals go_wp2_with fail
  all_goals go_meet
  all_goals (first
   | exact⟨w4.heap.size,A4,n4,c4,rfl,(hm4.lower (Nat.zero_le _)).keep (Below.alloc (Below.refl _ _) (Nat.le_refl _) _),Bb.new _ _ _,hs4,An hbD _⟩
   | exact⟨_,A4,n4,c4,rfl,(hm4.lower (Nat.zero_le _)).farB kB _ _,(kB.set_ 0 _).set_ 1 _,by assumption,Bc (Bc hbD (p:=⟨_,0,none⟩) (by assumption) _) (p:=⟨_,1,none⟩) (by assumption) _⟩)
 case rest =>
  obtain⟨g,A5,n5,c5,rfl,hm5,hG,hgX,hbC⟩:=hcut;have hya:0<y.num.natAbs:=by omega
  have hd0:x.den*y.num.natAbs≠0:=Nat.mul_ne_zero HX0 (by omega)
  have s21':Sm (x.den*y.num.natAbs):=by rw[Nat.mul_comm];exact s21
  have hP2:=hP.keep hbC;have hQ2:=hQ.keep hbC;have hR2:=hR.keep hbC;have hneG:g≠w.heap.size+1+1:=by omega
  have hbE:=Ao hbX hbC;have hbF:=Aw (Below.refl wc.heap.size wc);have hxe':=(hxd.keep hbE).keep hbF;have hye':=(hy.keep hbE).keep hbF;have hmz:=hm5.keep hbF;clear hbD hP hQ hR hbC hbX HXn HYd hsX hbA hya;go_wp2_with fail
  go_region_held3 (fun w'=>w'.cell? ⟨g,0,none⟩=some (.bool (!(p == q)))/\w'.cell? ⟨g,1,none⟩=some (.slice A5 n5 c5)/\w'.cell? ⟨w.heap.size,2,none⟩=some (.slice Bx ox ex)/\w'.cell? ⟨w.heap.size+1,1,none⟩=some (.slice Ay ny cy))
   (first
    | with_reducible exact Wo (hG.keep hbF) (hP2.keep hbF) (hQ2.keep hbF)
    | with_reducible exact Wo ((hG.keep hbF).far3 hneG _ _ _) ((hP2.keep hbF).far3 hne02 _ _ _) ((hQ2.keep hbF).far3 hne12 _ _ _))
   ((first
     | (go_at_call 144;have hX2:=h6;refine(Qr _ (hmz.keep hb6) h6 s12 s21' hd0).mono ?_;rintro e w7 ⟨v7,rfl,h7,hb7⟩;rw[EQ.out] at h7;obtain⟨m7,d7,rfl,hm7,hd7⟩:=h7;obtain⟨A7,n7,c7,rfl⟩:=hm7.sl;obtain⟨B7,o7,e7,rfl⟩:=hd7.sl;replace hbF:=Ao hbF hb7;obtain⟨r0,r1,r2,f0,f1,f2,lt⟩:=(hR2.keep hbF).triple)
     | (go_at_call 143;refine(Afa hxe' hye' sxd syn).mono ?_;rintro e w6 ⟨v6,rfl,h6,hb6⟩;replace hbF:=Ao hbF hb6)))
  all_goals go_wp2_with fail
  obtain⟨s0,s1,s2,v9,hv9,HR,HB⟩:=Im (w:=w) (hR2.keep hbF) hm7 hd7 (Nat.lt_of_lt_of_le hR2.lt (Ao (Aw (Below.refl wc.heap.size wc)) hb6).size) (by omega) (Ao hbE hbF)
  injection hv9 with hv9
  exact bodyPost_ret (v:=.tuple #[.agg #[.bool (decide (z.num<0)),.slice A7 n7 c7,.slice B7 o7 e7],.bool true]) (by simp[results,Tryz.results112,go_sem,s0,s1,s2]) rfl ⟨_,rfl,by rw[hv9];exact HR,HB⟩
end
section
open Go.RowKit Limb
theorem sj {a b m:Nat} (h1:a<2 ^ m) (h2:b<2 ^ m):a+b<2 ^ (m+1):=by rw[Nat.pow_succ];omega
theorem si {a b m:Nat} (h1:a<2 ^ m) (h2:b<2 ^ m):a+a+b<2 ^ (m+2):=by rw[Nat.pow_succ,Nat.pow_succ];omega
theorem Age {w:World} {ba bb:Nat} {x y:Rat} {vx vy:Value} (hX:Gr w ba vx x) (hY:Gr w bb vy y) (bx:RB 600 x) (by_:RB 600 y) (hy0:y.num=0):Calls Tryz.prog 112 #[vx,vy] w fun e w'=>e=.returned (.tuple #[.agg #[.bool false,.slice none 0 0,.slice none 0 0],.bool false])/\Below w.heap.size w w':=by
 obtain⟨mx,dx,rfl,hx,hxd⟩:=hX;obtain⟨my,dy,rfl,hy,hyd⟩:=hY;obtain⟨Ax,nx,cx,rfl⟩:=hx.sl;obtain⟨Bx,ox,ex,rfl⟩:=hxd.sl;obtain⟨Ay,ny,cy,rfl⟩:=hy.sl;obtain⟨By,oy,ey,rfl⟩:=hyd.sl;obtain⟨sxn,sxd⟩:=Ml bx;obtain⟨syn,syd⟩:=Ml by_;obtain⟨s11,s22,s12,s21⟩:=Sz bx by_;have HX0:=x.den_nz;have HY0:=y.den_nz;obtain⟨p,hp⟩:∃p,decide (x.num<0)=p:=⟨_,rfl⟩
 obtain⟨q,hq⟩:∃q,decide (y.num<0)=q:=⟨_,rfl⟩
 have HP:=Lib.hid hp;have HQ:=Lib.hid hq;rw[hp,hq];clear hp hq;go_enter Tryz.func112,Tryz.ntmps112;go_upto_region 1 with fail;refine Ar (fun X=>Below w.heap.size w X/\Bb X w.heap.size 161 #[.bool p,.slice Ax nx cx,.slice Bx ox ex]/\Bb X (w.heap.size+1) 161 #[.bool q,.slice Ay ny cy,.slice By oy ey]/\Bb X (w.heap.size+1+1) 161 #[.bool false,.slice none 0 0,.slice none 0 0]) ⟨An (An (An (Below.refl _ _) _) _) _,Bb.alloc (Bb.alloc (Bb.new _ _ _) _) _,Bb.alloc (Bb.new2 _ _ _ _) _,Bb.new3 _ _ _ _ _⟩ ?_
 rintro X ⟨hbX,hP,hQ,hR⟩;have hne01:w.heap.size≠w.heap.size+1:=by omega
 have hne10:w.heap.size+1≠w.heap.size:=by omega
 have hne02:w.heap.size≠w.heap.size+1+1:=by omega
 have hne12:w.heap.size+1≠w.heap.size+1+1:=by omega
 have hbD:=Aw (Below.refl X.heap.size X)
 go_region_held3 (fun w'=>w'.cell? ⟨w.heap.size,0,none⟩=some (.bool p)/\w'.cell? ⟨w.heap.size,1,none⟩=some (.slice Ax nx cx)/\w'.cell? ⟨w.heap.size,2,none⟩=some (.slice Bx ox ex)/\w'.cell? ⟨w.heap.size+1,0,none⟩=some (.bool q)/\w'.cell? ⟨w.heap.size+1,1,none⟩=some (.slice Ay ny cy)/\w'.cell? ⟨w.heap.size+1,2,none⟩=some (.slice By oy ey))
  (first
   | with_reducible exact Mt (hP.keep hbD) (hQ.keep hbD)
   | with_reducible exact Mt (hP.keep hbD).set3 ((hQ.keep hbD).far3 hne10 _ _ _)
   | with_reducible exact Mt ((hP.keep hbD).set3.far3 hne01 _ _ _) ((hQ.keep hbD).far3 hne10 _ _ _).set3)
  ((first
    | (go_at_call 141;have hX1:=hb1;refine(Jm (((hyd.keep hbX).keep (Aw (Below.refl _ _))).keep hb1) syd HY0).mono ?_;rintro e w2 ⟨rfl,hb2⟩;replace hbD:=Ao hbD hb2;obtain⟨a0,a1,a2,a3,a4,a5,a6⟩:=(hP.keep hbD).triple;obtain⟨b0,b1,b2,b3,b4,b5,b6⟩:=(hQ.keep hbD).triple)
    | (go_at_call 141;refine(Jm ((hxd.keep hbX).keep (Aw (Below.refl _ _))) sxd HX0).mono ?_;rintro e w1 ⟨rfl,hb1⟩;replace hbD:=Ao hbD hb1)))
 all_goals go_upto_region 2 with fail
 refine Ar (fun Y=>Below w.heap.size w Y/\Bb Y w.heap.size 161 #[.bool p,.slice Ax nx cx,.slice Bx ox ex]/\Bb Y (w.heap.size+1) 161 #[.bool q,.slice Ay ny cy,.slice By oy ey]/\Bb Y (w.heap.size+1+1) 161 #[.bool false,.slice none 0 0,.slice none 0 0]) ⟨Ca (Ca (Ao hbX hbD) (Nat.le_refl _) _ _ _) (by omega) _ _ _,(hP.keep hbD).set3.far3 hne01 _ _ _,((hQ.keep hbD).far3 hne10 _ _ _).set3,((hR.keep hbD).far3 hne02.symm _ _ _).far3 hne12.symm _ _ _⟩ ?_
 clear hbX hbD hP hQ hR hb1 hb2 hX1 a0 a1 a2 a3 a4 a5 a6 b0 b1 b2 b3 b4 b5 b6;rintro X ⟨hbX,hP,hQ,hR⟩;have hltR:=hR.lt;have hbD:=Aw (Below.refl X.heap.size X);have hx':=(hx.keep hbX).keep hbD;have hxd':=(hxd.keep hbX).keep hbD;have hy':=(hy.keep hbX).keep hbD;have hyd':=(hyd.keep hbX).keep hbD;have hXi:Mq X.drew ba (.agg #[.bool p,.slice Ax nx cx]) x.num:=⟨_,by rw[HP.out],hx'⟩
 have hYi:Mq X.drew bb (.agg #[.bool q,.slice Ay ny cy]) y.num:=⟨_,by rw[HQ.out],hy'⟩
 have hyz:Hid (decide (y.num.natAbs=0)=true):=Lib.hid (by simpa using hy0)
 obtain⟨q0,q1,q2,-,-,-,-⟩:=hQ.triple;clear hy0
 go_wp2_with (go_at_call 142;refine(vq (hy.keep hbX) syn).mono ?_;rintro e w3 ⟨rfl,hb3⟩;rw[hyz.out];obtain⟨r0,r1,r2,f0,f1,f2,lt⟩:=(hR.keep hb3).triple)
 obtain⟨s0,s1,s2,-,-,-,-⟩:=((hR.keep hb3).set3 (u':=.bool false) (v':=.slice none 0 0) (x':=.slice none 0 0)).triple;exact bodyPost_ret (v:=.tuple #[.agg #[.bool false,.slice none 0 0,.slice none 0 0],.bool false]) (by simp[results,Tryz.results112,go_sem,s0,s1,s2]) rfl ⟨rfl,Ca (Ao hbX hb3) (by omega) _ _ _⟩
theorem Agc {w:World} {ba:Nat} {x:Rat} {vx:Value} (hX:Gr w ba vx x) (bx:RB 600 x):Calls Tryz.prog 150 #[vx] w (Aat w (rnd x.num x.den)):=by
 obtain⟨mx,dx,rfl,hx,hxd⟩:=hX;obtain⟨Ax,nx,cx,rfl⟩:=hx.sl;obtain⟨Bx,ox,ex,rfl⟩:=hxd.sl;obtain⟨sxn,sxd⟩:=Ml bx;have HX0:=x.den_nz;have s1:Sm (x.num.natAbs+x.num.natAbs):=H8 (m:=600+1) (sj (m:=600) bx.1 bx.1) (by decide)
 have s3:Sm (x.den+x.den):=H8 (m:=600+1) (sj (m:=600) bx.2 bx.2) (by decide)
 have s2:Sm (x.num.natAbs+x.num.natAbs+x.den):=H8 (m:=600+2) (si (m:=600) bx.1 bx.2) (by decide)
 obtain⟨p,hp⟩:∃p,decide (x.num<0)=p:=⟨_,rfl⟩
 obtain⟨z,hz⟩:∃z,rnd x.num x.den=z:=⟨_,rfl⟩
 have EQ:Hid (sg p ((x.num.natAbs+x.num.natAbs+x.den) / (x.den+x.den))=z):=Lib.hid (by
  rw[<-hz,<-hp];unfold rnd sg;rw[<-Nat.two_mul,<-Nat.two_mul];by_cases h:x.num<0<;>simp[h])
 rw[hp,hz];clear hp hz;go_enter Tryz.func150,Tryz.ntmps150;go_upto_region 1 with fail;refine Ar (fun X=>Below w.heap.size w X/\Bb X w.heap.size 161 #[.bool p,.slice Ax nx cx,.slice Bx ox ex]/\Bb X (w.heap.size+1) 159 #[.bool false,.slice none 0 0]) ⟨An (An (Below.refl _ _) _) _,Bb.alloc (Bb.new _ _ _) _,Bb.new2 _ _ _ _⟩ ?_
 rintro X ⟨hbX,hP,hR⟩;have hne10:w.heap.size+1≠w.heap.size:=by omega
 obtain⟨p0,p1,p2,-,-,-,-⟩:=hP.triple
 go_upto_region 2 with (go_at_call 141;refine(Jm (hxd.keep hbX) sxd HX0).mono ?_;rintro e w1 ⟨rfl,hb1⟩;obtain⟨a0,a1,a2,a3,a4,a5,a6⟩:=(hP.keep hb1).triple)
 refine Ar (fun Y=>Below w.heap.size w Y/\Bb Y w.heap.size 161 #[.bool p,.slice Ax nx cx,.slice Bx ox ex]/\Bb Y (w.heap.size+1) 159 #[.bool false,.slice none 0 0]) ⟨Ca (Ao hbX hb1) (Nat.le_refl _) _ _ _,(hP.keep hb1).set3,(hR.keep hb1).far3 hne10 _ _ _⟩ ?_
 clear hbX hb1 hP hR p0 p1 p2 a0 a1 a2 a3 a4 a5 a6;rintro X ⟨hbX,hP,hR⟩;have hltR:=hR.lt;obtain⟨p0,p1,p2,-,-,-,-⟩:=hP.triple
 go_upto_region 3 with (go_at_call 178;refine(Aij (hx.keep hbX) (hx.keep hbX) sxn sxn).mono ?_;rintro e w1 ⟨v1,rfl,h1,hb1⟩)
 have hP1:=hP.keep hb1;have hb1':=Ao hbX hb1;have hbD:=Aw (Below.refl w1.heap.size w1);have hxd':=(hxd.keep hb1').keep hbD;have h1':=h1.keep hbD;have hdp:0<x.den+x.den:=by omega
 go_region_held3 (fun w'=>w'.cell? ⟨w.heap.size,0,none⟩=some (.bool p)/\w'.cell? ⟨w.heap.size,1,none⟩=some (.slice Ax nx cx)/\w'.cell? ⟨w.heap.size,2,none⟩=some (.slice Bx ox ex))
  (with_reducible exact fu (hP1.keep hbD))
  ((first
    | (go_at_call 174;have hX2:=h3;refine(Aii (h2.keep hb3) h3 s2 s3 hdp).mono ?_;rintro e w4 ⟨v4,r4,rfl,h4,h5,hb4⟩;obtain⟨A4,n4,c4,rfl⟩:=h4.sl;replace hbD:=Ao hbD hb4)
    | (go_at_call 178;have hX2:=h2;refine(Aij (hxd'.keep hb2) (hxd'.keep hb2) sxd sxd).mono ?_;rintro e w3 ⟨v3,rfl,h3,hb3⟩;replace hbD:=Ao hbD hb3)
    | (go_at_call 178;refine(Aij h1' hxd' s1 sxd).mono ?_;rintro e w2 ⟨v2,rfl,h2,hb2⟩;replace hbD:=Ao hbD hb2)))
 have hP4:=hP1.keep hbD;have hR4:=(hR.keep hb1).keep hbD;obtain⟨p0',p1',p2',-,-,-,-⟩:=hP4.triple;have s4:Sm ((x.num.natAbs+x.num.natAbs+x.den) / (x.den+x.den)):=s2.le (Nat.div_le_self _ _);all_goals go_wp2_with (go_at_call 175;refine(Vp p h4 s4).mono ?_;rintro e w5 ⟨v5,rfl,h6,hb5⟩;rw[EQ.out] at h6;obtain⟨m5,rfl,hm5⟩:=h6;obtain⟨A5,n5,c5,rfl⟩:=hm5.sl;obtain⟨r0,r1,f0,f1,lt⟩:=(hR4.keep hb5).pair)
 have hbZ:=Ao (Ao hb1' hbD) hb5;obtain⟨s0,s1,HR⟩:=Hr (w:=w) (hR4.keep hb5) hm5 (Nat.lt_of_lt_of_le hltR (Ao hb1 hbD).size) (by omega) hbZ
 exact bodyPost_ret (v:=.agg #[.bool (decide (z<0)),.slice A5 n5 c5]) (by simp[results,Tryz.results150,go_sem,s0,s1]) rfl HR
end
end Go.Proofs.YtpbchbcdgikonaaGreat

/- Lean texts of the claim. -/
import Derived.Test.YtpbchbcdgikonaaGreatQ38
import Derived.Test.YtpbchbcdgikonaaGreatQ37
namespace Go.Proofs.YtpbchbcdgikonaaGreat
set_option linter.unusedVariables false
set_option linter.unusedSimpArgs false
set_option maxRecDepth 100000
set_option maxHeartbeats 4000000
open Go.RowKit
section
open Go.RowKit Limb
def vk (s:Seg):Array Value:=#[.int .i64 s.fx,.int .i64 s.fy,.int .i64 s.tx,.int .i64 s.ty,.int .i64 s.wd]
def Ts (z:Int):Prop := -2097152<=z/\z<=2097152
def Seg.ok (s:Seg):Prop:=Ts s.fx/\Ts s.fy/\Ts s.tx/\Ts s.ty/\0<=s.wd/\s.wd<=1000
theorem Pk {z:Int} (h:Ts z):RB 22 (z:Rat):=RB.of (m:=22) (by have e:(2:Nat) ^ 22=4194304:=(by decide);rw[e];unfold Ts at h;omega) (by decide)
theorem c8 {w:World} {g g':Nat} {t:TypeId} {a1 a2 a3 a4 a5 b1 b2 b3 b4 b5:Value} (h:Bb w g t #[a1,a2,a3,a4,a5]) (k:Bb w g' t #[b1,b2,b3,b4,b5]):w.cell? ⟨g,0,none⟩=some a1/\w.cell? ⟨g,1,none⟩=some a2/\w.cell? ⟨g,2,none⟩=some a3/\w.cell? ⟨g,3,none⟩=some a4/\w.cell? ⟨g',0,none⟩=some b1/\w.cell? ⟨g',1,none⟩=some b2/\w.cell? ⟨g',2,none⟩=some b3/\w.cell? ⟨g',3,none⟩=some b4 :=
 ⟨(h.cell 0).trans rfl,(h.cell 1).trans rfl,(h.cell 2).trans rfl,(h.cell 3).trans rfl,(k.cell 0).trans rfl,(k.cell 1).trans rfl,(k.cell 2).trans rfl,(k.cell 3).trans rfl⟩
theorem Rq {w:World} {g:Nat} {t:TypeId} {a b c d e:Value} (h:Bb w g t #[a,b,c,d,e]):w.cell? ⟨g,0,none⟩=some a/\w.cell? ⟨g,1,none⟩=some b/\w.cell? ⟨g,2,none⟩=some c/\w.cell? ⟨g,3,none⟩=some d/\w.cell? ⟨g,4,none⟩=some e :=
 ⟨(h.cell 0).trans rfl,(h.cell 1).trans rfl,(h.cell 2).trans rfl,(h.cell 3).trans rfl,(h.cell 4).trans rfl⟩
theorem Cq.farB6 {w:World} {base a g:Nat} {v:Value} {t:TypeId} {cs:Array Value} (h:Cq w base v a) (hB:Bb w g t cs) (hcs:∀(i:Nat) (x:Int),cs[i]? ≠ some (Value.int .u32 x)) (u1 u2 u3 u4 u5 u6:Value):Cq ((((((w.setCell ⟨g,0,none⟩ u1).setCell ⟨g,1,none⟩ u2).setCell ⟨g,2,none⟩ u3).setCell ⟨g,3,none⟩ u4).setCell ⟨g,4,none⟩ u5).setCell ⟨g,5,none⟩ u6) base v a:=by
 obtain⟨A',c',e',h1,h2,h3,h4,h5⟩:=h;refine⟨A',c',e',h1,h2,?_,h4,h5⟩;rcases Nat.eq_zero_or_pos (lmb a).length with g0|g0
 ·exact⟨h3.1,.inl g0⟩
 ·have hne:∀q,A'=some q->q.block≠g:=by
   intro q hq e2;obtain⟨b1,o1,e3,hc⟩:=h3.at_ g0;rw[hq] at e3;injection e3 with e3
   rw[e3] at e2;dsimp only at e2;subst e2;rw[hB.cell] at hc;exact hcs _ _ hc
  exact(((((h3.far (p:=⟨g,0,none⟩) hne _).far (p:=⟨g,1,none⟩) hne _).far (p:=⟨g,2,none⟩) hne _).far (p:=⟨g,3,none⟩) hne _).far (p:=⟨g,4,none⟩) hne _).far (p:=⟨g,5,none⟩) hne _
theorem Ka {w:World} {g:Nat} {t:TypeId} {a b:Value} (h:Bb w g t #[a,b]):w.cell? ⟨g,0,none⟩=some a/\w.cell? ⟨g,1,none⟩=some b:=⟨(h.cell 0).trans rfl,(h.cell 1).trans rfl⟩
theorem Ahk {w:World} {g:Nat} {t:TypeId} {cs:Array Value} (h:Bb w g t cs):w.frozen? ⟨g,0,none⟩=false/\w.frozen? ⟨g,1,none⟩=false/\g<w.heap.size:=⟨h.frozen 0,h.frozen 1,h.lt⟩
theorem Bb.set2 {w:World} {g:Nat} {t:TypeId} {a b a' b':Value} (h:Bb w g t #[a,b]):Bb ((w.setCell ⟨g,0,none⟩ a').setCell ⟨g,1,none⟩ b') g t #[a',b']:=(h.set_ 0 a').set_ 1 b'
theorem Wn {a w:World} (h:Below a.heap.size a w) {g:Nat} (hg:a.heap.size<=g) (u v:Value):Below a.heap.size a ((w.setCell ⟨g,0,none⟩ u).setCell ⟨g,1,none⟩ v):=Bc (Bc h (p:=⟨g,0,none⟩) hg u) (p:=⟨g,1,none⟩) hg v
theorem c62 {w:World} {g g':Nat} {t t':TypeId} {a b c d e f u v:Value} (h:Bb w g t #[a,b,c,d,e,f]) (k:Bb w g' t' #[u,v]):w.cell? ⟨g,0,none⟩=some a/\w.cell? ⟨g,1,none⟩=some b/\w.cell? ⟨g,2,none⟩=some c/\w.cell? ⟨g,3,none⟩=some d/\w.cell? ⟨g,4,none⟩=some e/\w.cell? ⟨g,5,none⟩=some f/\w.cell? ⟨g',0,none⟩=some u/\w.cell? ⟨g',1,none⟩=some v :=
 ⟨(h.cell 0).trans rfl,(h.cell 1).trans rfl,(h.cell 2).trans rfl,(h.cell 3).trans rfl,(h.cell 4).trans rfl,(h.cell 5).trans rfl,(k.cell 0).trans rfl,(k.cell 1).trans rfl⟩
theorem Abd {w:World} {base:Nat} {x y:Rat} {m d m' d':Value} (h1:Cq w base m x.num.natAbs) (h2:Cq w base d x.den) (h3:Cq w base m' y.num.natAbs) (h4:Cq w base d' y.den):PtV w base (.agg #[.bool (decide (x.num<0)),m,d,.bool (decide (y.num<0)),m',d']) x y:=⟨_,_,_,_,rfl,h1,h2,h3,h4⟩
theorem tt (i:Nat) (x:Int):(#[.bool false,.slice none 0 0,.slice none 0 0,.bool false,.slice none 0 0,.slice none 0 0]:Array Value)[i]? ≠ some (Value.int .u32 x):=by
 intro hx
 match i with
 | 0=>simp at hx
 | 1=>simp at hx
 | 2=>simp at hx
 | 3=>simp at hx
 | 4=>simp at hx
 | 5=>simp at hx
 | i+6=>simp at hx
theorem V7 (a b:Seg):(((a.tx:Int):Rat)-(a.fx:Rat))*((b.ty:Rat)-(b.fy:Rat))-((a.ty:Rat)-(a.fy:Rat))*((b.tx:Rat)-(b.fx:Rat))=((crD a b:Int):Rat):=by
 unfold crD;simp only[Rat.intCast_sub,Rat.intCast_mul]
theorem Aeo (a b:Seg):(((b.fx:Int):Rat)-(a.fx:Rat))*((b.ty:Rat)-(b.fy:Rat))-((b.fy:Rat)-(a.fy:Rat))*((b.tx:Rat)-(b.fx:Rat))=((crN a b:Int):Rat):=by
 unfold crN;simp only[Rat.intCast_sub,Rat.intCast_mul]
theorem Nc {w:World} {x y a b:Int}:SpS (w.alloc (.cells #[.int .i64 x,.int .i64 y,.int .i64 a,.int .i64 b] 49)) (some ⟨w.heap.size,0,none⟩) 2 [(x,y),(a,b)]:=by
 have h:=Bb.new w 49 #[.int .i64 x,.int .i64 y,.int .i64 a,.int .i64 b];refine⟨rfl,.inr ⟨_,0,rfl,fun k hk=>?_⟩⟩
 match k,hk with
 | 0,_=>exact⟨(h.cell 0).trans rfl,(h.cell 1).trans rfl⟩
 | 1,_=>exact⟨(h.cell 2).trans rfl,(h.cell 3).trans rfl⟩
theorem xq {w:World} {x y:Int}:SpS (w.alloc (.cells #[.int .i64 x,.int .i64 y] 49)) (some ⟨w.heap.size,0,none⟩) 1 [(x,y)]:=by
 have h:=Bb.new w 49 #[.int .i64 x,.int .i64 y];refine⟨rfl,.inr ⟨_,0,rfl,fun k hk=>?_⟩⟩
 match k,hk with
 | 0,_=>exact⟨(h.cell 0).trans rfl,(h.cell 1).trans rfl⟩
def th (w:World) (l:List (Int×Int)) (e:Ending) (w':World):Prop:=∃g,e=.returned (.slice (some ⟨g,0,none⟩) l.length l.length)/\w.heap.size<=g/\SpS w' (some ⟨g,0,none⟩) l.length l/\Below w.heap.size w w'
theorem Aeq (v:Int×Int) (a b:Seg) (w:World) (hv1:Ts v.1) (hv2:Ts v.2) (ha:a.ok) (hb:b.ok) (hD:crD a b=0):Calls Tryz.prog 53 #[.agg #[.int .i64 v.1,.int .i64 v.2],.agg (vk a),.agg (vk b)] w (th w (Ds v a b)):=by
 obtain⟨vx,vy⟩:=v;dsimp only at hv1 hv2;have HW:=Lib.hid (show Ds (vx,vy) a b=[(a.tx,a.ty),(b.fx,b.fy)] by unfold Ds;rw[if_pos hD])
 have hDr:((((a.tx:Int):Rat)-(a.fx:Rat))*((b.ty:Rat)-(b.fy:Rat))-((a.ty:Rat)-(a.fy:Rat))*((b.tx:Rat)-(b.fx:Rat))).num=0:=by rw[V7];exact hD
 obtain⟨a1,a2,a3,a4,a5,a6⟩:=ha;obtain⟨b1,b2,b3,b4,b5,b6⟩:=hb;have r1:=Pk a1;have r2:=Pk a2;have r3:=Pk a3;have r4:=Pk a4;have r5:=Pk b1;have r6:=Pk b2;have r7:=Pk b3;have r8:=Pk b4;unfold Ts at *
 unfold vk;go_enter Tryz.func53,Tryz.ntmps53;go_upto_region 1 with fail;refine Ar (fun X=>Below w.heap.size w X/\Bb X w.heap.size 49 #[.int .i64 vx,.int .i64 vy]/\Bb X (w.heap.size+1) 130 #[.int .i64 a.fx,.int .i64 a.fy,.int .i64 a.tx,.int .i64 a.ty,.int .i64 a.wd]/\Bb X (w.heap.size+1+1) 130 #[.int .i64 b.fx,.int .i64 b.fy,.int .i64 b.tx,.int .i64 b.ty,.int .i64 b.wd]) ⟨An (An (An (Below.refl _ _) _) _) _,Bb.alloc (Bb.alloc (Bb.new _ _ _) _) _,Bb.alloc (Bb.new2 _ _ _ _) _,Bb.new3 _ _ _ _ _⟩ ?_
 rintro X ⟨hbX,hP,hQ,hR⟩;have hbD:=Aw (Below.refl X.heap.size X);have hsX:X.heap.size<=X.heap.size:=Nat.le_refl _;have hbA:Below X.heap.size X (X.alloc (.cells #[.bool false,.slice none 0 0,.slice none 0 0,.bool false,.slice none 0 0,.slice none 0 0] 163)).drew:=Aw (An (Below.refl _ _) _);go_cut [7,8] (fun v7 v8 wx'=>∃g:Nat,v7=.pointer (some ⟨g,0,none⟩)/\v8=.int .i64 10/\Below X.heap.size X wx')
 case first =>
  go_region_held3 (fun w'=>w'.cell? ⟨w.heap.size+1,0,none⟩=some (.int .i64 a.fx)/\w'.cell? ⟨w.heap.size+1,1,none⟩=some (.int .i64 a.fy)/\w'.cell? ⟨w.heap.size+1,2,none⟩=some (.int .i64 a.tx)/\w'.cell? ⟨w.heap.size+1,3,none⟩=some (.int .i64 a.ty)/\w'.cell? ⟨w.heap.size+1+1,0,none⟩=some (.int .i64 b.fx)/\w'.cell? ⟨w.heap.size+1+1,1,none⟩=some (.int .i64 b.fy)/\w'.cell? ⟨w.heap.size+1+1,2,none⟩=some (.int .i64 b.tx)/\w'.cell? ⟨w.heap.size+1+1,3,none⟩=some (.int .i64 b.ty))
   (first
    | with_reducible exact c8 (hQ.keep hbD) (hR.keep hbD)
    | with_reducible exact c8 (hQ.keep (An hbD _)) (hR.keep (An hbD _))
    | with_reducible exact c8 (hQ.keep hbA) (hR.keep hbA)
    | with_reducible exact c8 (hQ.keep (I6 hbD (by assumption) _ _ _ _ _ _)) (hR.keep (I6 hbD (by assumption) _ _ _ _ _ _)))
   ((first
     | (go_at_call 77;have hx4:=h4;(first|refine(Abf h1 h2 h3 h4 r1 r2 r3 r4 r5 r6 r7 r8 hDr).mono ?_|refine(Abf (PtV.keep h1 (An (Below.refl _ _) _)) (PtV.keep h2 (An (Below.refl _ _) _)) (PtV.keep h3 (An (Below.refl _ _) _)) (PtV.keep h4 (An (Below.refl _ _) _)) r1 r2 r3 r4 r5 r6 r7 r8 hDr).mono ?_);rintro e w5 ⟨rfl,hb5⟩;(first|(replace hbD:=Ao hbD hb5)|(replace hbD:=Ao (An hbD _) hb5)|(replace hbD:=Ao hbA hb5));have hs5:=hbD.size;(first|(replace kB:=Bb.keep kB hb5;obtain⟨j0,j1,j2,j3,j4,j5⟩:=cells6 kB;obtain⟨k0,k1,k2,k3,k4,k5,k6⟩:=Mh kB)|(have kB:=Bb.keep (Bb.new _ _ _) hb5;obtain⟨j0,j1,j2,j3,j4,j5⟩:=cells6 kB;obtain⟨k0,k1,k2,k3,k4,k5,k6⟩:=Mh kB)|skip))
     | (go_at_call 78;have hx:=h3;refine(Dx _ _ _ (by omega) (by omega) (by omega) (by omega)).mono ?_;rintro e w4 ⟨v4,rfl,h4,hb4⟩;replace h4:=PtV.lower h4 (Nat.zero_le _);(first|(replace h1:=PtV.keep h1 hb4)|(replace h1:=PtV.keep (PtV.keep h1 (An (Below.refl _ _) _)) hb4));(first|(replace h2:=PtV.keep h2 hb4)|(replace h2:=PtV.keep (PtV.keep h2 (An (Below.refl _ _) _)) hb4));(first|(replace h3:=PtV.keep h3 hb4)|(replace h3:=PtV.keep (PtV.keep h3 (An (Below.refl _ _) _)) hb4));(first|(replace hbD:=Ao hbD hb4)|(replace hbD:=Ao (An hbD _) hb4)|(replace hbD:=Ao hbA hb4));have hs4:=hbD.size;(first|(replace kB:=Bb.keep kB hb4;obtain⟨j0,j1,j2,j3,j4,j5⟩:=cells6 kB;obtain⟨k0,k1,k2,k3,k4,k5,k6⟩:=Mh kB)|(have kB:=Bb.keep (Bb.new _ _ _) hb4;obtain⟨j0,j1,j2,j3,j4,j5⟩:=cells6 kB;obtain⟨k0,k1,k2,k3,k4,k5,k6⟩:=Mh kB)|skip))
     | (go_at_call 78;have hx:=h2;refine(Dx _ _ _ (by omega) (by omega) (by omega) (by omega)).mono ?_;rintro e w3 ⟨v3,rfl,h3,hb3⟩;replace h3:=PtV.lower h3 (Nat.zero_le _);(first|(replace h1:=PtV.keep h1 hb3)|(replace h1:=PtV.keep (PtV.keep h1 (An (Below.refl _ _) _)) hb3));(first|(replace h2:=PtV.keep h2 hb3)|(replace h2:=PtV.keep (PtV.keep h2 (An (Below.refl _ _) _)) hb3));(first|(replace hbD:=Ao hbD hb3)|(replace hbD:=Ao (An hbD _) hb3)|(replace hbD:=Ao hbA hb3));have hs3:=hbD.size;(first|(replace kB:=Bb.keep kB hb3;obtain⟨j0,j1,j2,j3,j4,j5⟩:=cells6 kB;obtain⟨k0,k1,k2,k3,k4,k5,k6⟩:=Mh kB)|(have kB:=Bb.keep (Bb.new _ _ _) hb3;obtain⟨j0,j1,j2,j3,j4,j5⟩:=cells6 kB;obtain⟨k0,k1,k2,k3,k4,k5,k6⟩:=Mh kB)|skip))
     | (go_at_call 78;have hx:=h1;refine(Dx _ _ _ (by omega) (by omega) (by omega) (by omega)).mono ?_;rintro e w2 ⟨v2,rfl,h2,hb2⟩;replace h2:=PtV.lower h2 (Nat.zero_le _);(first|(replace h1:=PtV.keep h1 hb2)|(replace h1:=PtV.keep (PtV.keep h1 (An (Below.refl _ _) _)) hb2));(first|(replace hbD:=Ao hbD hb2)|(replace hbD:=Ao (An hbD _) hb2)|(replace hbD:=Ao hbA hb2));have hs2:=hbD.size;(first|(replace kB:=Bb.keep kB hb2;obtain⟨j0,j1,j2,j3,j4,j5⟩:=cells6 kB;obtain⟨k0,k1,k2,k3,k4,k5,k6⟩:=Mh kB)|(have kB:=Bb.keep (Bb.new _ _ _) hb2;obtain⟨j0,j1,j2,j3,j4,j5⟩:=cells6 kB;obtain⟨k0,k1,k2,k3,k4,k5,k6⟩:=Mh kB)|skip))
     | (go_at_call 78;refine(Dx _ _ _ (by omega) (by omega) (by omega) (by omega)).mono ?_;rintro e w1 ⟨v1,rfl,h1,hb1⟩;replace h1:=PtV.lower h1 (Nat.zero_le _);(first|(replace hbD:=Ao hbD hb1)|(replace hbD:=Ao (An hbD _) hb1)|(replace hbD:=Ao hbA hb1));have hs1:=hbD.size;(first|(have kB:Bb w1 X.heap.size 163 #[.bool false,.slice none 0 0,.slice none 0 0,.bool false,.slice none 0 0,.slice none 0 0]:=Bb.keep (Bb.drew (Bb.new X 163 #[.bool false,.slice none 0 0,.slice none 0 0,.bool false,.slice none 0 0,.slice none 0 0])) hb1;obtain⟨j0,j1,j2,j3,j4,j5⟩:=cells6 kB;obtain⟨k0,k1,k2,k3,k4,k5,k6⟩:=Mh kB)|skip))))
  all_goals go_wp2_with fail
  all_goals go_meet
  all_goals (first
   | with_reducible exact⟨w5.heap.size,rfl,rfl,An hbD _⟩
   | with_reducible exact⟨_,rfl,rfl,I6 hbD (by assumption) _ _ _ _ _ _⟩)
 case rest =>
  obtain⟨g,rfl,rfl,hbC⟩:=hcut;obtain⟨q0,q1,q2,q3,q4⟩:=Rq (hQ.keep hbC);obtain⟨s0,s1,s2,s3,s4⟩:=Rq (hR.keep hbC);have hbE:=Ao hbX hbC;clear hbD hsX hbA hD hDr;go_wp2_with fail;go_ret;refine⟨_,by rw[HW.out];rfl,hbE.size,by rw[HW.out];exact Nc,An hbE _⟩
theorem Aep (v:Int×Int) (a b:Seg) (w:World) (hv1:Ts v.1) (hv2:Ts v.2) (ha:a.ok) (hb:b.ok) (hD:crD a b≠0):Calls Tryz.prog 53 #[.agg #[.int .i64 v.1,.int .i64 v.2],.agg (vk a),.agg (vk b)] w (th w (Ds v a b)):=by
 obtain⟨vx,vy⟩:=v;dsimp only at hv1 hv2;have hDr:((((a.tx:Int):Rat)-(a.fx:Rat))*((b.ty:Rat)-(b.fy:Rat))-((a.ty:Rat)-(a.fy:Rat))*((b.tx:Rat)-(b.fx:Rat))).num≠0:=by rw[V7];exact hD
 obtain⟨a1,a2,a3,a4,a5,a6⟩:=ha;obtain⟨b1,b2,b3,b4,b5,b6⟩:=hb;have r1:=Pk a1;have r2:=Pk a2;have r3:=Pk a3;have r4:=Pk a4;have r5:=Pk b1;have r6:=Pk b2;have r7:=Pk b3;have r8:=Pk b4;unfold Ts at *
 unfold vk;go_enter Tryz.func53,Tryz.ntmps53;go_upto_region 1 with fail;refine Ar (fun X=>Below w.heap.size w X/\Bb X w.heap.size 49 #[.int .i64 vx,.int .i64 vy]/\Bb X (w.heap.size+1) 130 #[.int .i64 a.fx,.int .i64 a.fy,.int .i64 a.tx,.int .i64 a.ty,.int .i64 a.wd]/\Bb X (w.heap.size+1+1) 130 #[.int .i64 b.fx,.int .i64 b.fy,.int .i64 b.tx,.int .i64 b.ty,.int .i64 b.wd]) ⟨An (An (An (Below.refl _ _) _) _) _,Bb.alloc (Bb.alloc (Bb.new _ _ _) _) _,Bb.alloc (Bb.new2 _ _ _ _) _,Bb.new3 _ _ _ _ _⟩ ?_
 rintro X ⟨hbX,hP,hQ,hR⟩;have hbD:=Aw (Below.refl X.heap.size X);have hsX:X.heap.size<=X.heap.size:=Nat.le_refl _;have hbA:Below X.heap.size X (X.alloc (.cells #[.bool false,.slice none 0 0,.slice none 0 0,.bool false,.slice none 0 0,.slice none 0 0] 163)).drew:=Aw (An (Below.refl _ _) _);obtain⟨T,hT⟩:∃T:Rat,((((b.fx:Int):Rat)-(a.fx:Rat))*((b.ty:Rat)-(b.fy:Rat))-((b.fy:Rat)-(a.fy:Rat))*((b.tx:Rat)-(b.fx:Rat))) / ((((a.tx:Int):Rat)-(a.fx:Rat))*((b.ty:Rat)-(b.fy:Rat))-((a.ty:Rat)-(a.fy:Rat))*((b.tx:Rat)-(b.fx:Rat)))=T:=⟨_,rfl⟩
 obtain⟨zx,hzx⟩:∃z:Rat,(a.fx:Rat)+((a.tx:Rat)-(a.fx:Rat))*T=z:=⟨_,rfl⟩
 obtain⟨zy,hzy⟩:∃z:Rat,(a.fy:Rat)+((a.ty:Rat)-(a.fy:Rat))*T=z:=⟨_,rfl⟩
 have ET:=Lib.hid hT;have EX:=Lib.hid hzx;have EY:=Lib.hid hzy;clear hT hzx hzy;go_cut [7,8] (fun v7 v8 wx'=>∃(g:Nat) (B1:Option Addr) (n1 c1:Nat) (B2:Option Addr) (n2 c2:Nat) (B3:Option Addr) (n3 c3:Nat) (B4:Option Addr) (n4 c4:Nat),v7=.pointer (some ⟨g,0,none⟩)/\v8=.int .i64 0/\PtV wx' 0 (.agg #[.bool (decide (zx.num<0)),.slice B1 n1 c1,.slice B2 n2 c2,.bool (decide (zy.num<0)),.slice B3 n3 c3,.slice B4 n4 c4]) zx zy/\Bb wx' g 163 #[.bool (decide (zx.num<0)),.slice B1 n1 c1,.slice B2 n2 c2,.bool (decide (zy.num<0)),.slice B3 n3 c3,.slice B4 n4 c4]/\X.heap.size<=g/\Below X.heap.size X wx')
 case first =>
  go_region_held3 (fun w'=>w'.cell? ⟨w.heap.size+1,0,none⟩=some (.int .i64 a.fx)/\w'.cell? ⟨w.heap.size+1,1,none⟩=some (.int .i64 a.fy)/\w'.cell? ⟨w.heap.size+1,2,none⟩=some (.int .i64 a.tx)/\w'.cell? ⟨w.heap.size+1,3,none⟩=some (.int .i64 a.ty)/\w'.cell? ⟨w.heap.size+1+1,0,none⟩=some (.int .i64 b.fx)/\w'.cell? ⟨w.heap.size+1+1,1,none⟩=some (.int .i64 b.fy)/\w'.cell? ⟨w.heap.size+1+1,2,none⟩=some (.int .i64 b.tx)/\w'.cell? ⟨w.heap.size+1+1,3,none⟩=some (.int .i64 b.ty))
   (first
    | with_reducible exact c8 (hQ.keep hbD) (hR.keep hbD)
    | with_reducible exact c8 (hQ.keep (An hbD _)) (hR.keep (An hbD _))
    | with_reducible exact c8 (hQ.keep hbA) (hR.keep hbA)
    | with_reducible exact c8 (hQ.keep (I6 hbD (by assumption) _ _ _ _ _ _)) (hR.keep (I6 hbD (by assumption) _ _ _ _ _ _)))
   ((first
     | (go_at_call 77;have hx4:=h4;(first|refine(Agj h1 h2 h3 h4 r1 r2 r3 r4 r5 r6 r7 r8 hDr).mono ?_|refine(Agj (PtV.keep h1 (An (Below.refl _ _) _)) (PtV.keep h2 (An (Below.refl _ _) _)) (PtV.keep h3 (An (Below.refl _ _) _)) (PtV.keep h4 (An (Below.refl _ _) _)) r1 r2 r3 r4 r5 r6 r7 r8 hDr).mono ?_);rintro e w5 ⟨v5,rfl,h5,hb5⟩;rw[ET.out,EX.out,EY.out] at h5;obtain⟨m1,d1,m2,d2,rfl,hm1,hd1,hm2,hd2⟩:=h5;obtain⟨B1,n1,c1,rfl⟩:=hm1.sl;obtain⟨B2,n2,c2,rfl⟩:=hd1.sl;obtain⟨B3,n3,c3,rfl⟩:=hm2.sl;obtain⟨B4,n4,c4,rfl⟩:=hd2.sl;(first|(replace hbD:=Ao hbD hb5)|(replace hbD:=Ao (An hbD _) hb5)|(replace hbD:=Ao hbA hb5));have hs5:=hbD.size;(first|(replace kB:=Bb.keep kB hb5;obtain⟨j0,j1,j2,j3,j4,j5⟩:=cells6 kB;obtain⟨k0,k1,k2,k3,k4,k5,k6⟩:=Mh kB)|(have kB:=Bb.keep (Bb.new _ _ _) hb5;obtain⟨j0,j1,j2,j3,j4,j5⟩:=cells6 kB;obtain⟨k0,k1,k2,k3,k4,k5,k6⟩:=Mh kB)|skip))
     | (go_at_call 78;have hx:=h3;refine(Dx _ _ _ (by omega) (by omega) (by omega) (by omega)).mono ?_;rintro e w4 ⟨v4,rfl,h4,hb4⟩;replace h4:=PtV.lower h4 (Nat.zero_le _);(first|(replace h1:=PtV.keep h1 hb4)|(replace h1:=PtV.keep (PtV.keep h1 (An (Below.refl _ _) _)) hb4));(first|(replace h2:=PtV.keep h2 hb4)|(replace h2:=PtV.keep (PtV.keep h2 (An (Below.refl _ _) _)) hb4));(first|(replace h3:=PtV.keep h3 hb4)|(replace h3:=PtV.keep (PtV.keep h3 (An (Below.refl _ _) _)) hb4));(first|(replace hbD:=Ao hbD hb4)|(replace hbD:=Ao (An hbD _) hb4)|(replace hbD:=Ao hbA hb4));have hs4:=hbD.size;(first|(replace kB:=Bb.keep kB hb4;obtain⟨j0,j1,j2,j3,j4,j5⟩:=cells6 kB;obtain⟨k0,k1,k2,k3,k4,k5,k6⟩:=Mh kB)|(have kB:=Bb.keep (Bb.new _ _ _) hb4;obtain⟨j0,j1,j2,j3,j4,j5⟩:=cells6 kB;obtain⟨k0,k1,k2,k3,k4,k5,k6⟩:=Mh kB)|skip))
     | (go_at_call 78;have hx:=h2;refine(Dx _ _ _ (by omega) (by omega) (by omega) (by omega)).mono ?_;rintro e w3 ⟨v3,rfl,h3,hb3⟩;replace h3:=PtV.lower h3 (Nat.zero_le _);(first|(replace h1:=PtV.keep h1 hb3)|(replace h1:=PtV.keep (PtV.keep h1 (An (Below.refl _ _) _)) hb3));(first|(replace h2:=PtV.keep h2 hb3)|(replace h2:=PtV.keep (PtV.keep h2 (An (Below.refl _ _) _)) hb3));(first|(replace hbD:=Ao hbD hb3)|(replace hbD:=Ao (An hbD _) hb3)|(replace hbD:=Ao hbA hb3));have hs3:=hbD.size;(first|(replace kB:=Bb.keep kB hb3;obtain⟨j0,j1,j2,j3,j4,j5⟩:=cells6 kB;obtain⟨k0,k1,k2,k3,k4,k5,k6⟩:=Mh kB)|(have kB:=Bb.keep (Bb.new _ _ _) hb3;obtain⟨j0,j1,j2,j3,j4,j5⟩:=cells6 kB;obtain⟨k0,k1,k2,k3,k4,k5,k6⟩:=Mh kB)|skip))
     | (go_at_call 78;have hx:=h1;refine(Dx _ _ _ (by omega) (by omega) (by omega) (by omega)).mono ?_;rintro e w2 ⟨v2,rfl,h2,hb2⟩;replace h2:=PtV.lower h2 (Nat.zero_le _);(first|(replace h1:=PtV.keep h1 hb2)|(replace h1:=PtV.keep (PtV.keep h1 (An (Below.refl _ _) _)) hb2));(first|(replace hbD:=Ao hbD hb2)|(replace hbD:=Ao (An hbD _) hb2)|(replace hbD:=Ao hbA hb2));have hs2:=hbD.size;(first|(replace kB:=Bb.keep kB hb2;obtain⟨j0,j1,j2,j3,j4,j5⟩:=cells6 kB;obtain⟨k0,k1,k2,k3,k4,k5,k6⟩:=Mh kB)|(have kB:=Bb.keep (Bb.new _ _ _) hb2;obtain⟨j0,j1,j2,j3,j4,j5⟩:=cells6 kB;obtain⟨k0,k1,k2,k3,k4,k5,k6⟩:=Mh kB)|skip))
     | (go_at_call 78;refine(Dx _ _ _ (by omega) (by omega) (by omega) (by omega)).mono ?_;rintro e w1 ⟨v1,rfl,h1,hb1⟩;replace h1:=PtV.lower h1 (Nat.zero_le _);(first|(replace hbD:=Ao hbD hb1)|(replace hbD:=Ao (An hbD _) hb1)|(replace hbD:=Ao hbA hb1));have hs1:=hbD.size;(first|(have kB:Bb w1 X.heap.size 163 #[.bool false,.slice none 0 0,.slice none 0 0,.bool false,.slice none 0 0,.slice none 0 0]:=Bb.keep (Bb.drew (Bb.new X 163 #[.bool false,.slice none 0 0,.slice none 0 0,.bool false,.slice none 0 0,.slice none 0 0])) hb1;obtain⟨j0,j1,j2,j3,j4,j5⟩:=cells6 kB;obtain⟨k0,k1,k2,k3,k4,k5,k6⟩:=Mh kB)|skip))))
  all_goals go_wp2_with fail
  all_goals go_meet
  all_goals (first
   | with_reducible exact⟨w5.heap.size,B1,n1,c1,B2,n2,c2,B3,n3,c3,B4,n4,c4,rfl,rfl,Abd ((hm1.lower (Nat.zero_le _)).keep (Below.alloc (Below.refl _ _) (Nat.le_refl _) _)) ((hd1.lower (Nat.zero_le _)).keep (Below.alloc (Below.refl _ _) (Nat.le_refl _) _)) ((hm2.lower (Nat.zero_le _)).keep (Below.alloc (Below.refl _ _) (Nat.le_refl _) _)) ((hd2.lower (Nat.zero_le _)).keep (Below.alloc (Below.refl _ _) (Nat.le_refl _) _)),Bb.new _ _ _,hs5,An hbD _⟩
   | with_reducible exact⟨_,B1,n1,c1,B2,n2,c2,B3,n3,c3,B4,n4,c4,rfl,rfl,Abd ((hm1.lower (Nat.zero_le _)).farB6 kB tt _ _ _ _ _ _) ((hd1.lower (Nat.zero_le _)).farB6 kB tt _ _ _ _ _ _) ((hm2.lower (Nat.zero_le _)).farB6 kB tt _ _ _ _ _ _) ((hd2.lower (Nat.zero_le _)).farB6 kB tt _ _ _ _ _ _),kB.set6,by assumption,I6 hbD (by assumption) _ _ _ _ _ _⟩)
 case rest =>
  obtain⟨g,B1,n1,c1,B2,n2,c2,B3,n3,c3,B4,n4,c4,rfl,rfl,hPt,hG,hgX,hbC⟩:=hcut;have hDa:(crD a b).natAbs≠0:=by omega
  have hTe:T=((crN a b:Int):Rat) / ((crD a b:Int):Rat):=by rw[<-ET.out,Aeo,V7]
  obtain⟨oX,hoX⟩:∃z,Air (vx,vy) a b=z:=⟨_,rfl⟩
  obtain⟨oY,hoY⟩:∃z,Aiq (vx,vy) a b=z:=⟨_,rfl⟩
  have GX:Hid (rnd (zx-(vx:Rat)).num (zx-(vx:Rat)).den=oX):=Lib.hid (by
   rw[<-EX.out,hTe,<-hoX,X8 a.fx a.tx vx (crN a b) (crD a b) hD];exact Aa9 hDa)
  have GY:Hid (rnd (zy-(vy:Rat)).num (zy-(vy:Rat)).den=oY):=Lib.hid (by
   rw[<-EY.out,hTe,<-hoY,X8 a.fy a.ty vy (crN a b) (crD a b) hD];exact Aa9 hDa)
  have HOX:=Lib.hid hoX;have HOY:=Lib.hid hoY;have tw:∀{x y:Rat},RB 22 x->RB 22 y->RB 45 (x-y):=fun h k=>RB.sub (m:=22) (n:=22) h k
  have tN:=RB.sub (m:=45+45) (n:=45+45) ((tw r5 r1).mul (tw r8 r6)) ((tw r6 r2).mul (tw r7 r5));have tD:=RB.sub (m:=45+45) (n:=45+45) ((tw r3 r1).mul (tw r8 r6)) ((tw r4 r2).mul (tw r7 r5));have tT:=RB.div (m:=45+45+(45+45)+1) (n:=45+45+(45+45)+1) tN tD hDr;rw[ET.out] at tT;have bzx:RB 600 zx:=by rw[<-EX.out];exact(RB.add (m:=22) r1 ((tw r3 r1).mul tT)).le (by decide)
  have bzy:RB 600 zy:=by rw[<-EY.out];exact(RB.add (m:=22) r2 ((tw r4 r2).mul tT)).le (by decide)
  have bvx:RB 600 (vx:Rat):=(Pk (z:=vx) hv1).le (by decide)
  have bvy:RB 600 (vy:Rat):=(Pk (z:=vy) hv2).le (by decide)
  have bdx:RB 600 (zx-(vx:Rat)):=by rw[<-EX.out];exact(RB.sub (n:=22) (RB.add (m:=22) r1 ((tw r3 r1).mul tT)) (Pk (z:=vx) hv1)).le (by decide)
  have bdy:RB 600 (zy-(vy:Rat)):=by rw[<-EY.out];exact(RB.sub (n:=22) (RB.add (m:=22) r2 ((tw r4 r2).mul tT)) (Pk (z:=vy) hv2)).le (by decide)
  obtain⟨fx,hfx⟩:∃z:Rat,(vx:Rat)=z:=⟨_,rfl⟩
  obtain⟨fy,hfy⟩:∃z:Rat,(vy:Rat)=z:=⟨_,rfl⟩
  rw[hfx] at GX bvx bdx;rw[hfy] at GY bvy bdy;have HFX:=Lib.hid hfx;have HFY:=Lib.hid hfy;have hP2:=hP.keep hbC;have hQ2:=hQ.keep hbC;have hR2:=hR.keep hbC;have hbE:=Ao hbX hbC;clear hoX hoY hfx hfy tN tD tT tw hDr r1 r2 r3 r4 r5 r6 r7 r8 hbD hbA hsX hTe hDa;have hwcw:wc.heap.size<=wc.heap.size:=Nat.le_refl _;have kbD:=Aw (Below.refl wc.heap.size wc);have kbA:Below wc.heap.size wc (wc.alloc (.cells #[.int .i64 0,.int .i64 0] 49)).drew:=Aw (An (Below.refl _ _) _);go_upto_region 3 with fail;go_cut [9,10] (fun v9 v10 wx'=>∃g2:Nat,v9=.pointer (some ⟨g2,0,none⟩)/\v10=.int .i64 (Mn oX oY).2/\Bb wx' g2 49 #[.int .i64 (Mn oX oY).1.1,.int .i64 (Mn oX oY).1.2]/\wc.heap.size<=g2/\Below wc.heap.size wc wx')
  case first =>
   go_region_held3 (fun w'=>w'.cell? ⟨g,0,none⟩=some (.bool (decide (zx.num<0)))/\w'.cell? ⟨g,1,none⟩=some (.slice B1 n1 c1)/\w'.cell? ⟨g,2,none⟩=some (.slice B2 n2 c2)/\w'.cell? ⟨g,3,none⟩=some (.bool (decide (zy.num<0)))/\w'.cell? ⟨g,4,none⟩=some (.slice B3 n3 c3)/\w'.cell? ⟨g,5,none⟩=some (.slice B4 n4 c4)/\w'.cell? ⟨w.heap.size,0,none⟩=some (.int .i64 vx)/\w'.cell? ⟨w.heap.size,1,none⟩=some (.int .i64 vy))
    (first
     | with_reducible exact c62 (hG.keep kbD) (hP2.keep kbD)
     | with_reducible exact c62 (hG.keep (An kbD _)) (hP2.keep (An kbD _))
     | with_reducible exact c62 (hG.keep kbA) (hP2.keep kbA)
     | with_reducible exact c62 (hG.keep (Wn kbD (by assumption) _ _)) (hP2.keep (Wn kbD (by assumption) _ _)))
    ((first
      | (go_at_call 79;(first|refine(Agk h2 bdx bdy oX oY GX.out GY.out).mono ?_|refine(Agk (PtV.keep h2 (An (Below.refl _ _) _)) bdx bdy oX oY GX.out GY.out).mono ?_);rintro e w3 ⟨rfl,hb3⟩;(first|(replace kbD:=Ao kbD hb3)|(replace kbD:=Ao (An kbD _) hb3)|(replace kbD:=Ao kbA hb3));have kshb3:=kbD.size;(first|(replace kC:=Bb.keep kC hb3;obtain⟨j0,j1⟩:=Ka kC;obtain⟨k0,k1,k2⟩:=Ahk kC)|(have kC:=Bb.keep (Bb.new _ _ _) hb3;obtain⟨j0,j1⟩:=Ka kC;obtain⟨k0,k1,k2⟩:=Ahk kC)|skip))
      | (go_at_call 80;have hx:=h1;have hM:=PtV.keep hPt kbD;(first|refine(S5 hM h1 bzx bzy bvx bvy).mono ?_|refine(S5 (PtV.keep hM (An (Below.refl _ _) _)) (PtV.keep h1 (An (Below.refl _ _) _)) bzx bzy bvx bvy).mono ?_);rintro e w2 ⟨v2,rfl,h2,hb2⟩;(first|(replace kbD:=Ao kbD hb2)|(replace kbD:=Ao (An kbD _) hb2)|(replace kbD:=Ao kbA hb2));have kshb2:=kbD.size;(first|(replace kC:=Bb.keep kC hb2;obtain⟨j0,j1⟩:=Ka kC;obtain⟨k0,k1,k2⟩:=Ahk kC)|(have kC:=Bb.keep (Bb.new _ _ _) hb2;obtain⟨j0,j1⟩:=Ka kC;obtain⟨k0,k1,k2⟩:=Ahk kC)|skip))
      | (go_at_call 78;refine(Dx _ _ _ (by omega) (by omega) (by omega) (by omega)).mono ?_;rintro e w1 ⟨v1,rfl,h1,hb1⟩;rw[HFX.out,HFY.out] at h1;(first|(replace kbD:=Ao kbD hb1)|(replace kbD:=Ao (An kbD _) hb1)|(replace kbD:=Ao kbA hb1));have kshb1:=kbD.size;(first|(have kC:Bb w1 wc.heap.size 49 #[.int .i64 0,.int .i64 0]:=Bb.keep (Bb.drew (Bb.new wc 49 #[.int .i64 0,.int .i64 0])) hb1;obtain⟨j0,j1⟩:=Ka kC;obtain⟨k0,k1,k2⟩:=Ahk kC)|skip))))
   all_goals go_wp2_with fail
   all_goals go_meet
   all_goals (first
    | with_reducible exact⟨w3.heap.size,rfl,rfl,Bb.new _ _ _,kshb3,An kbD _⟩
    | with_reducible exact⟨_,rfl,rfl,kC.set2,by assumption,Wn kbD (by assumption) _ _⟩)
  case rest =>
   obtain⟨g2,rfl,rfl,hS,hg2,hbF⟩:=hcut;have hP3:=Ka (hP2.keep hbF);obtain⟨p0,p1⟩:=hP3;obtain⟨q0,q1,q2,q3,q4⟩:=Rq (hQ2.keep hbF);obtain⟨s0,s1,s2,s3,s4⟩:=Rq (hR2.keep hbF);have hbE2:=Ao hbE hbF;clear hwcw kbD kbA hP hQ hR hP2 hQ2 hR2 hG hPt bzx bzy bdx bdy bvx bvy GX GY HFX HFY ET EX EY;by_cases hin:(inC oX&&inC oY)=true
   ·have hgr:Mn oX oY=((oX,oY),0):=by unfold Mn;rw[if_pos hin]
    rw[hgr] at hS ⊢;obtain⟨j0,j1⟩:=Ka hS;obtain⟨hi1,hi2⟩:(-1048576<=oX/\oX<=1048576)/\(-1048576<=oY/\oY<=1048576):=by unfold inC at hin;simpa using hin
    have hmx:0<=max a.wd b.wd/\max a.wd b.wd<=1000:=by omega
    obtain⟨mx,hmx2⟩:∃z,max a.wd b.wd=z:=⟨_,rfl⟩
    rw[hmx2] at hmx;have W1:IntKind.i64.wrap (4*mx)=4*mx:=by rw[IntKind.wrap_i64];omega
    have W2:IntKind.i64.wrap (4*mx+4)=4*mx+4:=by rw[IntKind.wrap_i64];omega
    by_cases hws:wS (oX,oY) (4*mx+4)=true
    ·have HW:=Lib.hid (show Ds (vx,vy) a b=[(vx+oX,vy+oY)] by unfold Ds;rw[if_neg hD,HOX.out,HOY.out,hmx2,if_pos (by simp[hin,hws])])
     go_wp2_with (first|(go_at_call 54;refine(Ht oX oY _ _ (by omega) (by omega)).mono ?_;rintro e w4 ⟨rfl,hb4⟩;rw[hws];have hbE3:=Ao hbE2 hb4;have c1:=Aq hb4 p0;have c2:=Aq hb4 p1;have c3:=Aq hb4 j0;have c4:=Aq hb4 j1)|(go_at_call 52;refine(Rs vx vy oX oY _ (by omega) (by omega) (by omega) (by omega)).mono ?_;rintro e w5 ⟨rfl,hb5⟩;have hbE4:=Ao hbE3 hb5))
     all_goals go_ret
     refine⟨_,by rw[HW.out];rfl,hbE4.size,by rw[HW.out];exact xq,An hbE4 _⟩
    ·have hws2:wS (oX,oY) (4*mx+4)=false:=by simpa using hws
     have HW:=Lib.hid (show Ds (vx,vy) a b=[(a.tx,a.ty),(b.fx,b.fy)] by unfold Ds;rw[if_neg hD,HOX.out,HOY.out,hmx2,if_neg (by simp[hws2])])
     go_wp2_with (go_at_call 54;refine(Ht oX oY _ _ (by omega) (by omega)).mono ?_;rintro e w4 ⟨rfl,hb4⟩;rw[hws2];have hbE3:=Ao hbE2 hb4;have c1:=Aq hb4 q2;have c2:=Aq hb4 q3;have c3:=Aq hb4 s0;have c4:=Aq hb4 s1)
     all_goals go_ret
     refine⟨_,by rw[HW.out];rfl,hbE3.size,by rw[HW.out];exact Nc,An hbE3 _⟩
   ·have hgr:Mn oX oY=((0,0),3):=by unfold Mn;rw[if_neg hin]
    rw[hgr] at hS ⊢;have HW:=Lib.hid (show Ds (vx,vy) a b=[(a.tx,a.ty),(b.fx,b.fy)] by unfold Ds;rw[if_neg hD,HOX.out,HOY.out,if_neg (by simp[hin])])
    go_wp2_with fail;all_goals go_ret
    refine⟨_,by rw[HW.out];rfl,hbE2.size,by rw[HW.out];exact Nc,An hbE2 _⟩
theorem Wi (v:Int×Int) (a b:Seg) (w:World) (hv1:Ts v.1) (hv2:Ts v.2) (ha:a.ok) (hb:b.ok):Calls Tryz.prog 53 #[.agg #[.int .i64 v.1,.int .i64 v.2],.agg (vk a),.agg (vk b)] w (th w (Ds v a b)):=by
 by_cases h:crD a b=0
 ·exact Aeq v a b w hv1 hv2 ha hb h
 ·exact Aep v a b w hv1 hv2 ha hb h
end
def enG (s:Seg):List Value:=[.int .i64 s.fx,.int .i64 s.fy,.int .i64 s.tx,.int .i64 s.ty,.int .i64 s.wd]
theorem o9 (s:Seg):(enG s).length=5:=rfl
def Ai2:Seg:=⟨0,0,0,0,0⟩
def gsg (l:List Seg) (k:Nat):Seg:=l.getD k Ai2
theorem yl {l:List Seg} {k:Nat} (h:k<l.length):l[k]? = some (gsg l k):=by
 unfold gsg;rw[List.getD,List.getElem?_eq_getElem h];rfl
def Ae6 (w:World) (base:Nat) (v:Value) (l:List Seg):Prop:=OwG 130 5 enG w base v l
theorem Ag4:(Tryz.prog.info? 130).map (fun i=>(i.zero,i.size,i.bytes))=some (some (.agg #[.int .i64 0,.int .i64 0,.int .i64 0,.int .i64 0,.int .i64 0]),5,40):=by kernel_rfl
theorem N0 {α:Type} {enc:α->List Value} {size:Nat} (henc:∀x,(enc x).length=size) (z:α) (n:Nat) (cs:Array Value) (hcs:cs=(enc z).toArray) (hs:0<size):(madeCells cs (n*size)).toList=(List.replicate n z).flatMap enc:=by
 apply List.ext_getElem?;intro j;rcases Nat.lt_or_ge j (n*size) with hj|hj
 ·have hd:j / size<n:=Nat.div_lt_of_lt_mul (by rw[Nat.mul_comm];exact hj)
  have h:=Bp henc (List.replicate n z) (j / size) (j % size) z (by rw[List.getElem?_replicate,if_pos hd]) (Nat.mod_lt _ hs)
  rw[Nat.mul_comm,Nat.div_add_mod] at h;rw[h,hcs];unfold madeCells;rw[Array.getElem?_toList,Array.getElem?_map,Array.getElem?_range,if_pos hj];have hm:j % size<(enc z).length:=by rw[henc];exact Nat.mod_lt _ hs
  simp[henc,List.getElem?_eq_getElem hm]
 ·rw[List.getElem?_eq_none (by rw[Array.length_toList,size_madeCells];exact hj),List.getElem?_eq_none (by rw[Cy henc];simpa using hj)]
theorem kr (n:Nat) (hn:n<=1000000):∃Z:Array Value,(∀w,(Instr.makeSlice 127 (.int .i64 (n:Int)) (.int .i64 (n:Int))).run Tryz.prog w=.ok (.slice (some ⟨w.heap.size,0,none⟩) n n) (w.alloc (.cells Z 130)))/\∀w:World,Ae6 (w.alloc (.cells Z 130)) w.heap.size (.slice (some ⟨w.heap.size,0,none⟩) n n) (List.replicate n Ai2):=by
 obtain⟨i,hi,hz0,hz1,hz2⟩:=info_parts Ag4;refine⟨madeCells (Value.agg #[.int .i64 0,.int .i64 0,.int .i64 0,.int .i64 0,.int .i64 0]).cells (n*5),fun w=>?_,fun w=>?_⟩
 ·have hr:=run_make (P:=Tryz.prog) w 127 130 i (.agg #[.int .i64 0,.int .i64 0,.int .i64 0,.int .i64 0,.int .i64 0]) Tryz.underlying127 hi hz0 .i64 .i64 n n (by omega) (by omega) (by rw[hz2];omega) (by omega)
  rw[hz1] at hr;simpa using hr
 ·unfold Ae6 OwG
  rw[List.length_replicate,<-N0 o9 Ai2 n (Value.agg #[.int .i64 0,.int .i64 0,.int .i64 0,.int .i64 0,.int .i64 0]).cells (by kernel_rfl) (by omega)]
  exact World.ownsRow_lit w _ n (Nat.le_refl _) (by unfold maxLen;omega) (size_madeCells _ _)
theorem Ae6.cells {w:World} {base g cap n:Nat} {l:List Seg} (h:Ae6 w base (.slice (some ⟨g,0,none⟩) n cap) l) (hn:l.length=n) {k:Nat} (hk:k<n):w.cell? ⟨g,k*5,none⟩=some (.int .i64 (gsg l k).fx)/\w.cell? ⟨g,k*5+1,none⟩=some (.int .i64 (gsg l k).fy)/\w.cell? ⟨g,k*5+2,none⟩=some (.int .i64 (gsg l k).tx)/\w.cell? ⟨g,k*5+3,none⟩=some (.int .i64 (gsg l k).ty)/\w.cell? ⟨g,k*5+4,none⟩=some (.int .i64 (gsg l k).wd)/\∀j,w.frozen? ⟨g,k*5+j,none⟩=false:=by
 subst hn;have hl:=yl hk
 have c:∀j,j<5->w.cell? ⟨g,k*5+j,none⟩=(enG (gsg l k))[j]? := fun j hj=>by
  rw[OwG.cells h (k*5+j) (by omega),Bp o9 l k j _ hl hj]
 exact⟨(c 0 (by omega)).trans rfl,(c 1 (by omega)).trans rfl,(c 2 (by omega)).trans rfl,(c 3 (by omega)).trans rfl,(c 4 (by omega)).trans rfl,fun j=>OwG.frozen h _⟩
theorem mn {l:List Seg} {k:Nat} (s:Seg):(((((l.flatMap enG).set (k*5) (.int .i64 s.fx)).set (k*5+1) (.int .i64 s.fy)).set (k*5+2) (.int .i64 s.tx)).set (k*5+3) (.int .i64 s.ty)).set (k*5+4) (.int .i64 s.wd)=(l.set k s).flatMap enG:=by
 induction l generalizing k with
 | nil=>simp
 | cons a l ih =>
   cases k with
   | zero=>simp[enG,List.flatMap_cons]
   | succ k =>
     rw[List.set_cons_succ,List.flatMap_cons,List.flatMap_cons,<-ih];simp only[enG,List.cons_append,List.nil_append];rw[show (k+1)*5=k*5+1+1+1+1+1 by omega]
     simp[show k*5+1+1+1+1+1+1=(k*5+1)+1+1+1+1+1 by omega,show k*5+1+1+1+1+1+2=(k*5+2)+1+1+1+1+1 by omega,show k*5+1+1+1+1+1+3=(k*5+3)+1+1+1+1+1 by omega,show k*5+1+1+1+1+1+4=(k*5+4)+1+1+1+1+1 by omega]
def Akz (w:World) (g o:Nat) (s:Seg):World:=((((w.setCell ⟨g,o,none⟩ (.int .i64 s.fx)).setCell ⟨g,o+1,none⟩ (.int .i64 s.fy)).setCell ⟨g,o+2,none⟩ (.int .i64 s.tx)).setCell ⟨g,o+3,none⟩ (.int .i64 s.ty)).setCell ⟨g,o+4,none⟩ (.int .i64 s.wd)
theorem Ae6.store {w:World} {base g cap n:Nat} {l:List Seg} (h:Ae6 w base (.slice (some ⟨g,0,none⟩) n cap) l) (hn:l.length=n) (k:Nat) (s:Seg):Ae6 (Akz w g (k*5) s) base (.slice (some ⟨g,0,none⟩) n cap) (l.set k s):=by
 subst hn;have h1:=(World.ownsRow.stored h (k*5) (.int .i64 s.fx)).1;have h2:=(World.ownsRow.stored h1 (k*5+1) (.int .i64 s.fy)).1;have h3:=(World.ownsRow.stored h2 (k*5+2) (.int .i64 s.tx)).1;have h4:=(World.ownsRow.stored h3 (k*5+3) (.int .i64 s.ty)).1;have h5:=(World.ownsRow.stored h4 (k*5+4) (.int .i64 s.wd)).1;rw[mn] at h5;unfold Ae6 OwG;rw[List.length_set];exact h5
theorem Adz {l:List Seg} {k j:Nat} {x:Seg} (hk:k<l.length):gsg (l.set k x) j=if k=j then x else gsg l j:=by
 unfold gsg;rw[List.getD,List.getElem?_set];by_cases e:k=j
 ·subst e;simp[hk]
 ·simp[e]
theorem vn (B n:Nat) (S:List Shp) (g cap m:Nat) (l:List Int) (w0 w:World) (hm:m<20) (hl:l.length=m) (hS:SoW w0 B n S) (hb0:Below w0.heap.size w0 w) (hM:Afp n l) (ho:OwI w w0.heap.size (.slice (some ⟨g,0,none⟩) m cap) l) :
 Calls Tryz.prog 62 #[.slice (some ⟨g,0,none⟩) m cap,.int .i64 (m:Int),Afk B] w fun e w'=>e=.returned (.tuple #[])/\OwI w' w0.heap.size (.slice (some ⟨g,0,none⟩) m cap) (Iw (Ns S) l m)/\Below w0.heap.size w0 w':=by
 have HI:=Lib.hid (lv B n S g cap m l w0 w (by omega) hl hS hb0 hM ho)
 unfold Afk at HI ⊢;have B1:((20:Int)<=(m:Int))=False:=by simp;omega
 have B2:((20:Int)<(m:Int))=False:=by simp;omega
 clear hl;go_enter Tryz.func62,Tryz.ntmps62;go_upto_region 2 with fail;go_loopw [7,8] (fun a b wr=>a=.int .i64 0/\b=.int .i64 20/\wr=w) (fun _ _ _=>0)
 case atStart=>exact⟨rfl,rfl,rfl⟩
 case round =>
  obtain⟨rfl,rfl,rfl⟩:=hrel
  go_upto_region 7 with (go_at_call 95;refine HI.out.mono ?_;rintro e w1 ⟨rfl,ho1,hb1⟩)
  go_loopw [6,7,8,9] (fun a _ _ _ wx=>a=.int .i64 20/\wx=w1) (fun _ _ _ _ _=>0)
  case atStart=>exact⟨rfl,rfl⟩
  case round =>
   obtain⟨rfl,rfl⟩:=hrel;go_wp2_with fail
   go_end0
   exact⟨rfl,ho1,hb1⟩
theorem gp (B n:Nat) (S:List Shp) (g cap m:Nat) (l:List Int) (w0 w:World) (hm:m<20) (hl:l.length=m) (hS:SoW w0 B n S) (hb0:Below w0.heap.size w0 w) (hM:Afp n l) (ho:OwI w w0.heap.size (.slice (some ⟨g,0,none⟩) m cap) l) :
 Calls Tryz.prog 36 #[.slice (some ⟨g,0,none⟩) m cap,Afk B] w fun e w'=>e=.returned (.tuple #[])/\OwI w' w0.heap.size (.slice (some ⟨g,0,none⟩) m cap) (Iw (Ns S) l m)/\Below w0.heap.size w0 w':=by
 have HI:=Lib.hid (vn B n S g cap m l w0 w hm hl hS hb0 hM ho);unfold Afk at HI ⊢;clear hl;go_enter Tryz.func36,Tryz.ntmps36
 go_wp2_with (go_at_call 62;refine HI.out.mono ?_;rintro e w1 ⟨rfl,ho1,hb1⟩)
 go_end0
 exact⟨rfl,ho1,hb1⟩
theorem ks (n:Nat) (hn:n<=1000):∃Z:Array Value,(∀w,(Instr.makeSlice 23 (.int .i64 (n:Int)) (.int .i64 (n:Int))).run Tryz.prog w=.ok (.slice (some ⟨w.heap.size,0,none⟩) n n) (w.alloc (.cells Z 3)))/\∀w:World,OwI (w.alloc (.cells Z 3)) w.heap.size (.slice (some ⟨w.heap.size,0,none⟩) n n) (List.replicate n 0):=by
 obtain⟨i,hi,hz0,hz1,hz2⟩:=info_parts Ag7;refine⟨madeCells (Value.int IntKind.i64 0).cells (n*1),fun w=>?_,fun w=>?_⟩
 ·have hr:=run_make (P:=Tryz.prog) w 23 3 i (.int .i64 0) Tryz.underlying23 hi hz0 .i64 .i64 n n (by omega) (by omega) (by rw[hz2];omega) (by omega)
  rw[hz1] at hr;simpa using hr
 ·unfold OwI OwG
  rw[List.length_replicate,<-N0 Lx 0 n (Value.int IntKind.i64 0).cells (by kernel_rfl) (by omega)]
  exact World.ownsRow_lit w _ n (Nat.le_refl _) (by unfold maxLen;omega) (size_madeCells _ _)
def upI (n k:Nat):List Int:=(List.range n).map fun i=>if i<k then (i:Int) else 0
theorem Ut (n k:Nat):(upI n k).length=n:=by unfold upI;simp
theorem ub (n:Nat):upI n 0=List.replicate n 0:=by
 unfold upI;apply List.ext_getElem
 ·simp
 ·intro i h1 h2;simp
theorem Ws (n:Nat):upI n n=(List.range n).map fun i:Nat=>(i:Int):=by
 unfold upI;apply List.map_congr_left;intro i hi;rw[if_pos (List.mem_range.1 hi)]
theorem uc {n k:Nat} (h:k<n):(upI n k).set k (k:Int)=upI n (k+1):=by
 apply List.ext_getElem
 ·simp[upI]
 ·intro i h1 h2
  rw[List.getElem_set];simp[upI] at h1 h2 ⊢;by_cases e:k=i
  ·subst e;simp
  ·rw[if_neg e]
   by_cases q:i<k
   ·rw[if_pos q,if_pos (by omega)]
   ·rw[if_neg q,if_neg (by omega)]
end Go.Proofs.YtpbchbcdgikonaaGreat

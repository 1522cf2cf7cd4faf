/- Rectangles: polygons, overlap, the upper right corner as a spot. Rectangles: overlap, the upper right corner as a spot. -/
import Derived.Test.YtmdncaoilegnnaaGreatUG74
import Derived.Test.YtmdncaoilegnnaaGreatUG66
import Derived.Test.YtmdncaoilegnnaaGreatUG72
namespace Go.Proofs.YtmdncaoilegnnaaGreat
set_option linter.unusedVariables false
set_option linter.unusedSimpArgs false
set_option linter.unusedVariables false
set_option linter.unusedSimpArgs false
open Go.RowKit Ears

def rcAt (w h x y : Int) : List (Int × Int) := [(x, y), (x + w, y), (x + w, y + h), (x, y + h)]
theorem rc_near {w h x y : Int} (hx : -10000 ≤ x ∧ x ≤ 20000) (hy : -10000 ≤ y ∧ y ≤ 20000) (hw : 1 ≤ w ∧ w ≤ 1000) (hh : 1 ≤ h ∧ h ≤ 1000) : ∀ q ∈ rcAt w h x y, nearB 1048576 q := by
  intro q hq
  unfold rcAt at hq
  simp at hq
  unfold nearB
  rcases hq with rfl | rfl | rfl | rfl <;> simp only <;> omega
theorem rc_simple {w h x y : Int} (hx : -10000 ≤ x ∧ x ≤ 20000) (hy : -10000 ≤ y ∧ y ≤ 20000) (hw : 1 ≤ w ∧ w ≤ 1000) (hh : 1 ≤ h ∧ h ≤ 1000) :
    simpleW (rcAt w h x y) 4 = true ∧ (∀ k, k < 4 → bendW (rcAt w h x y) 4 k = w * h) := by
  have hP : 0 < w * h := Int.mul_pos (by omega) (by omega)
  have nr := rc_near hx hy hw hh
  have n0 : nearB 1048576 (x, y) := nr _ (by simp [rcAt])
  have n1 : nearB 1048576 (x + w, y) := nr _ (by simp [rcAt])
  have n2 : nearB 1048576 (x + w, y + h) := nr _ (by simp [rcAt])
  have n3 : nearB 1048576 (x, y + h) := nr _ (by simp [rcAt])
  have c012 : crossW (x, y) (x + w, y) (x + w, y + h) = w * h := by rw [cross_near n0 n1 n2]; unfold crP; grind
  have c123 : crossW (x + w, y) (x + w, y + h) (x, y + h) = w * h := by rw [cross_near n1 n2 n3]; unfold crP; grind
  have c230 : crossW (x + w, y + h) (x, y + h) (x, y) = w * h := by rw [cross_near n2 n3 n0]; unfold crP; grind
  have c301 : crossW (x, y + h) (x, y) (x + w, y) = w * h := by rw [cross_near n3 n0 n1]; unfold crP; grind
  have c013 : crossW (x, y) (x + w, y) (x, y + h) = w * h := by rw [cross_near n0 n1 n3]; unfold crP; grind
  have c120 : crossW (x + w, y) (x + w, y + h) (x, y) = w * h := by rw [cross_near n1 n2 n0]; unfold crP; grind
  have ne : (w * h == 0) = false := by simp; omega
  have c1 : cmpI (w * h) 0 = 1 := by unfold cmpI; rw [if_neg (by omega), if_pos (by omega)]
  have g0 : gt (rcAt w h x y) 0 = (x, y) := rfl
  have g1 : gt (rcAt w h x y) 1 = (x + w, y) := rfl
  have g2 : gt (rcAt w h x y) 2 = (x + w, y + h) := rfl
  have g3 : gt (rcAt w h x y) 3 = (x, y + h) := rfl
  have f0 : foldedW (x, y) (x + w, y) (x + w, y + h) = false := by unfold foldedW; rw [c012, ne]; rfl
  have f1 : foldedW (x + w, y) (x + w, y + h) (x, y + h) = false := by unfold foldedW; rw [c123, ne]; rfl
  have f2 : foldedW (x + w, y + h) (x, y + h) (x, y) = false := by unfold foldedW; rw [c230, ne]; rfl
  have f3 : foldedW (x, y + h) (x, y) (x + w, y) = false := by unfold foldedW; rw [c301, ne]; rfl
  have p1 : partedW (x, y) (x + w, y) (x + w, y + h) (x, y + h) = false := by unfold partedW; rw [c012, c013, c1]; rfl
  have p2 : partedW (x + w, y) (x + w, y + h) (x, y + h) (x, y) = false := by unfold partedW; rw [c123, c120, c1]; rfl
  have o1 : ∀ a b p : Int × Int, (max a.2 b.2 < p.2 ∨ p.2 < min a.2 b.2 ∨ max a.1 b.1 < p.1 ∨ p.1 < min a.1 b.1) → onW a b p = false := by
    intro a b p h
    unfold onW
    rw [Bool.eq_false_iff]
    intro e
    simp only [Bool.and_eq_true, decide_eq_true_eq] at e
    omega
  have m1 : meetW (x, y) (x + w, y) (x + w, y + h) (x, y + h) = false := by
    unfold meetW
    rw [o1 _ _ _ (by left; simp only; omega), o1 _ _ _ (by left; simp only; omega), o1 _ _ _ (by right; left; simp only; omega), o1 _ _ _ (by right; left; simp only; omega), p1]; rfl
  have m2 : meetW (x + w, y) (x + w, y + h) (x, y + h) (x, y) = false := by
    unfold meetW
    rw [o1 _ _ _ (by right; right; right; simp only; omega), o1 _ _ _ (by right; right; right; simp only; omega), o1 _ _ _ (by right; right; left; simp only; omega), o1 _ _ _ (by right; right; left; simp only; omega), p2]; rfl
  refine ⟨?_, ?_⟩
  · have d : ∀ i, i < 4 → dupW (rcAt w h x y) i = false := by
      intro i hi
      rcases (by omega : i = 0 ∨ i = 1 ∨ i = 2 ∨ i = 3) with rfl | rfl | rfl | rfl
      · rfl
      · simp [dupW, AnyB, List.range_succ, g0, g1, eqS]; omega
      · simp [dupW, AnyB, List.range_succ, g0, g1, g2, eqS]; omega
      · simp [dupW, AnyB, List.range_succ, g0, g1, g2, g3, eqS]; omega
    have s : ∀ i, i < 4 → sidW (rcAt w h x y) 4 i = true := by
      intro i hi
      rcases (by omega : i = 0 ∨ i = 1 ∨ i = 2 ∨ i = 3) with rfl | rfl | rfl | rfl
      · simp [sidW, AllB, List.range_succ, innW, g0, g1, g2, g3, f0, m1]
      · simp [sidW, AllB, List.range_succ, innW, g0, g1, g2, g3, f1, m2]
      · simp [sidW, AllB, List.range_succ, innW, g0, g1, g2, g3, f2]
      · simp [sidW, AllB, List.range_succ, innW, g0, g1, g2, g3, f3]
    simp [simpleW, AllB, List.range_succ, d, s]
  · intro k hk
    rcases (by omega : k = 0 ∨ k = 1 ∨ k = 2 ∨ k = 3) with rfl | rfl | rfl | rfl
    · exact c301
    · exact c012
    · exact c123
    · exact c230
theorem rc_check {w h x y : Int} (hx : -10000 ≤ x ∧ x ≤ 20000) (hy : -10000 ≤ y ∧ y ≤ 20000) (hw : 1 ≤ w ∧ w ≤ 1000) (hh : 1 ≤ h ∧ h ≤ 1000) : checkW (rcAt w h x y) 4 = 0 := by
  refine checkW_ok (by omega) (by omega) ?_ (rc_simple hx hy hw hh).1
  rw [Bool.eq_false_iff]
  intro e
  obtain ⟨i, hi, e⟩ := AnyB.iff.1 e
  have := rc_near hx hy hw hh (gt (rcAt w h x y) i) (List.mem_of_getElem? (gt_some (show i < (rcAt w h x y).length from hi)))
  rw [out_near this] at e
  cases e
theorem rc_area {w h x y : Int} (hx : -10000 ≤ x ∧ x ≤ 20000) (hy : -10000 ≤ y ∧ y ≤ 20000) (hw : 1 ≤ w ∧ w ≤ 1000) (hh : 1 ≤ h ∧ h ≤ 1000) : 0 < areaW (rcAt w h x y) 4 4 := by
  have hP : 0 < w * h := Int.mul_pos (by omega) (by omega)
  have := area_ar (l := rcAt w h x y) (rc_near hx hy hw hh) (by simp [rcAt]) (by simp [rcAt])
  have e : (rcAt w h x y).length = 4 := rfl
  rw [e] at this
  rw [this]
  have : ar (rcAt w h x y) = 2 * (w * h) := by
    simp [ar, rcAt, E, ch, sm_cons, sm_nil, vx]
    grind
  omega
end Go.Proofs.YtmdncaoilegnnaaGreat

namespace Go.Proofs.YtmdncaoilegnnaaGreat
set_option linter.unusedVariables false
set_option linter.unusedSimpArgs false
set_option linter.unusedVariables false
set_option linter.unusedSimpArgs false
open Go.RowKit Ears

section
variable {w h : Int}

theorem rc_bds (w h x y : Int) (hw : 0 ≤ w) (hh : 0 ≤ h) : ∀ q ∈ rcAt w h x y, x ≤ q.1 ∧ q.1 ≤ x + w ∧ y ≤ q.2 ∧ q.2 ≤ y + h := by
  intro q hq
  unfold rcAt at hq
  simp at hq
  rcases hq with rfl | rfl | rfl | rfl <;> simp only <;> omega
theorem rc_normal {x y : Int} (hx : -10000 ≤ x ∧ x ≤ 20000) (hy : -10000 ≤ y ∧ y ≤ 20000) (hw : 1 ≤ w ∧ w ≤ 1000) (hh : 1 ≤ h ∧ h ≤ 1000) : normalW (rcAt w h x y) 4 = rcAt w h x y := by
  have hP : 0 < w * h := Int.mul_pos (by omega) (by omega)
  have hb := (rc_simple hx hy hw hh).2
  have ha := rc_area hx hy hw hh
  have hc : corn (rcAt w h x y) 4 4 = rcAt w h x y := by
    have c : ∀ k, k < 4 → corn (rcAt w h x y) 4 (k + 1) = corn (rcAt w h x y) 4 k ++ [gt (rcAt w h x y) k] := by
      intro k hk
      rw [corn, if_pos (by rw [hb k hk]; simp; omega)]
    rw [c 3 (by omega), c 2 (by omega), c 1 (by omega), c 0 (by omega)]
    rfl
  have hR : cornR (rcAt w h x y) 4 = rcAt w h x y := by
    unfold cornR
    rw [if_neg (by omega), hc]
  have hf : frst (rcAt w h x y) 4 = 0 := by
    have f0 : ∀ k, k < 4 → frst (rcAt w h x y) k = 0 → frst (rcAt w h x y) (k + 1) = 0 := by
      intro k hk e
      rw [frst, e, if_neg]
      rcases (by omega : k = 0 ∨ k = 1 ∨ k = 2 ∨ k = 3) with rfl | rfl | rfl | rfl
      all_goals unfold lessS gt rcAt; simp; try omega
    exact f0 3 (by omega) (f0 2 (by omega) (f0 1 (by omega) (f0 0 (by omega) rfl)))
  unfold normalW
  rw [hR, show (rcAt w h x y).length = 4 from rfl, hf]
  rfl
theorem rc_split {x y : Int} (hx : -10000 ≤ x ∧ x ≤ 20000) (hy : -10000 ≤ y ∧ y ≤ 20000) (hw : 1 ≤ w ∧ w ≤ 1000) (hh : 1 ≤ h ∧ h ≤ 1000) :
    (splitAllW (rcAt w h x y)).2 = [[(x, y + h), (x, y), (x + w, y)], [(x + w, y), (x + w, y + h), (x, y + h)]] := by
  have hP : 0 < w * h := Int.mul_pos (by omega) (by omega)
  have hb := (rc_simple hx hy hw hh).2
  have hc := rc_check hx hy hw hh
  have hn := rc_normal hx hy hw hh
  have hg := (normal_good (l := rcAt w h x y) hc).1
  rw [show (rcAt w h x y).length = 4 from rfl, hn] at hg
  have h4 : (rcAt w h x y).length = 4 := rfl
  have s1 : idxOf (strW (rcAt w h x y) 4) 4 = -1 := by
    apply idxOf_none
    cases e : AnyB (strW (rcAt w h x y) 4) 4 with
    | false => rfl
    | true =>
      obtain ⟨i, hi, g⟩ := AnyB.iff.1 e
      have := hb i hi
      unfold bendW at this
      unfold strW at g
      rw [this, beq_iff_eq] at g
      omega
  have s2 : freeW (rcAt w h x y) 4 0 = true := by
    have fi := free_iff hg (i := 0) (by rw [h4]; omega)
    rw [h4] at fi
    rw [fi]
    have g0 : gt (rcAt w h x y) 0 = (x, y) := rfl
    have g1 : gt (rcAt w h x y) ((0 + 1) % 4) = (x + w, y) := rfl
    have g3 : gt (rcAt w h x y) ((0 + 4 - 1) % 4) = (x, y + h) := rfl
    rw [g0, g1, g3]
    refine ⟨?_, ?_⟩
    · have : cr (x, y + h) (x, y) (x + w, y) = w * h := by unfold cr; grind
      omega
    · intro q hq n1 n2 n3
      unfold rcAt at hq
      simp at hq
      rcases hq with rfl | rfl | rfl | rfl
      · exact absurd rfl n2
      · exact absurd rfl n3
      · rintro ⟨_, _, k⟩
        have : cr (x + w, y) (x, y + h) (x + w, y + h) = - (w * h) := by unfold cr; grind
        omega
      · exact absurd rfl n1
  have s3 : idxOf (freeW (rcAt w h x y) 4) 4 = ((0 : Nat) : Int) := idxOf_at (by omega) rfl s2
  unfold splitAllW
  rw [h4, if_pos hc, hn, h4, splitW_ear (f := 3) h4 (by omega) (by rw [s1]; omega) s3, splitW_end (by simp [rcAt])]
  rfl
/-- What a blocked move of two rectangles says. -/
theorem rc_blk_in {x1 y1 x2 y2 : Int} {d : Int × Int} (hw : 1 ≤ w) (hh : 1 ≤ h) (hB : Blk (rcAt w h x1 y1) (rcAt w h x2 y2) d) :
    -w < x1 - x2 - d.1 ∧ x1 - x2 - d.1 < w ∧ -h < y1 - y2 - d.2 ∧ y1 - y2 - d.2 < h := by
  obtain ⟨p1, a1, q1, b1, c1⟩ := hB (1, 0) (by simp)
  obtain ⟨p2, a2, q2, b2, c2⟩ := hB (-1, 0) (by simp)
  obtain ⟨p3, a3, q3, b3, c3⟩ := hB (0, 1) (by simp)
  obtain ⟨p4, a4, q4, b4, c4⟩ := hB (0, -1) (by simp)
  have := rc_bds w h x1 y1 (by omega) (by omega) p1 a1
  have := rc_bds w h x2 y2 (by omega) (by omega) q1 b1
  have := rc_bds w h x1 y1 (by omega) (by omega) p2 a2
  have := rc_bds w h x2 y2 (by omega) (by omega) q2 b2
  have := rc_bds w h x1 y1 (by omega) (by omega) p3 a3
  have := rc_bds w h x2 y2 (by omega) (by omega) q3 b3
  have := rc_bds w h x1 y1 (by omega) (by omega) p4 a4
  have := rc_bds w h x2 y2 (by omega) (by omega) q4 b4
  unfold dt sb at c1 c2 c3 c4
  simp only at c1 c2 c3 c4
  omega
theorem rc_pick {u e v : Int} (h1 : -v < e) (h2 : e < v) : ∃ s t : Bool, 0 ≤ u * (e + (if s then v else 0) - (if t then v else 0)) ∧ (u ≠ 0 → 0 < u * (e + (if s then v else 0) - (if t then v else 0))) := by
  rcases lt_ge 0 u with c | c
  · refine ⟨true, false, ?_, fun _ => ?_⟩
    · exact nn (by omega) (by simp; omega)
    · exact pos_mul c (by simp; omega)
  · refine ⟨false, true, ?_, fun hu => ?_⟩
    · have := nn (a := -u) (b := v - e) (by omega) (by omega)
      have e2 : u * (e + (if false = true then v else 0) - (if true = true then v else 0)) = -u * (v - e) := by simp; grind
      rw [e2]; exact this
    · have := pos_mul (a := -u) (b := v - e) (by omega) (by omega)
      have e2 : u * (e + (if false = true then v else 0) - (if true = true then v else 0)) = -u * (v - e) := by simp; grind
      rw [e2]; exact this
theorem rc_mem (w h x y : Int) (s t : Bool) : (x + (if s then w else 0), y + (if t then h else 0)) ∈ rcAt w h x y := by
  cases s <;> cases t <;> simp [rcAt]
theorem rc_blk_of {x1 y1 x2 y2 : Int} {d : Int × Int} (h1 : -w < x1 - x2 - d.1 ∧ x1 - x2 - d.1 < w) (h2 : -h < y1 - y2 - d.2 ∧ y1 - y2 - d.2 < h) : Blk (rcAt w h x1 y1) (rcAt w h x2 y2) d := by
  intro u hu
  obtain ⟨s1, t1, a1, b1⟩ := rc_pick (u := u.1) h1.1 h1.2
  obtain ⟨s2, t2, a2, b2⟩ := rc_pick (u := u.2) h2.1 h2.2
  refine ⟨_, rc_mem w h x1 y1 s1 s2, _, rc_mem w h x2 y2 t1 t2, ?_⟩
  have e : dt u (sb (sb (x1 + (if s1 then w else 0), y1 + (if s2 then h else 0)) (x2 + (if t1 then w else 0), y2 + (if t2 then h else 0))) d) =
      u.1 * (x1 - x2 - d.1 + (if s1 then w else 0) - (if t1 then w else 0)) + u.2 * (y1 - y2 - d.2 + (if s2 then h else 0) - (if t2 then h else 0)) := by
    unfold dt sb
    simp only
    congr 1 <;> congr 1 <;> omega
  rw [e]
  by_cases c : u.1 = 0
  · have : u.2 ≠ 0 := fun c2 => hu (Prod.ext c c2)
    have := b2 this
    omega
  · have := b1 c
    omega
/-- Blocked moves of two rectangles. -/
theorem rc_blk {x1 y1 x2 y2 : Int} (hx1 : -10000 ≤ x1 ∧ x1 ≤ 20000) (hy1 : -10000 ≤ y1 ∧ y1 ≤ 20000) (hx2 : -10000 ≤ x2 ∧ x2 ≤ 20000) (hy2 : -10000 ≤ y2 ∧ y2 ≤ 20000) (hw : 1 ≤ w ∧ w ≤ 1000) (hh : 1 ≤ h ∧ h ≤ 1000) (d : Int × Int) :
    blockedW (regionsW (rcAt w h x1 y1) (rcAt w h x2 y2)).2 d = true ↔ (-w < x1 - x2 - d.1 ∧ x1 - x2 - d.1 < w ∧ -h < y1 - y2 - d.2 ∧ y1 - y2 - d.2 < h) := by
  have c1 := rc_check hx1 hy1 hw hh
  have c2 := rc_check hx2 hy2 hw hh
  rw [blocked_iff (a := rcAt w h x1 y1) (b := rcAt w h x2 y2) c1 c2]
  constructor
  · rintro ⟨s, hs, t, ht, hB⟩
    refine rc_blk_in (by omega) (by omega) fun u hu => ?_
    obtain ⟨p, hp, q, hq, g⟩ := hB u hu
    exact ⟨p, (tris (a := rcAt w h x1 y1) c1 s hs).2 p hp, q, (tris (a := rcAt w h x2 y2) c2 t ht).2 q hq, g⟩
  · rintro ⟨g1, g2, g3, g4⟩
    have hP : 0 < w * h := Int.mul_pos (by omega) (by omega)
    exact conv_blk (a := rcAt w h x1 y1) (b := rcAt w h x2 y2) c1 c2 (fun k hk => by have := (rc_simple hx1 hy1 hw hh).2 k hk; show 0 ≤ bendW (rcAt w h x1 y1) 4 k; omega) (fun k hk => by have := (rc_simple hx2 hy2 hw hh).2 k hk; show 0 ≤ bendW (rcAt w h x2 y2) 4 k; omega) (rc_area hx1 hy1 hw hh) (rc_area hx2 hy2 hw hh) (rc_blk_of ⟨g1, g2⟩ ⟨g3, g4⟩)
theorem rc_over {x1 y1 x2 y2 : Int} (hx1 : -10000 ≤ x1 ∧ x1 ≤ 20000) (hy1 : -10000 ≤ y1 ∧ y1 ≤ 20000) (hx2 : -10000 ≤ x2 ∧ x2 ≤ 20000) (hy2 : -10000 ≤ y2 ∧ y2 ≤ 20000) (hw : 1 ≤ w ∧ w ≤ 1000) (hh : 1 ≤ h ∧ h ≤ 1000) :
    ∃ v, overW (rcAt w h x1 y1) (rcAt w h x2 y2) = (v, 0) ∧ (v = true ↔ (-w < x1 - x2 ∧ x1 - x2 < w ∧ -h < y1 - y2 ∧ y1 - y2 < h)) := by
  have c1 := rc_check hx1 hy1 hw hh
  have c2 := rc_check hx2 hy2 hw hh
  have hm : movW (rcAt w h x2 y2) (0, 0) = rcAt w h x2 y2 := by
    have := mov_plain (l := rcAt w h x2 y2) (rc_near hx2 hy2 hw hh) (x := 0) (y := 0) (by unfold nearB; simp)
    rw [this]; unfold movP; simp
  obtain ⟨v, h1, h2⟩ := exact_plain (a := rcAt w h x1 y1) (b := rcAt w h x2 y2) c1 c2 (d := (0, 0)) (by unfold inR; simp) (by rw [hm]; exact c2)
  rw [hm] at h2
  refine ⟨v, h2, ?_⟩
  rw [blocks_ok c1 c2] at h1
  injection h1 with h1 _
  rw [← h1, rc_blk hx1 hy1 hx2 hy2 hw hh]
  simp
/-- The upper right corner of a rectangle is a spot of the next one. -/
theorem rc_spot {x y : Int} (hx : 0 ≤ x ∧ x ≤ 20000) (hy : 0 ≤ y ∧ y ≤ 20000) (hw : 1 ≤ w ∧ w ≤ 1000) (hh : 1 ≤ h ∧ h ≤ 1000) : (spotsW (rcAt w h x y) (rcAt w h 0 0)).1 = 0 ∧ (x + w, y + h) ∈ (spotsW (rcAt w h x y) (rcAt w h 0 0)).2 := by
  have b1 : -10000 ≤ x ∧ x ≤ 20000 := by omega
  have b2 : -10000 ≤ y ∧ y ≤ 20000 := by omega
  have b0 : -10000 ≤ (0 : Int) ∧ (0 : Int) ≤ 20000 := by omega
  have c1 := rc_check b1 b2 hw hh
  have c2 := rc_check b0 b0 hw hh
  rw [spots_ok (a := rcAt w h x y) (b := rcAt w h 0 0) c1 c2]
  refine ⟨rfl, spots_mem.2 ⟨?_, ?_⟩⟩
  · have hs : [(x + w, y), (x + w, y + h), (x, y + h)] ∈ (splitAllW (rcAt w h x y)).2 := by rw [rc_split b1 b2 hw hh]; simp
    have ht : [((0 : Int), (0 : Int) + h), (0, 0), (0 + w, 0)] ∈ (splitAllW (rcAt w h 0 0)).2 := by rw [rc_split b0 b0 hw hh]; simp
    obtain ⟨L, a, b, _, reg⟩ := Sum_tri (tris (a := rcAt w h x y) c1 _ hs).1 (tris (a := rcAt w h 0 0) c2 _ ht).1
    refine ⟨_, ((regions_ok (a := rcAt w h x y) (b := rcAt w h 0 0) c1 c2).2 _).2 ⟨_, hs, _, ht, rfl⟩, ?_⟩
    have hq := reg.diff.all (x + w, y + h) (by simp) (0, 0) (by simp)
    obtain ⟨v, hv, hd⟩ := support reg.cvx (1, 1) hq
    obtain ⟨p, hp, q, hq2, rfl⟩ := reg.diff.into v (reg.cvx.sub v hv)
    have e : sb p q = (x + w, y + h) := by
      simp at hp hq2
      unfold dt sb at hd
      rcases hp with rfl | rfl | rfl <;> rcases hq2 with rfl | rfl | rfl <;> simp only at hd <;> unfold sb <;> simp only [Prod.mk.injEq] <;> omega
    rw [e] at hv
    exact hv
  · cases e : blockedW (regionsW (rcAt w h x y) (rcAt w h 0 0)).2 (x + w, y + h) with
    | false => rfl
    | true =>
      have := (rc_blk b1 b2 b0 b0 hw hh _).1 e
      simp only at this
      omega
end
end Go.Proofs.YtmdncaoilegnnaaGreat

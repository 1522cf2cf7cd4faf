/- Contracts of the small geometric functions: outside, cross, on, parted, folded, meet. -/
import Derived.Test.YtjnllehnplenaaaGreatG01
namespace Go.Proofs.YtjnllehnplenaaaGreat
set_option linter.unusedVariables false
set_option linter.unusedSimpArgs false
open Go.RowKit

def crossW (a b c : Int × Int) : Int := wrap64 (wrap64 (wrap64 (b.1 - a.1) * wrap64 (c.2 - a.2)) - wrap64 (wrap64 (b.2 - a.2) * wrap64 (c.1 - a.1)))
def outB (M : Int) (s : Int × Int) : Bool := decide (s.1 < -M) || decide (s.1 > M) || decide (s.2 < -M) || decide (s.2 > M)
def cmpI (x y : Int) : Int := if x < y then -1 else if x > y then 1 else 0
def partedW (a b c d : Int × Int) : Bool := decide (IntKind.i64.wrap (cmpI (crossW a b c) 0 * cmpI (crossW a b d) 0) < 0)
def onW (a b p : Int × Int) : Bool := (crossW a b p == 0) && decide (min a.1 b.1 ≤ p.1) && decide (p.1 ≤ max a.1 b.1) && decide (min a.2 b.2 ≤ p.2) && decide (p.2 ≤ max a.2 b.2)

set_option maxHeartbeats 400000 in
theorem cross_any (ax ay bx bY cx cy : Int) (w : World) :
    Calls Tryz.prog 103 #[.agg #[.int .i64 ax, .int .i64 ay], .agg #[.int .i64 bx, .int .i64 bY], .agg #[.int .i64 cx, .int .i64 cy]] w fun e w' => e = .returned (.int .i64 (crossW (ax, ay) (bx, bY) (cx, cy))) ∧ Below w.heap.size w w' := by
  go_enter Tryz.func103, Tryz.ntmps103
  go_wp2
  go_ret
  exact ⟨rfl, Bl.alloc (Bl.alloc (Bl.alloc (Below.refl _ _) _) _) _⟩

set_option maxHeartbeats 400000 in
theorem outside_any (ax ay : Int) (w : World) :
    Calls Tryz.prog 101 #[.agg #[.int .i64 ax, .int .i64 ay]] w fun e w' => e = .returned (.bool (outB 1048576 (ax, ay))) ∧ Below w.heap.size w w' := by
  go_enter Tryz.func101, Tryz.ntmps101
  go_wp2
  all_goals go_ret
  all_goals exact ⟨ret_bool (by simp [outB] <;> omega), Bl.alloc (Below.refl _ _) _⟩

set_option maxHeartbeats 400000 in
theorem isNaN_any (x : Int) (w : World) : Calls Tryz.prog 84 #[.int .i64 x] w fun e w' => e = .returned (.bool false) ∧ w = w' := by
  go_enter Tryz.func84, Tryz.ntmps84
  go_wp2
  all_goals go_ret
  all_goals exact ⟨by simp, rfl⟩

set_option maxHeartbeats 400000 in
theorem compare_any (x y : Int) (w : World) : Calls Tryz.prog 48 #[.int .i64 x, .int .i64 y] w fun e w' => e = .returned (.int .i64 (cmpI x y)) ∧ Below w.heap.size w w' := by
  go_enter Tryz.func48, Tryz.ntmps48
  go_wp2_with (go_at_call 84; refine (isNaN_any _ _).mono ?_; rintro e w' ⟨rfl, rfl⟩)
  all_goals go_ret
  all_goals exact ⟨ret_int (by unfold cmpI; (repeat split) <;> omega), Below.refl _ _⟩

set_option maxHeartbeats 400000 in
theorem parted_any (ax ay bx bY cx cy dx dy : Int) (w : World) :
    Calls Tryz.prog 126 #[.agg #[.int .i64 ax, .int .i64 ay], .agg #[.int .i64 bx, .int .i64 bY], .agg #[.int .i64 cx, .int .i64 cy], .agg #[.int .i64 dx, .int .i64 dy]] w fun e w' => e = .returned (.bool (partedW (ax, ay) (bx, bY) (cx, cy) (dx, dy))) ∧ Below w.heap.size w w' := by
  go_enter Tryz.func126, Tryz.ntmps126
  go_wp2_with fail
  refine wp_region_cls w [(⟨w.heap.size, 0, none⟩, .int .i64 ax), (⟨w.heap.size, 1, none⟩, .int .i64 ay), (⟨w.heap.size + 1, 0, none⟩, .int .i64 bx), (⟨w.heap.size + 1, 1, none⟩, .int .i64 bY), (⟨w.heap.size + 1 + 1, 0, none⟩, .int .i64 cx), (⟨w.heap.size + 1 + 1, 1, none⟩, .int .i64 cy), (⟨w.heap.size + 1 + 1 + 1, 0, none⟩, .int .i64 dx), (⟨w.heap.size + 1 + 1 + 1, 1, none⟩, .int .i64 dy)] (by kernel_rfl) (by kernel_rfl) ⟨(Bl.alloc (Bl.alloc (Bl.alloc (Bl.alloc (Below.refl _ _) _) _) _) _), by simp only [List.mem_cons, List.not_mem_nil, forall_eq_or_imp, or_false, forall_eq]; go_simp⟩ ?_
  repeat
    apply wq_plain
    · rfl
    · intro w1 hw1
      have hx := hw1.2
      simp only [List.mem_cons, List.not_mem_nil, forall_eq_or_imp, or_false, forall_eq] at hx
      go_simp
      first | rfl | exact calls_cls hw1 (cross_any _ _ _ _ _ _ _) | exact calls_cls hw1 (compare_any _ _ _)
    go_simp
  refine wpQuiet_nil ?_
  intro w1 hCw1
  have hb := hCw1.1
  clear hCw1
  go_wp2
  go_ret
  exact ⟨rfl, hb⟩

set_option maxHeartbeats 1000000 in
theorem on_any (ax ay bx bY cx cy : Int) (w : World) :
    Calls Tryz.prog 125 #[.agg #[.int .i64 ax, .int .i64 ay], .agg #[.int .i64 bx, .int .i64 bY], .agg #[.int .i64 cx, .int .i64 cy]] w fun e w' => e = .returned (.bool (onW (ax, ay) (bx, bY) (cx, cy))) ∧ Below w.heap.size w w' := by
  go_enter Tryz.func125, Tryz.ntmps125
  go_wp2_with (go_at_call 103; refine (cross_any _ _ _ _ _ _ _).mono ?_; rintro e w1 ⟨rfl, hb⟩; obtain ⟨hc, hf⟩ := bcell hb)
  all_goals go_ret
  all_goals refine ⟨ret_bool ?_, Bl.call (Bl.alloc (Bl.alloc (Bl.alloc (Below.refl _ _) _) _) _) (by assumption)⟩
  all_goals clear hb hc hf
  all_goals (rw [Bool.eq_iff_iff]; simp [onW]; try omega)

def foldedW (a b c : Int × Int) : Bool := (crossW a b c == 0) && decide (wrap64 (wrap64 (wrap64 (a.1 - b.1) * wrap64 (c.1 - b.1)) + wrap64 (wrap64 (a.2 - b.2) * wrap64 (c.2 - b.2))) > 0)
def meetW (a b c d : Int × Int) : Bool := onW a b c || onW a b d || onW c d a || onW c d b || (partedW a b c d && partedW c d a b)

set_option maxHeartbeats 1000000 in
theorem folded_any (ax ay bx bY cx cy : Int) (w : World) :
    Calls Tryz.prog 117 #[.agg #[.int .i64 ax, .int .i64 ay], .agg #[.int .i64 bx, .int .i64 bY], .agg #[.int .i64 cx, .int .i64 cy]] w fun e w' => e = .returned (.bool (foldedW (ax, ay) (bx, bY) (cx, cy))) ∧ Below w.heap.size w w' := by
  go_enter Tryz.func117, Tryz.ntmps117
  go_wp2_with (go_at_call 103; refine (cross_any _ _ _ _ _ _ _).mono ?_; rintro e w1 ⟨rfl, hb⟩; obtain ⟨hc, hf⟩ := bcell hb)
  all_goals go_ret
  all_goals refine ⟨ret_bool ?_, Bl.call (Bl.alloc (Bl.alloc (Bl.alloc (Below.refl _ _) _) _) _) (by assumption)⟩
  all_goals clear hb hc hf
  all_goals (rw [Bool.eq_iff_iff]; simp [foldedW]; try omega)

set_option maxHeartbeats 2000000 in
theorem meet_any (ax ay bx bY cx cy dx dy : Int) (w : World) :
    Calls Tryz.prog 118 #[.agg #[.int .i64 ax, .int .i64 ay], .agg #[.int .i64 bx, .int .i64 bY], .agg #[.int .i64 cx, .int .i64 cy], .agg #[.int .i64 dx, .int .i64 dy]] w fun e w' => e = .returned (.bool (meetW (ax, ay) (bx, bY) (cx, cy) (dx, dy))) ∧ Below w.heap.size w w' := by
  go_enter Tryz.func118, Tryz.ntmps118
  go_wp2_with (first | (go_at_call 125; refine (on_any _ _ _ _ _ _ _).mono ?_; rintro e w1 ⟨rfl, hb⟩; (first | (have hC := Cls.call hC hb) | (have hC : Cls w [(⟨w.heap.size, 0, none⟩, .int .i64 ax), (⟨w.heap.size, 1, none⟩, .int .i64 ay), (⟨w.heap.size + 1, 0, none⟩, .int .i64 bx), (⟨w.heap.size + 1, 1, none⟩, .int .i64 bY), (⟨w.heap.size + 1 + 1, 0, none⟩, .int .i64 cx), (⟨w.heap.size + 1 + 1, 1, none⟩, .int .i64 cy), (⟨w.heap.size + 1 + 1 + 1, 0, none⟩, .int .i64 dx), (⟨w.heap.size + 1 + 1 + 1, 1, none⟩, .int .i64 dy)] w1 := Cls.call ⟨(Bl.alloc (Bl.alloc (Bl.alloc (Bl.alloc (Below.refl _ _) _) _) _) _), by simp only [List.mem_cons, List.not_mem_nil, forall_eq_or_imp, or_false, forall_eq]; go_simp⟩ hb)); clear hb; have hx := hC.2; simp only [List.mem_cons, List.not_mem_nil, forall_eq_or_imp, or_false, forall_eq] at hx) | (go_at_call 126; refine (parted_any _ _ _ _ _ _ _ _ _).mono ?_; rintro e w1 ⟨rfl, hb⟩; (first | (have hC := Cls.call hC hb) | (have hC : Cls w [(⟨w.heap.size, 0, none⟩, .int .i64 ax), (⟨w.heap.size, 1, none⟩, .int .i64 ay), (⟨w.heap.size + 1, 0, none⟩, .int .i64 bx), (⟨w.heap.size + 1, 1, none⟩, .int .i64 bY), (⟨w.heap.size + 1 + 1, 0, none⟩, .int .i64 cx), (⟨w.heap.size + 1 + 1, 1, none⟩, .int .i64 cy), (⟨w.heap.size + 1 + 1 + 1, 0, none⟩, .int .i64 dx), (⟨w.heap.size + 1 + 1 + 1, 1, none⟩, .int .i64 dy)] w1 := Cls.call ⟨(Bl.alloc (Bl.alloc (Bl.alloc (Bl.alloc (Below.refl _ _) _) _) _) _), by simp only [List.mem_cons, List.not_mem_nil, forall_eq_or_imp, or_false, forall_eq]; go_simp⟩ hb)); clear hb; have hx := hC.2; simp only [List.mem_cons, List.not_mem_nil, forall_eq_or_imp, or_false, forall_eq] at hx))
  all_goals go_ret
  all_goals refine ⟨ret_bool ?_, hC.1⟩
  all_goals clear hx hC
  all_goals (rw [Bool.eq_iff_iff]; simp [meetW, *])

end Go.Proofs.YtjnllehnplenaaaGreat

/- garmentref11: Less. -/
import Derived.Test.YtjnllehnplenaaaGreatG07
namespace Go.Proofs.YtjnllehnplenaaaGreat
set_option linter.unusedVariables false
set_option linter.unusedSimpArgs false
open Go.RowKit

set_option maxHeartbeats 400000 in
theorem rless_any (ax ay bx bY : Int) (w : World) :
    Calls Tryz.prog 62 #[.agg #[.int .i64 ax, .int .i64 ay], .agg #[.int .i64 bx, .int .i64 bY]] w fun e w' => e = .returned (.bool (lessS (ax, ay) (bx, bY))) ∧ Below w.heap.size w w' := by
  go_enter Tryz.func62, Tryz.ntmps62
  go_wp2
  all_goals go_ret
  all_goals exact ⟨ret_bool (by rw [Bool.eq_iff_iff]; simp [lessS] <;> omega), (Bl.alloc (Bl.alloc (Below.refl _ _) _) _)⟩

end Go.Proofs.YtjnllehnplenaaaGreat

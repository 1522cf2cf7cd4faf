/- FillRects: the law's walk, all cases. -/
import Derived.Test.YtmdncaoilegnnaaGreatUG82
namespace Go.Proofs.YtmdncaoilegnnaaGreat
set_option linter.unusedVariables false
set_option linter.unusedSimpArgs false
set_option linter.unusedVariables false
set_option linter.unusedSimpArgs false
open Go.RowKit

set_option maxHeartbeats 4000000 in
set_option maxRecDepth 100000 in
theorem lawRects (b : Bed4) (w h z : Int) (W : World) (hz : 0 ≤ z) :
    Calls Tryz.prog 6 #[bedV b, .int .i64 w, .int .i64 h, .int .u8 z] W fun e w' => e = .returned (.bool true) ∧ Below W.heap.size W w' := by
  have H0 := Lib.hid (BlkS.new W 25 #[.int .i64 b.len, .int .i64 b.wid, .int .i64 b.rx, .int .i64 b.ry])
  have hbw := Lib.hid (show Below W.heap.size W (W.alloc (.cells #[.int .i64 b.len, .int .i64 b.wid, .int .i64 b.rx, .int .i64 b.ry] 25)) from (Bl.alloc (Below.refl _ _) _))
  obtain ⟨d1, d2, d3, d4, -⟩ := H0.out.cells4
  have HA := Lib.hid ex_any
  obtain ⟨len, wid, rx, ry⟩ := b
  unfold bedV
  dsimp only at hbw d1 d2 d3 d4 ⊢
  by_cases g0 : 5 < z
  · go_enter Tryz.func6, Tryz.ntmps6
    go_wp2_with (go_at_call 11; refine (HA.out _).mono ?_; rintro e w9 ⟨rfl, hb9⟩)
    go_ret
    exact ⟨rfl, Bl.call hbw.out hb9⟩
  · skip
    by_cases g1 : w < 1
    · go_enter Tryz.func6, Tryz.ntmps6
      go_wp2_with (go_at_call 11; refine (HA.out _).mono ?_; rintro e w9 ⟨rfl, hb9⟩)
      go_ret
      exact ⟨rfl, Bl.call hbw.out hb9⟩
    · skip
      by_cases g2 : 1000 < w
      · go_enter Tryz.func6, Tryz.ntmps6
        go_wp2_with (go_at_call 11; refine (HA.out _).mono ?_; rintro e w9 ⟨rfl, hb9⟩)
        go_ret
        exact ⟨rfl, Bl.call hbw.out hb9⟩
      · skip
        by_cases g3 : h < 1
        · go_enter Tryz.func6, Tryz.ntmps6
          go_wp2_with (go_at_call 11; refine (HA.out _).mono ?_; rintro e w9 ⟨rfl, hb9⟩)
          go_ret
          exact ⟨rfl, Bl.call hbw.out hb9⟩
        · skip
          by_cases g4 : 1000 < h
          · go_enter Tryz.func6, Tryz.ntmps6
            go_wp2_with (go_at_call 11; refine (HA.out _).mono ?_; rintro e w9 ⟨rfl, hb9⟩)
            go_ret
            exact ⟨rfl, Bl.call hbw.out hb9⟩
          · skip
            by_cases g5 : len < 1
            · go_enter Tryz.func6, Tryz.ntmps6
              go_wp2_with (go_at_call 11; refine (HA.out _).mono ?_; rintro e w9 ⟨rfl, hb9⟩)
              go_ret
              exact ⟨rfl, Bl.call hbw.out hb9⟩
            · skip
              by_cases g6 : 10000 < len
              · go_enter Tryz.func6, Tryz.ntmps6
                go_wp2_with (go_at_call 11; refine (HA.out _).mono ?_; rintro e w9 ⟨rfl, hb9⟩)
                go_ret
                exact ⟨rfl, Bl.call hbw.out hb9⟩
              · skip
                by_cases g7 : wid < 1
                · go_enter Tryz.func6, Tryz.ntmps6
                  go_wp2_with (go_at_call 11; refine (HA.out _).mono ?_; rintro e w9 ⟨rfl, hb9⟩)
                  go_ret
                  exact ⟨rfl, Bl.call hbw.out hb9⟩
                · skip
                  by_cases g8 : 10000 < wid
                  · go_enter Tryz.func6, Tryz.ntmps6
                    go_wp2_with (go_at_call 11; refine (HA.out _).mono ?_; rintro e w9 ⟨rfl, hb9⟩)
                    go_ret
                    exact ⟨rfl, Bl.call hbw.out hb9⟩
                  · skip
                    obtain ⟨n, rfl⟩ : ∃ n : Nat, z = (n : Int) := ⟨z.toNat, by omega⟩
                    exact rects_main len wid rx ry w h n W (by omega) ⟨by dsimp only; omega, by dsimp only; omega, by dsimp only; omega, by dsimp only; omega, by omega, by omega, by omega, by omega⟩
end Go.Proofs.YtmdncaoilegnnaaGreat

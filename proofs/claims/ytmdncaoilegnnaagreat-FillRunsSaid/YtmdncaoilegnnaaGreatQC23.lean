/- FillRuns: the law's walk. PROVED HERE: the statement FillRuns, for every bed, every list of shapes and every order, without a condition. -/
import Derived.Test.YtmdncaoilegnnaaGreatQG69
import Derived.Test.YtmdncaoilegnnaaGreatQG31
import Derived.Test.YtmdncaoilegnnaaGreatQG32
import Derived.Test.YtmdncaoilegnnaaGreatQG25
namespace Go.Proofs.YtmdncaoilegnnaaGreat
set_option linter.unusedVariables false
set_option linter.unusedSimpArgs false
set_option linter.unusedVariables false
set_option linter.unusedSimpArgs false
set_option maxRecDepth 100000
open Go.RowKit

theorem samePW_same (a : List Pt5) : samePW a a = true := samePW_yes rfl (fun _ _ => rfl)
theorem runW_small (b : Bed4) (S : List Shp) (os : List Int) : (runW b S os).2.length ≤ 60 := by
  unfold runW
  split
  · simp
  · exact Nat.le_trans (runTo_len _) (by omega)
set_option maxHeartbeats 1000000 in
theorem lawRuns (A1 A2 : Option Addr) (c1 c2 n1 n2 : Nat) (b : Bed4) (S : List Shp) (os : List Int) (w : World) (hS : ShW w A1 n1 S) (hO : InS w A2 n2 os) (hm : n2 ≤ 9223372036854775807) :
    Calls Tryz.prog 5 #[bedV b, .slice A1 n1 c1, .slice A2 n2 c2] w fun e w' => e = .returned (.bool true) ∧ Below w.heap.size w w' := by
  have H0 := Lib.hid (BlkS.new w 25 #[.int .i64 b.len, .int .i64 b.wid, .int .i64 b.rx, .int .i64 b.ry])
  have hbw := Lib.hid (show Below w.heap.size w (w.alloc (.cells #[.int .i64 b.len, .int .i64 b.wid, .int .i64 b.rx, .int .i64 b.ry] 25)) from (Bl.alloc (Below.refl _ _) _))
  have HA := Lib.hid ex_any
  cases hfew : few4W S with
  | false =>
    have HW := Lib.hid hfew
    clear hfew
    obtain ⟨len, wid, rx, ry⟩ := b
    unfold bedV
    dsimp only at hbw ⊢
    go_enter Tryz.func5, Tryz.ntmps5
    go_wp2_with (first | (go_at_call 11; refine (HA.out _).mono ?_; rintro e w9 ⟨rfl, hb9⟩) | (go_at_call 17; refine (few4_any _ _ _ S _ (hS.keep hbw.out)).mono ?_; rintro e w1 ⟨rfl, hb1⟩; rw [HW.out]))
    go_ret
    exact ⟨rfl, Bl.call (Bl.call hbw.out hb1) hb9⟩
  | true =>
    have hn1 := few4_len hfew
    rw [hS.1] at hn1
    have hSS := Lib.hid (hS.shs (by omega))
    have HW := Lib.hid hfew
    clear hfew
    by_cases hn : 4 < n2 ∧ n2 ≤ 60
    · obtain ⟨hn3, hn4⟩ := hn
      obtain ⟨len, wid, rx, ry⟩ := b
      unfold bedV
      dsimp only at hbw ⊢
      go_enter Tryz.func5, Tryz.ntmps5
      go_wp2_with (first | (go_at_call 11; refine (HA.out _).mono ?_; rintro e w9 ⟨rfl, hb9⟩) | (go_at_call 17; refine (few4_any _ _ _ S _ (hS.keep hbw.out)).mono ?_; rintro e w1 ⟨rfl, hb1⟩; rw [HW.out]))
      go_ret
      exact ⟨rfl, Bl.call (Bl.call hbw.out hb1) hb9⟩
    · have hcl := runW_small b S os
      have HC := Lib.hid (fun w hS hO => run_any A1 A2 c1 c2 n1 n2 b S os w hm hS hO)
      have HD := Lib.hid (fun w hS hO => rrun_any A1 A2 c1 c2 n1 n2 b S os w hm hS hO)
      obtain ⟨r, hr⟩ : ∃ r, runW b S os = r := ⟨_, rfl⟩
      rw [hr] at HC HD hcl
      clear hr
      obtain ⟨r1, cs⟩ := r
      have HSP := Lib.hid (samePW_same cs)
      obtain ⟨nc, hnc⟩ : ∃ nc, cs.length = nc := ⟨_, rfl⟩
      dsimp only at hcl
      rw [hnc] at hcl
      have HNC := Lib.hid hnc
      clear hnc
      obtain ⟨len, wid, rx, ry⟩ := b
      unfold bedV at HC HD ⊢
      dsimp only at H0 hbw HC HD ⊢
      rcases (by omega : n2 ≤ 4 ∨ (4 < n2 ∧ 60 < n2)) with hn3 | ⟨hn3, hn4⟩
      all_goals
        clear hn
        go_enter Tryz.func5, Tryz.ntmps5
        go_wp2_with (first
          | (go_at_call 11; refine (HA.out _).mono ?_; rintro e w9 ⟨rfl, hb9⟩)
          | (go_at_call 14; refine (samePuts_any _ _ _ _ _ _ cs cs _ (by omega) hPl hPm).mono ?_; rintro e w4 ⟨rfl, hb4⟩; rw [HSP.out])
          | (go_at_call 19; refine (HD.out _ (hSS.out.keep hbX) (hO.keep hbX)).mono ?_; rintro e w3 ⟨v3, rfl, ho3, hb3⟩; obtain ⟨A3, c3, rfl, hPm⟩ := OwP.pus ho3; rw [HNC.out] at hPm ⊢; have hPl := hPl2.keep hb3)
          | (go_at_call 18; refine (HC.out _ (hSS.out.keep (Bl.call hbw.out hb1)) (hO.keep (Bl.call hbw.out hb1))).mono ?_; rintro e w2 ⟨v2, rfl, ho2, hb2⟩; obtain ⟨A4, c4, rfl, hPl2⟩ := OwP.pus ho2; rw [HNC.out] at hPl2 ⊢; have hbX := Bl.call (Bl.call hbw.out hb1) hb2; obtain ⟨a1', a2', a3', a4', -⟩ := ((H0.out.keep hb1).keep hb2).cells4)
          | (go_at_call 17; refine (few4_any _ _ _ S _ (hS.keep hbw.out)).mono ?_; rintro e w1 ⟨rfl, hb1⟩; rw [HW.out]; obtain ⟨a1, a2, a3, a4, -⟩ := (H0.out.keep hb1).cells4))
        go_ret
        exact ⟨rfl, Bl.call (Bl.call (Bl.call hbX hb3) hb4) hb9⟩
end Go.Proofs.YtmdncaoilegnnaaGreat

namespace Go.Proofs.YtmdncaoilegnnaaGreat
set_option linter.unusedVariables false
set_option linter.unusedSimpArgs false
set_option linter.unusedVariables false
set_option linter.unusedSimpArgs false
set_option maxRecDepth 100000
open Go.ChangeShapes Go.WideShapes Go.ChangeAt Go.RowKit

namespace fillRuns
set_option maxHeartbeats 1000000 in
theorem lifted (os : Os) (started : os.Started) (H : Type) (enc : TypeId × Value → H) :
    ReturnsInHanded {} Tryz.checked os 5 .any (Rows.fillRunsSpec.pre6 enc Tryz.prog Tryz.f5 Rows.fillRunsRow.domain false) (Rows.fillRunsSpec.post enc Tryz.prog Tryz.f5 false true false false) := by
  refine returnsInHanded_of_change (C := Tryz.checked) own started (by kernel_rfl) Tryz.func5
    (ChangeSpec.witness6 (enc := enc) (C := Tryz.checked) false ⟨#[], #[.agg #[.int .i64 0, .int .i64 0, .int .i64 0, .int .i64 0], .slice none 0 0, .slice none 0 0], []⟩ 8 (by kernel_rfl) (by kernel_rfl) (by kernel_rfl) (by kernel_rfl)) ?_
  intro W base args ds gs before hval0 hW hcnd _
  have hval : ∀ (j : Nat) t v, Tryz.f5.params[j]? = some t → args[j]? = some v → Value.okWide Tryz.prog W .any base t v := hval0
  have hW' := hW
  obtain ⟨p, q, hA0, hV, rfl, hfz, hnd⟩ := hW
  have hA : DataW.TrodAll enc Tryz.prog W 0 (fun _ => true) true Tryz.f5.params.toList args.toList ds p := hA0
  rw [Tryz.params5] at hA hval
  obtain ⟨v0, vs0, d0, ds0, p0, q0, hargs, rfl, rfl, h0, r0⟩ := trodAll_cons hA
  obtain ⟨v1, vs1, d1, ds1, p1, q1, rfl, rfl, rfl, h1, r1⟩ := trodAll_cons r0
  obtain ⟨v2, vs2, d2, ds2, p2, q2, rfl, rfl, rfl, h2, r2⟩ := trodAll_cons r1
  obtain ⟨rfl, rfl, rfl⟩ := trodAll_nil r2
  obtain rfl : args = #[v0, v1, v2] := by cases args; simp_all
  obtain ⟨rfl, rfl⟩ := trodVars_none hV
  have k0 := h0
  have lt0 : ∀ x ∈ p0, x.block < W.heap.size := by obtain ⟨m, hm⟩ := k0; exact DataW.trod_lt m _ _ _ hm
  obtain ⟨b0, rfl, w0⟩ := open_bed (hval 0 25 v0 rfl rfl) h0
  have k1 := h1
  have lt1 : ∀ x ∈ p1, x.block < W.heap.size := by obtain ⟨m, hm⟩ := k1; exact DataW.trod_lt m _ _ _ hm
  obtain ⟨A1, n1, c1, S1, rfl, w1⟩ := open_shapes (hval 1 26 v1 rfl rfl) h1
  have k2 := h2
  have lt2 : ∀ x ∈ p2, x.block < W.heap.size := by obtain ⟨m, hm⟩ := k2; exact DataW.trod_lt m _ _ _ hm
  obtain ⟨A2, n2, c2, L2, rfl, w2⟩ := open_order (hval 2 43 v2 rfl rfl) h2
  clear hA0 hval0
  refine (lawRuns A1 A2 c1 c2 n1 n2 b0 S1 L2 W w1.2 w2.2.2.1 (Nat.le_trans w2.1 w2.2.1)).mono fun e W' ⟨he, bel⟩ => ?_
  subst he
  exact ⟨_, rfl, _, _, _, [], _, [], hW', trodAll_mk1 (shut_bool Tryz.underlying4 _), (trodAll_cons_mk (Below.trod laidOut (by kernel_rfl) (of_decide_eq_true (by kernel_rfl)) k0 bel lt0) (trodAll_cons_mk (Below.trod laidOut (by kernel_rfl) (of_decide_eq_true (by kernel_rfl)) k1 bel lt1) (trodAll_cons_mk (Below.trod laidOut (by kernel_rfl) (of_decide_eq_true (by kernel_rfl)) k2 bel lt2) trodAll_mk0))), rfl, bel.frame _, fun h => by cases h⟩
theorem over : Rows.fillRunsRow.holds Tryz.pinned (OpenSpec.ofChange Rows.fillRunsSpec) :=
  OpenClaim.holds_of_wide 5 Tryz.f5 rfl rfl rfl rfl rfl rfl rfl ⟨rfl, rfl, rfl, rfl, rfl⟩ rfl rfl rfl rfl rfl (by kernel_rfl) Tryz.func5 (by kernel_rfl)
    (of_decide_eq_true (by kernel_rfl)) (by unfold Func.isWrapper; first | (rw [if_pos (by decide +kernel)]; kernel_rfl) | (rw [if_neg (by decide +kernel)]; exact ⟨rfl, rfl⟩))
    (fun os started H enc _ => lifted os started H enc)
theorem proved : Rows.FillRunsSaid := over
end fillRuns

end Go.Proofs.YtmdncaoilegnnaaGreat

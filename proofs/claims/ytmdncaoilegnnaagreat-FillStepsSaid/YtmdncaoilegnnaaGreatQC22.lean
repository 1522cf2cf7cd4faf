/- FillSteps: the law's walk. PROVED HERE: the statement FillSteps, for every bed, every list of shapes, every list of puts and every shape's number, without a condition. -/
import Derived.Test.YtmdncaoilegnnaaGreatQG68
import Derived.Test.YtmdncaoilegnnaaGreatQG31
import Derived.Test.YtmdncaoilegnnaaGreatQG32
namespace Go.Proofs.YtmdncaoilegnnaaGreat
set_option linter.unusedVariables false
set_option linter.unusedSimpArgs false
set_option linter.unusedVariables false
set_option linter.unusedSimpArgs false
set_option maxRecDepth 100000
open Go.RowKit

set_option maxHeartbeats 1000000 in
theorem lawSteps (A1 A2 : Option Addr) (c1 c2 n1 n2 : Nat) (b : Bed4) (S : List Shp) (ps : List Pt5) (sh : Int) (w : World) (hS : ShW w A1 n1 S) (hP : PuS w A2 n2 ps) (hm : n2 ≤ 9223372036854775807) :
    Calls Tryz.prog 4 #[bedV b, .slice A1 n1 c1, .slice A2 n2 c2, .int .i64 sh] w fun e w' => e = .returned (.bool true) ∧ Below w.heap.size w w' := by
  have H0 := Lib.hid (BlkS.new w 25 #[.int .i64 b.len, .int .i64 b.wid, .int .i64 b.rx, .int .i64 b.ry])
  have hbw := Lib.hid (show Below w.heap.size w (w.alloc (.cells #[.int .i64 b.len, .int .i64 b.wid, .int .i64 b.rx, .int .i64 b.ry] 25)) from (Bl.alloc (Below.refl _ _) _))
  have HA := Lib.hid ex_any
  cases hfew : (few4W S && decide (n2 ≤ 3)) with
  | false =>
    have HW := Lib.hid hfew
    clear hfew
    obtain ⟨len, wid, rx, ry⟩ := b
    unfold bedV
    dsimp only at hbw ⊢
    go_enter Tryz.func4, Tryz.ntmps4
    go_wp2_with (first | (go_at_call 11; refine (HA.out _).mono ?_; rintro e w9 ⟨rfl, hb9⟩) | (go_at_call 10; refine (lawFew_any _ _ _ _ _ _ S _ (hS.keep hbw.out) (by omega)).mono ?_; rintro e w1 ⟨rfl, hb1⟩; rw [HW.out]))
    go_ret
    exact ⟨rfl, Bl.call (Bl.call hbw.out hb1) hb9⟩
  | true =>
    obtain ⟨h4, h3⟩ := Bool.and_eq_true_iff.1 hfew
    have hn1 := few4_len h4
    rw [hS.1] at hn1
    have hn2 : n2 ≤ 3 := by simpa using h3
    have hSS := Lib.hid (hS.shs (by omega))
    have HW := Lib.hid hfew
    clear hfew h4 h3
    have HC := Lib.hid (fun w hS hP => step_any A1 A2 c1 c2 n1 n2 b S ps sh w (by omega) hS hP)
    have HD := Lib.hid (fun w hS hP => rstep_any A1 A2 c1 c2 n1 n2 b S ps sh w (by omega) hS hP)
    obtain ⟨r, hr⟩ : ∃ r, stepW b S ps sh = r := ⟨_, rfl⟩
    rw [hr] at HC HD
    clear hr
    obtain ⟨r1, ⟨p1, p2, p3, p4, p5⟩⟩ := r
    obtain ⟨len, wid, rx, ry⟩ := b
    unfold bedV at HC HD ⊢
    dsimp only at H0 hbw HC HD ⊢
    go_enter Tryz.func4, Tryz.ntmps4
    go_wp2_with (first
      | (go_at_call 11; refine (HA.out _).mono ?_; rintro e w9 ⟨rfl, hb9⟩)
      | (go_at_call 16; refine (HD.out _ (hSS.out.keep (Bl.alloc hbX _)) (hP.keep (Bl.alloc hbX _))).mono ?_; rintro e w3 ⟨rfl, hb3⟩; unfold putV; dsimp only; have kB := (BlkS.new w2 39 #[.int .i64 p1, .bool p2, .int .i64 p3, .int .i64 p4, .int .i64 p5]).keep hb3; obtain ⟨y1, y2, y3, y4, y5, y6⟩ := (kB.alloc (.cells #[.int .i64 p1, .bool p2, .int .i64 p3, .int .i64 p4, .int .i64 p5] 39)).cells5)
      | (go_at_call 15; refine (HC.out _ (hSS.out.keep (Bl.call hbw.out hb1)) (hP.keep (Bl.call hbw.out hb1))).mono ?_; rintro e w2 ⟨rfl, hb2⟩; unfold putV; dsimp only; have hbX := Bl.call (Bl.call hbw.out hb1) hb2; obtain ⟨a1', a2', a3', a4', -⟩ := (((H0.out.keep hb1).keep hb2).alloc (.cells #[.int .i64 p1, .bool p2, .int .i64 p3, .int .i64 p4, .int .i64 p5] 39)).cells4)
      | (go_at_call 10; refine (lawFew_any _ _ _ _ _ _ S _ (hS.keep hbw.out) (by omega)).mono ?_; rintro e w1 ⟨rfl, hb1⟩; rw [HW.out]; obtain ⟨a1, a2, a3, a4, -⟩ := (H0.out.keep hb1).cells4))
    go_ret
    exact ⟨rfl, Bl.call (Bl.alloc (Bl.call (Bl.alloc hbX _) hb3) _) hb9⟩
end Go.Proofs.YtmdncaoilegnnaaGreat

namespace Go.Proofs.YtmdncaoilegnnaaGreat
set_option linter.unusedVariables false
set_option linter.unusedSimpArgs false
set_option linter.unusedVariables false
set_option linter.unusedSimpArgs false
set_option maxRecDepth 100000
open Go.ChangeShapes Go.WideShapes Go.ChangeAt Go.RowKit

namespace fillSteps
set_option maxHeartbeats 1000000 in
theorem lifted (os : Os) (started : os.Started) (H : Type) (enc : TypeId × Value → H) :
    ReturnsInHanded {} Tryz.checked os 4 .any (Rows.fillStepsSpec.pre6 enc Tryz.prog Tryz.f4 Rows.fillStepsRow.domain false) (Rows.fillStepsSpec.post enc Tryz.prog Tryz.f4 false true false false) := by
  refine returnsInHanded_of_change (C := Tryz.checked) own started (by kernel_rfl) Tryz.func4
    (ChangeSpec.witness6 (enc := enc) (C := Tryz.checked) false ⟨#[], #[.agg #[.int .i64 0, .int .i64 0, .int .i64 0, .int .i64 0], .slice none 0 0, .slice none 0 0, .int .i64 0], []⟩ 8 (by kernel_rfl) (by kernel_rfl) (by kernel_rfl) (by kernel_rfl)) ?_
  intro W base args ds gs before hval0 hW hcnd _
  have hval : ∀ (j : Nat) t v, Tryz.f4.params[j]? = some t → args[j]? = some v → Value.okWide Tryz.prog W .any base t v := hval0
  have hW' := hW
  obtain ⟨p, q, hA0, hV, rfl, hfz, hnd⟩ := hW
  have hA : DataW.TrodAll enc Tryz.prog W 0 (fun _ => true) true Tryz.f4.params.toList args.toList ds p := hA0
  rw [Tryz.params4] at hA hval
  obtain ⟨v0, vs0, d0, ds0, p0, q0, hargs, rfl, rfl, h0, r0⟩ := trodAll_cons hA
  obtain ⟨v1, vs1, d1, ds1, p1, q1, rfl, rfl, rfl, h1, r1⟩ := trodAll_cons r0
  obtain ⟨v2, vs2, d2, ds2, p2, q2, rfl, rfl, rfl, h2, r2⟩ := trodAll_cons r1
  obtain ⟨v3, vs3, d3, ds3, p3, q3, rfl, rfl, rfl, h3, r3⟩ := trodAll_cons r2
  obtain ⟨rfl, rfl, rfl⟩ := trodAll_nil r3
  obtain rfl : args = #[v0, v1, v2, v3] := by cases args; simp_all
  obtain ⟨rfl, rfl⟩ := trodVars_none hV
  have k0 := h0
  have lt0 : ∀ x ∈ p0, x.block < W.heap.size := by obtain ⟨m, hm⟩ := k0; exact DataW.trod_lt m _ _ _ hm
  obtain ⟨b0, rfl, w0⟩ := open_bed (hval 0 25 v0 rfl rfl) h0
  have k1 := h1
  have lt1 : ∀ x ∈ p1, x.block < W.heap.size := by obtain ⟨m, hm⟩ := k1; exact DataW.trod_lt m _ _ _ hm
  obtain ⟨A1, n1, c1, S1, rfl, w1⟩ := open_shapes (hval 1 26 v1 rfl rfl) h1
  have k2 := h2
  have lt2 : ∀ x ∈ p2, x.block < W.heap.size := by obtain ⟨m, hm⟩ := k2; exact DataW.trod_lt m _ _ _ hm
  obtain ⟨A2, n2, c2, P2, rfl, w2⟩ := open_puts (hval 2 27 v2 rfl rfl) h2
  obtain ⟨a3, rfl, rfl, rfl, w3⟩ := open_int Tryz.underlying3 (hval 3 3 v3 rfl rfl) h3
  clear hA0 hval0
  refine (lawSteps A1 A2 c1 c2 n1 n2 b0 S1 P2 a3 W w1.2 w2.2.2.1 (Nat.le_trans w2.1 w2.2.1)).mono fun e W' ⟨he, bel⟩ => ?_
  subst he
  exact ⟨_, rfl, _, _, _, [], _, [], hW', trodAll_mk1 (shut_bool Tryz.underlying4 _), (trodAll_cons_mk (Below.trod laidOut (by kernel_rfl) (of_decide_eq_true (by kernel_rfl)) k0 bel lt0) (trodAll_cons_mk (Below.trod laidOut (by kernel_rfl) (of_decide_eq_true (by kernel_rfl)) k1 bel lt1) (trodAll_cons_mk (Below.trod laidOut (by kernel_rfl) (of_decide_eq_true (by kernel_rfl)) k2 bel lt2) (trodAll_cons_mk (shut_int Tryz.underlying3 w3) trodAll_mk0)))), rfl, bel.frame _, fun h => by cases h⟩
theorem over : Rows.fillStepsRow.holds Tryz.pinned (OpenSpec.ofChange Rows.fillStepsSpec) :=
  OpenClaim.holds_of_wide 4 Tryz.f4 rfl rfl rfl rfl rfl rfl rfl ⟨rfl, rfl, rfl, rfl, rfl⟩ rfl rfl rfl rfl rfl (by kernel_rfl) Tryz.func4 (by kernel_rfl)
    (of_decide_eq_true (by kernel_rfl)) (by unfold Func.isWrapper; first | (rw [if_pos (by decide +kernel)]; kernel_rfl) | (rw [if_neg (by decide +kernel)]; exact ⟨rfl, rfl⟩))
    (fun os started H enc _ => lifted os started H enc)
theorem proved : Rows.FillStepsSaid := over
end fillSteps

end Go.Proofs.YtmdncaoilegnnaaGreat

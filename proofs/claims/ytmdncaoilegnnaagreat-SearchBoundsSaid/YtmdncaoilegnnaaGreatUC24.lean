/- SearchBounds: the law's walk. PROVED HERE: the statement SearchBounds, for every bed and every list of shapes, without a condition. -/
import Derived.Test.YtmdncaoilegnnaaGreatUG70
import Derived.Test.YtmdncaoilegnnaaGreatUG26
import Derived.Test.YtmdncaoilegnnaaGreatUG28
namespace Go.Proofs.YtmdncaoilegnnaaGreat
set_option linter.unusedVariables false
set_option linter.unusedSimpArgs false
set_option linter.unusedVariables false
set_option linter.unusedSimpArgs false
open Go.RowKit

set_option maxHeartbeats 1000000 in
set_option maxRecDepth 100000 in
theorem lawBounds (A1 : Option Addr) (c1 n1 : Nat) (b : Bed4) (S : List Shp) (w : World) (hS : ShW w A1 n1 S) :
    Calls Tryz.prog 7 #[bedV b, .slice A1 n1 c1] w fun e w' => e = .returned (.bool true) ∧ Below w.heap.size w w' := by
  have H0 := Lib.hid (BlkS.new w 25 #[.int .i64 b.len, .int .i64 b.wid, .int .i64 b.rx, .int .i64 b.ry])
  have hbw := Lib.hid (show Below w.heap.size w (w.alloc (.cells #[.int .i64 b.len, .int .i64 b.wid, .int .i64 b.rx, .int .i64 b.ry] 25)) from (Bl.alloc (Below.refl _ _) _))
  have HA := Lib.hid alive_any
  cases hl : lghtW S with
  | false =>
    have HW := Lib.hid hl
    clear hl
    obtain ⟨len, wid, rx, ry⟩ := b
    unfold bedV
    dsimp only at H0 hbw ⊢
    go_enter Tryz.func7, Tryz.ntmps7
    go_wp2_with (first | (go_at_call 23; refine (HA.out _).mono ?_; rintro e w9 ⟨rfl, hb9⟩) | (go_at_call 22; refine (lght_any _ _ _ S _ (hS.keep hbw.out)).mono ?_; rintro e w1 ⟨rfl, hb1⟩; rw [HW.out]; obtain ⟨a1, a2, a3, a4, -⟩ := (H0.out.keep hb1).cells4))
    go_ret
    exact ⟨rfl, Bl.call (Bl.call hbw.out hb1) hb9⟩
  | true =>
    have hn1 := lghtW_len hl
    rw [hS.1] at hn1
    have hSS := Lib.hid (hS.shs (by omega))
    have HW := Lib.hid hl
    clear hl
    have HC := Lib.hid (fun w hS => bound_any A1 c1 n1 b S w hS)
    have HD := Lib.hid (fun w hS => rbound_any A1 c1 n1 b S w hS)
    obtain ⟨r, hr⟩ : ∃ r, bndW b S = r := ⟨_, rfl⟩
    rw [hr] at HC HD
    clear hr
    obtain ⟨r1, r2⟩ := r
    obtain ⟨len, wid, rx, ry⟩ := b
    unfold bedV at HC HD ⊢
    dsimp only at H0 hbw HC HD ⊢
    go_enter Tryz.func7, Tryz.ntmps7
    go_wp2_with (first
      | (go_at_call 23; refine (HA.out _).mono ?_; rintro e w9 ⟨rfl, hb9⟩)
      | (go_at_call 25; refine (HD.out _ (hSS.out.keep hbX)).mono ?_; rintro e w3 ⟨rfl, hb3⟩; dsimp only)
      | (go_at_call 24; refine (HC.out _ (hSS.out.keep (Bl.call hbw.out hb1))).mono ?_; rintro e w2 ⟨rfl, hb2⟩; dsimp only; have hbX := Bl.call (Bl.call hbw.out hb1) hb2; obtain ⟨a1', a2', a3', a4', -⟩ := ((H0.out.keep hb1).keep hb2).cells4)
      | (go_at_call 22; refine (lght_any _ _ _ S _ (hS.keep hbw.out)).mono ?_; rintro e w1 ⟨rfl, hb1⟩; rw [HW.out]; obtain ⟨a1, a2, a3, a4, -⟩ := (H0.out.keep hb1).cells4))
    go_ret
    exact ⟨rfl, Bl.call (Bl.call hbX hb3) hb9⟩
end Go.Proofs.YtmdncaoilegnnaaGreat

namespace Go.Proofs.YtmdncaoilegnnaaGreat
set_option linter.unusedVariables false
set_option linter.unusedSimpArgs false
set_option linter.unusedVariables false
set_option linter.unusedSimpArgs false
open Go.ChangeShapes Go.WideShapes Go.ChangeAt Go.RowKit

namespace searchBounds
set_option maxRecDepth 100000 in
set_option maxHeartbeats 1000000 in
theorem lifted (os : Os) (started : os.Started) (H : Type) (enc : TypeId × Value → H) :
    ReturnsInHanded {} Tryz.checked os 7 .any (Rows.searchBoundsSpec.pre6 enc Tryz.prog Tryz.f7 Rows.searchBoundsRow.domain false) (Rows.searchBoundsSpec.post enc Tryz.prog Tryz.f7 false true false false) := by
  refine returnsInHanded_of_change (C := Tryz.checked) own started (by kernel_rfl) Tryz.func7
    (ChangeSpec.witness6 (enc := enc) (C := Tryz.checked) false ⟨#[], #[.agg #[.int .i64 0, .int .i64 0, .int .i64 0, .int .i64 0], .slice none 0 0], []⟩ 8 (by kernel_rfl) (by kernel_rfl) (by kernel_rfl) (by kernel_rfl)) ?_
  intro W base args ds gs before hval0 hW hcnd _
  have hval : ∀ (j : Nat) t v, Tryz.f7.params[j]? = some t → args[j]? = some v → Value.okWide Tryz.prog W .any base t v := hval0
  have hW' := hW
  obtain ⟨p, q, hA0, hV, rfl, hfz, hnd⟩ := hW
  have hA : DataW.TrodAll enc Tryz.prog W 0 (fun _ => true) true Tryz.f7.params.toList args.toList ds p := hA0
  rw [Tryz.params7] at hA hval
  obtain ⟨v0, vs0, d0, ds0, p0, q0, hargs, rfl, rfl, h0, r0⟩ := trodAll_cons hA
  obtain ⟨v1, vs1, d1, ds1, p1, q1, rfl, rfl, rfl, h1, r1⟩ := trodAll_cons r0
  obtain ⟨rfl, rfl, rfl⟩ := trodAll_nil r1
  obtain rfl : args = #[v0, v1] := by cases args; simp_all
  obtain ⟨rfl, rfl⟩ := trodVars_none hV
  have k0 := h0
  have lt0 : ∀ x ∈ p0, x.block < W.heap.size := by obtain ⟨m, hm⟩ := k0; exact DataW.trod_lt m _ _ _ hm
  obtain ⟨b0, rfl, w0⟩ := open_bed (hval 0 25 v0 rfl rfl) h0
  have k1 := h1
  have lt1 : ∀ x ∈ p1, x.block < W.heap.size := by obtain ⟨m, hm⟩ := k1; exact DataW.trod_lt m _ _ _ hm
  obtain ⟨A1, n1, c1, S1, rfl, w1⟩ := open_shapes (hval 1 26 v1 rfl rfl) h1
  clear hA0 hval0
  refine (lawBounds A1 c1 n1 b0 S1 W w1.2).mono fun e W' ⟨he, bel⟩ => ?_
  subst he
  exact ⟨_, rfl, _, _, _, [], _, [], hW', trodAll_mk1 (shut_bool Tryz.underlying4 _), (trodAll_cons_mk (Below.trod laidOut (by kernel_rfl) (of_decide_eq_true (by kernel_rfl)) k0 bel lt0) (trodAll_cons_mk (Below.trod laidOut (by kernel_rfl) (of_decide_eq_true (by kernel_rfl)) k1 bel lt1) trodAll_mk0)), rfl, bel.frame _, fun h => by cases h⟩
theorem over : Rows.searchBoundsRow.holds Tryz.pinned (OpenSpec.ofChange Rows.searchBoundsSpec) :=
  OpenClaim.holds_of_wide 7 Tryz.f7 rfl rfl rfl rfl rfl rfl rfl ⟨rfl, rfl, rfl, rfl, rfl⟩ rfl rfl rfl rfl rfl (by kernel_rfl) Tryz.func7 (by kernel_rfl)
    (of_decide_eq_true (by kernel_rfl)) (by unfold Func.isWrapper; first | (rw [if_pos (by decide +kernel)]; kernel_rfl) | (rw [if_neg (by decide +kernel)]; exact ⟨rfl, rfl⟩))
    (fun os started H enc _ => lifted os started H enc)
theorem proved : Rows.SearchBoundsSaid := over
end searchBounds

end Go.Proofs.YtmdncaoilegnnaaGreat

/- garmentlaw16.NofitSwaps returns true. PROVED HERE: the statement NofitSwaps, for every two lists of spots and every move, without a condition. -/
import Derived.Test.YtnggempmdhmoeaaG44
import Derived.Test.YtnggempmdhmoeaaG43
namespace Go.Proofs.Ytnggempmdhmoeaa
set_option linter.unusedVariables false
set_option linter.unusedSimpArgs false
open Go.RowKit


set_option maxHeartbeats 2000000 in
set_option maxRecDepth 100000 in
theorem lawSwaps (A B : Option Addr) (ca cb na nb : Nat) (a b : List (Int × Int)) (x y : Int) (w : World) (hca : na ≤ ca) (hcb : nb ≤ cb) (hcA : ca ≤ 9223372036854775807) (hcB : cb ≤ 9223372036854775807) (hsA : SpS w A na a) (hsB : SpS w B nb b) :
    Calls Try.prog 3 #[.slice A na ca, .slice B nb cb, .agg #[.int .i64 x, .int .i64 y]] w fun e w' => e = .returned (.bool true) ∧ Below w.heap.size w w' := by
  have hna : na ≤ 9223372036854775807 := by omega
  have hnb : nb ≤ 9223372036854775807 := by omega
  cases hl : lightW na nb with
  | false =>
    go_enter Try.func3, Try.ntmps3
    go_wp2_with (first | (go_at_call 12; refine (nalive_any _).mono ?_; rintro e wz ⟨rfl, hbz⟩) | (go_at_call 9; refine (light_any _ _ _ _ _ _ _).mono ?_; rintro e wl ⟨rfl, rfl⟩; rw [hl]))
    go_ret
    exact ⟨rfl, Bl.call (Bl.alloc (Below.refl _ _) _) hbz⟩
  | true =>
    cases hnr : (!outB 1048576 (x, y)) with
    | false =>
      go_enter Try.func3, Try.ntmps3
      go_wp2_with (first | (go_at_call 12; refine (nalive_any _).mono ?_; rintro e wz ⟨rfl, hbz⟩) | (go_at_call 10; refine (lnear_any _ _ _).mono ?_; rintro e wn ⟨rfl, hbn⟩; rw [hnr]; have hX1 := Bl.call (Bl.alloc (Below.refl _ _) _) hbn; have kB1 := (BlkS.new w 24 #[.int .i64 x, .int .i64 y]).keep hbn) | (go_at_call 9; refine (light_any _ _ _ _ _ _ _).mono ?_; rintro e wl ⟨rfl, rfl⟩; rw [hl]))
      go_ret
      exact ⟨rfl, Bl.call hX1 hbz⟩
    | true =>
      by_cases ha : checkW a na = 0
      · have qa : (checkW a na != 0) = false := by rw [ha]; rfl
        have HA := Lib.hid ha
        clear ha
        by_cases hb : checkW b nb = 0
        · have qb : (checkW b nb != 0) = false := by rw [hb]; rfl
          have HB := Lib.hid hb
          clear hb
          obtain ⟨v, h1, h2⟩ := swaps_plain (a := a) (b := b) (by rw [hsA.1]; exact HA.out) (by rw [hsB.1]; exact HB.out) x y
          have H1 := Lib.hid h1
          have H2 := Lib.hid h2
          clear h1 h2
          have nr := near_of_out (M := 1048576) (q := (x, y)) (by simpa using hnr)
          unfold nearB at nr
          have q5 : IntKind.i64.wrap (-x) = -x := wrap_in _ (by omega) (by omega)
          have q6 : IntKind.i64.wrap (-y) = -y := wrap_in _ (by omega) (by omega)
          clear nr
          go_enter Try.func3, Try.ntmps3
          go_wp2_with (first
            | (go_at_call 12; refine (nalive_any _).mono ?_; rintro e wz ⟨rfl, hbz⟩)
            | (go_at_call 13; refine (blocks_any _ _ _ _ _ _ b a (-x) (-y) _ hnb hna hcb hca (hsB.keep hX4) (hsA.keep hX4)).mono ?_; rintro e w4 ⟨rfl, hb4⟩; rw [H2.out]; have hX5 := Bl.call hX4 hb4)
            | (go_at_call 13; refine (blocks_any _ _ _ _ _ _ a b x y _ hna hnb hca hcb (hsA.keep hX3) (hsB.keep hX3)).mono ?_; rintro e w3 ⟨rfl, hb3⟩; rw [H1.out]; have hX4 := Bl.call hX3 hb3; have kB4 := kB3.keep hb3; clear d1 d2; obtain ⟨d1, d2⟩ := spot_cells kB4)
            | (go_at_call 11; refine (check_any _ _ _ b _ hnb hcb (hsB.keep hX2)).mono ?_; rintro e w2 ⟨rfl, hb2⟩; have hX3 := Bl.call hX2 hb2; have kB3 := kB2.keep hb2; obtain ⟨d1, d2⟩ := spot_cells kB3)
            | (go_at_call 11; refine (check_any _ _ _ a _ hna hca (hsA.keep hX1)).mono ?_; rintro e w1 ⟨rfl, hb1⟩; have hX2 := Bl.call hX1 hb1; have kB2 := kB1.keep hb1)
            | (go_at_call 10; refine (lnear_any _ _ _).mono ?_; rintro e wn ⟨rfl, hbn⟩; rw [hnr]; have hX1 := Bl.call (Bl.alloc (Below.refl _ _) _) hbn; have kB1 := (BlkS.new w 24 #[.int .i64 x, .int .i64 y]).keep hbn)
            | (go_at_call 9; refine (light_any _ _ _ _ _ _ _).mono ?_; rintro e wl ⟨rfl, rfl⟩; rw [hl]))
          go_ret
          exact ⟨rfl, Bl.call hX5 hbz⟩
        · have qb : (checkW b nb != 0) = true := by rw [bne_iff_ne]; exact hb
          clear hb
          go_enter Try.func3, Try.ntmps3
          go_wp2_with (first | (go_at_call 12; refine (nalive_any _).mono ?_; rintro e wz ⟨rfl, hbz⟩) | (go_at_call 11; refine (check_any _ _ _ b _ hnb hcb (hsB.keep hX2)).mono ?_; rintro e w2 ⟨rfl, hb2⟩; have hX3 := Bl.call hX2 hb2; have kB3 := kB2.keep hb2; obtain ⟨d1, d2⟩ := spot_cells kB3) | (go_at_call 11; refine (check_any _ _ _ a _ hna hca (hsA.keep hX1)).mono ?_; rintro e w1 ⟨rfl, hb1⟩; have hX2 := Bl.call hX1 hb1; have kB2 := kB1.keep hb1) | (go_at_call 10; refine (lnear_any _ _ _).mono ?_; rintro e wn ⟨rfl, hbn⟩; rw [hnr]; have hX1 := Bl.call (Bl.alloc (Below.refl _ _) _) hbn; have kB1 := (BlkS.new w 24 #[.int .i64 x, .int .i64 y]).keep hbn) | (go_at_call 9; refine (light_any _ _ _ _ _ _ _).mono ?_; rintro e wl ⟨rfl, rfl⟩; rw [hl]))
          go_ret
          exact ⟨rfl, Bl.call hX3 hbz⟩
      · have qa : (checkW a na != 0) = true := by rw [bne_iff_ne]; exact ha
        clear ha
        go_enter Try.func3, Try.ntmps3
        go_wp2_with (first | (go_at_call 12; refine (nalive_any _).mono ?_; rintro e wz ⟨rfl, hbz⟩) | (go_at_call 11; refine (check_any _ _ _ a _ hna hca (hsA.keep hX1)).mono ?_; rintro e w1 ⟨rfl, hb1⟩; have hX2 := Bl.call hX1 hb1; have kB2 := kB1.keep hb1) | (go_at_call 10; refine (lnear_any _ _ _).mono ?_; rintro e wn ⟨rfl, hbn⟩; rw [hnr]; have hX1 := Bl.call (Bl.alloc (Below.refl _ _) _) hbn; have kB1 := (BlkS.new w 24 #[.int .i64 x, .int .i64 y]).keep hbn) | (go_at_call 9; refine (light_any _ _ _ _ _ _ _).mono ?_; rintro e wl ⟨rfl, rfl⟩; rw [hl]))
        go_ret
        exact ⟨rfl, Bl.call hX2 hbz⟩

end Go.Proofs.Ytnggempmdhmoeaa

namespace Go.Proofs.Ytnggempmdhmoeaa
set_option linter.unusedVariables false
set_option linter.unusedSimpArgs false
open Go.ChangeShapes Go.WideShapes Go.ChangeAt Go.RowKit

namespace nofitSwaps
set_option maxRecDepth 100000 in
set_option maxHeartbeats 1000000 in
theorem lifted (os : Os) (started : os.Started) (H : Type) (enc : TypeId × Value → H) :
    ReturnsInHanded {} Try.checked os 3 .any (Rows.nofitSwapsSpec.pre6 enc Try.prog Try.f3 Rows.nofitSwapsRow.domain false) (Rows.nofitSwapsSpec.post enc Try.prog Try.f3 false true false false) := by
  refine returnsInHanded_of_change (C := Try.checked) own started (by kernel_rfl) Try.func3
    (ChangeSpec.witness6 (enc := enc) (C := Try.checked) false ⟨#[], #[.slice none 0 0, .slice none 0 0, .agg #[.int .i64 0, .int .i64 0]], []⟩ 8 (by kernel_rfl) (by kernel_rfl) (by kernel_rfl) (by kernel_rfl)) ?_
  intro W base args ds gs before hval0 hW hcnd _
  have hval : ∀ (j : Nat) t v, Try.f3.params[j]? = some t → args[j]? = some v → Value.okWide Try.prog W .any base t v := hval0
  have hW' := hW
  obtain ⟨p, q, hA0, hV, rfl, hfz, hnd⟩ := hW
  have hA : DataW.TrodAll enc Try.prog W 0 (fun _ => true) true Try.f3.params.toList args.toList ds p := hA0
  rw [Try.params3] at hA hval
  obtain ⟨v0, vs0, d0, ds0, p0, q0, hargs, rfl, rfl, h0, r0⟩ := trodAll_cons hA
  obtain ⟨v1, vs1, d1, ds1, p1, q1, rfl, rfl, rfl, h1, r1⟩ := trodAll_cons r0
  obtain ⟨v2, vs2, d2, ds2, p2, q2, rfl, rfl, rfl, h2, r2⟩ := trodAll_cons r1
  obtain ⟨rfl, rfl, rfl⟩ := trodAll_nil r2
  obtain rfl : args = #[v0, v1, v2] := by cases args; simp_all
  obtain ⟨rfl, rfl⟩ := trodVars_none hV
  have k0 := h0
  have lt0 : ∀ x ∈ p0, x.block < W.heap.size := by obtain ⟨m, hm⟩ := k0; exact DataW.trod_lt m _ _ _ hm
  obtain ⟨A0, n0, c0, L0, rfl, w0⟩ := open_spots (hval 0 22 v0 rfl rfl) h0
  have k1 := h1
  have lt1 : ∀ x ∈ p1, x.block < W.heap.size := by obtain ⟨m, hm⟩ := k1; exact DataW.trod_lt m _ _ _ hm
  obtain ⟨A1, n1, c1, L1, rfl, w1⟩ := open_spots (hval 1 22 v1 rfl rfl) h1
  have k2 := h2
  have lt2 : ∀ x ∈ p2, x.block < W.heap.size := by obtain ⟨m, hm⟩ := k2; exact DataW.trod_lt m _ _ _ hm
  obtain ⟨q2, rfl, w2⟩ := open_spot (hval 2 24 v2 rfl rfl) h2
  clear hA0 hval0
  refine (lawSwaps A0 A1 c0 c1 n0 n1 L0 L1 q2.1 q2.2 W w0.1 w1.1 w0.2.1 w1.2.1 w0.2.2.2.1 w1.2.2.2.1).mono fun e W' ⟨he, bel⟩ => ?_
  subst he
  exact ⟨_, rfl, _, _, _, [], _, [], hW', trodAll_mk1 (shut_bool Try.underlying4 _), (trodAll_cons_mk (Below.trod laidOut (by kernel_rfl) (of_decide_eq_true (by kernel_rfl)) k0 bel lt0) (trodAll_cons_mk (Below.trod laidOut (by kernel_rfl) (of_decide_eq_true (by kernel_rfl)) k1 bel lt1) (trodAll_cons_mk (Below.trod laidOut (by kernel_rfl) (of_decide_eq_true (by kernel_rfl)) k2 bel lt2) trodAll_mk0))), rfl, bel.frame _, fun h => by cases h⟩

theorem over : Rows.nofitSwapsRow.holds Try.pinned (OpenSpec.ofChange Rows.nofitSwapsSpec) :=
  OpenClaim.holds_of_wide 3 Try.f3 rfl rfl rfl rfl rfl rfl rfl ⟨rfl, rfl, rfl, rfl, rfl⟩ rfl rfl rfl rfl rfl (by kernel_rfl) Try.func3 (by kernel_rfl)
    (of_decide_eq_true (by kernel_rfl)) (by unfold Func.isWrapper; first | (rw [if_pos (by decide +kernel)]; kernel_rfl) | (rw [if_neg (by decide +kernel)]; exact ⟨rfl, rfl⟩))
    (fun os started H enc _ => lifted os started H enc)

theorem proved : Rows.NofitSwapsSaid := over
end nofitSwaps

end Go.Proofs.Ytnggempmdhmoeaa

/- garmentlaw16.NofitSelf returns true. PROVED HERE: the statement NofitSelf, for every list of spots and every move, without a condition. -/
import Derived.Test.YtnggempmdhmoeaaG44
import Derived.Test.YtnggempmdhmoeaaG43
namespace Go.Proofs.Ytnggempmdhmoeaa
set_option linter.unusedVariables false
set_option linter.unusedSimpArgs false
open Go.RowKit

theorem rect_cells {w : World} {g : Nat} {t : TypeId} {x y z u : Value} (h : BlkS w g t #[x, y, z, u]) : w.cell? ⟨g, 0, none⟩ = some x ∧ w.cell? ⟨g, 1, none⟩ = some y ∧ w.cell? ⟨g, 2, none⟩ = some z ∧ w.cell? ⟨g, 3, none⟩ = some u := ⟨(h.cell 0).trans rfl, (h.cell 1).trans rfl, (h.cell 2).trans rfl, (h.cell 3).trans rfl⟩

theorem lo_near (l : List (Int × Int)) (hl : ∀ q ∈ l, nearB 1048576 q) : ∀ n, n ≤ l.length → 0 < l.length → -1048576 ≤ loX l n ∧ loX l n ≤ 1048576 ∧ -1048576 ≤ loY l n ∧ loY l n ≤ 1048576 ∧ -1048576 ≤ hiX l n ∧ hiX l n ≤ 1048576 ∧ -1048576 ≤ hiY l n ∧ hiY l n ≤ 1048576
  | 0, _, h0 => by
    have := hl _ (gt_in h0)
    unfold nearB at this
    simp only [loX, loY, hiX, hiY]; omega
  | n + 1, hn, h0 => by
    have ih := lo_near l hl n (by omega) h0
    have := hl _ (gt_in (l := l) (i := n) (by omega))
    unfold nearB at this
    simp only [loX, loY, hiX, hiY]
    refine ⟨?_, ?_, ?_, ?_, ?_, ?_, ?_, ?_⟩ <;> split <;> omega


set_option maxHeartbeats 2000000 in
set_option maxRecDepth 100000 in
theorem lawSelf (A : Option Addr) (ca na : Nat) (a : List (Int × Int)) (x y : Int) (w : World) (hca : na ≤ ca) (hcA : ca ≤ 9223372036854775807) (hsA : SpS w A na a) :
    Calls Try.prog 5 #[.slice A na ca, .agg #[.int .i64 x, .int .i64 y]] w fun e w' => e = .returned (.bool true) ∧ Below w.heap.size w w' := by
  have hna : na ≤ 9223372036854775807 := by omega
  have la := hsA.1
  by_cases h12 : na ≤ 12
  · have q12 : ¬ (12 : Int) < (na : Int) := by omega
    by_cases ha : checkW a na = 0
    · have qa : (checkW a na != 0) = false := by rw [ha]; rfl
      have ha' : checkW a a.length = 0 := by rw [la]; exact ha
      have h3 := check_len ha
      obtain ⟨b, off, rfl, -⟩ := hsA.at_ (show 0 < na by omega)
      have bd := lo_near a (check_near ha') na (by omega) (by omega)
      obtain ⟨h1, v, h2, h4⟩ := self_plain ha' (x, y)
      have HW := Lib.hid (show wrap64 (hiX a na - loX a na) = hiX a na - loX a na from wrap_near (by omega) (by omega))
      have HH := Lib.hid (show wrap64 (hiY a na - loY a na) = hiY a na - loY a na from wrap_near (by omega) (by omega))
      rw [la] at h4
      simp only at h4
      obtain ⟨Wd, hWd⟩ : ∃ Wd, Wd = hiX a na - loX a na := ⟨_, rfl⟩
      obtain ⟨Hd, hHd⟩ : ∃ Hd, Hd = hiY a na - loY a na := ⟨_, rfl⟩
      rw [← hWd] at h4 HW
      rw [← hHd] at h4 HH
      have n1 : IntKind.i64.wrap (-Wd) = -Wd := wrap_in _ (by omega) (by omega)
      have n2 : IntKind.i64.wrap (-Hd) = -Hd := wrap_in _ (by omega) (by omega)
      clear bd
      have HWd := Lib.hid hWd
      have HHd := Lib.hid hHd
      have H1 := Lib.hid h1
      have H2 := Lib.hid h2
      have HC := Lib.hid ha
      obtain ⟨lx, hlx⟩ : ∃ lx, lx = loX a na := ⟨_, rfl⟩
      obtain ⟨ly, hly⟩ : ∃ ly, ly = loY a na := ⟨_, rfl⟩
      have HLX := Lib.hid hlx
      have HLY := Lib.hid hly
      clear h1 h2 hWd hHd ha ha' la hlx hly
      go_enter Try.func5, Try.ntmps5
      go_upto_region 4 with (first
        | (go_at_call 15; refine (box_ok _ _ _ _ a _ (by omega) hca (hsA.keep hX1) HC.out (by omega)).mono ?_; rintro e w2 ⟨rfl, hb2⟩; rw [← HWd.out, ← HHd.out, HW.out, HH.out, ← HLX.out, ← HLY.out]; have hX2 := Bl.call hX1 hb2; have kB2 := kB1.keep hb2)
        | (go_at_call 11; refine (check_any _ _ _ a _ hna hca (hsA.keep (Bl.alloc (Below.refl _ _) _))).mono ?_; rintro e w1 ⟨rfl, hb1⟩; have hX1 := Bl.call (Bl.alloc (Below.refl _ _) _) hb1; have kB1 := (BlkS.new w 24 #[.int .i64 x, .int .i64 y]).keep hb1))
      refine wp_world (fun X => Below w.heap.size w X ∧ BlkS X w.heap.size 24 #[.int .i64 x, .int .i64 y] ∧ BlkS X w2.heap.size 38 #[.int .i64 lx, .int .i64 ly, .int .i64 Wd, .int .i64 Hd]) ⟨Bl.alloc hX2 _, kB2.alloc _, BlkS.new _ _ _⟩ ?_
      clear hX1 hX2 kB1 kB2 hb1
      rintro X ⟨hX, kB, kR⟩
      have hs : ∀ {w' : World}, Below w.heap.size w w' → SpS w' (some ⟨b, off, none⟩) na a := fun h => hsA.keep h
      have fin : ∀ {r : Bool}, (r = true ∨ r = false) → True := fun _ => trivial
      by_cases hout : Wd ≤ x ∨ x ≤ -Wd ∨ Hd ≤ y ∨ y ≤ -Hd
      · have hv := h4 hout
        subst hv
        clear h4 hout
        obtain ⟨d1, d2⟩ := spot_cells kB
        go_wp2_with (first
          | (go_at_call 12; refine (nalive_any _).mono ?_; rintro e wz ⟨rfl, hbz⟩)
          | (go_at_call 13; refine (blocks_any _ _ _ _ _ _ a a x y _ hna hna hca hca (hs hX3) (hs hX3)).mono ?_; rintro e w4 ⟨rfl, hb4⟩; rw [H2.out]; have hX4 := Bl.call hX3 hb4; obtain ⟨f1, f2⟩ := spot_cells (kB3.keep hb4); obtain ⟨r1, r2, r3, r4⟩ := rect_cells (kR3.keep hb4))
          | (go_at_call 13; refine (blocks_any _ _ _ _ _ _ a a 0 0 _ hna hna hca hca (hs hX) (hs hX)).mono ?_; rintro e w3 ⟨rfl, hb3⟩; rw [H1.out]; have hX3 := Bl.call hX hb3; have kB3 := kB.keep hb3; have kR3 := kR.keep hb3; clear d1 d2; obtain ⟨d1, d2⟩ := spot_cells kB3))
        all_goals go_ret
        all_goals exact ⟨rfl, Bl.call hX4 hbz⟩
      · have m1 : ¬ Wd ≤ x := by omega
        have m2 : ¬ x ≤ -Wd := by omega
        have m3 : ¬ Hd ≤ y := by omega
        have m4 : ¬ y ≤ -Hd := by omega
        clear h4 hout
        obtain ⟨d1, d2⟩ := spot_cells kB
        go_wp2_with (first
          | (go_at_call 12; refine (nalive_any _).mono ?_; rintro e wz ⟨rfl, hbz⟩)
          | (go_at_call 13; refine (blocks_any _ _ _ _ _ _ a a x y _ hna hna hca hca (hs hX3) (hs hX3)).mono ?_; rintro e w4 ⟨rfl, hb4⟩; rw [H2.out]; have hX4 := Bl.call hX3 hb4; obtain ⟨f1, f2⟩ := spot_cells (kB3.keep hb4); obtain ⟨r1, r2, r3, r4⟩ := rect_cells (kR3.keep hb4))
          | (go_at_call 13; refine (blocks_any _ _ _ _ _ _ a a 0 0 _ hna hna hca hca (hs hX) (hs hX)).mono ?_; rintro e w3 ⟨rfl, hb3⟩; rw [H1.out]; have hX3 := Bl.call hX hb3; have kB3 := kB.keep hb3; have kR3 := kR.keep hb3; clear d1 d2; obtain ⟨d1, d2⟩ := spot_cells kB3))
        all_goals go_ret
        all_goals exact ⟨rfl, Bl.call hX4 hbz⟩
    · have qa : (checkW a na != 0) = true := by rw [bne_iff_ne]; exact ha
      clear ha la
      go_enter Try.func5, Try.ntmps5
      go_wp2_with (first | (go_at_call 12; refine (nalive_any _).mono ?_; rintro e wz ⟨rfl, hbz⟩) | (go_at_call 11; refine (check_any _ _ _ a _ hna hca (hsA.keep (Bl.alloc (Below.refl _ _) _))).mono ?_; rintro e w1 ⟨rfl, hb1⟩; have hX1 := Bl.call (Bl.alloc (Below.refl _ _) _) hb1; have kB1 := (BlkS.new w 24 #[.int .i64 x, .int .i64 y]).keep hb1))
      go_ret
      exact ⟨rfl, Bl.call hX1 hbz⟩
  · have q12 : (12 : Int) < (na : Int) := by omega
    go_enter Try.func5, Try.ntmps5
    go_wp2_with (first | (go_at_call 12; refine (nalive_any _).mono ?_; rintro e wz ⟨rfl, hbz⟩))
    go_ret
    exact ⟨rfl, Bl.call (Bl.alloc (Below.refl _ _) _) hbz⟩

end Go.Proofs.Ytnggempmdhmoeaa

namespace Go.Proofs.Ytnggempmdhmoeaa
set_option linter.unusedVariables false
set_option linter.unusedSimpArgs false
open Go.ChangeShapes Go.WideShapes Go.ChangeAt Go.RowKit

namespace nofitSelf
set_option maxRecDepth 100000 in
set_option maxHeartbeats 1000000 in
theorem lifted (os : Os) (started : os.Started) (H : Type) (enc : TypeId × Value → H) :
    ReturnsInHanded {} Try.checked os 5 .any (Rows.nofitSelfSpec.pre6 enc Try.prog Try.f5 Rows.nofitSelfRow.domain false) (Rows.nofitSelfSpec.post enc Try.prog Try.f5 false true false false) := by
  refine returnsInHanded_of_change (C := Try.checked) own started (by kernel_rfl) Try.func5
    (ChangeSpec.witness6 (enc := enc) (C := Try.checked) false ⟨#[], #[.slice none 0 0, .agg #[.int .i64 0, .int .i64 0]], []⟩ 8 (by kernel_rfl) (by kernel_rfl) (by kernel_rfl) (by kernel_rfl)) ?_
  intro W base args ds gs before hval0 hW hcnd _
  have hval : ∀ (j : Nat) t v, Try.f5.params[j]? = some t → args[j]? = some v → Value.okWide Try.prog W .any base t v := hval0
  have hW' := hW
  obtain ⟨p, q, hA0, hV, rfl, hfz, hnd⟩ := hW
  have hA : DataW.TrodAll enc Try.prog W 0 (fun _ => true) true Try.f5.params.toList args.toList ds p := hA0
  rw [Try.params5] at hA hval
  obtain ⟨v0, vs0, d0, ds0, p0, q0, hargs, rfl, rfl, h0, r0⟩ := trodAll_cons hA
  obtain ⟨v1, vs1, d1, ds1, p1, q1, rfl, rfl, rfl, h1, r1⟩ := trodAll_cons r0
  obtain ⟨rfl, rfl, rfl⟩ := trodAll_nil r1
  obtain rfl : args = #[v0, v1] := by cases args; simp_all
  obtain ⟨rfl, rfl⟩ := trodVars_none hV
  have k0 := h0
  have lt0 : ∀ x ∈ p0, x.block < W.heap.size := by obtain ⟨m, hm⟩ := k0; exact DataW.trod_lt m _ _ _ hm
  obtain ⟨A0, n0, c0, L0, rfl, w0⟩ := open_spots (hval 0 22 v0 rfl rfl) h0
  have k1 := h1
  have lt1 : ∀ x ∈ p1, x.block < W.heap.size := by obtain ⟨m, hm⟩ := k1; exact DataW.trod_lt m _ _ _ hm
  obtain ⟨q1, rfl, w1⟩ := open_spot (hval 1 24 v1 rfl rfl) h1
  clear hA0 hval0
  refine (lawSelf A0 c0 n0 L0 q1.1 q1.2 W w0.1 w0.2.1 w0.2.2.2.1).mono fun e W' ⟨he, bel⟩ => ?_
  subst he
  exact ⟨_, rfl, _, _, _, [], _, [], hW', trodAll_mk1 (shut_bool Try.underlying4 _), (trodAll_cons_mk (Below.trod laidOut (by kernel_rfl) (of_decide_eq_true (by kernel_rfl)) k0 bel lt0) (trodAll_cons_mk (Below.trod laidOut (by kernel_rfl) (of_decide_eq_true (by kernel_rfl)) k1 bel lt1) trodAll_mk0)), rfl, bel.frame _, fun h => by cases h⟩

theorem over : Rows.nofitSelfRow.holds Try.pinned (OpenSpec.ofChange Rows.nofitSelfSpec) :=
  OpenClaim.holds_of_wide 5 Try.f5 rfl rfl rfl rfl rfl rfl rfl ⟨rfl, rfl, rfl, rfl, rfl⟩ rfl rfl rfl rfl rfl (by kernel_rfl) Try.func5 (by kernel_rfl)
    (of_decide_eq_true (by kernel_rfl)) (by unfold Func.isWrapper; first | (rw [if_pos (by decide +kernel)]; kernel_rfl) | (rw [if_neg (by decide +kernel)]; exact ⟨rfl, rfl⟩))
    (fun os started H enc _ => lifted os started H enc)

theorem proved : Rows.NofitSelfSaid := over
end nofitSelf

end Go.Proofs.Ytnggempmdhmoeaa

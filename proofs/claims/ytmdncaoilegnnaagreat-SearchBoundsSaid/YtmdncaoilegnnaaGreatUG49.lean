/- garmentref11: Cross, sign, Between, Within. garmentref11: meet. garmentref11: simple. garmentref11: Check, Twice, Reversed, Move. -/
import Derived.Test.YtmdncaoilegnnaaGreatUA
import Derived.Test.YtmdncaoilegnnaaGreatUD
import Derived.Test.YtmdncaoilegnnaaGreatUG11
namespace Go.Proofs.YtmdncaoilegnnaaGreat
set_option linter.unusedVariables false
set_option linter.unusedSimpArgs false
set_option linter.unusedVariables false
set_option linter.unusedSimpArgs false
open Go.RowKit

set_option maxHeartbeats 400000 in
theorem rcross_any (ax ay bx bY cx cy : Int) (w : World) :
    Calls Tryz.prog 157 #[.agg #[.int .i64 ax, .int .i64 ay], .agg #[.int .i64 bx, .int .i64 bY], .agg #[.int .i64 cx, .int .i64 cy]] w fun e w' => e = .returned (.int .i64 (crossW (ax, ay) (bx, bY) (cx, cy))) ∧ Below w.heap.size w w' := by
  go_enter Tryz.func157, Tryz.ntmps157
  go_wp2
  go_ret
  exact ⟨rfl, Bl.alloc (Bl.alloc (Bl.alloc (Below.refl _ _) _) _) _⟩
set_option maxHeartbeats 400000 in
theorem rsign_any (x : Int) (w : World) : Calls Tryz.prog 158 #[.int .i64 x] w fun e w' => e = .returned (.int .i64 (cmpI x 0)) ∧ Below w.heap.size w w' := by
  go_enter Tryz.func158, Tryz.ntmps158
  go_wp2
  all_goals go_ret
  all_goals exact ⟨ret_int (by unfold cmpI; (repeat split) <;> omega), Below.refl _ _⟩
set_option maxHeartbeats 1000000 in
theorem rbetween_any (ax ay bx bY cx cy : Int) (w : World) :
    Calls Tryz.prog 116 #[.agg #[.int .i64 ax, .int .i64 ay], .agg #[.int .i64 bx, .int .i64 bY], .agg #[.int .i64 cx, .int .i64 cy]] w fun e w' => e = .returned (.bool (onW (ax, ay) (bx, bY) (cx, cy))) ∧ Below w.heap.size w w' := by
  go_enter Tryz.func116, Tryz.ntmps116
  go_wp2_with (go_at_call 157; refine (rcross_any _ _ _ _ _ _ _).mono ?_; rintro e w1 ⟨rfl, hb⟩; obtain ⟨hc, hf⟩ := bcell hb)
  all_goals go_ret
  all_goals refine ⟨ret_bool ?_, Bl.call (Bl.alloc (Bl.alloc (Bl.alloc (Below.refl _ _) _) _) _) (by assumption)⟩
  all_goals clear hb hc hf
  all_goals (rw [Bool.eq_iff_iff]; simp [onW]; try omega)
set_option maxHeartbeats 400000 in
theorem rwithin_any (ax ay : Int) (w : World) :
    Calls Tryz.prog 87 #[.agg #[.int .i64 ax, .int .i64 ay], .int .i64 1048576] w fun e w' => e = .returned (.bool (!outB 1048576 (ax, ay))) ∧ Below w.heap.size w w' := by
  go_enter Tryz.func87, Tryz.ntmps87
  go_wp2
  all_goals go_ret
  all_goals exact ⟨ret_bool (by rw [Bool.eq_iff_iff]; simp [outB] <;> omega), Bl.alloc (Below.refl _ _) _⟩
end Go.Proofs.YtmdncaoilegnnaaGreat

namespace Go.Proofs.YtmdncaoilegnnaaGreat
set_option linter.unusedVariables false
set_option linter.unusedSimpArgs false
set_option linter.unusedVariables false
set_option linter.unusedSimpArgs false
open Go.RowKit

set_option maxHeartbeats 4000000 in
theorem rmeet_any (ax ay bx bY cx cy dx dy : Int) (w : World) :
    Calls Tryz.prog 117 #[.agg #[.int .i64 ax, .int .i64 ay], .agg #[.int .i64 bx, .int .i64 bY], .agg #[.int .i64 cx, .int .i64 cy], .agg #[.int .i64 dx, .int .i64 dy]] w fun e w' => e = .returned (.bool (meetW (ax, ay) (bx, bY) (cx, cy) (dx, dy))) ∧ Below w.heap.size w w' := by
  by_cases hon : (onW (ax, ay) (bx, bY) (cx, cy) || onW (ax, ay) (bx, bY) (dx, dy) || onW (cx, cy) (dx, dy) (ax, ay) || onW (cx, cy) (dx, dy) (bx, bY)) = true
  · have HM := Lib.hid (show meetW (ax, ay) (bx, bY) (cx, cy) (dx, dy) = true by unfold meetW; rw [hon]; rfl)
    go_enter Tryz.func117, Tryz.ntmps117
    go_wp2_with (go_at_call 116; refine (rbetween_any _ _ _ _ _ _ _).mono ?_; rintro e w1 ⟨rfl, hb⟩; (first | (have hC := Cls.call hC hb) | (have hC : Cls w [(⟨w.heap.size, 0, none⟩, .int .i64 ax), (⟨w.heap.size, 1, none⟩, .int .i64 ay), (⟨w.heap.size + 1, 0, none⟩, .int .i64 bx), (⟨w.heap.size + 1, 1, none⟩, .int .i64 bY), (⟨w.heap.size + 1 + 1, 0, none⟩, .int .i64 cx), (⟨w.heap.size + 1 + 1, 1, none⟩, .int .i64 cy), (⟨w.heap.size + 1 + 1 + 1, 0, none⟩, .int .i64 dx), (⟨w.heap.size + 1 + 1 + 1, 1, none⟩, .int .i64 dy)] w1 := Cls.call ⟨(Bl.alloc (Bl.alloc (Bl.alloc (Bl.alloc (Below.refl _ _) _) _) _) _), by simp only [List.mem_cons, List.not_mem_nil, forall_eq_or_imp, or_false, forall_eq]; go_simp⟩ hb)); clear hb; have hx := hC.2; simp only [List.mem_cons, List.not_mem_nil, forall_eq_or_imp, or_false, forall_eq] at hx)
    all_goals first | (go_ret; exact ⟨ret_bool HM.out.symm, hC.1⟩) | (exfalso; simp_all; done)
  · have h1 : onW (ax, ay) (bx, bY) (cx, cy) = false := by simp at hon; simp [hon]
    have h2 : onW (ax, ay) (bx, bY) (dx, dy) = false := by simp at hon; simp [hon]
    have h3 : onW (cx, cy) (dx, dy) (ax, ay) = false := by simp at hon; simp [hon]
    have h4 : onW (cx, cy) (dx, dy) (bx, bY) = false := by simp at hon; simp [hon]
    have HM := Lib.hid (show meetW (ax, ay) (bx, bY) (cx, cy) (dx, dy) = (partedW (ax, ay) (bx, bY) (cx, cy) (dx, dy) && partedW (cx, cy) (dx, dy) (ax, ay) (bx, bY)) by unfold meetW; rw [h1, h2, h3, h4]; rfl)
    have H1 := Lib.hid h1
    have H2 := Lib.hid h2
    have H3 := Lib.hid h3
    have H4 := Lib.hid h4
    clear h1 h2 h3 h4 hon
    cases hp : partedW (ax, ay) (bx, bY) (cx, cy) (dx, dy) with
    | true =>
      have hd : decide (IntKind.i64.wrap (cmpI (crossW (ax, ay) (bx, bY) (cx, cy)) 0 * cmpI (crossW (ax, ay) (bx, bY) (dx, dy)) 0) < 0) = true := hp
      rw [hp, Bool.true_and] at HM
      clear hp
      go_enter Tryz.func117, Tryz.ntmps117
      go_wp2_with (go_at_call 116; refine (rbetween_any _ _ _ _ _ _ _).mono ?_; rintro e w1 ⟨rfl, hb⟩; (first | (have hC := Cls.call hC hb) | (have hC : Cls w [(⟨w.heap.size, 0, none⟩, .int .i64 ax), (⟨w.heap.size, 1, none⟩, .int .i64 ay), (⟨w.heap.size + 1, 0, none⟩, .int .i64 bx), (⟨w.heap.size + 1, 1, none⟩, .int .i64 bY), (⟨w.heap.size + 1 + 1, 0, none⟩, .int .i64 cx), (⟨w.heap.size + 1 + 1, 1, none⟩, .int .i64 cy), (⟨w.heap.size + 1 + 1 + 1, 0, none⟩, .int .i64 dx), (⟨w.heap.size + 1 + 1 + 1, 1, none⟩, .int .i64 dy)] w1 := Cls.call ⟨(Bl.alloc (Bl.alloc (Bl.alloc (Bl.alloc (Below.refl _ _) _) _) _) _), by simp only [List.mem_cons, List.not_mem_nil, forall_eq_or_imp, or_false, forall_eq]; go_simp⟩ hb)); clear hb; have hx := hC.2; simp only [List.mem_cons, List.not_mem_nil, forall_eq_or_imp, or_false, forall_eq] at hx; (first | rw [H1.out] | rw [H2.out] | rw [H3.out] | rw [H4.out]))
      refine wp_region_cls w [(⟨w.heap.size, 0, none⟩, .int .i64 ax), (⟨w.heap.size, 1, none⟩, .int .i64 ay), (⟨w.heap.size + 1, 0, none⟩, .int .i64 bx), (⟨w.heap.size + 1, 1, none⟩, .int .i64 bY), (⟨w.heap.size + 1 + 1, 0, none⟩, .int .i64 cx), (⟨w.heap.size + 1 + 1, 1, none⟩, .int .i64 cy), (⟨w.heap.size + 1 + 1 + 1, 0, none⟩, .int .i64 dx), (⟨w.heap.size + 1 + 1 + 1, 1, none⟩, .int .i64 dy)] (by kernel_rfl) (by kernel_rfl) hC ?_
      repeat
        first
        | go_big_quiet_skip
        | go_big_quiet_want
          apply Exists.intro
          refine And.intro ?_ ?_
          · intro w1 hw1
            have hx := hw1.2
            simp only [List.mem_cons, List.not_mem_nil, forall_eq_or_imp, or_false, forall_eq] at hx
            go_simp
            first | rfl | exact calls_cls hw1 (rcross_any _ _ _ _ _ _ _) | exact calls_cls hw1 (rsign_any _ _)
          go_simp
          go_big_quiet_on
      refine wpQuiet_nil ?_
      intro w1 hCw1
      have hb := hCw1.1
      clear hCw1 hC
      go_wp2
      go_ret
      exact ⟨ret_bool HM.out.symm, hb⟩
    | false =>
      have hd : decide (IntKind.i64.wrap (cmpI (crossW (ax, ay) (bx, bY) (cx, cy)) 0 * cmpI (crossW (ax, ay) (bx, bY) (dx, dy)) 0) < 0) = false := hp
      rw [hp, Bool.false_and] at HM
      clear hp
      go_enter Tryz.func117, Tryz.ntmps117
      go_wp2_with (go_at_call 116; refine (rbetween_any _ _ _ _ _ _ _).mono ?_; rintro e w1 ⟨rfl, hb⟩; (first | (have hC := Cls.call hC hb) | (have hC : Cls w [(⟨w.heap.size, 0, none⟩, .int .i64 ax), (⟨w.heap.size, 1, none⟩, .int .i64 ay), (⟨w.heap.size + 1, 0, none⟩, .int .i64 bx), (⟨w.heap.size + 1, 1, none⟩, .int .i64 bY), (⟨w.heap.size + 1 + 1, 0, none⟩, .int .i64 cx), (⟨w.heap.size + 1 + 1, 1, none⟩, .int .i64 cy), (⟨w.heap.size + 1 + 1 + 1, 0, none⟩, .int .i64 dx), (⟨w.heap.size + 1 + 1 + 1, 1, none⟩, .int .i64 dy)] w1 := Cls.call ⟨(Bl.alloc (Bl.alloc (Bl.alloc (Bl.alloc (Below.refl _ _) _) _) _) _), by simp only [List.mem_cons, List.not_mem_nil, forall_eq_or_imp, or_false, forall_eq]; go_simp⟩ hb)); clear hb; have hx := hC.2; simp only [List.mem_cons, List.not_mem_nil, forall_eq_or_imp, or_false, forall_eq] at hx; (first | rw [H1.out] | rw [H2.out] | rw [H3.out] | rw [H4.out]))
      refine wp_region_cls w [(⟨w.heap.size, 0, none⟩, .int .i64 ax), (⟨w.heap.size, 1, none⟩, .int .i64 ay), (⟨w.heap.size + 1, 0, none⟩, .int .i64 bx), (⟨w.heap.size + 1, 1, none⟩, .int .i64 bY), (⟨w.heap.size + 1 + 1, 0, none⟩, .int .i64 cx), (⟨w.heap.size + 1 + 1, 1, none⟩, .int .i64 cy), (⟨w.heap.size + 1 + 1 + 1, 0, none⟩, .int .i64 dx), (⟨w.heap.size + 1 + 1 + 1, 1, none⟩, .int .i64 dy)] (by kernel_rfl) (by kernel_rfl) hC ?_
      repeat
        first
        | go_big_quiet_skip
        | go_big_quiet_want
          apply Exists.intro
          refine And.intro ?_ ?_
          · intro w1 hw1
            have hx := hw1.2
            simp only [List.mem_cons, List.not_mem_nil, forall_eq_or_imp, or_false, forall_eq] at hx
            go_simp
            first | rfl | exact calls_cls hw1 (rcross_any _ _ _ _ _ _ _) | exact calls_cls hw1 (rsign_any _ _)
          go_simp
          go_big_quiet_on
      refine wpQuiet_nil ?_
      intro w1 hCw1
      have hb := hCw1.1
      clear hCw1 hC
      go_wp2
      go_ret
      exact ⟨ret_bool HM.out.symm, hb⟩
end Go.Proofs.YtmdncaoilegnnaaGreat

namespace Go.Proofs.YtmdncaoilegnnaaGreat
set_option linter.unusedVariables false
set_option linter.unusedSimpArgs false
set_option linter.unusedVariables false
set_option linter.unusedSimpArgs false
open Go.RowKit

theorem BlkS.two {w : World} {g : Nat} {t : TypeId} {u v : Value} (h : BlkS w g t #[u, v]) : w.cell? ⟨g, 0, none⟩ = some u ∧ w.cell? ⟨g, 1, none⟩ = some v ∧ w.frozen? ⟨g, 0, none⟩ = false ∧ w.frozen? ⟨g, 1, none⟩ = false ∧ g < w.heap.size :=
  ⟨(h.cell 0).trans rfl, (h.cell 1).trans rfl, h.frozen 0, h.frozen 1, h.lt⟩
theorem rsim_f {l : List (Int × Int)} {n k : Nat} (hk : k < n) (h : rsidW l n k = false) : rsimW l n = false := AllB.no hk h
theorem rsid_m {l : List (Int × Int)} {n k j : Nat} (hj : j < n) (h1 : k + 2 ≤ j) (h2 : ¬ (j + 1) % n = k) (h : meetW (gt l k) (gt l ((k + 1) % n)) (gt l j) (gt l ((j + 1) % n)) = true) : rsidW l n k = false := by
  have h3 : innW l n k j = false := by unfold innW; rw [h]; simp [h2]; omega
  unfold rsidW; rw [AllB.no hj h3, Bool.and_false]
set_option maxHeartbeats 4000000 in
set_option maxRecDepth 100000 in
theorem rsimple_any (b off cap n : Nat) (l : List (Int × Int)) (w : World) (hl : n ≤ 1000) (h3 : 3 ≤ n) (hcap : n ≤ cap) (hs : SpS w (some ⟨b, off, none⟩) n l) :
    Calls Tryz.prog 88 #[.slice (some ⟨b, off, none⟩) n cap] w fun e w' => e = .returned (.bool (rsimW l n)) ∧ Below w.heap.size w w' := by
  go_enter Tryz.func88, Tryz.ntmps88
  go_wp2_with fail
  go_loopw [4] (fun i wr => ∃ k : Nat, k ≤ n ∧ i = .int .i64 k ∧ Hid (AllB (rsidW l n) k = true) ∧ Below w.heap.size w wr) (fun i _ => n - (intOf i).toNat)
  case atStart => exact ⟨0, Nat.zero_le _, rfl, AllB.zero _, Below.refl _ _⟩
  case round =>
    obtain ⟨k, hk, rfl, hp, hb⟩ := hrel
    by_cases hlt : k < n
    · obtain ⟨h1, h2⟩ := (hs.keep hb).cells hlt
      have hm1 : (k + 1) % n < n := Nat.mod_lt _ (by omega)
      have hm2 : (k + 2) % n < n := Nat.mod_lt _ (by omega)
      obtain ⟨h5, h6⟩ := (hs.keep hb).cells hm1
      have m1 := modf ((k : Int) + 1) (k + 1) n rfl (by omega)
      have q1 : IntKind.i64.wrap ((k : Int) + 1) = (k : Int) + 1 := wrap_add k 1 (by omega)
      have q3 : ¬ n = 0 := by omega
      go_wp2_with fail
      have hbl : b < wr.heap.size := lt_of_cell h1
      go_cut [5, 6] from 11 to 77 (fun s5 s6 wx => ∃ b5 b6 : Nat, s5 = .pointer (some ⟨b5, 0, none⟩) ∧ s6 = .pointer (some ⟨b6, 0, none⟩) ∧ BlkS wx b5 37 #[.int .i64 (gt l k).1, .int .i64 (gt l k).2] ∧ BlkS wx b6 37 #[.int .i64 (gt l ((k + 1) % n)).1, .int .i64 (gt l ((k + 1) % n)).2] ∧ Below w.heap.size w wx)
      case first =>
        go_region
        all_goals go_wp2_with fail
        all_goals go_meet
        · exact ⟨wr.heap.size, wr.heap.size + 1, rfl, rfl, ((BlkS.new _ _ _).alloc _).drew, (BlkS.new2 _ _ _ _).drew, Bl.drew (Bl.alloc (Bl.alloc hb _) _)⟩
        · exact ⟨wr.heap.size + 1, wr.heap.size, rfl, rfl, (BlkS.new2 _ _ _ _).drew, ((BlkS.new _ _ _).alloc _).drew, Bl.drew (Bl.alloc (Bl.alloc hb _) _)⟩
      case rest =>
        clear h1 h2 h5 h6 m1 q1 hbl hb
        obtain ⟨b5, b6, rfl, rfl, hB5, hB6, hb⟩ := hcut
        obtain ⟨h5, h6⟩ := (hs.keep hb).cells hm2
        have hbl : b < wc.heap.size := lt_of_cell h5
        have q2 := modf ((k : Int) + 2) (k + 2) n rfl (by omega)
        have q1 : IntKind.i64.wrap ((k : Int) + 2) = (k : Int) + 2 := wrap_add k 2 (by omega)
        go_upto_region 7 with fail
        have hbX := Bl.alloc hb (.cells #[.int .i64 (gt l ((k + 2) % n)).1, .int .i64 (gt l ((k + 2) % n)).2] 37)
        refine wp_world (fun X => Below w.heap.size w X ∧ BlkS X b5 37 #[.int .i64 (gt l k).1, .int .i64 (gt l k).2] ∧ BlkS X b6 37 #[.int .i64 (gt l ((k + 1) % n)).1, .int .i64 (gt l ((k + 1) % n)).2] ∧ BlkS X wc.heap.size 37 #[.int .i64 (gt l ((k + 2) % n)).1, .int .i64 (gt l ((k + 2) % n)).2]) ⟨hbX, hB5.alloc _, hB6.alloc _, BlkS.new _ _ _⟩ ?_
        clear hbX hB5 hB6 hb h5 h6 hbl q1 q2
        rintro X ⟨hb, hB5, hB6, hB7⟩
        obtain ⟨b7, hb7⟩ : ∃ b7, wc.heap.size = b7 := ⟨_, rfl⟩
        rw [hb7] at hB7 ⊢
        clear hb7
        obtain ⟨c1, c2, c3, c4, c5⟩ := hB5.two
        obtain ⟨d1, d2, d3, d4, d5⟩ := hB6.two
        obtain ⟨f1, f2, f3, f4, f5⟩ := hB7.two
        have heqs := eqInSpot
        have hbS := hb
        have HQ : Hid ((eqS (gt l k) (gt l ((k + 1) % n)) || onW (gt l k) (gt l ((k + 1) % n)) (gt l ((k + 2) % n)) || onW (gt l ((k + 1) % n)) (gt l ((k + 2) % n)) (gt l k)) = true → rsidW l n k = false) := Lib.hid fun h => by unfold rsidW; rw [h]; rfl
        cases hv1 : eqS ((gt l k).1, (gt l k).2) ((gt l ((k + 1) % n)).1, (gt l ((k + 1) % n)).2)
        · cases hv2 : onW ((gt l k).1, (gt l k).2) ((gt l ((k + 1) % n)).1, (gt l ((k + 1) % n)).2) ((gt l ((k + 2) % n)).1, (gt l ((k + 2) % n)).2)
          · cases hv3 : onW ((gt l ((k + 1) % n)).1, (gt l ((k + 1) % n)).2) ((gt l ((k + 2) % n)).1, (gt l ((k + 2) % n)).2) ((gt l k).1, (gt l k).2)
            · have HG := Lib.hid (show AllB (innW l n k) n = true → rsidW l n k = true from fun h => by
                unfold rsidW
                rw [show eqS (gt l k) (gt l ((k + 1) % n)) = false from hv1, show onW (gt l k) (gt l ((k + 1) % n)) (gt l ((k + 2) % n)) = false from hv2, show onW (gt l ((k + 1) % n)) (gt l ((k + 2) % n)) (gt l k) = false from hv3, h]
                rfl)
              have H2 := Lib.hid hv2
              have H3 := Lib.hid hv3
              clear hv2 hv3
              go_wp2_with (go_at_call 116; refine (rbetween_any _ _ _ _ _ _ _).mono ?_; rintro e w1 ⟨rfl, hb⟩; (first | (have hC := Cls.call hC hb) | (have hC : Cls w [(⟨b5, 0, none⟩, .int .i64 (gt l k).1), (⟨b5, 1, none⟩, .int .i64 (gt l k).2), (⟨b6, 0, none⟩, .int .i64 (gt l ((k + 1) % n)).1), (⟨b6, 1, none⟩, .int .i64 (gt l ((k + 1) % n)).2), (⟨b7, 0, none⟩, .int .i64 (gt l ((k + 2) % n)).1), (⟨b7, 1, none⟩, .int .i64 (gt l ((k + 2) % n)).2)] w1 := Cls.call ⟨hbS, by simp only [List.mem_cons, List.not_mem_nil, forall_eq_or_imp, or_false, forall_eq]; go_simp⟩ hb)); clear hb; have hx := hC.2; simp only [List.mem_cons, List.not_mem_nil, forall_eq_or_imp, or_false, forall_eq] at hx; (first | rw [H2.out] | rw [H3.out]))
              have hC4 : Cls w [(⟨b5, 0, none⟩, .int .i64 (gt l k).1), (⟨b5, 1, none⟩, .int .i64 (gt l k).2), (⟨b6, 0, none⟩, .int .i64 (gt l ((k + 1) % n)).1), (⟨b6, 1, none⟩, .int .i64 (gt l ((k + 1) % n)).2)] w1 := ⟨hC.1, fun x hx => hC.2 x (by simp only [List.mem_cons, List.not_mem_nil, or_false] at hx ⊢; rcases hx with h | h | h | h <;> simp [h])⟩
              clear hC hx c1 c2 c3 c4 c5 d1 d2 d3 d4 d5 f1 f2 f3 f4 f5 hb hbS hB5 hB6 hB7 heqs HQ H2 H3 hv1
              go_loopw [8] (fun i wr => ∃ j : Nat, k + 2 ≤ j ∧ j ≤ n + 2 ∧ i = .int .i64 j ∧ Hid (AllB (innW l n k) j = true) ∧ Cls w [(⟨b5, 0, none⟩, .int .i64 (gt l k).1), (⟨b5, 1, none⟩, .int .i64 (gt l k).2), (⟨b6, 0, none⟩, .int .i64 (gt l ((k + 1) % n)).1), (⟨b6, 1, none⟩, .int .i64 (gt l ((k + 1) % n)).2)] wr) (fun i _ => n + 2 - (intOf i).toNat)
              case atStart => exact ⟨k + 2, by omega, by omega, by go_num, AllB.start (fun i hi => by unfold innW; simp [hi]), hC4⟩
              case round =>
                clear hC4
                obtain ⟨j, hj1, hj2, rfl, hq, hC⟩ := hrel
                have hx := hC.2
                simp only [List.mem_cons, List.not_mem_nil, forall_eq_or_imp, or_false, forall_eq] at hx
                by_cases hjn : j < n
                · have hm3 : (j + 1) % n < n := Nat.mod_lt _ (by omega)
                  have q4 : IntKind.i64.wrap ((j : Int) + 1) = (j : Int) + 1 := wrap_add j 1 (by omega)
                  have q2 := modf ((j : Int) + 1) (j + 1) n rfl (by omega)
                  have q3 : ¬ n = 0 := by omega
                  obtain ⟨h1, h2⟩ := (hs.keep hC.1).cells hjn
                  obtain ⟨h5, h6⟩ := (hs.keep hC.1).cells hm3
                  by_cases hjk : (j + 1) % n = k
                  · have q1 : (((j : Int) + 1) % (n : Int) != (k : Int)) = false := by
                      rw [show ((j : Int) + 1) % (n : Int) = (((j + 1) % n : Nat) : Int) from emod1 j n, hjk]; simp
                    have HJ := Lib.hid hjk
                    clear hjk
                    go_wp2_with fail
                    refine wp_region_cls w [(⟨b5, 0, none⟩, .int .i64 (gt l k).1), (⟨b5, 1, none⟩, .int .i64 (gt l k).2), (⟨b6, 0, none⟩, .int .i64 (gt l ((k + 1) % n)).1), (⟨b6, 1, none⟩, .int .i64 (gt l ((k + 1) % n)).2), (⟨b, off + j * 2, none⟩, .int .i64 (gt l j).1), (⟨b, off + j * 2 + 1, none⟩, .int .i64 (gt l j).2), (⟨b, off + (j + 1) % n * 2, none⟩, .int .i64 (gt l ((j + 1) % n)).1), (⟨b, off + (j + 1) % n * 2 + 1, none⟩, .int .i64 (gt l ((j + 1) % n)).2)] (by kernel_rfl) (by kernel_rfl) ⟨hC.1, by simp only [List.mem_cons, List.not_mem_nil, forall_eq_or_imp, or_false, forall_eq]; go_simp⟩ ?_
                    repeat
                      first
                      | go_big_quiet_skip
                      | go_big_quiet_want
                        apply Exists.intro
                        refine And.intro ?_ ?_
                        · intro w1 hw1
                          have hx := hw1.2
                          simp only [List.mem_cons, List.not_mem_nil, forall_eq_or_imp, or_false, forall_eq] at hx
                          go_simp
                          first | rfl | exact calls_cls hw1 (rmeet_any _ _ _ _ _ _ _ _ _)
                        go_simp
                        go_big_quiet_on
                    refine wpQuiet_nil ?_
                    intro w1 hCw1
                    clear q1 q2 q4 h1 h2 h5 h6
                    have hC' : Cls w [(⟨b5, 0, none⟩, .int .i64 (gt l k).1), (⟨b5, 1, none⟩, .int .i64 (gt l k).2), (⟨b6, 0, none⟩, .int .i64 (gt l ((k + 1) % n)).1), (⟨b6, 1, none⟩, .int .i64 (gt l ((k + 1) % n)).2)] w1 := ⟨hCw1.1, fun x hx => hCw1.2 x (by simp only [List.mem_cons, List.not_mem_nil, or_false] at hx ⊢; rcases hx with h | h | h | h <;> simp [h])⟩
                    clear hCw1 hC hx
                    go_wp2_with fail
                    exact ⟨⟨j + 1, by omega, by omega, by go_num, AllB.succ hq.out (by unfold innW; simp [HJ.out]), hC'⟩, by simp [intOf]; omega⟩
                  · have q1 : (((j : Int) + 1) % (n : Int) != (k : Int)) = true := by
                      rw [show ((j : Int) + 1) % (n : Int) = (((j + 1) % n : Nat) : Int) from emod1 j n, bne_iff_ne]; omega
                    have HJ := Lib.hid hjk
                    clear hjk
                    go_wp2_with fail
                    refine wp_region_cls w [(⟨b5, 0, none⟩, .int .i64 (gt l k).1), (⟨b5, 1, none⟩, .int .i64 (gt l k).2), (⟨b6, 0, none⟩, .int .i64 (gt l ((k + 1) % n)).1), (⟨b6, 1, none⟩, .int .i64 (gt l ((k + 1) % n)).2), (⟨b, off + j * 2, none⟩, .int .i64 (gt l j).1), (⟨b, off + j * 2 + 1, none⟩, .int .i64 (gt l j).2), (⟨b, off + (j + 1) % n * 2, none⟩, .int .i64 (gt l ((j + 1) % n)).1), (⟨b, off + (j + 1) % n * 2 + 1, none⟩, .int .i64 (gt l ((j + 1) % n)).2)] (by kernel_rfl) (by kernel_rfl) ⟨hC.1, by simp only [List.mem_cons, List.not_mem_nil, forall_eq_or_imp, or_false, forall_eq]; go_simp⟩ ?_
                    repeat
                      first
                      | go_big_quiet_skip
                      | go_big_quiet_want
                        apply Exists.intro
                        refine And.intro ?_ ?_
                        · intro w1 hw1
                          have hx := hw1.2
                          simp only [List.mem_cons, List.not_mem_nil, forall_eq_or_imp, or_false, forall_eq] at hx
                          go_simp
                          first | rfl | exact calls_cls hw1 (rmeet_any _ _ _ _ _ _ _ _ _)
                        go_simp
                        go_big_quiet_on
                    refine wpQuiet_nil ?_
                    intro w1 hCw1
                    clear q1 q2 q4 h1 h2 h5 h6
                    have hC' : Cls w [(⟨b5, 0, none⟩, .int .i64 (gt l k).1), (⟨b5, 1, none⟩, .int .i64 (gt l k).2), (⟨b6, 0, none⟩, .int .i64 (gt l ((k + 1) % n)).1), (⟨b6, 1, none⟩, .int .i64 (gt l ((k + 1) % n)).2)] w1 := ⟨hCw1.1, fun x hx => hCw1.2 x (by simp only [List.mem_cons, List.not_mem_nil, or_false] at hx ⊢; rcases hx with h | h | h | h <;> simp [h])⟩
                    clear hCw1 hC hx
                    go_wp2_with fail
                    · go_ret
                      exact ⟨ret_bool (rsim_f hlt (rsid_m hjn hj1 HJ.out ‹_›)).symm, hC'.1⟩
                    · go_roundw
                      case rel => exact ⟨j + 1, by omega, by omega, by go_num, inn_succ hq.out (by simpa using ‹_›), hC'⟩
                      case measure => simp [intOf]; omega
                · go_wp2_with fail
                  exact ⟨⟨k + 1, by omega, by go_num, AllB.succ hp.out (HG.out (AllB.mono hq.out (by omega))), hC.1⟩, by simp [intOf]; omega⟩
            · have HS := Lib.hid (rsim_f hlt (HQ.out (by rw [show onW (gt l ((k + 1) % n)) (gt l ((k + 2) % n)) (gt l k) = true from hv3]; simp)))
              have H2 := Lib.hid hv2
              have H3 := Lib.hid hv3
              clear hv2 hv3
              go_wp2_with (go_at_call 116; refine (rbetween_any _ _ _ _ _ _ _).mono ?_; rintro e w1 ⟨rfl, hb⟩; (first | (have hC := Cls.call hC hb) | (have hC : Cls w [(⟨b5, 0, none⟩, .int .i64 (gt l k).1), (⟨b5, 1, none⟩, .int .i64 (gt l k).2), (⟨b6, 0, none⟩, .int .i64 (gt l ((k + 1) % n)).1), (⟨b6, 1, none⟩, .int .i64 (gt l ((k + 1) % n)).2), (⟨b7, 0, none⟩, .int .i64 (gt l ((k + 2) % n)).1), (⟨b7, 1, none⟩, .int .i64 (gt l ((k + 2) % n)).2)] w1 := Cls.call ⟨hbS, by simp only [List.mem_cons, List.not_mem_nil, forall_eq_or_imp, or_false, forall_eq]; go_simp⟩ hb)); clear hb; have hx := hC.2; simp only [List.mem_cons, List.not_mem_nil, forall_eq_or_imp, or_false, forall_eq] at hx; (first | rw [H2.out] | rw [H3.out]))
              go_ret
              exact ⟨ret_bool HS.out.symm, hC.1⟩
          · have HS := Lib.hid (rsim_f hlt (HQ.out (by rw [show onW (gt l k) (gt l ((k + 1) % n)) (gt l ((k + 2) % n)) = true from hv2]; simp)))
            have H2 := Lib.hid hv2
            have H3 := H2
            clear hv2
            go_wp2_with (go_at_call 116; refine (rbetween_any _ _ _ _ _ _ _).mono ?_; rintro e w1 ⟨rfl, hb⟩; (first | (have hC := Cls.call hC hb) | (have hC : Cls w [(⟨b5, 0, none⟩, .int .i64 (gt l k).1), (⟨b5, 1, none⟩, .int .i64 (gt l k).2), (⟨b6, 0, none⟩, .int .i64 (gt l ((k + 1) % n)).1), (⟨b6, 1, none⟩, .int .i64 (gt l ((k + 1) % n)).2), (⟨b7, 0, none⟩, .int .i64 (gt l ((k + 2) % n)).1), (⟨b7, 1, none⟩, .int .i64 (gt l ((k + 2) % n)).2)] w1 := Cls.call ⟨hbS, by simp only [List.mem_cons, List.not_mem_nil, forall_eq_or_imp, or_false, forall_eq]; go_simp⟩ hb)); clear hb; have hx := hC.2; simp only [List.mem_cons, List.not_mem_nil, forall_eq_or_imp, or_false, forall_eq] at hx; (first | rw [H2.out] | rw [H3.out]))
            go_ret
            exact ⟨ret_bool HS.out.symm, hC.1⟩
        · have HS := Lib.hid (rsim_f hlt (HQ.out (by rw [show eqS (gt l k) (gt l ((k + 1) % n)) = true from hv1]; simp)))
          go_wp2_with fail
          go_ret
          exact ⟨ret_bool HS.out.symm, hb⟩
    · obtain rfl : n = k := by omega
      go_wp2_with fail
      go_ret
      exact ⟨ret_bool hp.out.symm, hb⟩
end Go.Proofs.YtmdncaoilegnnaaGreat

namespace Go.Proofs.YtmdncaoilegnnaaGreat
set_option linter.unusedVariables false
set_option linter.unusedSimpArgs false
set_option linter.unusedVariables false
set_option linter.unusedSimpArgs false
open Go.RowKit

theorem near_of_any {l : List (Int × Int)} {n : Nat} (hn : l.length = n) (h : AnyB (fun i => outB 1048576 (gt l i)) n = false) : ∀ q ∈ l, nearB 1048576 q := by
  intro q hq
  obtain ⟨i, hi, rfl⟩ := mem_gt hq
  apply near_of_out
  cases ho : outB 1048576 (gt l i) with
  | false => rfl
  | true => rw [AnyB.yes (by omega) ho] at h; cases h
set_option maxHeartbeats 1000000 in
theorem rcheck_any (A : Option Addr) (cap n : Nat) (l : List (Int × Int)) (w : World) (hl : n ≤ 9223372036854775807) (hcap : n ≤ cap) (hs : SpS w A n l) :
    Calls Tryz.prog 52 #[.slice A n cap] w fun e w' => e = .returned (.int .i64 (checkW l n)) ∧ Below w.heap.size w w' := by
  by_cases h1 : 40 < n
  · go_enter Tryz.func52, Tryz.ntmps52
    go_wp2_with fail
    go_ret
    exact ⟨ret_int (checkW_long h1).symm, Below.refl _ _⟩
  by_cases h2 : n < 3
  · go_enter Tryz.func52, Tryz.ntmps52
    go_wp2_with fail
    go_ret
    exact ⟨ret_int (checkW_short h2).symm, Below.refl _ _⟩
  obtain ⟨b, off, rfl, -, -⟩ := hs.at_ (k := 0) (by omega)
  have H1 := Lib.hid h1
  have H2 := Lib.hid h2
  go_enter Tryz.func52, Tryz.ntmps52
  go_wp2_with fail
  go_loopw [3] (fun i wr => ∃ k : Nat, k ≤ n ∧ i = .int .i64 k ∧ Hid (AnyB (fun i => outB 1048576 (gt l i)) k = false) ∧ Below w.heap.size w wr) (fun i _ => n - (intOf i).toNat)
  case atStart => exact ⟨0, Nat.zero_le _, rfl, Lib.hid (AnyB.zero _), Below.refl _ _⟩
  case round =>
    obtain ⟨k, hk, rfl, hp, hb⟩ := hrel
    by_cases hlt : k < n
    · obtain ⟨c1, c2⟩ := (hs.keep hb).cells hlt
      cases ho : outB 1048576 ((gt l k).1, (gt l k).2) with
      | false =>
        have HO := Lib.hid ho
        clear ho
        go_wp2_with (go_at_call 87; refine (rwithin_any _ _ _).mono ?_; rintro e w1 ⟨rfl, hb1⟩; rw [HO.out])
        exact ⟨⟨k + 1, by omega, by go_num, Lib.hid (AnyB.succ hp.out HO.out), Bl.call hb hb1⟩, by simp [intOf]; omega⟩
      | true =>
        have HO := Lib.hid ho
        clear ho
        go_wp2_with (go_at_call 87; refine (rwithin_any _ _ _).mono ?_; rintro e w1 ⟨rfl, hb1⟩; rw [HO.out])
        go_ret
        exact ⟨ret_int (checkW_out H1.out H2.out (AnyB.yes hlt HO.out)).symm, Bl.call hb hb1⟩
    · obtain rfl : n = k := by omega
      have hr : rsimW l n = simpleW l n := by
        have := rsim_eq (near_of_any hs.1 hp.out) (by rw [hs.1]; omega)
        rwa [hs.1] at this
      have HR := Lib.hid hr
      cases hv : simpleW l n with
      | false =>
        have HV := Lib.hid hv
        clear hv hr
        go_wp2_with (go_at_call 88; refine (rsimple_any _ _ _ _ l _ (by omega) (by omega) hcap (hs.keep hb)).mono ?_; rintro e w1 ⟨rfl, hb1⟩; rw [HR.out, HV.out])
        go_ret
        exact ⟨ret_int (checkW_bad H1.out H2.out hp.out HV.out).symm, Bl.call hb hb1⟩
      | true =>
        have HV := Lib.hid hv
        clear hv hr
        go_wp2_with (go_at_call 88; refine (rsimple_any _ _ _ _ l _ (by omega) (by omega) hcap (hs.keep hb)).mono ?_; rintro e w1 ⟨rfl, hb1⟩; rw [HR.out, HV.out])
        go_ret
        exact ⟨ret_int (checkW_ok H1.out H2.out hp.out HV.out).symm, Bl.call hb hb1⟩
theorem tw_wrap (s u v : Int) : wrap64 (wrap64 (s + wrap64 u) - wrap64 v) = wrap64 (s + wrap64 (wrap64 u - wrap64 v)) := by
  unfold wrap64; omega
set_option maxHeartbeats 2000000 in
theorem rtwice_any (b off cap n : Nat) (l : List (Int × Int)) (w : World) (hl : n ≤ 1000000) (h0 : 0 < n) (hcap : n ≤ cap) (hs : SpS w (some ⟨b, off, none⟩) n l) :
    Calls Tryz.prog 89 #[.slice (some ⟨b, off, none⟩) n cap] w fun e w' => e = .returned (.int .i64 (areaW l n n)) ∧ Below w.heap.size w w' := by
  go_enter Tryz.func89, Tryz.ntmps89
  go_wp2_with fail
  go_loopw [3, 4] (fun s i wr => ∃ k : Nat, k ≤ n ∧ i = .int .i64 k ∧ s = .int .i64 (areaW l n k) ∧ Below w.heap.size w wr) (fun _ i _ => n - (intOf i).toNat)
  case atStart => exact ⟨0, Nat.zero_le _, rfl, rfl, Below.refl _ _⟩
  case round =>
    obtain ⟨k, hk, rfl, rfl, hb⟩ := hrel
    by_cases hlt : k < n
    · obtain ⟨h1, h2⟩ := (hs.keep hb).cells hlt
      have hm1 : (k + 1) % n < n := Nat.mod_lt _ (by omega)
      obtain ⟨h5, h6⟩ := (hs.keep hb).cells hm1
      have m1 := modf ((k : Int) + 1) (k + 1) n rfl (by omega)
      have q1 : IntKind.i64.wrap ((k : Int) + 1) = (k : Int) + 1 := wrap_add k 1 (by omega)
      have q3 : ¬ n = 0 := by omega
      obtain ⟨A0, hA0⟩ : ∃ A0, areaW l n k = A0 := ⟨_, rfl⟩
      rw [hA0]
      have HA := Lib.hid hA0
      clear hA0
      go_wp2_with fail
      have hbl : b < wr.heap.size := lt_of_cell h1
      go_cut [5, 6] from 7 to 37 (fun s5 s6 wx => ∃ b5 b6 : Nat, s5 = .pointer (some ⟨b5, 0, none⟩) ∧ s6 = .pointer (some ⟨b6, 0, none⟩) ∧ BlkS wx b5 37 #[.int .i64 (gt l k).1, .int .i64 (gt l k).2] ∧ BlkS wx b6 37 #[.int .i64 (gt l ((k + 1) % n)).1, .int .i64 (gt l ((k + 1) % n)).2] ∧ Below w.heap.size w wx)
      case first =>
        go_region
        all_goals go_wp2_with fail
        all_goals go_meet
        · exact ⟨wr.heap.size, wr.heap.size + 1, rfl, rfl, ((BlkS.new _ _ _).alloc _).drew, (BlkS.new2 _ _ _ _).drew, Bl.drew (Bl.alloc (Bl.alloc hb _) _)⟩
        · exact ⟨wr.heap.size + 1, wr.heap.size, rfl, rfl, (BlkS.new2 _ _ _ _).drew, ((BlkS.new _ _ _).alloc _).drew, Bl.drew (Bl.alloc (Bl.alloc hb _) _)⟩
      case rest =>
        clear h1 h2 h5 h6 m1 q1 hbl hb
        obtain ⟨b5, b6, rfl, rfl, hB5, hB6, hb⟩ := hcut
        have c1 := (hB5.cell 0).trans rfl
        have c2 := (hB5.cell 1).trans rfl
        have d1 := (hB6.cell 0).trans rfl
        have d2 := (hB6.cell 1).trans rfl
        simp only [List.getElem?_toArray, List.getElem?_cons_zero, List.getElem?_cons_succ] at c1 c2 d1 d2
        go_wp2_with fail
        go_roundw
        case rel => exact ⟨k + 1, by omega, by go_num, by rw [areaW, HA.out, tw_wrap], hb⟩
        case measure => simp [intOf]; omega
    · obtain rfl : n = k := by omega
      go_wp2_with fail
      go_ret
      exact ⟨rfl, hb⟩
end Go.Proofs.YtmdncaoilegnnaaGreat

/- polygon.Convex, convex.Inside, garmentlaw16.NofitConvex. garmentlaw16.NofitConvex returns true. PROVED HERE: the statement NofitConvex, for every two lists of spots and every move, without a condition. -/
import Derived.Test.YtnggempmdhmoeaaG47
import Derived.Test.YtnggempmdhmoeaaG43
namespace Go.Proofs.Ytnggempmdhmoeaa
set_option linter.unusedVariables false
set_option linter.unusedSimpArgs false
open Go.RowKit

def cvxW (l : List (Int × Int)) (n : Nat) : Bool × Int := if checkW l n ≠ 0 then (false, checkW l n) else (AllB (fun k => decide (0 ≤ bendW l n k)) n && decide (0 < areaW l n n), 0)

set_option maxHeartbeats 1000000 in
theorem convex_any (A : Option Addr) (cap n : Nat) (l : List (Int × Int)) (w : World) (hl : n ≤ 9223372036854775807) (hcap : n ≤ cap) (hs : SpS w A n l) :
    Calls Try.prog 16 #[.slice A n cap] w fun e w' => e = .returned (.tuple #[.bool (cvxW l n).1, .int .i64 (cvxW l n).2]) ∧ Below w.heap.size w w' := by
  by_cases hc : checkW l n = 0
  · have q : (checkW l n != 0) = false := by rw [hc]; rfl
    have hn := check_len hc
    have HE := Lib.hid (show cvxW l n = (AllB (fun k => decide (0 ≤ bendW l n k)) n && decide (0 < areaW l n n), 0) by unfold cvxW; rw [if_neg (by rw [hc]; simp)])
    obtain ⟨b, off, rfl, -, -⟩ := hs.at_ (k := 0) (by omega)
    clear hc
    go_enter Try.func16, Try.ntmps16
    go_wp2_with (go_at_call 11; refine (check_any _ _ _ l _ hl hcap hs).mono ?_; rintro e w1 ⟨rfl, hb1⟩)
    go_loopw [13] (fun i wr => ∃ k : Nat, k ≤ n ∧ i = .int .i64 k ∧ Hid (AllB (fun k => decide (0 ≤ bendW l n k)) k = true) ∧ Below w.heap.size w wr) (fun i _ => n - (intOf i).toNat)
    case atStart => exact ⟨0, Nat.zero_le _, rfl, Lib.hid (AllB.zero _), hb1⟩
    case round =>
      clear hb1
      obtain ⟨k, hk, rfl, hp, hb⟩ := hrel
      by_cases hlt : k < n
      · by_cases hv : bendW l n k < 0
        · go_wp2_with (go_at_call 32; refine (bend_any _ _ _ _ k l _ (by omega) hcap (hs.keep hb) hlt).mono ?_; rintro e w2 ⟨rfl, hb2⟩)
          go_ret2
          exact ⟨by rw [HE.out, AllB.no (f := fun k => decide (0 ≤ bendW l n k)) hlt (decide_eq_false (by omega))]; rfl, Bl.call hb hb2⟩
        · go_wp2_with (go_at_call 32; refine (bend_any _ _ _ _ k l _ (by omega) hcap (hs.keep hb) hlt).mono ?_; rintro e w2 ⟨rfl, hb2⟩)
          exact ⟨⟨k + 1, by omega, by go_num, Lib.hid (AllB.succ hp.out (decide_eq_true (by omega))), Bl.call hb hb2⟩, by simp [intOf]; omega⟩
      · obtain rfl : n = k := by omega
        go_wp2_with (go_at_call 33; refine (area_any _ _ _ l _ (by omega) hcap (hs.keep hb)).mono ?_; rintro e w2 ⟨rfl, hb2⟩)
        all_goals go_ret2
        all_goals exact ⟨by rw [HE.out, hp.out, Bool.true_and]; rfl, Bl.call hb hb2⟩
  · have q : (checkW l n != 0) = true := by rw [bne_iff_ne]; exact hc
    have HE := Lib.hid (show cvxW l n = (false, checkW l n) by unfold cvxW; rw [if_pos hc])
    clear hc
    go_enter Try.func16, Try.ntmps16
    go_wp2_with (go_at_call 11; refine (check_any _ _ _ l _ hl hcap hs).mono ?_; rintro e w1 ⟨rfl, hb1⟩)
    go_ret2
    exact ⟨by rw [HE.out]; rfl, hb1⟩


set_option maxHeartbeats 2000000 in
theorem inside_any (A : Option Addr) (cap n : Nat) (p : List (Int × Int)) (x y : Int) (w : World) (hn : n ≤ 1000000) (hs : SpS w A n p) (hz : A = none → cap = 0) :
    Calls Try.prog 19 #[.slice A n cap, .agg #[.int .i64 x, .int .i64 y]] w fun e w' => e = .returned (.tuple #[.bool (insideW p (x, y)).1, .int .i64 (insideW p (x, y)).2]) ∧ Below w.heap.size w w' := by
  have hn' : n ≤ 9223372036854775807 := by omega
  obtain ⟨r, hr⟩ : ∃ r, HullW p = r := ⟨_, rfl⟩
  have hlen := HullW_len p
  rw [hr] at hlen
  by_cases h0 : r.1 = 0
  · have q : (r.1 != 0) = false := by rw [h0]; rfl
    cases ho : outB 4194304 (x, y) with
    | true =>
      have HE := Lib.hid (show insideW p (x, y) = (false, 0) by unfold insideW; rw [hr, if_neg (by rw [h0]; simp), ho]; rfl)
      have HR := Lib.hid hr
      have HO := Lib.hid ho
      clear hr h0 ho
      go_enter Try.func19, Try.ntmps19
      go_wp2_with (first
        | (go_at_call 36; refine (cout_any _ _ _).mono ?_; rintro e w2 ⟨rfl, hb2⟩; rw [HO.out]; have hX2 := Bl.call hX1 hb2; have kB2 := kB1.keep hb2; have hS2 := hS1.keep hb2; clear d1 d2)
        | (go_at_call 34; refine (Hull_any _ _ _ p _ hn' (hs.keep (Bl.alloc (Below.refl _ _) _)) hz).mono ?_; rintro e w1 ⟨v1, rfl, ho1, hb1⟩; rw [HR.out] at ho1 ⊢; have hX1 := Bl.call (Bl.alloc (Below.refl _ _) _) hb1; have kB1 := (BlkS.new w 24 #[.int .i64 x, .int .i64 y]).keep hb1; obtain ⟨d1, d2⟩ := spot_cells kB1; obtain ⟨A1, c1, rfl, hc1, hS1, -⟩ := ho1.sps))
      go_ret2
      exact ⟨by rw [HE.out]; rfl, hX2⟩
    | false =>
      have HE := Lib.hid (show insideW p (x, y) = (AllB (intW r.2 r.2.length (x, y)) r.2.length, 0) by unfold insideW; rw [hr, if_neg (by rw [h0]; simp), ho]; rfl)
      have HR := Lib.hid hr
      have HO := Lib.hid ho
      clear hr h0 ho
      obtain ⟨R, hR⟩ : ∃ R, R = r.2 := ⟨_, rfl⟩
      obtain ⟨m, hm⟩ : ∃ m, m = R.length := ⟨_, rfl⟩
      rw [← hR] at hlen HE
      rw [← hm] at hlen HE
      have HRR := Lib.hid hR
      have HM := Lib.hid hm
      clear hR hm
      go_enter Try.func19, Try.ntmps19
      go_wp2_with (first
        | (go_at_call 36; refine (cout_any _ _ _).mono ?_; rintro e w2 ⟨rfl, hb2⟩; rw [HO.out]; have hX2 := Bl.call hX1 hb2; have kB2 := kB1.keep hb2; have hS2 := hS1.keep hb2; clear d1 d2)
        | (go_at_call 34; refine (Hull_any _ _ _ p _ hn' (hs.keep (Bl.alloc (Below.refl _ _) _)) hz).mono ?_; rintro e w1 ⟨v1, rfl, ho1, hb1⟩; rw [HR.out] at ho1 ⊢; have hX1 := Bl.call (Bl.alloc (Below.refl _ _) _) hb1; have kB1 := (BlkS.new w 24 #[.int .i64 x, .int .i64 y]).keep hb1; obtain ⟨d1, d2⟩ := spot_cells kB1; obtain ⟨A1, c1, rfl, hc1, hS1, -⟩ := ho1.sps))
      rw [← HRR.out, ← HM.out] at hS2 ⊢
      go_loopw [22] (fun i wr => ∃ k : Nat, k ≤ m ∧ i = .int .i64 k ∧ Hid (AllB (intW R m (x, y)) k = true) ∧ Below w2.heap.size w2 wr) (fun i _ => m - (intOf i).toNat)
      case atStart => exact ⟨0, Nat.zero_le _, rfl, Lib.hid (AllB.zero _), Below.refl _ _⟩
      case round =>
        obtain ⟨k, hk, rfl, hp, hb⟩ := hrel
        by_cases hlt : k < m
        · obtain ⟨g, off, rfl, hbl, hcc⟩ := (hS2.keep hb).at_ hlt
          have hm1 : (k + 1) % m < m := Nat.mod_lt _ (by omega)
          obtain ⟨h1, h2⟩ := hcc k hlt
          obtain ⟨h3, h4⟩ := hcc _ hm1
          clear hcc
          obtain ⟨d1, d2⟩ := spot_cells (kB2.keep hb)
          have hbw : w.heap.size < wr.heap.size := lt_of_cell d1
          have q1 : IntKind.i64.wrap ((k : Int) + 1) = (k : Int) + 1 := wrap_add k 1 (by omega)
          have q2 := modf ((k : Int) + 1) (k + 1) m rfl (by omega)
          have q3 : ¬ m = 0 := by omega
          by_cases hq : crossW ((gt R k).1, (gt R k).2) ((gt R ((k + 1) % m)).1, (gt R ((k + 1) % m)).2) (x, y) ≤ 0
          · go_wp2_with fail
            refine wp_region_cls w2 [(⟨w.heap.size, 0, none⟩, .int .i64 x), (⟨w.heap.size, 1, none⟩, .int .i64 y), (⟨wr.heap.size, 0, none⟩, .int .i64 (gt R k).1), (⟨wr.heap.size, 1, none⟩, .int .i64 (gt R k).2), (⟨g, off + (k + 1) % m * 2, none⟩, .int .i64 (gt R ((k + 1) % m)).1), (⟨g, off + (k + 1) % m * 2 + 1, none⟩, .int .i64 (gt R ((k + 1) % m)).2)] (by kernel_rfl) (by kernel_rfl) ⟨Bl.alloc hb _, by simp only [List.mem_cons, List.not_mem_nil, forall_eq_or_imp, or_false, forall_eq]; go_simp⟩ ?_
            repeat
              apply wq_plain
              · rfl
              · intro w1 hw1
                have hx := hw1.2
                simp only [List.mem_cons, List.not_mem_nil, forall_eq_or_imp, or_false, forall_eq] at hx
                go_simp
                first | rfl | exact calls_cls hw1 (ccross_any _ _ _ _ _ _ _)
              go_simp
            refine wpQuiet_nil ?_
            intro w9 hCw9
            have hb9 := hCw9.1
            clear hCw9
            go_wp2_with fail
            go_ret2
            have hq' : crossW (gt R k) (gt R ((k + 1) % m)) (x, y) ≤ 0 := hq
            exact ⟨by rw [HE.out, AllB.no (f := intW R m (x, y)) hlt (by unfold intW; exact decide_eq_false (by omega))]; rfl, Bl.call hX2 hb9⟩
          · go_wp2_with fail
            refine wp_region_cls w2 [(⟨w.heap.size, 0, none⟩, .int .i64 x), (⟨w.heap.size, 1, none⟩, .int .i64 y), (⟨wr.heap.size, 0, none⟩, .int .i64 (gt R k).1), (⟨wr.heap.size, 1, none⟩, .int .i64 (gt R k).2), (⟨g, off + (k + 1) % m * 2, none⟩, .int .i64 (gt R ((k + 1) % m)).1), (⟨g, off + (k + 1) % m * 2 + 1, none⟩, .int .i64 (gt R ((k + 1) % m)).2)] (by kernel_rfl) (by kernel_rfl) ⟨Bl.alloc hb _, by simp only [List.mem_cons, List.not_mem_nil, forall_eq_or_imp, or_false, forall_eq]; go_simp⟩ ?_
            repeat
              apply wq_plain
              · rfl
              · intro w1 hw1
                have hx := hw1.2
                simp only [List.mem_cons, List.not_mem_nil, forall_eq_or_imp, or_false, forall_eq] at hx
                go_simp
                first | rfl | exact calls_cls hw1 (ccross_any _ _ _ _ _ _ _)
              go_simp
            refine wpQuiet_nil ?_
            intro w9 hCw9
            have hb9 := hCw9.1
            clear hCw9
            go_wp2_with fail
            have hq' : 0 < crossW (gt R k) (gt R ((k + 1) % m)) (x, y) := hq
            exact ⟨⟨k + 1, by omega, by go_num, Lib.hid (AllB.succ hp.out (by unfold intW; exact decide_eq_true (by omega))), hb9⟩, by simp [intOf]; omega⟩
        · obtain rfl : m = k := by omega
          go_wp2_with fail
          go_ret2
          exact ⟨by rw [HE.out, hp.out]; rfl, Bl.call hX2 hb⟩
  · have q : (r.1 != 0) = true := by rw [bne_iff_ne]; exact h0
    have HE := Lib.hid (show insideW p (x, y) = (false, r.1) by unfold insideW; rw [hr, if_pos h0])
    have HR := Lib.hid hr
    clear hr h0
    go_enter Try.func19, Try.ntmps19
    go_wp2_with (first
        | (go_at_call 34; refine (Hull_any _ _ _ p _ hn' (hs.keep (Bl.alloc (Below.refl _ _) _)) hz).mono ?_; rintro e w1 ⟨v1, rfl, ho1, hb1⟩; rw [HR.out] at ho1 ⊢; have hX1 := Bl.call (Bl.alloc (Below.refl _ _) _) hb1; have kB1 := (BlkS.new w 24 #[.int .i64 x, .int .i64 y]).keep hb1; obtain ⟨d1, d2⟩ := spot_cells kB1; obtain ⟨A1, c1, rfl, hc1, hS1, -⟩ := ho1.sps))
    go_ret2
    exact ⟨by rw [HE.out]; rfl, hX1⟩

end Go.Proofs.Ytnggempmdhmoeaa

namespace Go.Proofs.Ytnggempmdhmoeaa
set_option linter.unusedVariables false
set_option linter.unusedSimpArgs false
open Go.RowKit

theorem cvx_yes {l : List (Int × Int)} {n : Nat} (h : cvxW l n = (true, 0)) : checkW l n = 0 ∧ (∀ k, k < n → 0 ≤ bendW l n k) ∧ 0 < areaW l n n := by
  unfold cvxW at h
  by_cases hc : checkW l n = 0
  · rw [if_neg (by rw [hc]; simp)] at h
    have h1 := congrArg Prod.fst h
    simp only [Bool.and_eq_true, decide_eq_true_eq] at h1
    exact ⟨hc, fun k hk => of_decide_eq_true (AllB.iff.1 h1.1 k hk), h1.2⟩
  · rw [if_pos hc] at h
    exact absurd (congrArg Prod.fst h) (by simp)


set_option maxHeartbeats 2000000 in
set_option maxRecDepth 100000 in
theorem lawConvex (A B : Option Addr) (ca cb na nb : Nat) (a b : List (Int × Int)) (x y : Int) (w : World) (hca : na ≤ ca) (hcb : nb ≤ cb) (hcA : ca ≤ 9223372036854775807) (hcB : cb ≤ 9223372036854775807) (hsA : SpS w A na a) (hsB : SpS w B nb b) (hzA : A = none → ca = 0) :
    Calls Try.prog 6 #[.slice A na ca, .slice B nb cb, .agg #[.int .i64 x, .int .i64 y]] w fun e w' => e = .returned (.bool true) ∧ Below w.heap.size w w' := by
  have hna : na ≤ 9223372036854775807 := by omega
  have hnb : nb ≤ 9223372036854775807 := by omega
  have la := hsA.1
  have lb := hsB.1
  cases hl : lightW na nb with
  | false =>
    go_enter Try.func6, Try.ntmps6
    go_wp2_with (first | (go_at_call 12; refine (nalive_any _).mono ?_; rintro e wz ⟨rfl, hbz⟩) | (go_at_call 9; refine (light_any _ _ _ _ _ _ _).mono ?_; rintro e wl ⟨rfl, rfl⟩; rw [hl]))
    go_ret
    exact ⟨rfl, Bl.call (Bl.alloc (Below.refl _ _) _) hbz⟩
  | true =>
    have hlt : na ≤ 12 ∧ nb ≤ 12 := by unfold lightW at hl; simpa using hl
    have hna' : na ≤ 1000000 := by omega
    have hnb' : nb ≤ 1000000 := by omega
    obtain ⟨u, e1, h1⟩ : ∃ u e, cvxW a na = (u, e) := ⟨_, _, rfl⟩
    obtain ⟨v, e2, h2⟩ : ∃ u e, cvxW b nb = (u, e) := ⟨_, _, rfl⟩
    by_cases q1 : e1 = 0
    · subst q1
      by_cases q2 : e2 = 0
      · subst q2
        cases u with
        | false =>
          have H1 := Lib.hid h1
          have H2 := Lib.hid h2
          clear h1 h2 la lb hlt
          go_enter Try.func6, Try.ntmps6
          go_wp2_with (first | (go_at_call 12; refine (nalive_any _).mono ?_; rintro e wz ⟨rfl, hbz⟩) | (go_at_call 16; refine (convex_any _ _ _ b _ hnb hcb (hsB.keep hX1)).mono ?_; rintro e w2 ⟨rfl, hb2⟩; rw [H2.out]; have hX2 := Bl.call hX1 hb2; have kB2 := kB1.keep hb2) | (go_at_call 16; refine (convex_any _ _ _ a _ hna hca (hsA.keep (Bl.alloc (Below.refl _ _) _))).mono ?_; rintro e w1 ⟨rfl, hb1⟩; rw [H1.out]; have hX1 := Bl.call (Bl.alloc (Below.refl _ _) _) hb1; have kB1 := (BlkS.new w 24 #[.int .i64 x, .int .i64 y]).keep hb1) | (go_at_call 9; refine (light_any _ _ _ _ _ _ _).mono ?_; rintro e wl ⟨rfl, rfl⟩; rw [hl]))
          go_ret
          exact ⟨rfl, Bl.call hX2 hbz⟩
        | true =>
          cases v with
          | false =>
            have H1 := Lib.hid h1
            have H2 := Lib.hid h2
            clear h1 h2 la lb hlt
            go_enter Try.func6, Try.ntmps6
            go_wp2_with (first | (go_at_call 12; refine (nalive_any _).mono ?_; rintro e wz ⟨rfl, hbz⟩) | (go_at_call 16; refine (convex_any _ _ _ b _ hnb hcb (hsB.keep hX1)).mono ?_; rintro e w2 ⟨rfl, hb2⟩; rw [H2.out]; have hX2 := Bl.call hX1 hb2; have kB2 := kB1.keep hb2) | (go_at_call 16; refine (convex_any _ _ _ a _ hna hca (hsA.keep (Bl.alloc (Below.refl _ _) _))).mono ?_; rintro e w1 ⟨rfl, hb1⟩; rw [H1.out]; have hX1 := Bl.call (Bl.alloc (Below.refl _ _) _) hb1; have kB1 := (BlkS.new w 24 #[.int .i64 x, .int .i64 y]).keep hb1) | (go_at_call 9; refine (light_any _ _ _ _ _ _ _).mono ?_; rintro e wl ⟨rfl, rfl⟩; rw [hl]))
            go_ret
            exact ⟨rfl, Bl.call hX2 hbz⟩
          | true =>
            obtain ⟨ga, gb, gc⟩ := cvx_yes h1
            obtain ⟨fa, fb, fc⟩ := cvx_yes h2
            rw [← la] at ga gb gc
            rw [← lb] at fa fb fc
            obtain ⟨v, R, hS, hR, hI, hB⟩ := convex_plain (d := (x, y)) (by omega) (by omega) ga fa gb fb gc fc
            have H1 := Lib.hid h1
            have H2 := Lib.hid h2
            have HS := Lib.hid hS
            have HI := Lib.hid hI
            have HB := Lib.hid hB
            clear h1 h2 la lb hlt hS hI hB ga gb gc fa fb fc
            go_enter Try.func6, Try.ntmps6
            go_wp2_with (first
              | (go_at_call 12; refine (nalive_any _).mono ?_; rintro e wz ⟨rfl, hbz⟩)
              | (go_at_call 13; refine (blocks_any _ _ _ _ _ _ a b x y _ hna hnb hca hcb (hsA.keep hX5) (hsB.keep hX5)).mono ?_; rintro e w6 ⟨rfl, hb6⟩; rw [HB.out]; have hX6 := Bl.call hX5 hb6)
              | (go_at_call 19; refine (inside_any _ _ _ R x y _ (by omega) hS4 hz4).mono ?_; rintro e w5 ⟨rfl, hb5⟩; rw [HI.out]; have hX5 := Bl.call hX4 hb5; obtain ⟨d3, d4⟩ := spot_cells (kB4.keep hb5))
              | (go_at_call 17; refine (Sum_any _ _ _ _ _ _ a (negW b) _ hna' hnb' (hsA.keep hX3) hS3 hzA hz3).mono ?_; rintro e w4 ⟨v4, rfl, ho4, hb4⟩; rw [HS.out] at ho4 ⊢; have hX4 := Bl.call hX3 hb4; have kB4 := kB3.keep hb4; obtain ⟨A4, c4, rfl, hc4, hS4, hz4, -⟩ := OwS.els ho4; obtain ⟨d1, d2⟩ := spot_cells kB4)
              | (go_at_call 18; refine (negate_any _ _ _ b _ hnb' (hsB.keep hX2)).mono ?_; rintro e w3 ⟨v3, rfl, ho3, hb3⟩; have hX3 := Bl.call hX2 hb3; have kB3 := kB2.keep hb3; obtain ⟨A3, c3, rfl, hc3, hS3, hz3, -⟩ := OwS.els ho3; rw [negW_len, hsB.1] at hS3 ⊢)
              | (go_at_call 16; refine (convex_any _ _ _ b _ hnb hcb (hsB.keep hX1)).mono ?_; rintro e w2 ⟨rfl, hb2⟩; rw [H2.out]; have hX2 := Bl.call hX1 hb2; have kB2 := kB1.keep hb2)
              | (go_at_call 16; refine (convex_any _ _ _ a _ hna hca (hsA.keep (Bl.alloc (Below.refl _ _) _))).mono ?_; rintro e w1 ⟨rfl, hb1⟩; rw [H1.out]; have hX1 := Bl.call (Bl.alloc (Below.refl _ _) _) hb1; have kB1 := (BlkS.new w 24 #[.int .i64 x, .int .i64 y]).keep hb1)
              | (go_at_call 9; refine (light_any _ _ _ _ _ _ _).mono ?_; rintro e wl ⟨rfl, rfl⟩; rw [hl]))
            go_ret
            exact ⟨rfl, Bl.call hX6 hbz⟩
      · have q : (e2 != 0) = true := by rw [bne_iff_ne]; exact q2
        have H1 := Lib.hid h1
        have H2 := Lib.hid h2
        clear h1 h2 la lb hlt q2
        go_enter Try.func6, Try.ntmps6
        go_wp2_with (first | (go_at_call 12; refine (nalive_any _).mono ?_; rintro e wz ⟨rfl, hbz⟩) | (go_at_call 16; refine (convex_any _ _ _ b _ hnb hcb (hsB.keep hX1)).mono ?_; rintro e w2 ⟨rfl, hb2⟩; rw [H2.out]; have hX2 := Bl.call hX1 hb2; have kB2 := kB1.keep hb2) | (go_at_call 16; refine (convex_any _ _ _ a _ hna hca (hsA.keep (Bl.alloc (Below.refl _ _) _))).mono ?_; rintro e w1 ⟨rfl, hb1⟩; rw [H1.out]; have hX1 := Bl.call (Bl.alloc (Below.refl _ _) _) hb1; have kB1 := (BlkS.new w 24 #[.int .i64 x, .int .i64 y]).keep hb1) | (go_at_call 9; refine (light_any _ _ _ _ _ _ _).mono ?_; rintro e wl ⟨rfl, rfl⟩; rw [hl]))
        go_ret
        exact ⟨rfl, Bl.call hX2 hbz⟩
    · have q : (e1 != 0) = true := by rw [bne_iff_ne]; exact q1
      have H1 := Lib.hid h1
      have H2 := Lib.hid h2
      clear h1 h2 la lb hlt q1
      go_enter Try.func6, Try.ntmps6
      go_wp2_with (first | (go_at_call 12; refine (nalive_any _).mono ?_; rintro e wz ⟨rfl, hbz⟩) | (go_at_call 16; refine (convex_any _ _ _ b _ hnb hcb (hsB.keep hX1)).mono ?_; rintro e w2 ⟨rfl, hb2⟩; rw [H2.out]; have hX2 := Bl.call hX1 hb2; have kB2 := kB1.keep hb2) | (go_at_call 16; refine (convex_any _ _ _ a _ hna hca (hsA.keep (Bl.alloc (Below.refl _ _) _))).mono ?_; rintro e w1 ⟨rfl, hb1⟩; rw [H1.out]; have hX1 := Bl.call (Bl.alloc (Below.refl _ _) _) hb1; have kB1 := (BlkS.new w 24 #[.int .i64 x, .int .i64 y]).keep hb1) | (go_at_call 9; refine (light_any _ _ _ _ _ _ _).mono ?_; rintro e wl ⟨rfl, rfl⟩; rw [hl]))
      go_ret
      exact ⟨rfl, Bl.call hX2 hbz⟩

end Go.Proofs.Ytnggempmdhmoeaa

namespace Go.Proofs.Ytnggempmdhmoeaa
set_option linter.unusedVariables false
set_option linter.unusedSimpArgs false
open Go.ChangeShapes Go.WideShapes Go.ChangeAt Go.RowKit

namespace nofitConvex
set_option maxRecDepth 100000 in
set_option maxHeartbeats 1000000 in
theorem lifted (os : Os) (started : os.Started) (H : Type) (enc : TypeId × Value → H) :
    ReturnsInHanded {} Try.checked os 6 .any (Rows.nofitConvexSpec.pre6 enc Try.prog Try.f6 Rows.nofitConvexRow.domain false) (Rows.nofitConvexSpec.post enc Try.prog Try.f6 false true false false) := by
  refine returnsInHanded_of_change (C := Try.checked) own started (by kernel_rfl) Try.func6
    (ChangeSpec.witness6 (enc := enc) (C := Try.checked) false ⟨#[], #[.slice none 0 0, .slice none 0 0, .agg #[.int .i64 0, .int .i64 0]], []⟩ 8 (by kernel_rfl) (by kernel_rfl) (by kernel_rfl) (by kernel_rfl)) ?_
  intro W base args ds gs before hval0 hW hcnd _
  have hval : ∀ (j : Nat) t v, Try.f6.params[j]? = some t → args[j]? = some v → Value.okWide Try.prog W .any base t v := hval0
  have hW' := hW
  obtain ⟨p, q, hA0, hV, rfl, hfz, hnd⟩ := hW
  have hA : DataW.TrodAll enc Try.prog W 0 (fun _ => true) true Try.f6.params.toList args.toList ds p := hA0
  rw [Try.params6] at hA hval
  obtain ⟨v0, vs0, d0, ds0, p0, q0, hargs, rfl, rfl, h0, r0⟩ := trodAll_cons hA
  obtain ⟨v1, vs1, d1, ds1, p1, q1, rfl, rfl, rfl, h1, r1⟩ := trodAll_cons r0
  obtain ⟨v2, vs2, d2, ds2, p2, q2, rfl, rfl, rfl, h2, r2⟩ := trodAll_cons r1
  obtain ⟨rfl, rfl, rfl⟩ := trodAll_nil r2
  obtain rfl : args = #[v0, v1, v2] := by cases args; simp_all
  obtain ⟨rfl, rfl⟩ := trodVars_none hV
  have k0 := h0
  have lt0 : ∀ x ∈ p0, x.block < W.heap.size := by obtain ⟨m, hm⟩ := k0; exact DataW.trod_lt m _ _ _ hm
  obtain ⟨A0, n0, c0, L0, rfl, w0⟩ := open_spots (hval 0 22 v0 rfl rfl) h0
  have k1 := h1
  have lt1 : ∀ x ∈ p1, x.block < W.heap.size := by obtain ⟨m, hm⟩ := k1; exact DataW.trod_lt m _ _ _ hm
  obtain ⟨A1, n1, c1, L1, rfl, w1⟩ := open_spots (hval 1 22 v1 rfl rfl) h1
  have k2 := h2
  have lt2 : ∀ x ∈ p2, x.block < W.heap.size := by obtain ⟨m, hm⟩ := k2; exact DataW.trod_lt m _ _ _ hm
  obtain ⟨q2, rfl, w2⟩ := open_spot (hval 2 24 v2 rfl rfl) h2
  clear hA0 hval0
  refine (lawConvex A0 A1 c0 c1 n0 n1 L0 L1 q2.1 q2.2 W w0.1 w1.1 w0.2.1 w1.2.1 w0.2.2.2.1 w1.2.2.2.1 w0.2.2.1).mono fun e W' ⟨he, bel⟩ => ?_
  subst he
  exact ⟨_, rfl, _, _, _, [], _, [], hW', trodAll_mk1 (shut_bool Try.underlying4 _), (trodAll_cons_mk (Below.trod laidOut (by kernel_rfl) (of_decide_eq_true (by kernel_rfl)) k0 bel lt0) (trodAll_cons_mk (Below.trod laidOut (by kernel_rfl) (of_decide_eq_true (by kernel_rfl)) k1 bel lt1) (trodAll_cons_mk (Below.trod laidOut (by kernel_rfl) (of_decide_eq_true (by kernel_rfl)) k2 bel lt2) trodAll_mk0))), rfl, bel.frame _, fun h => by cases h⟩

theorem over : Rows.nofitConvexRow.holds Try.pinned (OpenSpec.ofChange Rows.nofitConvexSpec) :=
  OpenClaim.holds_of_wide 6 Try.f6 rfl rfl rfl rfl rfl rfl rfl ⟨rfl, rfl, rfl, rfl, rfl⟩ rfl rfl rfl rfl rfl (by kernel_rfl) Try.func6 (by kernel_rfl)
    (of_decide_eq_true (by kernel_rfl)) (by unfold Func.isWrapper; first | (rw [if_pos (by decide +kernel)]; kernel_rfl) | (rw [if_neg (by decide +kernel)]; exact ⟨rfl, rfl⟩))
    (fun os started H enc _ => lifted os started H enc)

theorem proved : Rows.NofitConvexSaid := over
end nofitConvex

end Go.Proofs.Ytnggempmdhmoeaa

/- garmentlaw16.NofitBlocks and NofitSpots return true. -/
import Derived.Test.YtjnllehnplenaaaGreatG57
import Derived.Test.YtjnllehnplenaaaGreatG43
namespace Go.Proofs.YtjnllehnplenaaaGreat
set_option linter.unusedVariables false
set_option linter.unusedSimpArgs false
open Go.RowKit


set_option maxHeartbeats 2000000 in
set_option maxRecDepth 100000 in
theorem lawBlocks (A B : Option Addr) (ca cb na nb : Nat) (a b : List (Int × Int)) (x y : Int) (w : World) (hca : na ≤ ca) (hcb : nb ≤ cb) (hcA : ca ≤ 9223372036854775807) (hcB : cb ≤ 9223372036854775807) (hsA : SpS w A na a) (hsB : SpS w B nb b) :
    Calls Tryz.prog 4 #[.slice A na ca, .slice B nb cb, .agg #[.int .i64 x, .int .i64 y]] w fun e w' => e = .returned (.bool true) ∧ Below w.heap.size w w' := by
  have hna : na ≤ 9223372036854775807 := by omega
  have hnb : nb ≤ 9223372036854775807 := by omega
  cases hl : lightW na nb with
  | false =>
    go_enter Tryz.func4, Tryz.ntmps4
    go_wp2_with (first | (go_at_call 7; refine (nalive_any _).mono ?_; rintro e wz ⟨rfl, hbz⟩) | (go_at_call 6; refine (light_any _ _ _ _ _ _ _).mono ?_; rintro e wl ⟨rfl, rfl⟩; rw [hl]))
    go_ret
    exact ⟨rfl, Bl.call (Bl.alloc (Below.refl _ _) _) hbz⟩
  | true =>
    obtain ⟨v, hv⟩ : ∃ v, blocksW a b (x, y) = v := ⟨_, rfl⟩
    have HV := Lib.hid hv
    clear hv
    have q1 : (v.1 == v.1) = true := by simp
    have q2 : (v.2 == v.2) = true := by simp
    have hX0 : Below w.heap.size w (w.alloc (.cells #[.int .i64 x, .int .i64 y] 30)) := Bl.alloc (Below.refl _ _) _
    have kB0 := BlkS.new w 30 #[.int .i64 x, .int .i64 y]
    go_enter Tryz.func4, Tryz.ntmps4
    go_wp2_with (first
      | (go_at_call 7; refine (nalive_any _).mono ?_; rintro e wz ⟨rfl, hbz⟩)
      | (go_at_call 12; have hz := hb1; refine (rblocks_any _ _ _ _ _ _ a b x y _ hna hnb hca hcb (hsA.keep hX1) (hsB.keep hX1)).mono ?_; rintro e w2 ⟨rfl, hb2⟩; rw [HV.out]; have hX2 := Bl.call hX1 hb2)
      | (go_at_call 11; refine (blocks_any _ _ _ _ _ _ a b x y _ hna hnb hca hcb (hsA.keep hX0) (hsB.keep hX0)).mono ?_; rintro e w1 ⟨rfl, hb1⟩; rw [HV.out]; have hX1 := Bl.call hX0 hb1; obtain ⟨d1, d2, d3, d4, d5⟩ := BlkS.two (kB0.keep hb1))
      | (go_at_call 6; refine (light_any _ _ _ _ _ _ _).mono ?_; rintro e wl ⟨rfl, rfl⟩; rw [hl]))
    go_ret
    exact ⟨rfl, Bl.call hX2 hbz⟩

set_option maxHeartbeats 2000000 in
set_option maxRecDepth 100000 in
theorem lawSpots (A B : Option Addr) (ca cb na nb : Nat) (a b : List (Int × Int)) (w : World) (hca : na ≤ ca) (hcb : nb ≤ cb) (hcA : ca ≤ 9223372036854775807) (hcB : cb ≤ 9223372036854775807) (hsA : SpS w A na a) (hsB : SpS w B nb b) :
    Calls Tryz.prog 5 #[.slice A na ca, .slice B nb cb] w fun e w' => e = .returned (.bool true) ∧ Below w.heap.size w w' := by
  have hna : na ≤ 9223372036854775807 := by omega
  have hnb : nb ≤ 9223372036854775807 := by omega
  by_cases h1 : 8 < na
  · have q : (8 : Int) < (na : Int) := by omega
    go_enter Tryz.func5, Tryz.ntmps5
    go_wp2_with (go_at_call 7; refine (nalive_any _).mono ?_; rintro e wz ⟨rfl, hbz⟩)
    go_ret
    exact ⟨rfl, hbz⟩
  · by_cases h2 : 8 < nb
    · have q : (8 : Int) < (nb : Int) := by omega
      have q' : ¬ (8 : Int) < (na : Int) := by omega
      go_enter Tryz.func5, Tryz.ntmps5
      go_wp2_with (go_at_call 7; refine (nalive_any _).mono ?_; rintro e wz ⟨rfl, hbz⟩)
      go_ret
      exact ⟨rfl, hbz⟩
    · have q : ¬ (8 : Int) < (nb : Int) := by omega
      have q' : ¬ (8 : Int) < (na : Int) := by omega
      obtain ⟨v, hv⟩ : ∃ v, spotsW a b = v := ⟨_, rfl⟩
      have hlen : v.2.length ≤ 1000000 := by
        rw [← hv]
        unfold spotsW
        split
        · simp
        · have hin := regionsW_in a b
          show (spotsOf (regionsW a b).2).length ≤ 1000000
          rw [← Ears.ptTo_spots]
          have := Ears.ptTo_len (rs := (regionsW a b).2) (c := 160) (fun t ht => (hin.2 t ht).1) _ (Nat.le_refl _)
          have := Nat.mul_le_mul hin.1 (Nat.le_refl 160)
          omega
      have HV := Lib.hid hv
      have HE := Lib.hid (show eqL v.2 v.2 = true from decide_eq_true rfl)
      clear hv
      have q2 : (v.1 == v.1) = true := by simp
      go_enter Tryz.func5, Tryz.ntmps5
      go_wp2_with (first
        | (go_at_call 7; refine (nalive_any _).mono ?_; rintro e wz ⟨rfl, hbz⟩)
        | (go_at_call 10; have hz := hb2; refine (same_any _ _ _ _ _ _ v.2 v.2 _ hlen hlen hS1' hS2).mono ?_; rintro e w3 ⟨rfl, hb3⟩; rw [HE.out])
        | (go_at_call 14; have hz := hb1; refine (rspots_any _ _ _ _ _ _ a b _ hna hnb hca hcb (hsA.keep hb1) (hsB.keep hb1)).mono ?_; rintro e w2 ⟨v2, rfl, ho2, hb2⟩; rw [HV.out] at ho2 ⊢; obtain ⟨A2, c2, rfl, hc2, hS2, -⟩ := ho2.sps; have hS1' := hS1.keep hb2)
        | (go_at_call 13; refine (spots_any _ _ _ _ _ _ a b _ hna hnb hca hcb hsA hsB).mono ?_; rintro e w1 ⟨v1, rfl, ho1, hb1⟩; rw [HV.out] at ho1 ⊢; obtain ⟨A1, c1, rfl, hc1, hS1, -⟩ := ho1.sps))
      go_ret
      exact ⟨rfl, Bl.call (Bl.call (Bl.call hb1 hb2) hb3) hbz⟩

end Go.Proofs.YtjnllehnplenaaaGreat

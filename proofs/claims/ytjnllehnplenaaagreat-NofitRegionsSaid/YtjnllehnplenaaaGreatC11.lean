/- garmentlaw16.NofitRegions returns true. PROVED HERE: the statement NofitRegions, for every two lists of spots, without a condition. -/
import Derived.Test.YtjnllehnplenaaaGreatG56
import Derived.Test.YtjnllehnplenaaaGreatG43
namespace Go.Proofs.YtjnllehnplenaaaGreat
set_option linter.unusedVariables false
set_option linter.unusedSimpArgs false
open Go.RowKit


set_option maxHeartbeats 2000000 in
set_option maxRecDepth 100000 in
theorem lawRegions (A B : Option Addr) (ca cb na nb : Nat) (a b : List (Int × Int)) (w : World) (hca : na ≤ ca) (hcb : nb ≤ cb) (hcA : ca ≤ 9223372036854775807) (hcB : cb ≤ 9223372036854775807) (hsA : SpS w A na a) (hsB : SpS w B nb b) :
    Calls Tryz.prog 3 #[.slice A na ca, .slice B nb cb] w fun e w' => e = .returned (.bool true) ∧ Below w.heap.size w w' := by
  have hna : na ≤ 9223372036854775807 := by omega
  have hnb : nb ≤ 9223372036854775807 := by omega
  cases hl : lightW na nb with
  | false =>
    go_enter Tryz.func3, Tryz.ntmps3
    go_wp2_with (first | (go_at_call 7; refine (nalive_any _).mono ?_; rintro e wz ⟨rfl, hbz⟩) | (go_at_call 6; refine (light_any _ _ _ _ _ _ _).mono ?_; rintro e wl ⟨rfl, rfl⟩; rw [hl]))
    go_ret
    exact ⟨rfl, hbz⟩
  | true =>
    have hin := regionsW_in a b
    obtain ⟨r, hr⟩ : ∃ r, regionsW a b = r := ⟨_, rfl⟩
    have H1 := Lib.hid (regions_any A B ca cb na nb a b w hna hnb hca hcb hsA hsB)
    have H2 := Lib.hid (fun (w' : World) (hb' : Below w.heap.size w w') => rregions_any A B ca cb na nb a b w' hna hnb hca hcb (hsA.keep hb') (hsB.keep hb'))
    rw [hr] at H1 H2 hin
    clear hr
    have HIN := Lib.hid (show ∀ k, k < r.2.length → (lt_ r.2 k).length ≤ 1000000 from fun k hk => Nat.le_trans (hin.2 _ (Ears.lt_in hk)).1 (by omega))
    have hnl := hin.1
    obtain ⟨n, hn⟩ : ∃ n, r.2.length = n := ⟨_, rfl⟩
    rw [hn] at HIN hnl
    have HN := Lib.hid hn
    clear hn hin
    have q1 : ((n : Int) != (n : Int)) = false := by simp
    have q2 : (r.1 != r.1) = false := by simp
    go_enter Tryz.func3, Tryz.ntmps3
    go_wp2_with (first
      | (go_at_call 9; have hz := hb1; refine (H2.out _ hb1).mono ?_; rintro e w2 ⟨v2, rfl, ho2, hb2⟩; obtain ⟨A2, c2, rfl, hc2, hS2, -⟩ := ho2.spss; rw [HN.out] at hc2 hS2 ⊢)
      | (go_at_call 8; refine H1.out.mono ?_; rintro e w1 ⟨v1, rfl, ho1, hb1⟩; obtain ⟨A1, c1, rfl, hc1, hS1, -⟩ := ho1.spss; rw [HN.out] at hc1 hS1 ⊢)
      | (go_at_call 6; refine (light_any _ _ _ _ _ _ _).mono ?_; rintro e wl ⟨rfl, rfl⟩; rw [hl]))
    have hS1' := hS1.keep hb2
    have hbX := Bl.call hb1 hb2
    clear H1 H2 hS1 ho1 ho2 hb1 hb2 hz hc1 hc2
    go_loopw [9] (fun s9 wr => ∃ i : Nat, i ≤ n ∧ s9 = .int .i64 i ∧ Below w2.heap.size w2 wr) (fun i _ => n - (intOf i).toNat)
    case atStart => exact ⟨0, Nat.zero_le _, rfl, Below.refl _ _⟩
    case round =>
      obtain ⟨i, hi, rfl, hb⟩ := hrel
      by_cases hlt : i < n
      · obtain ⟨b1, o1, Ak, ck, rfl, -, x1, -, x3, -⟩ := (hS1'.keep hb).at_ hlt
        obtain ⟨b2, o2, Bk, dk, rfl, -, y1, -, y3, -⟩ := (hS2.keep hb).at_ hlt
        have hXl := HIN.out i hlt
        have HEQ := Lib.hid (show eqL (lt_ r.2 i) (lt_ r.2 i) = true from decide_eq_true rfl)
        obtain ⟨xl, hxl⟩ : ∃ xl, (lt_ r.2 i).length = xl := ⟨_, rfl⟩
        rw [hxl] at hXl x1 x3 y1 y3
        clear hxl
        have z1 : (i : Int) < (n : Int) := by omega
        have HV := Lib.hid (fun (w' : World) (hb' : Below wr.heap.size wr w') => same_any Ak Bk ck dk xl xl (lt_ r.2 i) (lt_ r.2 i) w' hXl hXl (x3.keep hb') (y3.keep hb'))
        rw [HEQ.out] at HV
        go_wp2_with fail
        refine wp_region_cls wr [(⟨b1, o1 + i, none⟩, .slice Ak xl ck), (⟨b2, o2 + i, none⟩, .slice Bk xl dk)] (by kernel_rfl) (by kernel_rfl) ⟨(Below.refl _ _), by simp only [List.mem_cons, List.not_mem_nil, forall_eq_or_imp, or_false, forall_eq]; go_simp⟩ ?_
        repeat
          apply wq_plain
          · rfl
          · intro w1 hw1
            have hx := hw1.2
            simp only [List.mem_cons, List.not_mem_nil, forall_eq_or_imp, or_false, forall_eq] at hx
            go_simp
            first | rfl | exact calls_cls hw1 (HV.out _ hw1.1)
          go_simp
        refine wpQuiet_nil ?_
        intro wy hCwy
        have hby := hCwy.1
        clear hCwy
        go_wp2_with fail
        exact ⟨⟨i + 1, by omega, by go_num, Bl.call hb hby⟩, by simp [intOf]; omega⟩
      · obtain rfl : n = i := by omega
        go_wp2_with (go_at_call 7; refine (nalive_any _).mono ?_; rintro e wz ⟨rfl, hbz⟩)
        go_ret
        exact ⟨rfl, Bl.call (Bl.call hbX hb) hbz⟩

end Go.Proofs.YtjnllehnplenaaaGreat

namespace Go.Proofs.YtjnllehnplenaaaGreat
set_option linter.unusedVariables false
set_option linter.unusedSimpArgs false
open Go.ChangeShapes Go.WideShapes Go.ChangeAt Go.RowKit

namespace nofitRegions
set_option maxRecDepth 100000 in
set_option maxHeartbeats 1000000 in
theorem lifted (os : Os) (started : os.Started) (H : Type) (enc : TypeId × Value → H) :
    ReturnsInHanded {} Tryz.checked os 3 .any (Rows.nofitRegionsSpec.pre6 enc Tryz.prog Tryz.f3 Rows.nofitRegionsRow.domain false) (Rows.nofitRegionsSpec.post enc Tryz.prog Tryz.f3 false true false false) := by
  refine returnsInHanded_of_change (C := Tryz.checked) own started (by kernel_rfl) Tryz.func3
    (ChangeSpec.witness6 (enc := enc) (C := Tryz.checked) false ⟨#[], #[.slice none 0 0, .slice none 0 0], []⟩ 8 (by kernel_rfl) (by kernel_rfl) (by kernel_rfl) (by kernel_rfl)) ?_
  intro W base args ds gs before hval0 hW hcnd _
  have hval : ∀ (j : Nat) t v, Tryz.f3.params[j]? = some t → args[j]? = some v → Value.okWide Tryz.prog W .any base t v := hval0
  have hW' := hW
  obtain ⟨p, q, hA0, hV, rfl, hfz, hnd⟩ := hW
  have hA : DataW.TrodAll enc Tryz.prog W 0 (fun _ => true) true Tryz.f3.params.toList args.toList ds p := hA0
  rw [Tryz.params3] at hA hval
  obtain ⟨v0, vs0, d0, ds0, p0, q0, hargs, rfl, rfl, h0, r0⟩ := trodAll_cons hA
  obtain ⟨v1, vs1, d1, ds1, p1, q1, rfl, rfl, rfl, h1, r1⟩ := trodAll_cons r0
  obtain ⟨rfl, rfl, rfl⟩ := trodAll_nil r1
  obtain rfl : args = #[v0, v1] := by cases args; simp_all
  obtain ⟨rfl, rfl⟩ := trodVars_none hV
  have k0 := h0
  have lt0 : ∀ x ∈ p0, x.block < W.heap.size := by obtain ⟨m, hm⟩ := k0; exact DataW.trod_lt m _ _ _ hm
  obtain ⟨A0, n0, c0, L0, rfl, w0⟩ := open_spots (hval 0 22 v0 rfl rfl) h0
  have k1 := h1
  have lt1 : ∀ x ∈ p1, x.block < W.heap.size := by obtain ⟨m, hm⟩ := k1; exact DataW.trod_lt m _ _ _ hm
  obtain ⟨A1, n1, c1, L1, rfl, w1⟩ := open_spots (hval 1 22 v1 rfl rfl) h1
  clear hA0 hval0
  refine (lawRegions A0 A1 c0 c1 n0 n1 L0 L1 W w0.1 w1.1 w0.2.1 w1.2.1 w0.2.2.2.1 w1.2.2.2.1).mono fun e W' ⟨he, bel⟩ => ?_
  subst he
  exact ⟨_, rfl, _, _, _, [], _, [], hW', trodAll_mk1 (shut_bool Tryz.underlying4 _), (trodAll_cons_mk (Below.trod laidOut (by kernel_rfl) (of_decide_eq_true (by kernel_rfl)) k0 bel lt0) (trodAll_cons_mk (Below.trod laidOut (by kernel_rfl) (of_decide_eq_true (by kernel_rfl)) k1 bel lt1) trodAll_mk0)), rfl, bel.frame _, fun h => by cases h⟩

theorem over : Rows.nofitRegionsRow.holds Tryz.pinned (OpenSpec.ofChange Rows.nofitRegionsSpec) :=
  OpenClaim.holds_of_wide 3 Tryz.f3 rfl rfl rfl rfl rfl rfl rfl ⟨rfl, rfl, rfl, rfl, rfl⟩ rfl rfl rfl rfl rfl (by kernel_rfl) Tryz.func3 (by kernel_rfl)
    (of_decide_eq_true (by kernel_rfl)) (by unfold Func.isWrapper; first | (rw [if_pos (by decide +kernel)]; kernel_rfl) | (rw [if_neg (by decide +kernel)]; exact ⟨rfl, rfl⟩))
    (fun os started H enc _ => lifted os started H enc)

theorem proved : Rows.NofitRegionsSaid := over
end nofitRegions

end Go.Proofs.YtjnllehnplenaaaGreat

/- SearchBests: the law's walk. PROVED HERE: the statement SearchBests, for every bed and every list of shapes, without a condition. -/
import Derived.Test.YtmdncaoilegnnaaGreatXG71
import Derived.Test.YtmdncaoilegnnaaGreatXG26
import Derived.Test.YtmdncaoilegnnaaGreatXG28
namespace Go.Proofs.YtmdncaoilegnnaaGreat
set_option linter.unusedVariables false
set_option linter.unusedSimpArgs false
section
set_option maxRecDepth 100000
open Go.RowKit
theorem sameI_refl (a : List Int) : sameI a a = true := by unfold sameI; simp
theorem bestW_small (b : Bed4) (S : List Shp) : (bestW b S).2.2.length ≤ 5 := by
 unfold bestW
 split
 ·simp
 ·split
  ·simp
  ·split
   ·simp
   ·rename_i x o h
    obtain ⟨⟨i, hi, e, -⟩, -⟩ := bestTo_some h
    rw [← e]
    exact (ordW_len _).2 _ (li_mem hi)
set_option maxHeartbeats 1000000 in
theorem lawBests (A1 : Option Addr) (c1 n1 : Nat) (b : Bed4) (S : List Shp) (w : World) (hS : ShW w A1 n1 S) :
 Calls Tryz.prog 8 #[bedV b, .slice A1 n1 c1] w fun e w' => e = .returned (.bool true) ∧ Below w.heap.size w w' := by
 have H0 := Hj (BlkS.new w 25 #[.int .i64 b.len, .int .i64 b.wid, .int .i64 b.rx, .int .i64 b.ry])
 have hbw := Hj (show Below w.heap.size w (w.alloc (.cells #[.int .i64 b.len, .int .i64 b.wid, .int .i64 b.rx, .int .i64 b.ry] 25)) from (Bl.alloc Br _))
 have HA := Hj alive_any
 have hcl := bestW_small b S
 have HC := Hj (fun w hS => best_any A1 c1 n1 b S w hS)
 have HD := Hj (fun w hS => rbest_any A1 c1 n1 b S w hS)
 obtain ⟨r, hr⟩ : ∃ r, bestW b S = r := ⟨_, rfl⟩
 rw [hr] at HC HD hcl
 clear hr
 obtain ⟨r1, r2, os⟩ := r
 dsimp only at hcl
 obtain ⟨no, hno⟩ : ∃ no, os.length = no := ⟨_, rfl⟩
 rw [hno] at hcl
 have HNO := Hj hno
 clear hno
 have HSP := Hj (sameI_refl os)
 obtain ⟨len, wid, rx, ry⟩ := b
 unfold bedV at HC HD ⊢
 dsimp only at H0 hbw HC HD ⊢
 cases hf : fewW S with
 | true =>
   have hn1 := fewW_len hf
   rw [hS.1] at hn1
   have hSS := Hj (hS.shs (by omega))
   have HF := Hj hf
   clear hf
   go_enter Tryz.func8, Tryz.ntmps8
   go_wp2_with (first | (go_at_call 23; refine (HA.out _).mono ?_; rintro e w9 ⟨rfl, hb9⟩) | (go_at_call 29; refine (sameInts_any _ _ _ _ _ _ os os _ (by omega) hP4 hP3).mono ?_; rintro e w4 ⟨rfl, hb4⟩; rw [HSP.out])   | (go_at_call 28; refine (HD.out _ (hSS.out.keep hbX)).mono ?_; rintro e w3 ⟨v3, rfl, hr3, hb3⟩; dsimp only at hr3 ⊢; obtain ⟨A3, c3, rfl, -, hP3, -⟩ := hr3; rw [HNO.out] at hP3 ⊢; have hP4 := hP2.keep hb3)   | (go_at_call 27; refine (HC.out _ (hSS.out.keep hbY)).mono ?_; rintro e w2 ⟨v2, rfl, hr2, hb2⟩; dsimp only at hr2 ⊢; obtain ⟨A2, c2, rfl, -, hP2, -⟩ := hr2; rw [HNO.out] at hP2 ⊢; have hbX := Bl.call hbY hb2; obtain ⟨a1', a2', a3', a4', -⟩ := ((H0.out.keep hb0).keep hb2).cells4) | (go_at_call 26; refine (few_any _ _ _ S _ (hS.keep hbw.out)).mono ?_; rintro e w0 ⟨rfl, hb0⟩; rw [HF.out]; have hbY := Bl.call hbw.out hb0; obtain ⟨a1, a2, a3, a4, -⟩ := (H0.out.keep hb0).cells4))
   go_ret
   exact ⟨rfl, Bl.call (Bl.call (Bl.call hbX hb3) hb4) hb9⟩
 | false =>
   have HF := Hj hf
   clear hf
   have hn9 := hS.2.1
   by_cases h5 : n1 ≤ 5
   ·go_enter Tryz.func8, Tryz.ntmps8
    go_wp2_with (first | (go_at_call 23; refine (HA.out _).mono ?_; rintro e w9 ⟨rfl, hb9⟩) | (go_at_call 26; refine (few_any _ _ _ S _ (hS.keep hbw.out)).mono ?_; rintro e w0 ⟨rfl, hb0⟩; rw [HF.out]; obtain ⟨a1, a2, a3, a4, -⟩ := (H0.out.keep hb0).cells4))
    go_ret
    exact ⟨rfl, Bl.call (Bl.call hbw.out hb0) hb9⟩
   ·cases hl : lghtW S with
    | false =>
      have HW := Hj hl
      clear hl
      go_enter Tryz.func8, Tryz.ntmps8
      go_wp2_with (first | (go_at_call 23; refine (HA.out _).mono ?_; rintro e w9 ⟨rfl, hb9⟩) | (go_at_call 22; refine (lght_any _ _ _ S _ (hS.keep (Bl.call hbw.out hb0))).mono ?_; rintro e w1 ⟨rfl, hb1⟩; rw [HW.out]; have hbY := Bl.call (Bl.call hbw.out hb0) hb1; obtain ⟨a1, a2, a3, a4, -⟩ := ((H0.out.keep hb0).keep hb1).cells4) | (go_at_call 26; refine (few_any _ _ _ S _ (hS.keep hbw.out)).mono ?_; rintro e w0 ⟨rfl, hb0⟩; rw [HF.out]; obtain ⟨a1, a2, a3, a4, -⟩ := (H0.out.keep hb0).cells4))
      go_ret
      exact ⟨rfl, Bl.call hbY hb9⟩
    | true =>
      have hn1 := lghtW_len hl
      rw [hS.1] at hn1
      have hSS := Hj (hS.shs (by omega))
      have HW := Hj hl
      clear hl
      go_enter Tryz.func8, Tryz.ntmps8
      go_wp2_with (first | (go_at_call 23; refine (HA.out _).mono ?_; rintro e w9 ⟨rfl, hb9⟩) | (go_at_call 29; refine (sameInts_any _ _ _ _ _ _ os os _ (by omega) hP4 hP3).mono ?_; rintro e w4 ⟨rfl, hb4⟩; rw [HSP.out])   | (go_at_call 28; refine (HD.out _ (hSS.out.keep hbX)).mono ?_; rintro e w3 ⟨v3, rfl, hr3, hb3⟩; dsimp only at hr3 ⊢; obtain ⟨A3, c3, rfl, -, hP3, -⟩ := hr3; rw [HNO.out] at hP3 ⊢; have hP4 := hP2.keep hb3)   | (go_at_call 27; refine (HC.out _ (hSS.out.keep hbY)).mono ?_; rintro e w2 ⟨v2, rfl, hr2, hb2⟩; dsimp only at hr2 ⊢; obtain ⟨A2, c2, rfl, -, hP2, -⟩ := hr2; rw [HNO.out] at hP2 ⊢; have hbX := Bl.call hbY hb2; obtain ⟨a1', a2', a3', a4', -⟩ := (((H0.out.keep hb0).keep hb1).keep hb2).cells4) | (go_at_call 22; refine (lght_any _ _ _ S _ (hS.keep (Bl.call hbw.out hb0))).mono ?_; rintro e w1 ⟨rfl, hb1⟩; rw [HW.out]; have hbY := Bl.call (Bl.call hbw.out hb0) hb1; obtain ⟨a1, a2, a3, a4, -⟩ := ((H0.out.keep hb0).keep hb1).cells4) | (go_at_call 26; refine (few_any _ _ _ S _ (hS.keep hbw.out)).mono ?_; rintro e w0 ⟨rfl, hb0⟩; rw [HF.out]; obtain ⟨a1, a2, a3, a4, -⟩ := (H0.out.keep hb0).cells4))
      go_ret
      exact ⟨rfl, Bl.call (Bl.call (Bl.call hbX hb3) hb4) hb9⟩
end
section
set_option maxRecDepth 100000
open Go.ChangeShapes Go.WideShapes Go.ChangeAt Go.RowKit
namespace searchBests
set_option maxHeartbeats 1000000 in
theorem lifted (os : Os) (started : os.Started) (H : Type) (enc : TypeId × Value → H) :
 ReturnsInHanded {} Tryz.checked os 8 .any (Rows.searchBestsSpec.pre6 enc Tryz.prog Tryz.f8 Rows.searchBestsRow.domain false) (Rows.searchBestsSpec.post enc Tryz.prog Tryz.f8 false true false false) := by
 refine returnsInHanded_of_change (C := Tryz.checked) own started (by kernel_rfl) Tryz.func8
  (ChangeSpec.witness6 (enc := enc) (C := Tryz.checked) false ⟨#[], #[.agg #[.int .i64 0, .int .i64 0, .int .i64 0, .int .i64 0], .slice none 0 0], []⟩ 8 (by kernel_rfl) (by kernel_rfl) (by kernel_rfl) (by kernel_rfl)) ?_
 intro W base args ds gs before hval0 hW hcnd _
 have hval : ∀ (j : Nat) t v, Tryz.f8.params[j]? = some t → args[j]? = some v → Value.okWide Tryz.prog W .any base t v := hval0
 have hW' := hW
 obtain ⟨p, q, hA0, hV, rfl, hfz, hnd⟩ := hW
 have hA : DataW.TrodAll enc Tryz.prog W 0 (fun _ => true) true Tryz.f8.params.toList args.toList ds p := hA0
 rw [Tryz.params8] at hA hval
 obtain ⟨v0, vs0, d0, ds0, p0, q0, hargs, rfl, rfl, h0, r0⟩ := trodAll_cons hA
 obtain ⟨v1, vs1, d1, ds1, p1, q1, rfl, rfl, rfl, h1, r1⟩ := trodAll_cons r0
 obtain ⟨rfl, rfl, rfl⟩ := trodAll_nil r1
 obtain rfl : args = #[v0, v1] := by cases args; simp_all
 obtain ⟨rfl, rfl⟩ := trodVars_none hV
 have k0 := h0
 have lt0 : ∀ x ∈ p0, x.block < W.heap.size := by obtain ⟨m, hm⟩ := k0; exact DataW.trod_lt m _ _ _ hm
 obtain ⟨b0, rfl, w0⟩ := open_bed (hval 0 25 v0 rfl rfl) h0
 have k1 := h1
 have lt1 : ∀ x ∈ p1, x.block < W.heap.size := by obtain ⟨m, hm⟩ := k1; exact DataW.trod_lt m _ _ _ hm
 obtain ⟨A1, n1, c1, S1, rfl, w1⟩ := open_shapes (hval 1 26 v1 rfl rfl) h1
 clear hA0 hval0
 refine (lawBests A1 c1 n1 b0 S1 W w1.2).mono fun e W' ⟨he, bel⟩ => ?_
 subst he
 exact ⟨_, rfl, _, _, _, [], _, [], hW', trodAll_mk1 (shut_bool Tryz.underlying4 _), (trodAll_cons_mk (Below.trod laidOut (by kernel_rfl) (of_decide_eq_true (by kernel_rfl)) k0 bel lt0) (trodAll_cons_mk (Below.trod laidOut (by kernel_rfl) (of_decide_eq_true (by kernel_rfl)) k1 bel lt1) trodAll_mk0)), rfl, bel.frame _, fun h => by cases h⟩
theorem over : Rows.searchBestsRow.holds Tryz.pinned (OpenSpec.ofChange Rows.searchBestsSpec) :=
 OpenClaim.holds_of_wide 8 Tryz.f8 rfl rfl rfl rfl rfl rfl rfl ⟨rfl, rfl, rfl, rfl, rfl⟩ rfl rfl rfl rfl rfl (by kernel_rfl) Tryz.func8 (by kernel_rfl)
  (of_decide_eq_true (by kernel_rfl)) (by unfold Func.isWrapper; first | (rw [if_pos (by decide +kernel)]; kernel_rfl) | (rw [if_neg (by decide +kernel)]; exact ⟨rfl, rfl⟩))
  (fun os started H enc _ => lifted os started H enc)
theorem proved : Rows.SearchBestsSaid := over
end searchBests
end
end Go.Proofs.YtmdncaoilegnnaaGreat

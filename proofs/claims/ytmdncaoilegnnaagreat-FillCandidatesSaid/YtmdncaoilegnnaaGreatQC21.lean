/- FillCandidates: the law's walk. PROVED HERE: the statement FillCandidates, for every bed, every list of shapes, every list of puts, every shape's number and every turn, without a condition. -/
import Derived.Test.YtmdncaoilegnnaaGreatQG63
import Derived.Test.YtmdncaoilegnnaaGreatQG31
import Derived.Test.YtmdncaoilegnnaaGreatQG32
namespace Go.Proofs.YtmdncaoilegnnaaGreat
set_option linter.unusedVariables false
set_option linter.unusedSimpArgs false
set_option linter.unusedVariables false
set_option linter.unusedSimpArgs false
set_option maxRecDepth 100000
open Go.RowKit

theorem candsW_len (b : Bed4) (S : List Shp) (ps : List Pt5) (sh : Int) (fl : Bool) (qu : Int) : (candsW b S ps sh fl qu).2.length ≤ 2 + 1075840 * ps.length := by
  unfold candsW
  split
  · simp
  · rename_i h
    have h' : (prepW b S ps sh fl qu).1 = 0 := by simpa using h
    split
    · simp
    · have h1 := (candW_ok b (shp S sh.toNat) fl qu (prepW b S ps sh fl qu).2.1 (prepW b S ps sh fl qu).2.2).1
      have h2 := (placTo_small S ps ps.length).1
      rw [(prepW_okT h').2.2] at h1
      show (List.map _ _).length ≤ _
      rw [List.length_map, (prepW_okT h').2.2]
      omega
theorem samePW_refl (a : List Pt5) : samePW a a = true := samePW_yes rfl (fun _ _ => rfl)
set_option maxHeartbeats 1000000 in
theorem lawCand (A1 A2 : Option Addr) (c1 c2 n1 n2 : Nat) (b : Bed4) (S : List Shp) (ps : List Pt5) (sh : Int) (fl : Bool) (qu : Int) (w : World) (hS : ShW w A1 n1 S) (hP : PuS w A2 n2 ps) (hm : n2 ≤ 9223372036854775807) :
    Calls Tryz.prog 3 #[bedV b, .slice A1 n1 c1, .slice A2 n2 c2, .int .i64 sh, .agg #[.bool fl, .int .i64 qu]] w fun e w' => e = .returned (.bool true) ∧ Below w.heap.size w w' := by
  have H0 := Lib.hid ((BlkS.new w 25 #[.int .i64 b.len, .int .i64 b.wid, .int .i64 b.rx, .int .i64 b.ry]).alloc (.cells #[.bool fl, .int .i64 qu] 29))
  have H1 := Lib.hid (BlkS.new2 w (.cells #[.int .i64 b.len, .int .i64 b.wid, .int .i64 b.rx, .int .i64 b.ry] 25) 29 #[.bool fl, .int .i64 qu])
  have hbw := Lib.hid (show Below w.heap.size w ((w.alloc (.cells #[.int .i64 b.len, .int .i64 b.wid, .int .i64 b.rx, .int .i64 b.ry] 25)).alloc (.cells #[.bool fl, .int .i64 qu] 29)) from (Bl.alloc (Bl.alloc (Below.refl _ _) _) _))
  have HA := Lib.hid ex_any
  cases hfew : (few4W S && decide (n2 ≤ 3)) with
  | false =>
    have HW := Lib.hid hfew
    clear hfew
    obtain ⟨len, wid, rx, ry⟩ := b
    unfold bedV
    dsimp only at hbw ⊢
    go_enter Tryz.func3, Tryz.ntmps3
    go_wp2_with (first | (go_at_call 11; refine (HA.out _).mono ?_; rintro e w9 ⟨rfl, hb9⟩) | (go_at_call 10; refine (lawFew_any _ _ _ _ _ _ S _ (hS.keep hbw.out) (by omega)).mono ?_; rintro e w1 ⟨rfl, hb1⟩; rw [HW.out]))
    go_ret
    exact ⟨rfl, Bl.call (Bl.call hbw.out hb1) hb9⟩
  | true =>
    obtain ⟨h4, h3⟩ := Bool.and_eq_true_iff.1 hfew
    have hn1 := few4_len h4
    rw [hS.1] at hn1
    have hn2 : n2 ≤ 3 := by simpa using h3
    have hSS := Lib.hid (hS.shs (by omega))
    have HW := Lib.hid hfew
    have hcl := candsW_len b S ps sh fl qu
    rw [hP.1] at hcl
    clear hfew h4 h3
    have HC := Lib.hid (fun w hS hP => cands_any A1 A2 c1 c2 n1 n2 b S ps sh fl qu w (by omega) hS hP)
    have HD := Lib.hid (fun w hS hP => rcands_any A1 A2 c1 c2 n1 n2 b S ps sh fl qu w (by omega) hS hP)
    obtain ⟨r, hr⟩ : ∃ r, candsW b S ps sh fl qu = r := ⟨_, rfl⟩
    rw [hr] at hcl HC HD
    clear hr
    obtain ⟨r1, cs⟩ := r
    have HSP := Lib.hid (samePW_refl cs)
    obtain ⟨nc, hnc⟩ : ∃ nc, cs.length = nc := ⟨_, rfl⟩
    dsimp only at hcl
    rw [hnc] at hcl
    have HNC := Lib.hid hnc
    clear hnc
    obtain ⟨len, wid, rx, ry⟩ := b
    unfold bedV at HC HD ⊢
    dsimp only at H0 H1 hbw HC HD ⊢
    go_enter Tryz.func3, Tryz.ntmps3
    go_wp2_with (first
      | (go_at_call 11; refine (HA.out _).mono ?_; rintro e w9 ⟨rfl, hb9⟩)
      | (go_at_call 14; refine (samePuts_any _ _ _ _ _ _ cs cs _ (by omega) hPl hPm).mono ?_; rintro e w4 ⟨rfl, hb4⟩; rw [HSP.out])
      | (go_at_call 13; refine (HD.out _ (hSS.out.keep hbX) (hP.keep hbX)).mono ?_; rintro e w3 ⟨v3, rfl, ho3, hb3⟩; obtain ⟨A3, c3, rfl, hPm⟩ := OwP.pus ho3; rw [HNC.out] at hPm ⊢; have hPl := hPl2.keep hb3)
      | (go_at_call 12; refine (HC.out _ (hSS.out.keep (Bl.call hbw.out hb1)) (hP.keep (Bl.call hbw.out hb1))).mono ?_; rintro e w2 ⟨v2, rfl, ho2, hb2⟩; obtain ⟨A4, c4, rfl, hPl2⟩ := OwP.pus ho2; rw [HNC.out] at hPl2 ⊢; have hbX := Bl.call (Bl.call hbw.out hb1) hb2; obtain ⟨a1', a2', a3', a4', -⟩ := ((H0.out.keep hb1).keep hb2).cells4; obtain ⟨t1', t2'⟩ := ((H1.out.keep hb1).keep hb2).cells2')
      | (go_at_call 10; refine (lawFew_any _ _ _ _ _ _ S _ (hS.keep hbw.out) (by omega)).mono ?_; rintro e w1 ⟨rfl, hb1⟩; rw [HW.out]; obtain ⟨a1, a2, a3, a4, -⟩ := (H0.out.keep hb1).cells4; obtain ⟨t1, t2⟩ := (H1.out.keep hb1).cells2'))
    go_ret
    exact ⟨rfl, Bl.call (Bl.call (Bl.call hbX hb3) hb4) hb9⟩
end Go.Proofs.YtmdncaoilegnnaaGreat

namespace Go.Proofs.YtmdncaoilegnnaaGreat
set_option linter.unusedVariables false
set_option linter.unusedSimpArgs false
set_option linter.unusedVariables false
set_option linter.unusedSimpArgs false
set_option maxRecDepth 100000
open Go.ChangeShapes Go.WideShapes Go.ChangeAt Go.RowKit

section
variable {H : Type} {enc : TypeId × Value → H} {w : World} {base b0 : Nat} {spare : Nat → Bool} {held : Bool} {r : Reach} {v : Value} {d : DataW H} {p : List MemPlace}
theorem open_turn (hv : Value.okWide Tryz.prog w r b0 29 v) (h : DataW.Trod enc Tryz.prog w base spare held 29 v d p) : ∃ (f : Bool) (u : Int), v = .agg #[.bool f, .int .i64 u] ∧ inR u := by
  obtain ⟨cs, rfl, hsz⟩ := okWide_struct Tryz.underlying29 hv
  obtain ⟨fuel, hf⟩ := h
  obtain ⟨a, b, hcs, wb⟩ := turn_trod hf
  refine ⟨a, b, ?_, wb⟩
  rw [show cs = cs.toList.toArray by simp]
  have : cs.toList = [.bool a, .int .i64 b] := by simpa [Value.cells] using hcs
  rw [this]
end

namespace fillCandidates
set_option maxHeartbeats 1000000 in
theorem lifted (os : Os) (started : os.Started) (H : Type) (enc : TypeId × Value → H) :
    ReturnsInHanded {} Tryz.checked os 3 .any (Rows.fillCandidatesSpec.pre6 enc Tryz.prog Tryz.f3 Rows.fillCandidatesRow.domain false) (Rows.fillCandidatesSpec.post enc Tryz.prog Tryz.f3 false true false false) := by
  refine returnsInHanded_of_change (C := Tryz.checked) own started (by kernel_rfl) Tryz.func3
    (ChangeSpec.witness6 (enc := enc) (C := Tryz.checked) false ⟨#[], #[.agg #[.int .i64 0, .int .i64 0, .int .i64 0, .int .i64 0], .slice none 0 0, .slice none 0 0, .int .i64 0, .agg #[.bool false, .int .i64 0]], []⟩ 8 (by kernel_rfl) (by kernel_rfl) (by kernel_rfl) (by kernel_rfl)) ?_
  intro W base args ds gs before hval0 hW hcnd _
  have hval : ∀ (j : Nat) t v, Tryz.f3.params[j]? = some t → args[j]? = some v → Value.okWide Tryz.prog W .any base t v := hval0
  have hW' := hW
  obtain ⟨p, q, hA0, hV, rfl, hfz, hnd⟩ := hW
  have hA : DataW.TrodAll enc Tryz.prog W 0 (fun _ => true) true Tryz.f3.params.toList args.toList ds p := hA0
  rw [Tryz.params3] at hA hval
  obtain ⟨v0, vs0, d0, ds0, p0, q0, hargs, rfl, rfl, h0, r0⟩ := trodAll_cons hA
  obtain ⟨v1, vs1, d1, ds1, p1, q1, rfl, rfl, rfl, h1, r1⟩ := trodAll_cons r0
  obtain ⟨v2, vs2, d2, ds2, p2, q2, rfl, rfl, rfl, h2, r2⟩ := trodAll_cons r1
  obtain ⟨v3, vs3, d3, ds3, p3, q3, rfl, rfl, rfl, h3, r3⟩ := trodAll_cons r2
  obtain ⟨v4, vs4, d4, ds4, p4, q4, rfl, rfl, rfl, h4, r4⟩ := trodAll_cons r3
  obtain ⟨rfl, rfl, rfl⟩ := trodAll_nil r4
  obtain rfl : args = #[v0, v1, v2, v3, v4] := by cases args; simp_all
  obtain ⟨rfl, rfl⟩ := trodVars_none hV
  have k0 := h0
  have lt0 : ∀ x ∈ p0, x.block < W.heap.size := by obtain ⟨m, hm⟩ := k0; exact DataW.trod_lt m _ _ _ hm
  obtain ⟨b0, rfl, w0⟩ := open_bed (hval 0 25 v0 rfl rfl) h0
  have k1 := h1
  have lt1 : ∀ x ∈ p1, x.block < W.heap.size := by obtain ⟨m, hm⟩ := k1; exact DataW.trod_lt m _ _ _ hm
  obtain ⟨A1, n1, c1, S1, rfl, w1⟩ := open_shapes (hval 1 26 v1 rfl rfl) h1
  have k2 := h2
  have lt2 : ∀ x ∈ p2, x.block < W.heap.size := by obtain ⟨m, hm⟩ := k2; exact DataW.trod_lt m _ _ _ hm
  obtain ⟨A2, n2, c2, P2, rfl, w2⟩ := open_puts (hval 2 27 v2 rfl rfl) h2
  obtain ⟨a3, rfl, rfl, rfl, w3⟩ := open_int Tryz.underlying3 (hval 3 3 v3 rfl rfl) h3
  have k4 := h4
  have lt4 : ∀ x ∈ p4, x.block < W.heap.size := by obtain ⟨m, hm⟩ := k4; exact DataW.trod_lt m _ _ _ hm
  obtain ⟨f4, t4, rfl, w4⟩ := open_turn (hval 4 29 v4 rfl rfl) h4
  clear hA0 hval0
  refine (lawCand A1 A2 c1 c2 n1 n2 b0 S1 P2 a3 f4 t4 W w1.2 w2.2.2.1 (Nat.le_trans w2.1 w2.2.1)).mono fun e W' ⟨he, bel⟩ => ?_
  subst he
  exact ⟨_, rfl, _, _, _, [], _, [], hW', trodAll_mk1 (shut_bool Tryz.underlying4 _), (trodAll_cons_mk (Below.trod laidOut (by kernel_rfl) (of_decide_eq_true (by kernel_rfl)) k0 bel lt0) (trodAll_cons_mk (Below.trod laidOut (by kernel_rfl) (of_decide_eq_true (by kernel_rfl)) k1 bel lt1) (trodAll_cons_mk (Below.trod laidOut (by kernel_rfl) (of_decide_eq_true (by kernel_rfl)) k2 bel lt2) (trodAll_cons_mk (shut_int Tryz.underlying3 w3) (trodAll_cons_mk (Below.trod laidOut (by kernel_rfl) (of_decide_eq_true (by kernel_rfl)) k4 bel lt4) trodAll_mk0))))), rfl, bel.frame _, fun h => by cases h⟩
theorem over : Rows.fillCandidatesRow.holds Tryz.pinned (OpenSpec.ofChange Rows.fillCandidatesSpec) :=
  OpenClaim.holds_of_wide 3 Tryz.f3 rfl rfl rfl rfl rfl rfl rfl ⟨rfl, rfl, rfl, rfl, rfl⟩ rfl rfl rfl rfl rfl (by kernel_rfl) Tryz.func3 (by kernel_rfl)
    (of_decide_eq_true (by kernel_rfl)) (by unfold Func.isWrapper; first | (rw [if_pos (by decide +kernel)]; kernel_rfl) | (rw [if_neg (by decide +kernel)]; exact ⟨rfl, rfl⟩))
    (fun os started H enc _ => lifted os started H enc)
theorem proved : Rows.FillCandidatesSaid := over
end fillCandidates

end Go.Proofs.YtmdncaoilegnnaaGreat

/- Plain facts for FillLeast. The law FillLeast: the walk. A list of puts, as a statement's argument. -/
import Derived.Test.YtccpgmneflfhjaaGreatG32
namespace Go.Proofs.YtccpgmneflfhjaaGreat
set_option linter.unusedVariables false
set_option linter.unusedSimpArgs false
open Go.RowKit

/-- The error numbers of the lower layers. -/
def cod (x : Int) : Prop := x = 0 ∨ x = 3 ∨ x = 5 ∨ x = 11
theorem cod_check (l : List (Int × Int)) (n : Nat) : cod (checkW l n) := by
  unfold checkW cod
  split
  · omega
  · split
    · omega
    · split
      · omega
      · split <;> omega
theorem cod_poly (S : List Shp) (p : Pt5) : cod (polyW S p).1 := by
  unfold polyW
  split
  · exact .inr (.inl rfl)
  · unfold polyIn
    split
    · exact cod_check _ _
    · split
      · exact cod_check _ _
      · exact .inl rfl
theorem cod_Hull (l : List (Int × Int)) : cod (HullW l).1 := by
  unfold HullW
  split
  · exact .inr (.inr (.inl rfl))
  · split
    · exact .inr (.inl rfl)
    · split
      · exact .inr (.inr (.inr rfl))
      · exact .inl rfl
theorem cod_Sum (a b : List (Int × Int)) : cod (SumW a b).1 := by
  unfold SumW
  split
  · exact cod_Hull _
  · split
    · exact cod_Hull _
    · split
      · exact .inr (.inl rfl)
      · split
        · exact .inr (.inr (.inl rfl))
        · exact .inl rfl
theorem cod_split (l : List (Int × Int)) : cod (splitAllW l).1 := by
  unfold splitAllW
  split
  · split
    · exact .inr (.inr (.inr rfl))
    · exact .inl rfl
  · exact cod_check _ _
theorem cod_regIn (s : List (Int × Int)) (ts acc : List (List (Int × Int))) (j : Nat) : cod (regIn s ts acc j).1 := by
  induction j with
  | zero => exact .inl rfl
  | succ j ih =>
    rw [regIn]
    split
    · exact ih
    · split
      · exact cod_Sum _ _
      · exact .inl rfl
theorem cod_regTo (ss ts : List (List (Int × Int))) (k : Nat) : cod (regTo ss ts k).1 := by
  induction k with
  | zero => exact .inl rfl
  | succ k ih =>
    rw [regTo]
    split
    · exact ih
    · exact cod_regIn _ _ _ _
theorem cod_regions (a b : List (Int × Int)) : cod (regionsW a b).1 := by
  unfold regionsW
  split
  · exact cod_split _
  · split
    · exact cod_split _
    · split
      · exact cod_regTo _ _ _
      · exact .inl rfl
theorem cod_spots (a b : List (Int × Int)) : cod (spotsW a b).1 := by
  unfold spotsW
  split
  · exact cod_regions _ _
  · exact .inl rfl
theorem cod_plcTo (l : List (Int × Int)) (x0 y0 y1 : Int) (pls : List (List (Int × Int))) (k : Nat) : cod (plcTo l x0 y0 y1 pls k).1 := by
  induction k with
  | zero => exact .inl rfl
  | succ k ih =>
    rw [plcTo]
    split
    · exact ih
    · split
      · exact cod_spots _ _
      · exact .inl rfl
theorem cod_cand (b : Bed4) (s : Shp) (f : Bool) (u : Int) (l : List (Int × Int)) (pls : List (List (Int × Int))) : cod (candW b s f u l pls).1 := by
  have hpl : ∀ a c d, cod (placesW a c d).1 := fun a c d => by
    unfold placesW
    split
    · exact cod_check _ _
    · exact cod_plcTo _ _ _ _ _ _
  unfold candW
  split
  · exact hpl _ _ _
  · exact .inl rfl
theorem cod_plac (S : List Shp) (ps : List Pt5) (k : Nat) : cod (placTo S ps k).1 := by
  induction k with
  | zero => exact .inl rfl
  | succ k ih =>
    rw [placTo]
    split
    · exact ih
    · split
      · exact cod_poly _ _
      · exact .inl rfl
theorem cod_prep (b : Bed4) (S : List Shp) (ps : List Pt5) (sh : Int) (f : Bool) (u : Int) : cod (prepW b S ps sh f u).1 := by
  unfold prepW
  split
  · exact .inr (.inl rfl)
  · split
    · exact cod_poly _ _
    · split
      · exact cod_plac _ _ _
      · exact .inl rfl
theorem cod_st (b : Bed4) (S : List Shp) (ps : List Pt5) (sh : Int) (pls : List (List (Int × Int))) (ts : List Trn) (k : Nat) : cod (stTo b S ps sh pls ts k).1 := by
  induction k with
  | zero => exact .inl rfl
  | succ k ih =>
    rw [stTo_succ]
    split
    · exact ih
    · unfold stG
      split
      · exact cod_poly _ _
      · split
        · exact cod_cand _ _ _ _ _ _
        · split
          · exact .inl rfl
          · exact .inl rfl

/-- Step's answer: an error of the lower layers with the empty put; nothing fits; or the least of the endings. -/
theorem step_cases (b : Bed4) (S : List Shp) (ps : List Pt5) (sh : Int) : ((stepW b S ps sh).1 ≠ 0 ∧ (stepW b S ps sh).1 ≠ 18 ∧ (stepW b S ps sh).2 = zeroP) ∨
    ((prepW b S ps sh false 0).1 = 0 ∧ (stTo b S ps sh (prepW b S ps sh false 0).2.2 (allW (shp S sh.toNat).grain false) (allW (shp S sh.toNat).grain false).length).1 = 0 ∧
      ∃ E, (stTo b S ps sh (prepW b S ps sh false 0).2.2 (allW (shp S sh.toNat).grain false) (allW (shp S sh.toNat).grain false).length).2 = E ∧ ((E = [] ∧ stepW b S ps sh = (18, zeroP)) ∨ (E ≠ [] ∧ stepW b S ps sh = (0, (leastL E).put)))) := by
  by_cases h0 : (prepW b S ps sh false 0).1 = 0
  · by_cases h1 : (stTo b S ps sh (prepW b S ps sh false 0).2.2 (allW (shp S sh.toNat).grain false) (allW (shp S sh.toNat).grain false).length).1 = 0
    · refine .inr ⟨h0, h1, _, rfl, ?_⟩
      by_cases hE : (stTo b S ps sh (prepW b S ps sh false 0).2.2 (allW (shp S sh.toNat).grain false) (allW (shp S sh.toNat).grain false).length).2 = []
      · refine .inl ⟨hE, ?_⟩
        unfold stepW
        rw [if_neg (by rw [h0]; simp)]
        unfold stepIn
        rw [if_neg (by rw [h1]; simp), hE]
        rfl
      · refine .inr ⟨hE, ?_⟩
        unfold stepW
        rw [if_neg (by rw [h0]; simp)]
        unfold stepIn
        rw [if_neg (by rw [h1]; simp), if_neg (by simpa [List.length_eq_zero_iff] using hE)]
        rfl
    · have hc := cod_st b S ps sh (prepW b S ps sh false 0).2.2 (allW (shp S sh.toNat).grain false) (allW (shp S sh.toNat).grain false).length
      have e : stepW b S ps sh = ((stTo b S ps sh (prepW b S ps sh false 0).2.2 (allW (shp S sh.toNat).grain false) (allW (shp S sh.toNat).grain false).length).1, zeroP) := by
        unfold stepW
        rw [if_neg (by rw [h0]; simp)]
        unfold stepIn
        rw [if_pos h1]
      rw [e]
      refine .inl ⟨h1, ?_, rfl⟩
      unfold cod at hc
      dsimp only
      omega
  · have hc := cod_prep b S ps sh false 0
    have e : stepW b S ps sh = ((prepW b S ps sh false 0).1, zeroP) := by unfold stepW; rw [if_pos h0]
    rw [e]
    refine .inl ⟨h0, ?_, rfl⟩
    unfold cod at hc
    dsimp only
    omega

theorem leastL_min (l : List End6) : ∀ e ∈ l, (leastL l).right ≤ e.right := by
  induction l using rev_ind with
  | h0 => intro e h; cases h
  | h1 l x ih =>
    intro e he
    rw [leastL_app]
    rcases List.mem_append.1 he with h | h
    · have := ih e h
      split
      · rename_i hc
        rcases hc with hc | hc
        · rw [hc] at h; cases h
        · rcases Int.lt_or_le (leastL l).right x.right with h2 | h2
          · exact absurd hc (cmpE_gt h2)
          · omega
      · exact this
    · simp at h
      subst h
      split
      · exact Int.le_refl _
      · rename_i hc
        rcases Int.lt_or_le e.right (leastL l).right with h2 | h2
        · exact absurd (.inr (cmpE_lt h2)) hc
        · exact h2

theorem ext_one {S : List Shp} {p : Pt5} (h : (polyW S p).1 = 0) : extW S [p] = (0, maxX (polyW S p).2) := by
  have h1 : (extTo S [p] 1).1 = 0 := extTo_ok fun i hi => by obtain rfl : i = 0 := by omega
                                                             exact h
  obtain ⟨i, hi, he⟩ := (extTo_max h1).2 (by omega)
  obtain rfl : i = 0 := by omega
  exact Prod.ext h1 he

theorem prep_turn {b : Bed4} {S : List Shp} {ps : List Pt5} {sh : Int} {f : Bool} {u : Int} (h : (prepW b S ps sh false 0).1 = 0) (hp : (polyW S ⟨sh, f, u, 0, 0⟩).1 = 0) : prepW b S ps sh f u = (0, (polyW S ⟨sh, f, u, 0, 0⟩).2, (prepW b S ps sh false 0).2.2) := by
  obtain ⟨h1, h2, h3⟩ := prepW_ok h
  rw [h3]
  have h4 : (placTo S ps ps.length).1 = 0 := by
    unfold prepW at h
    rw [h1] at h
    simp only [Bool.false_eq_true, if_false] at h
    rw [if_neg (by rw [h2]; simp)] at h
    split at h
    · rename_i h5; exact absurd h h5
    · rename_i h5; simpa using h5
  unfold prepW
  rw [h1]
  simp only [Bool.false_eq_true, if_false]
  rw [if_neg (by rw [hp]; simp), if_neg (by rw [h4]; simp)]

/-- All that FillLeast asks. -/
theorem least_facts {b : Bed4} {S : List Shp} {ps : List Pt5} {sh e : Int} {p : Pt5} (h : stepW b S ps sh = (e, p)) (he : e = 0 ∨ e = 18) :
    (∃ k : Nat, sh = (k : Int) ∧ k < S.length) ∧ (e = 0 → p.sh = sh ∧ fitsW b S ps p = 0 ∧ extW S [p] = (0, maxX (polyW S p).2)) ∧
    ∃ Q : Nat → List Pt5, (∀ i, i < (allW (shp S sh.toNat).grain false).length → candsW b S ps sh (tr (allW (shp S sh.toNat).grain false) i).1 (tr (allW (shp S sh.toNat).grain false) i).2 = (0, Q i)) ∧
      (∀ i, i < (allW (shp S sh.toNat).grain false).length → ∀ j, j < (Q i).length → fitsW b S ps (pt (Q i) j) = 0 → e = 0 ∧ extW S [pt (Q i) j] = (0, maxX (polyW S (pt (Q i) j)).2) ∧ maxX (polyW S p).2 ≤ maxX (polyW S (pt (Q i) j)).2) ∧
      (e = 0 → ∃ i j, i < (allW (shp S sh.toNat).grain false).length ∧ j < (Q i).length ∧ fitsW b S ps (pt (Q i) j) = 0 ∧ pt (Q i) j = p) := by
  rcases step_cases b S ps sh with ⟨g1, g2, _⟩ | ⟨hp, hst, E, hE, hcase⟩
  · rw [h] at g1 g2; omega
  · obtain ⟨hb0, hp1, hp2⟩ := prepW_ok hp
    obtain ⟨k, hk, hkn, hkt⟩ := polyW_sh hp1
    obtain ⟨hall, hmem⟩ := stTo_mem hst
    refine ⟨⟨k, hk, hkn⟩, fun he0 => ?_, fun i => ((candW b (shp S sh.toNat) (tr (allW (shp S sh.toNat).grain false) i).1 (tr (allW (shp S sh.toNat).grain false) i).2 (polyW S ⟨sh, (tr (allW (shp S sh.toNat).grain false) i).1, (tr (allW (shp S sh.toNat).grain false) i).2, 0, 0⟩).2 (prepW b S ps sh false 0).2.2).2.map (candPut sh (tr (allW (shp S sh.toNat).grain false) i).1 (tr (allW (shp S sh.toNat).grain false) i).2)), fun i hi => ?_, fun i hi j hj hf => ?_, fun he0 => ?_⟩
    · subst he0
      have hf := step_fits h
      exact ⟨hf.2, hf.1, ext_one (fits_poly hf.1).2.1⟩
    · obtain ⟨a1, a2⟩ := hall i hi
      unfold candsW
      rw [prep_turn hp a1]
      dsimp only
      rw [if_neg (by simp), if_neg (by rw [a2]; simp)]
    · obtain ⟨a1, a2⟩ := hall i hi
      obtain ⟨ts, hts⟩ : ∃ ts, allW (shp S sh.toNat).grain false = ts := ⟨_, rfl⟩
      obtain ⟨pls, hpls⟩ : ∃ pls, (prepW b S ps sh false 0).2.2 = pls := ⟨_, rfl⟩
      rw [hts] at hi a1 a2 hj hf hmem hE ⊢
      rw [hpls] at a2 hj hf hmem hE ⊢
      obtain ⟨cs, hcs⟩ : ∃ cs, (candW b (shp S sh.toNat) (tr ts i).1 (tr ts i).2 (polyW S ⟨sh, (tr ts i).1, (tr ts i).2, 0, 0⟩).2 pls).2 = cs := ⟨_, rfl⟩
      dsimp only at hj hf ⊢
      rw [hcs] at hj hf ⊢
      rw [List.length_map] at hj
      have hpt : pt (cs.map (candPut sh (tr ts i).1 (tr ts i).2)) j = ⟨sh, (tr ts i).1, (tr ts i).2, (gt cs j).1, (gt cs j).2⟩ := by
        unfold pt gt; rw [List.getD, List.getElem?_map, List.getD, List.getElem?_eq_getElem hj]; rfl
      rw [hpt] at hf ⊢
      have hpo := (fits_poly hf).2.1
      have hat := poly_at a1 hpo
      cases hff : fstFit b S ps sh (tr ts i) cs with
      | none =>
        exfalso
        unfold fstFit at hff
        have := fnd_none hff j hj
        unfold isFit at this
        rw [hf] at this
        simp at this
      | some j0 =>
        obtain ⟨k1, k2, k3⟩ := fstFit_some hff
        have hE1 : stEnd b S sh pls ts i j0 ∈ E := by
          rw [← hE]
          exact (hmem _).2 ⟨i, j0, hi, ⟨a1, a2, by rw [hcs]; exact hff⟩, rfl⟩
        have hEne : E ≠ [] := by intro e2; rw [e2] at hE1; cases hE1
        rcases hcase with ⟨e2, _⟩ | ⟨_, hstep⟩
        · exact absurd e2 hEne
        · rw [h] at hstep
          injection hstep with hs1 hs2
          refine ⟨hs1, ext_one hpo, ?_⟩
          subst hs1
          -- the least ending's right is the extent of p
          have hm := leastL_min E _ hE1
          have hp0 := (fits_poly k2).2.1
          have hat0 := poly_at a1 hp0
          have hr0 : (stEnd b S sh pls ts i j0).right = maxX (polyW S ⟨sh, (tr ts i).1, (tr ts i).2, 0, 0⟩).2 + (gt cs j0).1 := by
            unfold stEnd; rw [hcs, ← hat0.2.1]; exact hat0.2.2
          have hle : (gt cs j0).1 ≤ (gt cs j).1 := by
            have hnl : ¬ j < j0 := fun hl => k3 j hl hf
            rcases Nat.eq_or_lt_of_le (Nat.le_of_not_lt hnl) with h9 | h9
            · rw [h9]; exact Int.le_refl _
            · rw [← hcs]; exact cand_sorted h9 (by rw [hcs]; exact hj)
          have hpr : (leastL E).right = maxX (polyW S p).2 := by
            have hl := leastTo_mem (l := E) (n := E.length) (by rcases E with _ | ⟨x, y⟩; exact absurd rfl hEne; simp) (Nat.le_refl _)
            have hl' : leastL E ∈ E := hl
            rw [← hE] at hl'
            obtain ⟨i2, j2, hi2, hs, he2⟩ := (hmem _).1 hl'
            rw [hE] at he2
            have hfit := (fstFit_some hs.2.2).2.1
            have hpat := poly_at hs.1 (fits_poly hfit).2.1
            rw [hs2, he2]
            exact hpat.2.2
          rw [hat.2.1, ← hpr]
          omega
    · subst he0
      rcases hcase with ⟨_, hstep⟩ | ⟨hEne, hstep⟩
      · rw [h] at hstep; injection hstep with h1 _; cases h1
      · rw [h] at hstep
        injection hstep with _ hs2
        have hl := leastTo_mem (l := E) (n := E.length) (by rcases E with _ | ⟨x, y⟩; exact absurd rfl hEne; simp) (Nat.le_refl _)
        have hl' : leastL E ∈ E := hl
        rw [← hE] at hl'
        obtain ⟨i2, j2, hi2, hs, he2⟩ := (hmem _).1 hl'
        rw [hE] at he2
        obtain ⟨f1, f2, f3⟩ := fstFit_some hs.2.2
        have hpt : pt ((candW b (shp S sh.toNat) (tr (allW (shp S sh.toNat).grain false) i2).1 (tr (allW (shp S sh.toNat).grain false) i2).2 (polyW S ⟨sh, (tr (allW (shp S sh.toNat).grain false) i2).1, (tr (allW (shp S sh.toNat).grain false) i2).2, 0, 0⟩).2 (prepW b S ps sh false 0).2.2).2.map (candPut sh (tr (allW (shp S sh.toNat).grain false) i2).1 (tr (allW (shp S sh.toNat).grain false) i2).2)) j2 = p := by
          rw [hs2, he2]
          unfold stEnd endOf pt gt
          rw [List.getD, List.getElem?_map, List.getD, List.getElem?_eq_getElem f1]
          rfl
        refine ⟨i2, j2, hi2, by rw [List.length_map]; exact f1, ?_, hpt⟩
        dsimp only
        rw [hpt, hs2, he2]
        exact f2

end Go.Proofs.YtccpgmneflfhjaaGreat

namespace Go.Proofs.YtccpgmneflfhjaaGreat
set_option linter.unusedVariables false
set_option linter.unusedSimpArgs false
open Go.RowKit

theorem any_snoc (f : Nat → Bool) (k : Nat) : AnyB f (k + 1) = (AnyB f k || f k) := by
  unfold AnyB; rw [List.range_succ, List.any_append]; simp
theorem eqInZ (w : World) : (Op.equalIn 10000 51 (.agg #[.int .i64 0, .bool false, .int .i64 0, .int .i64 0, .int .i64 0]) (.agg #[.int .i64 0, .bool false, .int .i64 0, .int .i64 0, .int .i64 0])).run Tryz.prog w = .ok true w := eqInPut zeroP zeroP w
theorem pus1 (w : World) (p : Pt5) : PuS (w.alloc (.cells #[.int .i64 p.sh, .bool p.fl, .int .i64 p.qu, .int .i64 p.x, .int .i64 p.y] 51)) (some ⟨w.heap.size, 0, none⟩) 1 [p] := puS_blk [p] (BlkS.new w 51 #[.int .i64 p.sh, .bool p.fl, .int .i64 p.qu, .int .i64 p.x, .int .i64 p.y])
theorem allW_len (g : Int) (m : Bool) : (allW g m).length ≤ 8 := Nat.le_trans (allTo_len g m 4) (by omega)
theorem TrS.at_ {w : World} {A : Option Addr} {n : Nat} {ts : List Trn} (h : TrS w A n ts) {k : Nat} (hk : k < n) : ∃ b, A = some ⟨b, 0, none⟩ ∧ w.cell? ⟨b, k * 2, none⟩ = some (.bool (tr ts k).1) ∧ w.cell? ⟨b, k * 2 + 1, none⟩ = some (.int .i64 (tr ts k).2) := by
  obtain ⟨_, h⟩ := h
  rcases h with h | ⟨b, rfl, h⟩
  · omega
  · exact ⟨b, rfl, h k hk⟩

set_option maxHeartbeats 4000000 in
set_option maxRecDepth 100000 in
theorem least_bad (A1 A2 : Option Addr) (c1 c2 n1 n2 : Nat) (b : Bed4) (S : List Shp) (ps : List Pt5) (sh e0 : Int) (w : World) (hS : ShW w A1 n1 S) (hP : PuS w A2 n2 ps) (hn1 : n1 ≤ 4) (hn2 : n2 ≤ 3) (hfew : few4W S = true) (h : stepW b S ps sh = (e0, zeroP)) (h0 : e0 ≠ 0) (h18 : e0 ≠ 18) :
    Calls Tryz.prog 5 #[bedV b, .slice A1 n1 c1, .slice A2 n2 c2, .int .i64 sh] w fun e w' => e = .returned (.bool true) ∧ Below w.heap.size w w' := by
  have hB := Lib.hid (BlkS.new w 25 #[.int .i64 b.len, .int .i64 b.wid, .int .i64 b.rx, .int .i64 b.ry])
  have hbw := Lib.hid (show Below w.heap.size w (w.alloc (.cells #[.int .i64 b.len, .int .i64 b.wid, .int .i64 b.rx, .int .i64 b.ry] 25)) from (Bl.alloc (Below.refl _ _) _))
  have HW := Lib.hid (show (few4W S && decide (n2 ≤ 3)) = true by rw [hfew]; simp [hn2])
  have HA := Lib.hid ex_any
  have HST := Lib.hid h
  have hSS := hS.shs (by omega)
  have q0 : (e0 != 0) = true := by simpa using h0
  have q18 : (e0 != 18) = true := by simpa using h18
  clear h hfew h0 h18
  obtain ⟨len, wid, rx, ry⟩ := b
  unfold bedV
  dsimp only at hB hbw ⊢
  have heqz := eqInZ
  go_enter Tryz.func5, Tryz.ntmps5
  go_upto_region 4 with (first | (go_at_call 22; refine (step_any _ _ _ _ _ _ ⟨len, wid, rx, ry⟩ S ps _ w1 (by omega) (hSS.keep (Bl.call hbw.out hb1)) (hP.keep (Bl.call hbw.out hb1))).mono ?_; rintro e w2 ⟨rfl, hb2⟩; rw [HST.out]; unfold putV zeroP; dsimp only) | (go_at_call 25; refine (lawFew_any _ _ _ _ _ _ S _ (hS.keep hbw.out) (by omega)).mono ?_; rintro e w1 ⟨rfl, hb1⟩; rw [HW.out]; obtain ⟨a1, a2, a3, a4, a5⟩ := (hB.out.keep hb1).cells4))
  have hX := Bl.alloc (Bl.call (Bl.call hbw.out hb1) hb2) (.cells #[.int .i64 0, .bool false, .int .i64 0, .int .i64 0, .int .i64 0] 51)
  have hB5 := BlkS.new w2 51 #[.int .i64 0, .bool false, .int .i64 0, .int .i64 0, .int .i64 0]
  refine wp_world (fun Y => Below w.heap.size w Y ∧ BlkS Y w2.heap.size 51 #[.int .i64 0, .bool false, .int .i64 0, .int .i64 0, .int .i64 0]) ⟨hX, hB5⟩ ?_
  clear hX hB5
  rintro Y ⟨hX, hB5⟩
  obtain ⟨e1, e2, e3, e4, e5, e6⟩ := hB5.cells5
  clear hB5 hb1 hb2 hbw hB hSS hS hP a1 a2 a3 a4 a5
  go_wp2_with (go_at_call 15; refine (HA.out _).mono ?_; rintro e w3 ⟨rfl, hb3⟩)
  go_ret
  exact ⟨rfl, Bl.call hX hb3⟩

end Go.Proofs.YtccpgmneflfhjaaGreat

namespace Go.Proofs.YtccpgmneflfhjaaGreat
set_option linter.unusedVariables false
set_option linter.unusedSimpArgs false
open Go.ChangeShapes Go.WideShapes Go.ChangeAt Go.RowKit Go.Deep Go.Joins

section
variable {H : Type} {enc : TypeId × Value → H} {w : World} {base b0 : Nat} {spare : Nat → Bool} {held : Bool} {r : Reach} {v : Value} {d : DataW H} {p : List MemPlace}
set_option maxRecDepth 100000 in
theorem open_puts (hv : Value.okWide Tryz.prog w r b0 30 v) (h : DataW.Trod enc Tryz.prog w base spare held 30 v d p) : ∃ A n c L, v = .slice A n c ∧ n ≤ c ∧ c ≤ 9223372036854775807 ∧ PuS w A n L ∧ ∀ z ∈ L, inR z.sh ∧ inR z.qu ∧ inR z.x ∧ inR z.y := by
  obtain ⟨A, n, c, rfl⟩ := okWide_slice Tryz.underlying30 hv
  obtain ⟨fuel, hf⟩ := h
  have hf' : DataW.trod enc Tryz.prog w base spare held fuel 30 [.slice A n c] = some (d, p) := by simpa [Value.cells] using hf
  refine ⟨A, n, c, ?_⟩
  rcases open_slice Tryz.underlying30 hf' with ⟨h1, -⟩ | ⟨a, len, cap, m, k, D, Pl, h1, h2, h3, h4, h5, -, h6⟩
  · simp at h1
    obtain ⟨rfl, rfl, rfl⟩ := h1
    exact ⟨[], rfl, Nat.le_refl _, by omega, ⟨rfl, .inl rfl⟩, by simp⟩
  · simp at h1
    obtain ⟨rfl, rfl, rfl⟩ := h1
    have hm : n ≤ m := by rw [h5]; split <;> omega
    have hel : ∀ i, i < n → ∃ z : Pt5, (w.cell? (a.add (i * 5)) = some (.int .i64 z.sh) ∧ w.cell? ((a.add (i * 5)).add 1) = some (.bool z.fl) ∧ w.cell? ((a.add (i * 5)).add 2) = some (.int .i64 z.qu) ∧ w.cell? ((a.add (i * 5)).add 3) = some (.int .i64 z.x) ∧ w.cell? ((a.add (i * 5)).add 4) = some (.int .i64 z.y)) ∧ inR z.sh ∧ inR z.qu ∧ inR z.x ∧ inR z.y := by
      intro i hi
      obtain ⟨cs', g1, g2⟩ := h6 i (by omega)
      rw [cellsPut] at g1
      obtain ⟨z, rfl, wz⟩ := put_trod g2
      have c0 := cells_at g1 (show 0 < 5 by omega)
      rw [add_zero_] at c0
      exact ⟨z, ⟨c0, cells_at g1 (show 1 < 5 by omega), cells_at g1 (show 2 < 5 by omega), cells_at g1 (show 3 < 5 by omega), cells_at g1 (show 4 < 5 by omega)⟩, wz⟩
    obtain ⟨f, hf⟩ := choose_lt hel
    refine ⟨(List.range n).map f, rfl, h3, by unfold maxLen at h4; omega, ⟨by simp, ?_⟩, fun z hz => ?_⟩
    · rcases Nat.eq_zero_or_pos n with h0 | h0
      · exact .inl h0
      · have c0 := (hf 0 h0).1.1
        rw [Nat.zero_mul, add_zero_] at c0
        have ea := addr_plain c0
        refine .inr ⟨a.block, a.off, by rw [← ea], fun k hk => ?_⟩
        have g := (hf k hk).1
        rw [ea, add_mk] at g
        have e : pt ((List.range n).map f) k = f k := by unfold pt; simp [List.getD, hk]
        rw [e]
        exact g
    · simp at hz
      obtain ⟨i, hi, rfl⟩ := hz
      exact (hf i hi).2
end
end Go.Proofs.YtccpgmneflfhjaaGreat

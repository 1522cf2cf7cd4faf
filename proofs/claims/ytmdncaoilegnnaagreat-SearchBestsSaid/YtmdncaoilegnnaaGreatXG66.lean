/- Lean texts of the claim. -/
import Derived.Test.YtmdncaoilegnnaaGreatXG32
import Derived.Test.YtmdncaoilegnnaaGreatXG29
namespace Go.Proofs.YtmdncaoilegnnaaGreat
set_option linter.unusedVariables false
set_option linter.unusedSimpArgs false
section
open Go.RowKit
def cod (x : Int) : Prop := x = 0 ∨ x = 3 ∨ x = 5 ∨ x = 11
theorem cod_check (l : List (Int × Int)) (n : Nat) : cod (checkW l n) := by
 unfold checkW cod
 split
 ·omega
 ·split
  ·omega
  ·split
   ·omega
   ·split <;> omega
theorem cod_poly (S : List Shp) (p : Pt5) : cod (Xe S p).1 := by
 unfold Xe
 split
 ·exact .inr (.inl rfl)
 ·unfold polyIn
  split
  ·exact cod_check _ _
  ·split
   ·exact cod_check _ _
   ·exact .inl rfl
theorem cod_Hull (l : List (Int × Int)) : cod (HullW l).1 := by
 unfold HullW
 split
 ·exact .inr (.inr (.inl rfl))
 ·split
  ·exact .inr (.inl rfl)
  ·split
   ·exact .inr (.inr (.inr rfl))
   ·exact .inl rfl
theorem cod_Sum (a b : List (Int × Int)) : cod (SumW a b).1 := by
 unfold SumW
 split
 ·exact cod_Hull _
 ·split
  ·exact cod_Hull _
  ·split
   ·exact .inr (.inl rfl)
   ·split
    ·exact .inr (.inr (.inl rfl))
    ·exact .inl rfl
theorem cod_split (l : List (Int × Int)) : cod (Xb l).1 := by
 unfold Xb
 split
 ·split
  ·exact .inr (.inr (.inr rfl))
  ·exact .inl rfl
 ·exact cod_check _ _
theorem cod_regIn (s : List (Int × Int)) (ts acc : List (List (Int × Int))) (j : Nat) : cod (regIn s ts acc j).1 := by
 induction j with
 | zero => exact .inl rfl
 | succ j ih =>
   rw [regIn]
   split
   ·exact ih
   ·split
    ·exact cod_Sum _ _
    ·exact .inl rfl
theorem cod_regTo (ss ts : List (List (Int × Int))) (k : Nat) : cod (regTo ss ts k).1 := by
 induction k with
 | zero => exact .inl rfl
 | succ k ih =>
   rw [regTo]
   split
   ·exact ih
   ·exact cod_regIn _ _ _ _
theorem cod_regions (a b : List (Int × Int)) : cod (regionsW a b).1 := by
 unfold regionsW
 split
 ·exact cod_split _
 ·split
  ·exact cod_split _
  ·split
   ·exact cod_regTo _ _ _
   ·exact .inl rfl
theorem cod_spots (a b : List (Int × Int)) : cod (spotsW a b).1 := by
 unfold spotsW
 split
 ·exact cod_regions _ _
 ·exact .inl rfl
theorem cod_plcTo (l : List (Int × Int)) (x0 y0 y1 : Int) (pls : List (List (Int × Int))) (k : Nat) : cod (plcTo l x0 y0 y1 pls k).1 := by
 induction k with
 | zero => exact .inl rfl
 | succ k ih =>
   rw [plcTo]
   split
   ·exact ih
   ·split
    ·exact cod_spots _ _
    ·exact .inl rfl
theorem cod_cand (b : Bed4) (s : Shp) (f : Bool) (u : Int) (l : List (Int × Int)) (pls : List (List (Int × Int))) : cod (candW b s f u l pls).1 := by
 have hpl : ∀ a c d, cod (placesW a c d).1 := fun a c d => by
  unfold placesW
  split
  ·exact cod_check _ _
  ·exact cod_plcTo _ _ _ _ _ _
 unfold candW
 split
 ·exact hpl _ _ _
 ·exact .inl rfl
theorem cod_plac (S : List Shp) (ps : List Pt5) (k : Nat) : cod (placTo S ps k).1 := by
 induction k with
 | zero => exact .inl rfl
 | succ k ih =>
   rw [placTo]
   split
   ·exact ih
   ·split
    ·exact cod_poly _ _
    ·exact .inl rfl
theorem cod_prep (b : Bed4) (S : List Shp) (ps : List Pt5) (sh : Int) (f : Bool) (u : Int) : cod (prepW b S ps sh f u).1 := by
 unfold prepW
 split
 ·exact .inr (.inl rfl)
 ·split
  ·exact cod_poly _ _
  ·split
   ·exact cod_plac _ _ _
   ·exact .inl rfl
theorem cod_st (b : Bed4) (S : List Shp) (ps : List Pt5) (sh : Int) (pls : List (List (Int × Int))) (ts : List Trn) (k : Nat) : cod (stTo b S ps sh pls ts k).1 := by
 induction k with
 | zero => exact .inl rfl
 | succ k ih =>
   rw [stTo_succ]
   split
   ·exact ih
   ·unfold stG
    split
    ·exact cod_poly _ _
    ·split
     ·exact cod_cand _ _ _ _ _ _
     ·split
      ·exact .inl rfl
      ·exact .inl rfl
theorem step_cases (b : Bed4) (S : List Shp) (ps : List Pt5) (sh : Int) : ((stepW b S ps sh).1 ≠ 0 ∧ (stepW b S ps sh).1 ≠ 18 ∧ (stepW b S ps sh).2 = zeroP) ∨
 ((prepW b S ps sh false 0).1 = 0 ∧ (stTo b S ps sh (prepW b S ps sh false 0).2.2 (allW (shp S sh.toNat).grain false) (allW (shp S sh.toNat).grain false).length).1 = 0 ∧
   ∃ E, (stTo b S ps sh (prepW b S ps sh false 0).2.2 (allW (shp S sh.toNat).grain false) (allW (shp S sh.toNat).grain false).length).2 = E ∧ ((E = [] ∧ stepW b S ps sh = (18, zeroP)) ∨ (E ≠ [] ∧ stepW b S ps sh = (0, (leastL E).put)))) := by
 by_cases h0 : (prepW b S ps sh false 0).1 = 0
 ·by_cases h1 : (stTo b S ps sh (prepW b S ps sh false 0).2.2 (allW (shp S sh.toNat).grain false) (allW (shp S sh.toNat).grain false).length).1 = 0
  ·refine .inr ⟨h0, h1, _, rfl, ?_⟩
   by_cases hE : (stTo b S ps sh (prepW b S ps sh false 0).2.2 (allW (shp S sh.toNat).grain false) (allW (shp S sh.toNat).grain false).length).2 = []
   ·refine .inl ⟨hE, ?_⟩
    unfold stepW
    rw [if_neg (by rw [h0]; simp)]
    unfold stepIn
    rw [if_neg (by rw [h1]; simp), hE]
    rfl
   ·refine .inr ⟨hE, ?_⟩
    unfold stepW
    rw [if_neg (by rw [h0]; simp)]
    unfold stepIn
    rw [if_neg (by rw [h1]; simp), if_neg (by simpa [List.length_eq_zero_iff] using hE)]
    rfl
  ·have hc := cod_st b S ps sh (prepW b S ps sh false 0).2.2 (allW (shp S sh.toNat).grain false) (allW (shp S sh.toNat).grain false).length
   have e : stepW b S ps sh = ((stTo b S ps sh (prepW b S ps sh false 0).2.2 (allW (shp S sh.toNat).grain false) (allW (shp S sh.toNat).grain false).length).1, zeroP) := by
    unfold stepW
    rw [if_neg (by rw [h0]; simp)]
    unfold stepIn
    rw [if_pos h1]
   rw [e]
   refine .inl ⟨h1, ?_, rfl⟩
   unfold cod at hc
   dsimp only
   omega
 ·have hc := cod_prep b S ps sh false 0
  have e : stepW b S ps sh = ((prepW b S ps sh false 0).1, zeroP) := by unfold stepW; rw [if_pos h0]
  rw [e]
  refine .inl ⟨h0, ?_, rfl⟩
  unfold cod at hc
  dsimp only
  omega
theorem ext_one {S : List Shp} {p : Pt5} (h : (Xe S p).1 = 0) : extW S [p] = (0, maxX (Xe S p).2) := by
 have h1 : (extTo S [p] 1).1 = 0 := extTo_ok fun i hi => by obtain rfl : i = 0 := by omega
                                                            exact h
 obtain ⟨i, hi, he⟩ := (extTo_max h1).2 (by omega)
 obtain rfl : i = 0 := by omega
 exact Prod.ext h1 he
theorem prep_turn {b : Bed4} {S : List Shp} {ps : List Pt5} {sh : Int} {f : Bool} {u : Int} (h : (prepW b S ps sh false 0).1 = 0) (hp : (Xe S ⟨sh, f, u, 0, 0⟩).1 = 0) : prepW b S ps sh f u = (0, (Xe S ⟨sh, f, u, 0, 0⟩).2, (prepW b S ps sh false 0).2.2) := by
 obtain ⟨h1, h2, h3⟩ := prepW_ok h
 rw [h3]
 have h4 : (placTo S ps ps.length).1 = 0 := by
  unfold prepW at h
  rw [h1] at h
  simp only [Bool.false_eq_true, if_false] at h
  rw [if_neg (by rw [h2]; simp)] at h
  split at h
  ·rename_i h5; exact absurd h h5
  ·rename_i h5; simpa using h5
 unfold prepW
 rw [h1]
 simp only [Bool.false_eq_true, if_false]
 rw [if_neg (by rw [hp]; simp), if_neg (by rw [h4]; simp)]
end
section
open Go.RowKit
structure Iso (D : Int × Int → Prop) (T : Int × Int → Int × Int) : Prop where
 cr : ∀ a b c, D a → D b → D c → crossW (T a) (T b) (T c) = crossW a b c
 on : ∀ a b c, D a → D b → D c → onW (T a) (T b) (T c) = onW a b c
 fo : ∀ a b c, D a → D b → D c → foldedW (T a) (T b) (T c) = foldedW a b c
 eq : ∀ a b, D a → D b → eqS (T a) (T b) = eqS a b
theorem Iso.simple {D : Int × Int → Prop} {T : Int × Int → Int × Int} (h : Iso D T) {l : List (Int × Int)} (hl : ∀ q ∈ l, D q) (h0 : 0 < l.length) : simpleW (l.map T) l.length = simpleW l l.length := by
 have hg : ∀ i, i < l.length → gt (l.map T) i = T (gt l i) := fun i hi => gt_map hi
 have hD : ∀ i, i < l.length → D (gt l i) := fun i hi => hl _ (gt_in hi)
 have hm : ∀ i, i % l.length < l.length := fun i => Nat.mod_lt _ h0
 have h1 : AllB (fun i => !dupW (l.map T) i) l.length = AllB (fun i => !dupW l i) l.length := by
  apply AllB.congr
  intro i hi
  unfold dupW
  rw [AnyB.congr (g := fun j => eqS (gt l i) (gt l j))]
  intro j hj
  rw [hg i hi, hg j (by omega)]
  exact h.eq _ _ (hD i hi) (hD j (by omega))
 have h2 : AllB (sidW (l.map T) l.length) l.length = AllB (sidW l l.length) l.length := by
  apply AllB.congr
  intro i hi
  unfold sidW
  rw [hg i hi, hg _ (hm (i + 1)), hg _ (hm (i + 2)), h.fo _ _ _ (hD i hi) (hD _ (hm (i + 1))) (hD _ (hm (i + 2)))]
  congr 1
  apply AllB.congr
  intro k hk
  unfold innW
  rw [hg i hi, hg _ (hm (i + 1)), hg k hk, hg _ (hm (k + 1))]
  have d1 := hD i hi
  have d2 := hD _ (hm (i + 1))
  have d3 := hD k hk
  have d4 := hD _ (hm (k + 1))
  unfold meetW partedW
  rw [h.on _ _ _ d1 d2 d3, h.on _ _ _ d1 d2 d4, h.on _ _ _ d3 d4 d1, h.on _ _ _ d3 d4 d2, h.cr _ _ _ d1 d2 d3, h.cr _ _ _ d1 d2 d4, h.cr _ _ _ d3 d4 d1, h.cr _ _ _ d3 d4 d2]
 unfold simpleW
 rw [h1, h2]
theorem Iso.check {T : Int × Int → Int × Int} {D : Int × Int → Prop} (h : Iso D T) {l : List (Int × Int)} (hc : checkW l l.length = 0) (hl : ∀ q ∈ l, D q) (hT : ∀ q ∈ l, nearB 1048576 (T q)) : checkW (l.map T) l.length = 0 := by
 have h3 := check_len hc
 have h0 : 0 < l.length := by omega
 have hs := h.simple hl h0
 unfold checkW at hc ⊢
 split at hc
 ·cases hc
 ·rename_i g1
  rw [if_neg g1]
  split at hc
  ·cases hc
  ·rename_i g2
   rw [if_neg g2]
   split at hc
   ·cases hc
   ·rw [if_neg, hs]
    ·exact hc
    ·intro e
     obtain ⟨i, hi, he⟩ := AnyB.iff.1 e
     rw [gt_map hi] at he
     have := hT _ (gt_in hi)
     unfold nearB at this
     unfold outB at he
     simp at he
     omega
theorem iso_rot1 : Iso (nearB 1048576) rot1 := by
 have hr : ∀ {q : Int × Int}, nearB 1048576 q → rot1 q = (-q.2, q.1) := fun {q} h => by
  unfold nearB at h; unfold rot1; rw [wrap_near (by omega) (by omega)]
 have hn : ∀ {q : Int × Int}, nearB 1048576 q → nearB 1048576 (rot1 q) := fun h => rot1_near (by omega) h
 have hcr : ∀ a b c, nearB 1048576 a → nearB 1048576 b → nearB 1048576 c → crossW (rot1 a) (rot1 b) (rot1 c) = crossW a b c := fun a b c ha hb hc => by
  rw [cross_near (hn ha) (hn hb) (hn hc), cross_near ha hb hc, hr ha, hr hb, hr hc]
  unfold crP
  dsimp only
  grind
 refine ⟨hcr, fun a b c ha hb hc => ?_, fun a b c ha hb hc => ?_, fun a b ha hb => ?_⟩
 ·unfold onW
  rw [hcr a b c ha hb hc, hr ha, hr hb, hr hc]
  dsimp only
  generalize (crossW a b c == 0) = z
  cases z
  ·rfl
  ·simp only [Bool.true_and]
   rw [Bool.eq_iff_iff]
   simp
   omega
 ·rw [folded_near (hn ha) (hn hb) (hn hc), folded_near ha hb hc, ← cross_near (hn ha) (hn hb) (hn hc), hcr a b c ha hb hc, cross_near ha hb hc]
  have : dtP (rot1 a) (rot1 b) (rot1 c) = dtP a b c := by
   rw [hr ha, hr hb, hr hc]
   unfold dtP
   dsimp only
   grind
  rw [this]
 ·rw [hr ha, hr hb, Bool.eq_iff_iff]
  unfold eqS
  simp
  omega
theorem check_rotN {l : List (Int × Int)} (hc : checkW l l.length = 0) : ∀ n, checkW (l.map (rotN n)) l.length = 0 := by
 intro n
 induction n with
 | zero => rw [show l.map (rotN 0) = l by simp [rotN]]; exact hc
 | succ n ih =>
   have e : l.map (rotN (n + 1)) = (l.map (rotN n)).map rot1 := by rw [List.map_map]; rfl
   have hl : (l.map (rotN n)).length = l.length := List.length_map _
   have hn : ∀ q ∈ l.map (rotN n), nearB 1048576 q := check_near (by rw [hl]; exact ih)
   rw [e]
   have := iso_rot1.check (l := l.map (rotN n)) (by rw [hl]; exact ih) hn (fun q hq => rot1_near (by omega) (hn q hq))
   rw [hl] at this
   exact this
theorem check_turn {l : List (Int × Int)} (hc : checkW l l.length = 0) (u : Int) : checkW (tpolW false u l) l.length = 0 := by
 have : tpolW false u l = l.map (rotN (u % 4).toNat) := by
  unfold tpolW; simp only [Bool.false_eq_true, if_false]; rfl
 rw [this]; exact check_rotN hc _
end
end Go.Proofs.YtmdncaoilegnnaaGreat

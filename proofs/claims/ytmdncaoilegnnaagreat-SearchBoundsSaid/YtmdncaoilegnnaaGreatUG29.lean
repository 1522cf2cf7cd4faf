/- Plain facts: polygons of puts without wrapping; a longer bed. -/
import Derived.Test.YtmdncaoilegnnaaGreatUG28
namespace Go.Proofs.YtmdncaoilegnnaaGreat
set_option linter.unusedVariables false
set_option linter.unusedSimpArgs false
set_option linter.unusedVariables false
set_option linter.unusedSimpArgs false
open Go.RowKit

theorem rot1_near {M : Int} (hM : M ≤ 10000000) {q : Int × Int} (h : nearB M q) : nearB M (rot1 q) := by
  unfold nearB rot1 at *
  dsimp only
  rw [wrap_near (by omega) (by omega)]; omega
theorem rotN_near {M : Int} (hM : M ≤ 10000000) : ∀ (n : Nat) {q : Int × Int}, nearB M q → nearB M (rotN n q) := by
  intro n
  induction n with
  | zero => intro q h; exact h
  | succ n ih => intro q h; unfold rotN; first | exact ih (rot1_near hM h) | exact rot1_near hM (ih h)
theorem flip_near {M : Int} (hM : M ≤ 10000000) {f : Bool} {q : Int × Int} (h : nearB M q) : nearB M (flipW f q) := by
  unfold flipW
  split
  · unfold nearB at *; dsimp only; rw [wrap_near (by omega) (by omega)]; omega
  · exact h
theorem apply_near {M : Int} (hM : M ≤ 10000000) {f : Bool} {u : Int} {q : Int × Int} (h : nearB M q) : nearB M (applyW f u q) := rotN_near hM _ (flip_near hM h)
theorem tpol_near {M : Int} (hM : M ≤ 10000000) {f : Bool} {u : Int} {l : List (Int × Int)} (h : ∀ q ∈ l, nearB M q) : ∀ q ∈ tpolW f u l, nearB M q := by
  intro q hq
  unfold tpolW at hq
  split at hq
  · obtain ⟨x, hx, rfl⟩ := List.mem_map.1 (List.mem_reverse.1 hq)
    exact apply_near hM (h x hx)
  · obtain ⟨x, hx, rfl⟩ := List.mem_map.1 hq
    exact apply_near hM (h x hx)
def movP (l : List (Int × Int)) (x y : Int) : List (Int × Int) := l.map fun q => (q.1 + x, q.2 + y)
theorem mov_plain {l : List (Int × Int)} {x y : Int} (h : ∀ q ∈ l, nearB 1048576 q) (hx : nearB 1048576 (x, y)) : movW l (x, y) = movP l x y := by
  unfold movW movP
  apply List.map_congr_left
  intro q hq
  have := h q hq
  unfold nearB at this hx
  dsimp only at hx ⊢
  rw [wrap_near (by omega) (by omega), wrap_near (by omega) (by omega)]
/-- The turned polygon of a put's shape. -/
def tpS (S : List Shp) (p : Pt5) : List (Int × Int) := tpolW p.fl p.qu (shp S p.sh.toNat).poly
theorem poly_plain {S : List Shp} {p : Pt5} (h : (polyW S p).1 = 0) : (∀ q ∈ tpS S p, nearB 1048576 q) ∧ nearB 1048576 (p.x, p.y) ∧ (polyW S p).2 = movP (tpS S p) p.x p.y ∧ (∀ q ∈ (polyW S p).2, nearB 1048576 q) ∧ 3 ≤ (tpS S p).length ∧ checkW (shp S p.sh.toNat).poly (shp S p.sh.toNat).poly.length = 0 := by
  have hc := polyW_check h
  unfold polyW at h hc ⊢
  split at h
  · cases h
  · rename_i h0
    rw [if_neg h0] at hc ⊢
    have hxy : nearB 1048576 (p.x, p.y) := near_of_out (by
      cases ho : outB 1048576 (p.x, p.y) with
      | false => rfl
      | true => exact absurd (.inr (.inr ho)) h0)
    unfold polyIn at h hc ⊢
    split at h
    · rename_i h1; exact absurd h h1
    · rename_i h1
      rw [if_neg h1] at hc ⊢
      have h1' : checkW (shp S p.sh.toNat).poly (shp S p.sh.toNat).poly.length = 0 := by simpa using h1
      split at h
      · rename_i h2; exact absurd h h2
      · rename_i h2
        rw [if_neg h2] at hc ⊢
        have hn := tpol_near (M := 1048576) (by omega) (f := p.fl) (u := p.qu) (check_near h1')
        refine ⟨hn, hxy, mov_plain hn hxy, check_near hc, ?_, h1'⟩
        unfold tpS
        rw [tpolW_len]
        exact (check_len h1').1
/-! ### the greatest X -/
theorem hiX_ge {l : List (Int × Int)} : ∀ {n i : Nat}, i < n → (gt l i).1 ≤ hiX l n := by
  intro n
  induction n with
  | zero => intro i hi; omega
  | succ n ih =>
    intro i hi
    rw [hiX]
    by_cases h : i < n
    · have := ih h; split <;> omega
    · obtain rfl : i = n := by omega
      split <;> omega
theorem hiX_at {l : List (Int × Int)} : ∀ {n : Nat}, 0 < n → ∃ i, i < n ∧ hiX l n = (gt l i).1 := by
  intro n
  induction n with
  | zero => intro h; omega
  | succ n ih =>
    intro _
    rw [hiX]
    split
    · exact ⟨n, by omega, rfl⟩
    · rcases Nat.eq_zero_or_pos n with h0 | h0
      · subst h0; exact ⟨0, by omega, rfl⟩
      · obtain ⟨i, hi, e⟩ := ih h0; exact ⟨i, by omega, e⟩
theorem loX_le {l : List (Int × Int)} : ∀ {n i : Nat}, i < n → loX l n ≤ (gt l i).1 := by
  intro n
  induction n with
  | zero => intro i hi; omega
  | succ n ih =>
    intro i hi
    rw [loX]
    by_cases h : i < n
    · have := ih h; split <;> omega
    · obtain rfl : i = n := by omega
      split <;> omega
theorem loX_at {l : List (Int × Int)} : ∀ {n : Nat}, 0 < n → ∃ i, i < n ∧ loX l n = (gt l i).1 := by
  intro n
  induction n with
  | zero => intro h; omega
  | succ n ih =>
    intro _
    rw [loX]
    split
    · exact ⟨n, by omega, rfl⟩
    · rcases Nat.eq_zero_or_pos n with h0 | h0
      · subst h0; exact ⟨0, by omega, rfl⟩
      · obtain ⟨i, hi, e⟩ := ih h0; exact ⟨i, by omega, e⟩
def maxX (l : List (Int × Int)) : Int := hiX l l.length
theorem maxX_le {l : List (Int × Int)} (h0 : 0 < l.length) {z : Int} : maxX l ≤ z ↔ ∀ q ∈ l, q.1 ≤ z := by
  unfold maxX
  constructor
  · intro h q hq
    obtain ⟨i, hi, rfl⟩ := mem_gt hq
    have := hiX_ge (l := l) hi; omega
  · intro h
    obtain ⟨i, hi, e⟩ := hiX_at (l := l) h0
    rw [e]; exact h _ (gt_in hi)
theorem movP_maxX {l : List (Int × Int)} (h0 : 0 < l.length) (x y : Int) : maxX (movP l x y) = maxX l + x := by
  have h0' : 0 < (movP l x y).length := by unfold movP; simpa using h0
  apply Int.le_antisymm
  · rw [maxX_le h0']
    intro q hq
    obtain ⟨r, hr, rfl⟩ := List.mem_map.1 hq
    have := (maxX_le h0 (z := maxX l)).1 (Int.le_refl _) r hr
    dsimp only; omega
  · have : maxX l ≤ maxX (movP l x y) - x := by
      rw [maxX_le h0]
      intro q hq
      have := (maxX_le h0' (z := maxX (movP l x y))).1 (Int.le_refl _) (q.1 + x, q.2 + y) (List.mem_map.2 ⟨q, hq, rfl⟩)
      dsimp only at this; omega
    omega
/-- The turned polygon at the origin, and at a place. -/
theorem poly_at {S : List Shp} {sh : Int} {f : Bool} {u x y : Int} (h0 : (polyW S ⟨sh, f, u, 0, 0⟩).1 = 0) (h : (polyW S ⟨sh, f, u, x, y⟩).1 = 0) :
    (polyW S ⟨sh, f, u, x, y⟩).2 = movP (polyW S ⟨sh, f, u, 0, 0⟩).2 x y ∧ maxX (polyW S ⟨sh, f, u, x, y⟩).2 = maxX (polyW S ⟨sh, f, u, 0, 0⟩).2 + x ∧
    (endOf sh (f, u) (polyW S ⟨sh, f, u, 0, 0⟩).2 (x, y)).right = maxX (polyW S ⟨sh, f, u, x, y⟩).2 := by
  obtain ⟨a1, a2, a3, a4, a5, -⟩ := poly_plain h0
  obtain ⟨b1, b2, b3, b4, b5, -⟩ := poly_plain h
  dsimp only at a1 a2 a3 a5 b1 b2 b3 b5
  have e0 : (polyW S ⟨sh, f, u, 0, 0⟩).2 = tpS S ⟨sh, f, u, 0, 0⟩ := by rw [a3]; unfold movP; simp
  have et : tpS S ⟨sh, f, u, x, y⟩ = tpS S ⟨sh, f, u, 0, 0⟩ := rfl
  rw [et] at b3
  have hl : 0 < (tpS S ⟨sh, f, u, 0, 0⟩).length := by omega
  refine ⟨by rw [b3, e0], by rw [b3, e0, movP_maxX hl], ?_⟩
  rw [b3, movP_maxX hl]
  unfold endOf
  dsimp only
  rw [e0]
  obtain ⟨i, hi, ei⟩ := hiX_at (l := tpS S ⟨sh, f, u, 0, 0⟩) hl
  obtain ⟨j, hj, ej⟩ := loX_at (l := tpS S ⟨sh, f, u, 0, 0⟩) hl
  have n1 := a1 _ (gt_in hi)
  have n2 := a1 _ (gt_in hj)
  unfold nearB at n1 n2 b2
  dsimp only at b2
  unfold maxX
  rw [wrap_near (z := x + loX (tpS S ⟨sh, f, u, 0, 0⟩) (tpS S ⟨sh, f, u, 0, 0⟩).length) (by omega) (by omega), wrap_near (z := hiX (tpS S ⟨sh, f, u, 0, 0⟩) (tpS S ⟨sh, f, u, 0, 0⟩).length - loX (tpS S ⟨sh, f, u, 0, 0⟩) (tpS S ⟨sh, f, u, 0, 0⟩).length) (by omega) (by omega), wrap_near (by omega) (by omega)]
  omega
/-! ### a longer bed -/
theorem fnd_none {f : Nat → Bool} {n : Nat} (h : (List.range n).find? f = none) : ∀ i, i < n → f i = false := by
  intro i hi
  rw [List.find?_eq_none] at h
  have := h i (by simpa using hi)
  simpa using this
/-! ### the least ending -/
/-! ### the extent -/
theorem extIn_max {f : Bool} {l : List (Int × Int)} {e : Int} : ∀ {n : Nat}, (∀ i, i < n → (gt l i).1 ≤ extIn f l e n) ∧ (f = false → e ≤ extIn f l e n) ∧ (0 < n → (∃ i, i < n ∧ extIn f l e n = (gt l i).1) ∨ (f = false ∧ extIn f l e n = e)) := by
  intro n
  induction n with
  | zero => exact ⟨fun i hi => absurd hi (by omega), fun _ => Int.le_refl _, fun h => absurd h (by omega)⟩
  | succ n ih =>
    obtain ⟨g1, g2, g3⟩ := ih
    rw [extIn]
    by_cases hc : (f && decide (n = 0)) = true ∨ extIn f l e n < (gt l n).1
    · rw [if_pos hc]
      refine ⟨fun i hi => ?_, fun hf => ?_, fun _ => .inl ⟨n, by omega, rfl⟩⟩
      · by_cases h : i < n
        · have := g1 i h
          rcases hc with hc | hc
          · simp at hc; omega
          · omega
        · obtain rfl : i = n := by omega
          exact Int.le_refl _
      · rcases hc with hc | hc
        · simp [hf] at hc
        · have := g2 hf; omega
    · rw [if_neg hc]
      have hc2 : (gt l n).1 ≤ extIn f l e n := Int.not_lt.1 fun h => hc (.inr h)
      refine ⟨fun i hi => ?_, g2, fun _ => ?_⟩
      · by_cases h : i < n
        · exact g1 i h
        · obtain rfl : i = n := by omega
          exact hc2
      · rcases Nat.eq_zero_or_pos n with h0 | h0
        · subst h0
          refine .inr ⟨?_, rfl⟩
          cases f with
          | false => rfl
          | true => exact absurd (.inl (by simp)) hc
        · rcases g3 h0 with ⟨i, hi, he⟩ | h
          · exact .inl ⟨i, by omega, he⟩
          · exact .inr h
/-- Where it is defined the extent is at least every put's greatest X, and one of these. -/
theorem extTo_max {S : List Shp} {ps : List Pt5} : ∀ {k : Nat}, (extTo S ps k).1 = 0 → (∀ i, i < k → (polyW S (pt ps i)).1 = 0 ∧ maxX (polyW S (pt ps i)).2 ≤ (extTo S ps k).2) ∧ (0 < k → ∃ i, i < k ∧ (extTo S ps k).2 = maxX (polyW S (pt ps i)).2) := by
  intro k
  induction k with
  | zero => intro _; exact ⟨fun i hi => absurd hi (by omega), fun h => absurd h (by omega)⟩
  | succ k ih =>
    intro h
    rw [extTo] at h ⊢
    by_cases h0 : (extTo S ps k).1 ≠ 0
    · rw [if_pos h0] at h; exact absurd h h0
    · have h0' : (extTo S ps k).1 = 0 := by simpa using h0
      rw [if_neg h0] at h ⊢
      by_cases h1 : (polyW S (pt ps k)).1 ≠ 0
      · rw [if_pos h1] at h; exact absurd h h1
      · have h1' : (polyW S (pt ps k)).1 = 0 := by simpa using h1
        rw [if_neg h1] at h ⊢
        obtain ⟨ih1, ih2⟩ := ih h0'
        have hpos : 0 < (polyW S (pt ps k)).2.length := by obtain ⟨_, _, e, _, h5, _⟩ := poly_plain h1'; rw [e]; unfold movP; simp; omega
        have hm := extIn_max (f := decide (k = 0)) (l := (polyW S (pt ps k)).2) (e := (extTo S ps k).2) (n := (polyW S (pt ps k)).2.length)
        obtain ⟨m1, m2, m3⟩ := hm
        have hle : maxX (polyW S (pt ps k)).2 ≤ extIn (decide (k = 0)) (polyW S (pt ps k)).2 (extTo S ps k).2 (polyW S (pt ps k)).2.length := by
          rw [maxX_le hpos]
          intro q hq
          obtain ⟨i, hi, rfl⟩ := mem_gt hq
          exact m1 i hi
        dsimp only
        refine ⟨fun i hi => ?_, fun _ => ?_⟩
        · by_cases hik : i < k
          · have hk0 : decide (k = 0) = false := by simp; omega
            have := m2 hk0
            exact ⟨(ih1 i hik).1, by have := (ih1 i hik).2; omega⟩
          · obtain rfl : i = k := by omega
            exact ⟨h1', hle⟩
        · rcases m3 hpos with ⟨i, hi, he⟩ | ⟨hf, he⟩
          · refine ⟨k, by omega, ?_⟩
            apply Int.le_antisymm
            · rw [he]
              exact (maxX_le hpos).1 (Int.le_refl _) _ (gt_in hi)
            · exact hle
          · have hk : 0 < k := by simp at hf; omega
            obtain ⟨i, hi, hi2⟩ := ih2 hk
            exact ⟨i, by omega, by rw [he]; exact hi2⟩
/-! ### Run and Best on a longer bed -/
end Go.Proofs.YtmdncaoilegnnaaGreat

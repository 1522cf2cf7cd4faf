/- Plain facts for FillFirst: boxes under turns and moves; the first put on an empty bed. Plain facts for FillFirst: the first put on an empty bed. -/
import Derived.Test.YtmdncaoilegnnaaGreatUG66
namespace Go.Proofs.YtmdncaoilegnnaaGreat
set_option linter.unusedVariables false
set_option linter.unusedSimpArgs false
set_option linter.unusedVariables false
set_option linter.unusedSimpArgs false
open Go.RowKit

theorem hiY_ge {l : List (Int × Int)} : ∀ {n i : Nat}, i < n → (gt l i).2 ≤ hiY l n := by
  intro n
  induction n with
  | zero => intro i hi; omega
  | succ n ih =>
    intro i hi
    rw [hiY]
    by_cases h : i < n
    · have := ih h; split <;> omega
    · obtain rfl : i = n := by omega
      split <;> omega
theorem hiY_at {l : List (Int × Int)} : ∀ {n : Nat}, 0 < n → ∃ i, i < n ∧ hiY l n = (gt l i).2 := by
  intro n
  induction n with
  | zero => intro h; omega
  | succ n ih =>
    intro _
    rw [hiY]
    split
    · exact ⟨n, by omega, rfl⟩
    · rcases Nat.eq_zero_or_pos n with h0 | h0
      · subst h0; exact ⟨0, by omega, rfl⟩
      · obtain ⟨i, hi, e⟩ := ih h0; exact ⟨i, by omega, e⟩
theorem loY_le {l : List (Int × Int)} : ∀ {n i : Nat}, i < n → loY l n ≤ (gt l i).2 := by
  intro n
  induction n with
  | zero => intro i hi; omega
  | succ n ih =>
    intro i hi
    rw [loY]
    by_cases h : i < n
    · have := ih h; split <;> omega
    · obtain rfl : i = n := by omega
      split <;> omega
theorem loY_at {l : List (Int × Int)} : ∀ {n : Nat}, 0 < n → ∃ i, i < n ∧ loY l n = (gt l i).2 := by
  intro n
  induction n with
  | zero => intro h; omega
  | succ n ih =>
    intro _
    rw [loY]
    split
    · exact ⟨n, by omega, rfl⟩
    · rcases Nat.eq_zero_or_pos n with h0 | h0
      · subst h0; exact ⟨0, by omega, rfl⟩
      · obtain ⟨i, hi, e⟩ := ih h0; exact ⟨i, by omega, e⟩
theorem gt_movP {l : List (Int × Int)} {x y : Int} {i : Nat} (h : i < l.length) : gt (movP l x y) i = ((gt l i).1 + x, (gt l i).2 + y) := gt_map h
theorem loX_char {l : List (Int × Int)} {n : Nat} {a : Int} (h1 : ∀ i, i < n → a ≤ (gt l i).1) (h2 : ∃ i, i < n ∧ (gt l i).1 = a) : loX l n = a := by
  obtain ⟨i, hi, e⟩ := h2
  have g1 := loX_le (l := l) hi
  obtain ⟨j, hj, e2⟩ := loX_at (l := l) (n := n) (by omega)
  have g2 := h1 j hj
  omega
theorem loX_mov {l : List (Int × Int)} {n : Nat} {x y : Int} (h0 : 0 < n) (hn : n ≤ l.length) : loX (movP l x y) n = loX l n + x :=
  loX_char (fun i hi => by rw [gt_movP (by omega)]; have := loX_le (l := l) hi; dsimp only; omega) (by
    obtain ⟨i, hi, e⟩ := loX_at (l := l) h0
    exact ⟨i, hi, by rw [gt_movP (by omega)]; dsimp only; omega⟩)
theorem loY_char {l : List (Int × Int)} {n : Nat} {a : Int} (h1 : ∀ i, i < n → a ≤ (gt l i).2) (h2 : ∃ i, i < n ∧ (gt l i).2 = a) : loY l n = a := by
  obtain ⟨i, hi, e⟩ := h2
  have g1 := loY_le (l := l) hi
  obtain ⟨j, hj, e2⟩ := loY_at (l := l) (n := n) (by omega)
  have g2 := h1 j hj
  omega
theorem hiX_char {l : List (Int × Int)} {n : Nat} {a : Int} (h1 : ∀ i, i < n → (gt l i).1 ≤ a) (h2 : ∃ i, i < n ∧ (gt l i).1 = a) : hiX l n = a := by
  obtain ⟨i, hi, e⟩ := h2
  have g1 := hiX_ge (l := l) hi
  obtain ⟨j, hj, e2⟩ := hiX_at (l := l) (n := n) (by omega)
  have g2 := h1 j hj
  omega
theorem hiX_mov {l : List (Int × Int)} {n : Nat} {x y : Int} (h0 : 0 < n) (hn : n ≤ l.length) : hiX (movP l x y) n = hiX l n + x :=
  hiX_char (fun i hi => by rw [gt_movP (by omega)]; have := hiX_ge (l := l) hi; dsimp only; omega) (by
    obtain ⟨i, hi, e⟩ := hiX_at (l := l) h0
    exact ⟨i, hi, by rw [gt_movP (by omega)]; dsimp only; omega⟩)
end Go.Proofs.YtmdncaoilegnnaaGreat

namespace Go.Proofs.YtmdncaoilegnnaaGreat
set_option linter.unusedVariables false
set_option linter.unusedSimpArgs false
set_option linter.unusedVariables false
set_option linter.unusedSimpArgs false
open Go.RowKit

theorem sort_pairwise2 (l : List (Int × Int)) : (sortW l).Pairwise fun x y => x.1 < y.1 ∨ (x.1 = y.1 ∧ x.2 ≤ y.2) := by
  rw [sortW_eq]
  have h := isortF_sorted (lt := ltOf cmpS) swoS.irrefl swoS.trans totS l
  have e : ltOf cmpS = lessS := by funext p q; exact ltS p q
  rw [e] at h
  unfold sortF
  refine List.Pairwise.imp ?_ h
  intro x y hxy
  unfold lessS at hxy
  simp at hxy
  omega
section
variable {s : Shp} {len wid : Int}

theorem poly_put (hc : checkW s.poly s.poly.length = 0) (u x y : Int) (hxy : nearB 1048576 (x, y)) (hn : ∀ q ∈ movP (tpolW false u s.poly) x y, nearB 1048576 q) : polyW [s] ⟨0, false, u, x, y⟩ = (0, movP (tpolW false u s.poly) x y) := by
  have ht := tpol_near (M := 1048576) (by omega) (f := false) (u := u) (check_near hc)
  have hm := mov_plain ht hxy
  have hk := check_mov (l := tpolW false u s.poly) (by rw [tpolW_len]; exact check_turn hc u) hn
  rw [tpolW_len] at hk
  have ho : outB 1048576 (x, y) = false := by
    unfold nearB at hxy
    unfold outB
    simp at hxy ⊢
    omega
  unfold polyW
  rw [if_neg (by rw [ho]; simp)]
  show polyIn s.poly _ = _
  unfold polyIn
  dsimp only
  rw [if_neg (by rw [hc]; simp), hm, if_neg (by rw [hk]; simp)]
theorem kept_mem (rx ry : Int) (hm : s.mat = false) (u : Int) (sp : List (Int × Int)) (a : Int × Int) : ∀ k, a ∈ keptTo rx ry s false u sp k ↔ ∃ i, i < k ∧ gt sp i = a := by
  intro k
  induction k with
  | zero => simp [keptTo]
  | succ k ih =>
    have e : keptTo rx ry s false u sp (k + 1) = addW (keptTo rx ry s false u sp k) [gt sp k] (0, 0) := by
      rw [keptTo]; unfold setlW; rw [hm]; rfl
    rw [e, mem_addW_iff, ih]
    constructor
    · rintro (⟨i, hi, h⟩ | h)
      · exact ⟨i, by omega, h⟩
      · simp at h; exact ⟨k, by omega, h.symm⟩
    · rintro ⟨i, hi, h⟩
      rcases Nat.lt_or_ge i k with h2 | h2
      · exact .inl ⟨i, h2, h⟩
      · obtain rfl : i = k := by omega
        exact .inr (by simp [h])
end
end Go.Proofs.YtmdncaoilegnnaaGreat

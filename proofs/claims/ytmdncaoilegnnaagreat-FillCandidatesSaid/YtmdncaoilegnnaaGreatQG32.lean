/- The laws FillBeginning and FillValid; place.Check. A list of puts, as a statement's argument. -/
import Derived.Test.YtmdncaoilegnnaaGreatQG31
import Derived.Test.YtmdncaoilegnnaaGreatQG29
namespace Go.Proofs.YtmdncaoilegnnaaGreat
set_option linter.unusedVariables false
set_option linter.unusedSimpArgs false
set_option linter.unusedVariables false
set_option linter.unusedSimpArgs false
set_option maxRecDepth 100000
open Go.RowKit

/-! ### arguments -/
section
open Go.ChangeShapes Go.WideShapes Go.ChangeAt Go.Deep Go.Joins
variable {H : Type} {enc : TypeId × Value → H} {w : World} {base b0 : Nat} {spare : Nat → Bool} {held : Bool} {r : Reach} {v : Value} {d : DataW H} {p : List MemPlace}
theorem open_order (hv : Value.okWide Tryz.prog w r b0 43 v) (h : DataW.Trod enc Tryz.prog w base spare held 43 v d p) : ∃ A n c L, v = .slice A n c ∧ n ≤ c ∧ c ≤ 9223372036854775807 ∧ InS w A n L ∧ ∀ z ∈ L, inR z := by
  obtain ⟨A, n, c, rfl⟩ := okWide_slice Tryz.underlying43 hv
  obtain ⟨fuel, hf⟩ := h
  have hf' : DataW.trod enc Tryz.prog w base spare held fuel 43 [.slice A n c] = some (d, p) := by simpa [Value.cells] using hf
  refine ⟨A, n, c, ?_⟩
  rcases open_slice Tryz.underlying43 hf' with ⟨h1, -⟩ | ⟨a, len, cap, m, k, D, Pl, h1, h2, h3, h4, h5, -, h6⟩
  · simp at h1
    obtain ⟨rfl, rfl, rfl⟩ := h1
    exact ⟨[], rfl, Nat.le_refl _, by omega, ⟨rfl, .inl rfl⟩, by simp⟩
  · simp at h1
    obtain ⟨rfl, rfl, rfl⟩ := h1
    have hm : n ≤ m := by rw [h5]; split <;> omega
    have hel : ∀ i, i < n → ∃ z : Int, w.cell? (a.add i) = some (.int .i64 z) ∧ inR z := by
      intro i hi
      obtain ⟨cs', g1, g2⟩ := h6 i (by omega)
      rw [cellsInt, Nat.mul_one] at g1
      obtain ⟨z, rfl, -, wz⟩ := DataW.trod_int Tryz.underlying3 g2
      have c0 := cells_at g1 (show 0 < 1 by omega)
      rw [add_zero_] at c0
      exact ⟨z, c0, bounds_i64 wz⟩
    obtain ⟨f, hf⟩ := choose_lt hel
    refine ⟨(List.range n).map f, rfl, h3, by unfold maxLen at h4; omega, ⟨by simp, ?_⟩, fun z hz => ?_⟩
    · rcases Nat.eq_zero_or_pos n with h0 | h0
      · exact .inl h0
      · have c0 := (hf 0 h0).1
        rw [add_zero_] at c0
        have ea := addr_plain c0
        refine .inr ⟨a.block, a.off, by rw [← ea], fun k hk => ?_⟩
        have g := (hf k hk).1
        rw [ea, add_mk] at g
        have e : gi ((List.range n).map f) k = f k := by unfold gi; simp [List.getD, hk]
        rw [e]
        exact g
    · simp at hz
      obtain ⟨i, hi, rfl⟩ := hz
      exact (hf i hi).2
end

/-! ### place.Check -/
end Go.Proofs.YtmdncaoilegnnaaGreat

namespace Go.Proofs.YtmdncaoilegnnaaGreat
set_option linter.unusedVariables false
set_option linter.unusedSimpArgs false
set_option linter.unusedVariables false
set_option linter.unusedSimpArgs false
set_option maxRecDepth 100000
open Go.ChangeShapes Go.WideShapes Go.ChangeAt Go.RowKit Go.Deep Go.Joins

section
variable {H : Type} {enc : TypeId × Value → H} {w : World} {base b0 : Nat} {spare : Nat → Bool} {held : Bool} {r : Reach} {v : Value} {d : DataW H} {p : List MemPlace}
theorem open_puts (hv : Value.okWide Tryz.prog w r b0 27 v) (h : DataW.Trod enc Tryz.prog w base spare held 27 v d p) : ∃ A n c L, v = .slice A n c ∧ n ≤ c ∧ c ≤ 9223372036854775807 ∧ PuS w A n L ∧ ∀ z ∈ L, inR z.sh ∧ inR z.qu ∧ inR z.x ∧ inR z.y := by
  obtain ⟨A, n, c, rfl⟩ := okWide_slice Tryz.underlying27 hv
  obtain ⟨fuel, hf⟩ := h
  have hf' : DataW.trod enc Tryz.prog w base spare held fuel 27 [.slice A n c] = some (d, p) := by simpa [Value.cells] using hf
  refine ⟨A, n, c, ?_⟩
  rcases open_slice Tryz.underlying27 hf' with ⟨h1, -⟩ | ⟨a, len, cap, m, k, D, Pl, h1, h2, h3, h4, h5, -, h6⟩
  · simp at h1
    obtain ⟨rfl, rfl, rfl⟩ := h1
    exact ⟨[], rfl, Nat.le_refl _, by omega, ⟨rfl, .inl rfl⟩, by simp⟩
  · simp at h1
    obtain ⟨rfl, rfl, rfl⟩ := h1
    have hm : n ≤ m := by rw [h5]; split <;> omega
    have hel : ∀ i, i < n → ∃ z : Pt5, (w.cell? (a.add (i * 5)) = some (.int .i64 z.sh) ∧ w.cell? ((a.add (i * 5)).add 1) = some (.bool z.fl) ∧ w.cell? ((a.add (i * 5)).add 2) = some (.int .i64 z.qu) ∧ w.cell? ((a.add (i * 5)).add 3) = some (.int .i64 z.x) ∧ w.cell? ((a.add (i * 5)).add 4) = some (.int .i64 z.y)) ∧ inR z.sh ∧ inR z.qu ∧ inR z.x ∧ inR z.y := by
      intro i hi
      obtain ⟨cs', g1, g2⟩ := h6 i (by omega)
      rw [cellsPut] at g1
      obtain ⟨z, rfl, wz⟩ := put_trod g2
      have c0 := cells_at g1 (show 0 < 5 by omega)
      rw [add_zero_] at c0
      exact ⟨z, ⟨c0, cells_at g1 (show 1 < 5 by omega), cells_at g1 (show 2 < 5 by omega), cells_at g1 (show 3 < 5 by omega), cells_at g1 (show 4 < 5 by omega)⟩, wz⟩
    obtain ⟨f, hf⟩ := choose_lt hel
    refine ⟨(List.range n).map f, rfl, h3, by unfold maxLen at h4; omega, ⟨by simp, ?_⟩, fun z hz => ?_⟩
    · rcases Nat.eq_zero_or_pos n with h0 | h0
      · exact .inl h0
      · have c0 := (hf 0 h0).1.1
        rw [Nat.zero_mul, add_zero_] at c0
        have ea := addr_plain c0
        refine .inr ⟨a.block, a.off, by rw [← ea], fun k hk => ?_⟩
        have g := (hf k hk).1
        rw [ea, add_mk] at g
        have e : pt ((List.range n).map f) k = f k := by unfold pt; simp [List.getD, hk]
        rw [e]
        exact g
    · simp at hz
      obtain ⟨i, hi, rfl⟩ := hz
      exact (hf i hi).2
end
end Go.Proofs.YtmdncaoilegnnaaGreat

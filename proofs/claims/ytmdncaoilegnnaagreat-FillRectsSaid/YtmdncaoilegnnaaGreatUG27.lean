/- Opening the laws' arguments: spots and slices of spots. What the frames of the statements need. -/
import Derived.Test.YtmdncaoilegnnaaGreatUG17
import Derived.Test.YtmdncaoilegnnaaGreatUG26
import Derived.ProofKit
import Derived.OpenShut
import Derived.ShutString
import Derived.ChangeOld
import Derived.Below
import Derived.Deep.Slices
import Derived.Deep.Strs
import Derived.Lib.SmallJoins
namespace Go.Proofs.YtmdncaoilegnnaaGreat
set_option linter.unusedVariables false
set_option linter.unusedSimpArgs false
set_option linter.unusedVariables false
set_option linter.unusedSimpArgs false
open Go.ChangeShapes Go.WideShapes Go.ChangeAt Go.RowKit Go.Deep Go.Joins

theorem own : ownKnob Tryz.prog.godebug = none := by kernel_rfl
section
variable {H : Type} {enc : TypeId × Value → H} {w : World} {base b0 : Nat} {spare : Nat → Bool} {held : Bool} {fuel : Nat} {cs : List Value} {x : DataW H × List MemPlace} {r : Reach} {v : Value} {d : DataW H} {p : List MemPlace}

theorem cellsSpot : Tryz.prog.cellsOf 37 = 2 := by kernel_rfl
theorem cellsInt : Tryz.prog.cellsOf 3 = 1 := by kernel_rfl
theorem cellsSS : Tryz.prog.cellsOf 47 = 1 := by kernel_rfl
theorem lenL2 {α : Type} {l : List α} (h : l.length = 2) : ∃ a b, l = [a, b] := by
  match l, h with
  | [a, b], _ => exact ⟨a, b, rfl⟩
set_option maxRecDepth 100000 in
theorem spot_trod (h : DataW.trod enc Tryz.prog w base spare held fuel 37 cs = some x) : ∃ a b, cs = [.int .i64 a, .int .i64 b] ∧ inR a ∧ inR b := by
  obtain ⟨y0, y1, n, -, hl, h0, h1⟩ := trod_struct2 Tryz.underlying37 h
  rw [cellsSpot] at hl
  obtain ⟨c0, c1, rfl⟩ := lenL2 hl
  dsimp only at h0 h1
  rw [cellsInt] at h0 h1
  obtain ⟨a, e0, -, wa⟩ := DataW.trod_int Tryz.underlying3 h0
  obtain ⟨b, e1, -, wb⟩ := DataW.trod_int Tryz.underlying3 h1
  simp at e0 e1
  subst e0 e1
  exact ⟨a, b, rfl, bounds_i64 wa, bounds_i64 wb⟩
/-- The row of a slice: its address is plain. -/
theorem addr_plain {a : Addr} {u : Value} (h : w.cell? a = some u) : a = ⟨a.block, a.off, none⟩ := by
  have := World.cell?_spot h
  obtain ⟨b, o, s⟩ := a
  simp at this
  subst this
  rfl
theorem cells_at {a : Addr} {n k : Nat} {cs : List Value} (h : w.cells? base a n = some cs) (hk : k < n) : w.cell? (a.add k) = cs[k]? := (World.cells?_some h).2.2 k hk
theorem add_zero_ (a : Addr) : a.add 0 = a := by unfold Addr.add; simp
theorem add_mk (b o k : Nat) : (⟨b, o, none⟩ : Addr).add k = ⟨b, o + k, none⟩ := by
  unfold Addr.add; by_cases h : k = 0
  · subst h; simp
  · simp [h]
set_option maxRecDepth 100000 in
theorem spots_trod {A : Option Addr} {n c : Nat} (h : DataW.trod enc Tryz.prog w base spare held fuel 47 [.slice A n c] = some x) : n ≤ c ∧ c ≤ 9223372036854775807 ∧ (A = none → c = 0) ∧ ∃ l, SpS w A n l ∧ ∀ q ∈ l, inR q.1 ∧ inR q.2 := by
  rcases open_slice Tryz.underlying47 h with ⟨h1, -⟩ | ⟨a, len, cap, m, k, D, Pl, h1, h2, h3, h4, h5, -, h6⟩
  · simp at h1
    obtain ⟨rfl, rfl, rfl⟩ := h1
    exact ⟨Nat.le_refl _, by omega, fun _ => rfl, [], ⟨rfl, .inl rfl⟩, by simp⟩
  · simp at h1
    obtain ⟨rfl, rfl, rfl⟩ := h1
    refine ⟨h3, by unfold maxLen at h4; exact h4, (fun h => by cases h), ?_⟩
    have hm : n ≤ m := by rw [h5]; split <;> omega
    have hel : ∀ i, i < n → ∃ q : Int × Int, (w.cell? (a.add (i * 2)) = some (.int .i64 q.1) ∧ w.cell? ((a.add (i * 2)).add 1) = some (.int .i64 q.2)) ∧ inR q.1 ∧ inR q.2 := by
      intro i hi
      obtain ⟨cs', g1, g2⟩ := h6 i (by omega)
      rw [cellsSpot] at g1
      obtain ⟨u, v, rfl, wu, wv⟩ := spot_trod g2
      have c0 := cells_at g1 (show 0 < 2 by omega)
      have c1 := cells_at g1 (show 1 < 2 by omega)
      rw [add_zero_] at c0
      exact ⟨(u, v), ⟨c0, c1⟩, wu, wv⟩
    obtain ⟨f, hf⟩ := choose_lt (α := Int × Int) (p := fun i q => (w.cell? (a.add (i * 2)) = some (.int .i64 q.1) ∧ w.cell? ((a.add (i * 2)).add 1) = some (.int .i64 q.2)) ∧ inR q.1 ∧ inR q.2) hel
    refine ⟨(List.range n).map f, ⟨by simp, ?_⟩, fun q hq => ?_⟩
    · rcases Nat.eq_zero_or_pos n with h0 | h0
      · exact .inl h0
      · have c0 := (hf 0 h0).1.1
        rw [Nat.zero_mul, add_zero_] at c0
        have ea := addr_plain c0
        refine .inr ⟨a.block, a.off, by rw [← ea], fun k hk => ?_⟩
        have g := (hf k hk).1
        rw [ea, add_mk, add_mk] at g
        have e : gt ((List.range n).map f) k = f k := by unfold gt; simp [List.getD, hk]
        rw [e]
        exact g
    · simp at hq
      obtain ⟨i, hi, rfl⟩ := hq
      exact (hf i hi).2
end

section
variable {H : Type} {enc : TypeId × Value → H} {w : World} {base b0 : Nat} {spare : Nat → Bool} {held : Bool} {r : Reach} {v : Value} {d : DataW H} {p : List MemPlace}
end

end Go.Proofs.YtmdncaoilegnnaaGreat

namespace Go.Proofs.YtmdncaoilegnnaaGreat
set_option linter.unusedVariables false
set_option linter.unusedSimpArgs false
set_option linter.unusedVariables false
set_option linter.unusedSimpArgs false
open Go.ChangeShapes Go.WideShapes Go.ChangeAt Go.RowKit

end Go.Proofs.YtmdncaoilegnnaaGreat

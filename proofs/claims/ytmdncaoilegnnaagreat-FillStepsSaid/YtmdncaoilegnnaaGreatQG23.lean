/- Slices of int and rows of them: reading, owning, append; slices.Index, Contains, Clone at int. search.Orders. garmentref32.in, continued, Orders; garmentref21.SameInts; garmentlaw32.before. The laws SearchOrders and SearchAll, given the contract of alive; garmentlaw32.before. -/
import Derived.Test.YtmdncaoilegnnaaGreatQD
import Derived.Test.YtmdncaoilegnnaaGreatQA
import Derived.Laws.AppendOwnNone
namespace Go.Proofs.YtmdncaoilegnnaaGreat
set_option linter.unusedVariables false
set_option linter.unusedSimpArgs false
set_option linter.unusedVariables false
set_option linter.unusedSimpArgs false
open Go.RowKit

/-- Slices of int. -/
def gi (l : List Int) (k : Nat) : Int := l.getD k 0
def InS (w : World) (A : Option Addr) (n : Nat) (l : List Int) : Prop := l.length = n ∧ (n = 0 ∨ ∃ b off, A = some ⟨b, off, none⟩ ∧ ∀ k, k < n → w.cell? ⟨b, off + k, none⟩ = some (.int .i64 (gi l k)))
theorem InS.keep {w w' : World} {A : Option Addr} {n : Nat} {l : List Int} (h : InS w A n l) (hb : Below w.heap.size w w') : InS w' A n l := by
  refine ⟨h.1, ?_⟩
  obtain ⟨_, h2⟩ := h
  rcases h2 with h2 | ⟨b, off, rfl, h2⟩
  · exact .inl h2
  · exact .inr ⟨b, off, rfl, fun k hk => cell_keep hb (h2 k hk)⟩
theorem InS.at_ {w : World} {A : Option Addr} {n : Nat} {l : List Int} (h : InS w A n l) {k : Nat} (hk : k < n) : ∃ b off, A = some ⟨b, off, none⟩ ∧ w.cell? ⟨b, off + k, none⟩ = some (.int .i64 (gi l k)) := by
  obtain ⟨_, h2⟩ := h
  rcases h2 with h2 | ⟨b, off, rfl, h2⟩
  · omega
  · exact ⟨b, off, rfl, h2 k hk⟩
/-! ### lists of lists read -/
/-! ### append of ints -/
/-! ### slices.Index, Contains, Clone -/
end Go.Proofs.YtmdncaoilegnnaaGreat

namespace Go.Proofs.YtmdncaoilegnnaaGreat
set_option linter.unusedVariables false
set_option linter.unusedSimpArgs false
set_option linter.unusedVariables false
set_option linter.unusedSimpArgs false
open Go.RowKit

end Go.Proofs.YtmdncaoilegnnaaGreat

namespace Go.Proofs.YtmdncaoilegnnaaGreat
set_option linter.unusedVariables false
set_option linter.unusedSimpArgs false
set_option linter.unusedVariables false
set_option linter.unusedSimpArgs false
open Go.RowKit

/-! ### garmentref21.SameInts -/
end Go.Proofs.YtmdncaoilegnnaaGreat

namespace Go.Proofs.YtmdncaoilegnnaaGreat
set_option linter.unusedVariables false
set_option linter.unusedSimpArgs false
set_option linter.unusedVariables false
set_option linter.unusedSimpArgs false
open Go.RowKit

end Go.Proofs.YtmdncaoilegnnaaGreat

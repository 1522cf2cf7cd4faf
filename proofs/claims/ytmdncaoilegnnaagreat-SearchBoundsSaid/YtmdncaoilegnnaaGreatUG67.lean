/- The reference's Step in plain words: the program's. -/
import Derived.Test.YtmdncaoilegnnaaGreatUG62
import Derived.Test.YtmdncaoilegnnaaGreatUG66
namespace Go.Proofs.YtmdncaoilegnnaaGreat
set_option linter.unusedVariables false
set_option linter.unusedSimpArgs false
set_option linter.unusedVariables false
set_option linter.unusedSimpArgs false
open Go.RowKit

theorem allW_in {g : Int} {i : Nat} (h : i < (allW g false).length) : (tr (allW g false) i).1 = false := by
  have := allTo_in g false 4 (tr (allW g false) i) (by unfold tr; rw [List.getD, List.getElem?_eq_getElem h]; exact List.getElem_mem _)
  exact this.1
end Go.Proofs.YtmdncaoilegnnaaGreat

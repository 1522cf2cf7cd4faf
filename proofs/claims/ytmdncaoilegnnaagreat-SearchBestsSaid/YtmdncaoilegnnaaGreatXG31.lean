/- Lean texts of the claim. -/
import Derived.Test.YtmdncaoilegnnaaGreatXG28
import Derived.Test.YtmdncaoilegnnaaGreatXG30
namespace Go.Proofs.YtmdncaoilegnnaaGreat
set_option linter.unusedVariables false
set_option linter.unusedSimpArgs false
section
open Go.RowKit
theorem pt_some {l : List Pt5} {k : Nat} (h : k < l.length) : l[k]? = some (pt l k) := by
 unfold pt; rw [List.getD, List.getElem?_eq_getElem h]; rfl
end
section
open Go.RowKit
end
section
open Go.RowKit
theorem puS_blk {w : World} {g : Nat} {t : TypeId} (l : List Pt5) (h : BlkS w g t (l.flatMap enP).toArray) : PuS w (some ⟨g, 0, none⟩) l.length l := by
 refine ⟨rfl, .inr ⟨g, 0, rfl, fun k hk => ?_⟩⟩
 have hk2 := pt_some hk
 have e : ∀ i, i < 5 → w.cell? ⟨g, k * 5 + i, none⟩ = (enP (pt l k))[i]? := fun i hi => by
  rw [h.cell (k * 5 + i), List.getElem?_toArray]; exact flat_at enP_len l k i _ hk2 hi
 have e0 := e 0 (by omega)
 rw [Nat.add_zero] at e0
 rw [Nat.zero_add]
 exact ⟨e0, e 1 (by omega), e 2 (by omega), e 3 (by omega), e 4 (by omega)⟩
end
end Go.Proofs.YtmdncaoilegnnaaGreat

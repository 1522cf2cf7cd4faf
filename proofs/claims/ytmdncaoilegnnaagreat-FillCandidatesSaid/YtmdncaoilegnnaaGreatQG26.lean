/- The chapter's example of search, its shapes. The chapter's example of search, on the long bed. The chapter's example of search, on the short bed. garmentlaw32.bars and alive: alive returns true. -/
import Derived.Test.YtmdncaoilegnnaaGreatQG25
namespace Go.Proofs.YtmdncaoilegnnaaGreat
set_option linter.unusedVariables false
set_option linter.unusedSimpArgs false
set_option linter.unusedVariables false
set_option linter.unusedSimpArgs false
open Go.RowKit

section
variable {b : Bed4} {S : List Shp} {x y z : Int} {p q r : Pt5} {e : Int}
end
end Go.Proofs.YtmdncaoilegnnaaGreat

namespace Go.Proofs.YtmdncaoilegnnaaGreat
set_option linter.unusedVariables false
set_option linter.unusedSimpArgs false
set_option linter.unusedVariables false
set_option linter.unusedSimpArgs false
open Go.RowKit

end Go.Proofs.YtmdncaoilegnnaaGreat

namespace Go.Proofs.YtmdncaoilegnnaaGreat
set_option linter.unusedVariables false
set_option linter.unusedSimpArgs false
set_option linter.unusedVariables false
set_option linter.unusedSimpArgs false
open Go.RowKit

end Go.Proofs.YtmdncaoilegnnaaGreat

namespace Go.Proofs.YtmdncaoilegnnaaGreat
set_option linter.unusedVariables false
set_option linter.unusedSimpArgs false
set_option linter.unusedVariables false
set_option linter.unusedSimpArgs false
open Go.RowKit

theorem blk_cell {w : World} {g : Nat} {t : TypeId} {cs : Array Value} (h : BlkS w g t cs) (i : Nat) (v : Value) (hv : cs[i]? = some v) : w.cell? ⟨g, i, none⟩ = some v := by
  rw [h.cell i]; exact hv
theorem sps4 {w : World} {g : Nat} {t : TypeId} {a b c d : Int × Int} (h : BlkS w g t #[.int .i64 a.1, .int .i64 a.2, .int .i64 b.1, .int .i64 b.2, .int .i64 c.1, .int .i64 c.2, .int .i64 d.1, .int .i64 d.2]) : SpS w (some ⟨g, 0, none⟩) 4 [a, b, c, d] := by
  refine ⟨rfl, .inr ⟨g, 0, rfl, fun k hk => ?_⟩⟩
  have : k = 0 ∨ k = 1 ∨ k = 2 ∨ k = 3 := by omega
  rcases this with rfl | rfl | rfl | rfl <;> exact ⟨blk_cell h _ _ rfl, blk_cell h _ _ rfl⟩
theorem shAt_blk {w : World} {g o : Nat} {t : TypeId} {cs : Array Value} {A : Option Addr} {c : Nat} {s : Shp} (h : BlkS w g t cs) (hp : SpS w A s.poly.length s.poly) (hc : s.poly.length ≤ c) (hc2 : c ≤ 100) (hA : A = none → c = 0)
    (h0 : cs[o]? = some (.slice A s.poly.length c)) (h1 : cs[o + 1]? = some (.int .i64 s.grain)) (h2 : cs[o + 2]? = some (.bool s.mat)) (h3 : cs[o + 3]? = some (.int .i64 s.anc.1)) (h4 : cs[o + 4]? = some (.int .i64 s.anc.2)) : ShAt w g o s :=
  ⟨A, c, blk_cell h _ _ h0, hc, by omega, hp, hA, blk_cell h _ _ h1, blk_cell h _ _ h2, blk_cell h _ _ h3, blk_cell h _ _ h4⟩
theorem rd3 (w : World) (t : TypeId) (a b c : Int) : InS (w.alloc (.cells #[.int .i64 a, .int .i64 b, .int .i64 c] t)) (some ⟨w.heap.size, 0, none⟩) 3 [a, b, c] := by
  have h := BlkS.new w t #[.int .i64 a, .int .i64 b, .int .i64 c]
  refine ⟨rfl, .inr ⟨_, 0, rfl, fun k hk => ?_⟩⟩
  have : k = 0 ∨ k = 1 ∨ k = 2 := by omega
  rcases this with rfl | rfl | rfl <;> exact blk_cell h _ _ rfl
end Go.Proofs.YtmdncaoilegnnaaGreat

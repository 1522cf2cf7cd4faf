/- garmentref11: Least, Normal. garmentref13: sign, around, without, bend, flat. garmentref13: bend, flat. garmentref13: place. garmentref11.Move, garmentref14.Negate: append of a spot that is made on the spot, in a region that draws its order. -/
import Derived.Test.YtmdncaoilegnnaaGreatUG49
import Derived.Test.YtmdncaoilegnnaaGreatUC
import Derived.Test.YtmdncaoilegnnaaGreatUG08
import Derived.Test.YtmdncaoilegnnaaGreatUG11
import Derived.BigRegion
import Derived.Deep.AppendLies
import Derived.Deep.RegionHeld3
namespace Go.Proofs.YtmdncaoilegnnaaGreat
set_option linter.unusedVariables false
set_option linter.unusedSimpArgs false
set_option linter.unusedVariables false
set_option linter.unusedSimpArgs false
open Go.RowKit

end Go.Proofs.YtmdncaoilegnnaaGreat

namespace Go.Proofs.YtmdncaoilegnnaaGreat
set_option linter.unusedVariables false
set_option linter.unusedSimpArgs false
set_option linter.unusedVariables false
set_option linter.unusedSimpArgs false
open Go.RowKit

end Go.Proofs.YtmdncaoilegnnaaGreat

namespace Go.Proofs.YtmdncaoilegnnaaGreat
set_option linter.unusedVariables false
set_option linter.unusedSimpArgs false
set_option linter.unusedVariables false
set_option linter.unusedSimpArgs false
open Go.RowKit

theorem three {w : World} {base g : Nat} {p q r : Int × Int} (h : OwS w base (.slice (some ⟨g, 0, none⟩) 3 3) [p, q, r]) : w.cell? ⟨g, 0, none⟩ = some (.int .i64 p.1) ∧ w.cell? ⟨g, 1, none⟩ = some (.int .i64 p.2) ∧ w.cell? ⟨g, 2, none⟩ = some (.int .i64 q.1) ∧ w.cell? ⟨g, 3, none⟩ = some (.int .i64 q.2) ∧ w.cell? ⟨g, 4, none⟩ = some (.int .i64 r.1) ∧ w.cell? ⟨g, 5, none⟩ = some (.int .i64 r.2) ∧ g < w.heap.size := by
  have c := fun k hk => (OwG.cells h k hk)
  have c0 := (c 0 (by simp)).trans rfl
  exact ⟨c0, (c 1 (by simp)).trans rfl, (c 2 (by simp)).trans rfl, (c 3 (by simp)).trans rfl, (c 4 (by simp)).trans rfl, (c 5 (by simp)).trans rfl, lt_of_cell c0⟩
end Go.Proofs.YtmdncaoilegnnaaGreat

namespace Go.Proofs.YtmdncaoilegnnaaGreat
set_option linter.unusedVariables false
set_option linter.unusedSimpArgs false
set_option linter.unusedVariables false
set_option linter.unusedSimpArgs false
open Go.RowKit

end Go.Proofs.YtmdncaoilegnnaaGreat

namespace Go.Proofs.YtmdncaoilegnnaaGreat
set_option linter.unusedVariables false
set_option linter.unusedSimpArgs false
set_option linter.unusedVariables false
set_option linter.unusedSimpArgs false
open Go.RowKit

theorem step_appS {w : World} {ops : Array Oper} {o : Oper} {a : Act} {K : Act → World → Prop} {Q : Exit → Act → World → Prop} {E : Prop} (hgd : o.guard = none) (s x : Operand)
    (ho : o.op = .call { callee := .builtin .append, args := #[s, x], argTypes := #[47, 47] })
    (base : Nat) (v : Value) (l : List (Int × Int)) (hs : a.eval s = v) (hown : OwS w base v l)
    (bx c : Nat) (p : Int × Int) (tb : TypeId) (hx : a.eval x = .slice (some ⟨bx, 0, none⟩) 1 c) (hnew : BlkS w bx tb #[.int .i64 p.1, .int .i64 p.2])
    (hlen : l.length ≤ 1000000) (hbase : base ≤ w.heap.size) (H : Nat) (hH : w.heap.size = H)
    (h : ∀ g cap w', OwS w' base (.slice (some ⟨g, 0, none⟩) (l.length + 1) cap) (l ++ [p]) → w.grownBy w' v.ownBlock → (v.ownBlock = some g ∨ g = H) → g < w'.heap.size → K (a.put o.dst (.slice (some ⟨g, 0, none⟩) (l.length + 1) cap)) w') :
    if Region.wanted o (yielded ops a.tmps) = true then Oper.wp Tryz.prog o a w K Q else E := by
  obtain ⟨i, hi, hz0, hz1, hz2⟩ := info_parts infoS
  refine step_append_lies (P := Tryz.prog) w hgd s x 47 ho base 37 i (.agg #[.int .i64 0, .int .i64 0]) 2 16 Tryz.underlying47 hi hz0 hz1 hz2 rfl (by omega) v l.length (l.flatMap enS) hs hown ⟨bx, 0, none⟩ 1 c (enS p) hx (by rw [enS_len]) ?_ (enS_one p) (by omega) (by unfold maxLen; omega) (by omega) hbase H hH ?_
  · intro j u hj
    exact World.news_of_block (w := w) (B := bx) (cs := (enS p).toArray) (t := tb) (fr := (0, 0)) hnew j u (by simpa using hj)
  · intro g cap w' ho' hg hat hlt
    refine h g cap w' ?_ hg hat hlt
    unfold OwS OwG
    rw [List.length_append, List.flatMap_append]
    simpa using ho'
end Go.Proofs.YtmdncaoilegnnaaGreat

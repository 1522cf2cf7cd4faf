/- Lean texts of the claim. -/
import Derived.Test.YtmdncaoilegnnaaGreatXG24
namespace Go.Proofs.YtmdncaoilegnnaaGreat
set_option linter.unusedVariables false
set_option linter.unusedSimpArgs false
section
open Go.RowKit
def candPut (sh : Int) (fl : Bool) (qu : Int) (a : Int × Int) : Pt5 := ⟨sh, fl, qu, a.1, a.2⟩
def candsW (b : Bed4) (S : List Shp) (ps : List Pt5) (sh : Int) (fl : Bool) (qu : Int) : Int × List Pt5 :=
 if (prepW b S ps sh fl qu).1 ≠ 0 then ((prepW b S ps sh fl qu).1, [])
 else if (candW b (shp S sh.toNat) fl qu (prepW b S ps sh fl qu).2.1 (prepW b S ps sh fl qu).2.2).1 ≠ 0 then ((candW b (shp S sh.toNat) fl qu (prepW b S ps sh fl qu).2.1 (prepW b S ps sh fl qu).2.2).1, [])
 else (0, (candW b (shp S sh.toNat) fl qu (prepW b S ps sh fl qu).2.1 (prepW b S ps sh fl qu).2.2).2.map (candPut sh fl qu))
theorem prepW_okT {b : Bed4} {S : List Shp} {ps : List Pt5} {sh : Int} {fl : Bool} {qu : Int} (h : (prepW b S ps sh fl qu).1 = 0) : (bedBad b = false ∧ (prepW b S ps sh fl qu).2.1 = (Xe S ⟨sh, fl, qu, 0, 0⟩).2) ∧ (Xe S ⟨sh, fl, qu, 0, 0⟩).1 = 0 ∧ (prepW b S ps sh fl qu).2.2 = (placTo S ps ps.length).2 := by
 obtain ⟨h1, h2, h3⟩ := prepW_ok h
 refine ⟨⟨h1, ?_⟩, h2, h3⟩
 unfold prepW at h ⊢
 rw [h1] at h ⊢
 simp only [Bool.false_eq_true, if_false] at h ⊢
 rw [if_neg (by rw [h2]; simp)] at h ⊢
 split at h
 ·rename_i h4; exact absurd h h4
 ·rename_i h4
  rw [if_neg h4]
theorem BlkS.cells2' {w : World} {g : Nat} {t : TypeId} {u0 u1 : Value} (h : BlkS w g t #[u0, u1]) : w.cell? ⟨g, 0, none⟩ = some u0 ∧ w.cell? ⟨g, 1, none⟩ = some u1 := ⟨h.cell 0, h.cell 1⟩
end
end Go.Proofs.YtmdncaoilegnnaaGreat

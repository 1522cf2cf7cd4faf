/- The chapter's example of search, its shapes. The chapter's example of search, on the long bed. The chapter's example of search, on the short bed. garmentlaw32.bars and alive: alive returns true. -/
import Derived.Test.YtmdncaoilegnnaaGreatUG25
namespace Go.Proofs.YtmdncaoilegnnaaGreat
set_option linter.unusedVariables false
set_option linter.unusedSimpArgs false
set_option linter.unusedVariables false
set_option linter.unusedSimpArgs false
open Go.RowKit

def bar1 : List (Int × Int) := [(0, 0), (6, 0), (6, 4), (0, 4)]
def bar2 : List (Int × Int) := [(0, 0), (8, 0), (8, 2), (0, 2)]
def barsS : List Shp := [⟨bar1, 1, false, (0, 0)⟩, ⟨bar1, 1, false, (0, 0)⟩, ⟨bar2, 4, false, (0, 0)⟩]
section
variable {b : Bed4} {S : List Shp} {x y z : Int} {p q r : Pt5} {e : Int}
theorem run3_ok (h1 : stepW b S [] x = (0, p)) (h2 : stepW b S [p] y = (0, q)) (h3 : stepW b S [p, q] z = (0, r)) : runW b S [x, y, z] = (0, [p, q, r]) := by
  have g1 : runTo b S [x, y, z] 1 = (0, [p]) := by simp [runTo, gi, h1]
  have g2 : runTo b S [x, y, z] 2 = (0, [p, q]) := by rw [runTo, g1]; simp [gi, h2]
  have g3 : runTo b S [x, y, z] 3 = (0, [p, q, r]) := by rw [runTo, g2]; simp [gi, h3]
  unfold runW; rw [if_neg (by simp)]; exact g3
theorem run3_f1 (h1 : stepW b S [] x = (18, p)) : (runW b S [x, y, z]).1 ≠ 0 := by
  have g1 : runTo b S [x, y, z] 1 = (18, []) := by simp [runTo, gi, h1]
  have g3 : runTo b S [x, y, z] 3 = (18, []) := runTo_bad g1 (by omega) 2
  unfold runW; rw [if_neg (by simp)]; show (runTo b S [x, y, z] 3).1 ≠ 0; rw [g3]; simp
theorem run3_f2 (h1 : stepW b S [] x = (0, p)) (h2 : stepW b S [p] y = (18, q)) : (runW b S [x, y, z]).1 ≠ 0 := by
  have g1 : runTo b S [x, y, z] 1 = (0, [p]) := by simp [runTo, gi, h1]
  have g2 : runTo b S [x, y, z] 2 = (18, []) := by rw [runTo, g1]; simp [gi, h2]
  have g3 : runTo b S [x, y, z] 3 = (18, []) := runTo_bad g2 (by omega) 1
  unfold runW; rw [if_neg (by simp)]; show (runTo b S [x, y, z] 3).1 ≠ 0; rw [g3]; simp
theorem run3_f3 (h1 : stepW b S [] x = (0, p)) (h2 : stepW b S [p] y = (0, q)) (h3 : stepW b S [p, q] z = (18, r)) : (runW b S [x, y, z]).1 ≠ 0 := by
  have g1 : runTo b S [x, y, z] 1 = (0, [p]) := by simp [runTo, gi, h1]
  have g2 : runTo b S [x, y, z] 2 = (0, [p, q]) := by rw [runTo, g1]; simp [gi, h2]
  have g3 : runTo b S [x, y, z] 3 = (18, []) := by rw [runTo, g2]; simp [gi, h3]
  unfold runW; rw [if_neg (by simp)]; show (runTo b S [x, y, z] 3).1 ≠ 0; rw [g3]; simp
theorem tryW_bad {o : List Int} (h : (runW b S o).1 ≠ 0) : tryW b S o = none := by unfold tryW; rw [if_pos h]
theorem tryW_ok {o : List Int} {ps : List Pt5} (h : runW b S o = (0, ps)) (h2 : extW S ps = (0, x)) : tryW b S o = some x := by
  unfold tryW; rw [h]; simp [h2]
end
theorem ord3 : ordW 3 = [[0, 1, 2], [0, 2, 1], [1, 0, 2], [1, 2, 0], [2, 0, 1], [2, 1, 0]] := by decide +kernel
end Go.Proofs.YtmdncaoilegnnaaGreat

namespace Go.Proofs.YtmdncaoilegnnaaGreat
set_option linter.unusedVariables false
set_option linter.unusedSimpArgs false
set_option linter.unusedVariables false
set_option linter.unusedSimpArgs false
open Go.RowKit

set_option maxRecDepth 100000 in
theorem stA0 : stepW ⟨20, 8, 0, 0⟩ barsS [] 0 = (0, ⟨0, false, 0, 0, 0⟩) := by rw [stepW_eq]; decide +kernel
set_option maxRecDepth 100000 in
theorem stA1 : stepW ⟨20, 8, 0, 0⟩ barsS [⟨0, false, 0, 0, 0⟩] 1 = (0, ⟨1, false, 0, 0, 4⟩) := by rw [stepW_eq]; decide +kernel
set_option maxRecDepth 100000 in
theorem stA2 : stepW ⟨20, 8, 0, 0⟩ barsS [⟨0, false, 0, 0, 0⟩, ⟨1, false, 0, 0, 4⟩] 2 = (0, ⟨2, false, 1, 8, 0⟩) := by rw [stepW_eq]; decide +kernel
set_option maxRecDepth 100000 in
theorem exA012 : extW barsS [⟨0, false, 0, 0, 0⟩, ⟨1, false, 0, 0, 4⟩, ⟨2, false, 1, 8, 0⟩] = (0, 8) := by decide +kernel
theorem tryA012 : tryW ⟨20, 8, 0, 0⟩ barsS [0, 1, 2] = some 8 := tryW_ok (run3_ok stA0 stA1 stA2) exA012
set_option maxRecDepth 100000 in
theorem stA3 : stepW ⟨20, 8, 0, 0⟩ barsS [⟨0, false, 0, 0, 0⟩] 2 = (0, ⟨2, false, 1, 8, 0⟩) := by rw [stepW_eq]; decide +kernel
set_option maxRecDepth 100000 in
theorem stA4 : stepW ⟨20, 8, 0, 0⟩ barsS [⟨0, false, 0, 0, 0⟩, ⟨2, false, 1, 8, 0⟩] 1 = (0, ⟨1, false, 0, 0, 4⟩) := by rw [stepW_eq]; decide +kernel
set_option maxRecDepth 100000 in
theorem exA021 : extW barsS [⟨0, false, 0, 0, 0⟩, ⟨2, false, 1, 8, 0⟩, ⟨1, false, 0, 0, 4⟩] = (0, 8) := by decide +kernel
theorem tryA021 : tryW ⟨20, 8, 0, 0⟩ barsS [0, 2, 1] = some 8 := tryW_ok (run3_ok stA0 stA3 stA4) exA021
set_option maxRecDepth 100000 in
theorem stA5 : stepW ⟨20, 8, 0, 0⟩ barsS [] 1 = (0, ⟨1, false, 0, 0, 0⟩) := by rw [stepW_eq]; decide +kernel
set_option maxRecDepth 100000 in
theorem stA6 : stepW ⟨20, 8, 0, 0⟩ barsS [⟨1, false, 0, 0, 0⟩] 0 = (0, ⟨0, false, 0, 0, 4⟩) := by rw [stepW_eq]; decide +kernel
set_option maxRecDepth 100000 in
theorem stA7 : stepW ⟨20, 8, 0, 0⟩ barsS [⟨1, false, 0, 0, 0⟩, ⟨0, false, 0, 0, 4⟩] 2 = (0, ⟨2, false, 1, 8, 0⟩) := by rw [stepW_eq]; decide +kernel
set_option maxRecDepth 100000 in
theorem exA102 : extW barsS [⟨1, false, 0, 0, 0⟩, ⟨0, false, 0, 0, 4⟩, ⟨2, false, 1, 8, 0⟩] = (0, 8) := by decide +kernel
theorem tryA102 : tryW ⟨20, 8, 0, 0⟩ barsS [1, 0, 2] = some 8 := tryW_ok (run3_ok stA5 stA6 stA7) exA102
set_option maxRecDepth 100000 in
theorem stA8 : stepW ⟨20, 8, 0, 0⟩ barsS [⟨1, false, 0, 0, 0⟩] 2 = (0, ⟨2, false, 1, 8, 0⟩) := by rw [stepW_eq]; decide +kernel
set_option maxRecDepth 100000 in
theorem stA9 : stepW ⟨20, 8, 0, 0⟩ barsS [⟨1, false, 0, 0, 0⟩, ⟨2, false, 1, 8, 0⟩] 0 = (0, ⟨0, false, 0, 0, 4⟩) := by rw [stepW_eq]; decide +kernel
set_option maxRecDepth 100000 in
theorem exA120 : extW barsS [⟨1, false, 0, 0, 0⟩, ⟨2, false, 1, 8, 0⟩, ⟨0, false, 0, 0, 4⟩] = (0, 8) := by decide +kernel
theorem tryA120 : tryW ⟨20, 8, 0, 0⟩ barsS [1, 2, 0] = some 8 := tryW_ok (run3_ok stA5 stA8 stA9) exA120
set_option maxRecDepth 100000 in
theorem stA10 : stepW ⟨20, 8, 0, 0⟩ barsS [] 2 = (0, ⟨2, false, 1, 2, 0⟩) := by rw [stepW_eq]; decide +kernel
set_option maxRecDepth 100000 in
theorem stA11 : stepW ⟨20, 8, 0, 0⟩ barsS [⟨2, false, 1, 2, 0⟩] 0 = (0, ⟨0, false, 0, 2, 0⟩) := by rw [stepW_eq]; decide +kernel
set_option maxRecDepth 100000 in
theorem stA12 : stepW ⟨20, 8, 0, 0⟩ barsS [⟨2, false, 1, 2, 0⟩, ⟨0, false, 0, 2, 0⟩] 1 = (0, ⟨1, false, 0, 2, 4⟩) := by rw [stepW_eq]; decide +kernel
set_option maxRecDepth 100000 in
theorem exA201 : extW barsS [⟨2, false, 1, 2, 0⟩, ⟨0, false, 0, 2, 0⟩, ⟨1, false, 0, 2, 4⟩] = (0, 8) := by decide +kernel
theorem tryA201 : tryW ⟨20, 8, 0, 0⟩ barsS [2, 0, 1] = some 8 := tryW_ok (run3_ok stA10 stA11 stA12) exA201
set_option maxRecDepth 100000 in
theorem stA13 : stepW ⟨20, 8, 0, 0⟩ barsS [⟨2, false, 1, 2, 0⟩] 1 = (0, ⟨1, false, 0, 2, 0⟩) := by rw [stepW_eq]; decide +kernel
set_option maxRecDepth 100000 in
theorem stA14 : stepW ⟨20, 8, 0, 0⟩ barsS [⟨2, false, 1, 2, 0⟩, ⟨1, false, 0, 2, 0⟩] 0 = (0, ⟨0, false, 0, 2, 4⟩) := by rw [stepW_eq]; decide +kernel
set_option maxRecDepth 100000 in
theorem exA210 : extW barsS [⟨2, false, 1, 2, 0⟩, ⟨1, false, 0, 2, 0⟩, ⟨0, false, 0, 2, 4⟩] = (0, 8) := by decide +kernel
theorem tryA210 : tryW ⟨20, 8, 0, 0⟩ barsS [2, 1, 0] = some 8 := tryW_ok (run3_ok stA10 stA13 stA14) exA210
set_option maxRecDepth 100000 in
theorem bndA : bndW ⟨20, 8, 0, 0⟩ barsS = (0, 8) := by decide +kernel
theorem bestA : bestW ⟨20, 8, 0, 0⟩ barsS = (0, 8, [0, 1, 2]) := by
  unfold bestW
  rw [if_neg (by decide), if_neg (by rw [bndA]; decide), show (barsS.length : Int) = 3 from rfl, ord3]
  simp only [List.length_cons, List.length_nil, bestTo, li, List.getD, List.getElem?_cons_zero, List.getElem?_cons_succ, Option.getD_some, tryA012, tryA021, tryA102, tryA120, tryA201, tryA210]
  rfl
end Go.Proofs.YtmdncaoilegnnaaGreat

namespace Go.Proofs.YtmdncaoilegnnaaGreat
set_option linter.unusedVariables false
set_option linter.unusedSimpArgs false
set_option linter.unusedVariables false
set_option linter.unusedSimpArgs false
open Go.RowKit

set_option maxRecDepth 100000 in
theorem stB0 : stepW ⟨7, 8, 0, 0⟩ barsS [] 0 = (0, ⟨0, false, 0, 0, 0⟩) := by rw [stepW_eq]; decide +kernel
set_option maxRecDepth 100000 in
theorem stB1 : stepW ⟨7, 8, 0, 0⟩ barsS [⟨0, false, 0, 0, 0⟩] 1 = (0, ⟨1, false, 0, 0, 4⟩) := by rw [stepW_eq]; decide +kernel
set_option maxRecDepth 100000 in
theorem stB2 : stepW ⟨7, 8, 0, 0⟩ barsS [⟨0, false, 0, 0, 0⟩, ⟨1, false, 0, 0, 4⟩] 2 = (18, zeroP) := by rw [stepW_eq]; decide +kernel
theorem tryB012 : tryW ⟨7, 8, 0, 0⟩ barsS [0, 1, 2] = none := tryW_bad (run3_f3 stB0 stB1 stB2)
set_option maxRecDepth 100000 in
theorem stB3 : stepW ⟨7, 8, 0, 0⟩ barsS [⟨0, false, 0, 0, 0⟩] 2 = (18, zeroP) := by rw [stepW_eq]; decide +kernel
theorem tryB021 : tryW ⟨7, 8, 0, 0⟩ barsS [0, 2, 1] = none := tryW_bad (run3_f2 stB0 stB3)
set_option maxRecDepth 100000 in
theorem stB4 : stepW ⟨7, 8, 0, 0⟩ barsS [] 1 = (0, ⟨1, false, 0, 0, 0⟩) := by rw [stepW_eq]; decide +kernel
set_option maxRecDepth 100000 in
theorem stB5 : stepW ⟨7, 8, 0, 0⟩ barsS [⟨1, false, 0, 0, 0⟩] 0 = (0, ⟨0, false, 0, 0, 4⟩) := by rw [stepW_eq]; decide +kernel
set_option maxRecDepth 100000 in
theorem stB6 : stepW ⟨7, 8, 0, 0⟩ barsS [⟨1, false, 0, 0, 0⟩, ⟨0, false, 0, 0, 4⟩] 2 = (18, zeroP) := by rw [stepW_eq]; decide +kernel
theorem tryB102 : tryW ⟨7, 8, 0, 0⟩ barsS [1, 0, 2] = none := tryW_bad (run3_f3 stB4 stB5 stB6)
set_option maxRecDepth 100000 in
theorem stB7 : stepW ⟨7, 8, 0, 0⟩ barsS [⟨1, false, 0, 0, 0⟩] 2 = (18, zeroP) := by rw [stepW_eq]; decide +kernel
theorem tryB120 : tryW ⟨7, 8, 0, 0⟩ barsS [1, 2, 0] = none := tryW_bad (run3_f2 stB4 stB7)
set_option maxRecDepth 100000 in
theorem stB8 : stepW ⟨7, 8, 0, 0⟩ barsS [] 2 = (0, ⟨2, false, 1, 2, 0⟩) := by rw [stepW_eq]; decide +kernel
set_option maxRecDepth 100000 in
theorem stB9 : stepW ⟨7, 8, 0, 0⟩ barsS [⟨2, false, 1, 2, 0⟩] 0 = (18, zeroP) := by rw [stepW_eq]; decide +kernel
theorem tryB201 : tryW ⟨7, 8, 0, 0⟩ barsS [2, 0, 1] = none := tryW_bad (run3_f2 stB8 stB9)
set_option maxRecDepth 100000 in
theorem stB10 : stepW ⟨7, 8, 0, 0⟩ barsS [⟨2, false, 1, 2, 0⟩] 1 = (18, zeroP) := by rw [stepW_eq]; decide +kernel
theorem tryB210 : tryW ⟨7, 8, 0, 0⟩ barsS [2, 1, 0] = none := tryW_bad (run3_f2 stB8 stB10)
set_option maxRecDepth 100000 in
theorem bndB : bndW ⟨7, 8, 0, 0⟩ barsS = (0, 8) := by decide +kernel
theorem bestB : bestW ⟨7, 8, 0, 0⟩ barsS = (18, 0, []) := by
  unfold bestW
  rw [if_neg (by decide), if_neg (by rw [bndB]; decide), show (barsS.length : Int) = 3 from rfl, ord3]
  simp only [List.length_cons, List.length_nil, bestTo, li, List.getD, List.getElem?_cons_zero, List.getElem?_cons_succ, Option.getD_some, tryB012, tryB021, tryB102, tryB120, tryB201, tryB210]
  rfl
end Go.Proofs.YtmdncaoilegnnaaGreat

namespace Go.Proofs.YtmdncaoilegnnaaGreat
set_option linter.unusedVariables false
set_option linter.unusedSimpArgs false
set_option linter.unusedVariables false
set_option linter.unusedSimpArgs false
open Go.RowKit

theorem blk_cell {w : World} {g : Nat} {t : TypeId} {cs : Array Value} (h : BlkS w g t cs) (i : Nat) (v : Value) (hv : cs[i]? = some v) : w.cell? ⟨g, i, none⟩ = some v := by
  rw [h.cell i]; exact hv
theorem sps4 {w : World} {g : Nat} {t : TypeId} {a b c d : Int × Int} (h : BlkS w g t #[.int .i64 a.1, .int .i64 a.2, .int .i64 b.1, .int .i64 b.2, .int .i64 c.1, .int .i64 c.2, .int .i64 d.1, .int .i64 d.2]) : SpS w (some ⟨g, 0, none⟩) 4 [a, b, c, d] := by
  refine ⟨rfl, .inr ⟨g, 0, rfl, fun k hk => ?_⟩⟩
  have : k = 0 ∨ k = 1 ∨ k = 2 ∨ k = 3 := by omega
  rcases this with rfl | rfl | rfl | rfl <;> exact ⟨blk_cell h _ _ rfl, blk_cell h _ _ rfl⟩
theorem shAt_blk {w : World} {g o : Nat} {t : TypeId} {cs : Array Value} {A : Option Addr} {c : Nat} {s : Shp} (h : BlkS w g t cs) (hp : SpS w A s.poly.length s.poly) (hc : s.poly.length ≤ c) (hc2 : c ≤ 100) (hA : A = none → c = 0)
    (h0 : cs[o]? = some (.slice A s.poly.length c)) (h1 : cs[o + 1]? = some (.int .i64 s.grain)) (h2 : cs[o + 2]? = some (.bool s.mat)) (h3 : cs[o + 3]? = some (.int .i64 s.anc.1)) (h4 : cs[o + 4]? = some (.int .i64 s.anc.2)) : ShAt w g o s :=
  ⟨A, c, blk_cell h _ _ h0, hc, by omega, hp, hA, blk_cell h _ _ h1, blk_cell h _ _ h2, blk_cell h _ _ h3, blk_cell h _ _ h4⟩
theorem barsMem (w : World) : ShS (((w.alloc (.cells #[.int .i64 0, .int .i64 0, .int .i64 6, .int .i64 0, .int .i64 6, .int .i64 4, .int .i64 0, .int .i64 4] 37)).alloc (.cells #[.int .i64 0, .int .i64 0, .int .i64 8, .int .i64 0, .int .i64 8, .int .i64 2, .int .i64 0, .int .i64 2] 37)).alloc (.cells #[.slice (some ⟨w.heap.size, 0, none⟩) 4 4, .int .i64 1, .bool false, .int .i64 0, .int .i64 0, .slice (some ⟨w.heap.size, 0, none⟩) 4 4, .int .i64 1, .bool false, .int .i64 0, .int .i64 0, .slice (some ⟨w.heap.size + 1, 0, none⟩) 4 4, .int .i64 4, .bool false, .int .i64 0, .int .i64 0] 49))
    (some ⟨w.heap.size + 1 + 1, 0, none⟩) 3 barsS := by
  have h1 := BlkS.new w 37 #[.int .i64 0, .int .i64 0, .int .i64 6, .int .i64 0, .int .i64 6, .int .i64 4, .int .i64 0, .int .i64 4]
  obtain ⟨X1, hX1⟩ : ∃ X1, w.alloc (.cells #[.int .i64 0, .int .i64 0, .int .i64 6, .int .i64 0, .int .i64 6, .int .i64 4, .int .i64 0, .int .i64 4] 37) = X1 := ⟨_, rfl⟩
  have s1 : X1.heap.size = w.heap.size + 1 := by rw [← hX1]; simp
  rw [hX1] at h1 ⊢
  have h2 := BlkS.new X1 37 #[.int .i64 0, .int .i64 0, .int .i64 8, .int .i64 0, .int .i64 8, .int .i64 2, .int .i64 0, .int .i64 2]
  have b2 : Below X1.heap.size X1 (X1.alloc (.cells #[.int .i64 0, .int .i64 0, .int .i64 8, .int .i64 0, .int .i64 8, .int .i64 2, .int .i64 0, .int .i64 2] 37)) := (Bl.alloc (Below.refl _ _) _)
  obtain ⟨X2, hX2⟩ : ∃ X2, X1.alloc (.cells #[.int .i64 0, .int .i64 0, .int .i64 8, .int .i64 0, .int .i64 8, .int .i64 2, .int .i64 0, .int .i64 2] 37) = X2 := ⟨_, rfl⟩
  have s2 : X2.heap.size = w.heap.size + 1 + 1 := by rw [← hX2]; simp [s1]
  rw [hX2] at h2 b2 ⊢
  rw [s1] at h2
  have h3 := BlkS.new X2 49 #[.slice (some ⟨w.heap.size, 0, none⟩) 4 4, .int .i64 1, .bool false, .int .i64 0, .int .i64 0, .slice (some ⟨w.heap.size, 0, none⟩) 4 4, .int .i64 1, .bool false, .int .i64 0, .int .i64 0, .slice (some ⟨w.heap.size + 1, 0, none⟩) 4 4, .int .i64 4, .bool false, .int .i64 0, .int .i64 0]
  rw [s2] at h3
  have b3 := fun (o : Obj) => (Bl.alloc (Below.refl X2.heap.size X2) o)
  replace b3 := b3 (.cells #[.slice (some ⟨w.heap.size, 0, none⟩) 4 4, .int .i64 1, .bool false, .int .i64 0, .int .i64 0, .slice (some ⟨w.heap.size, 0, none⟩) 4 4, .int .i64 1, .bool false, .int .i64 0, .int .i64 0, .slice (some ⟨w.heap.size + 1, 0, none⟩) 4 4, .int .i64 4, .bool false, .int .i64 0, .int .i64 0] 49)
  have p1 := sps4 (a := (0, 0)) (b := (6, 0)) (c := (6, 4)) (d := (0, 4)) ((h1.keep b2).keep b3)
  have p2 := sps4 (a := (0, 0)) (b := (8, 0)) (c := (8, 2)) (d := (0, 2)) (h2.keep b3)
  refine ⟨rfl, by omega, .inr ⟨_, 0, rfl, fun k hk => ?_⟩⟩
  have : k = 0 ∨ k = 1 ∨ k = 2 := by omega
  rcases this with rfl | rfl | rfl
  · exact shAt_blk (s := ⟨bar1, 1, false, (0, 0)⟩) h3 p1 (by decide) (by decide) (fun h => by cases h) rfl rfl rfl rfl rfl
  · exact shAt_blk (s := ⟨bar1, 1, false, (0, 0)⟩) h3 p1 (by decide) (by decide) (fun h => by cases h) rfl rfl rfl rfl rfl
  · exact shAt_blk (s := ⟨bar2, 4, false, (0, 0)⟩) h3 p2 (by decide) (by decide) (fun h => by cases h) rfl rfl rfl rfl rfl
set_option maxHeartbeats 1000000 in
set_option maxRecDepth 100000 in
theorem bars_any (w : World) : Calls Tryz.prog 49 #[] w fun e w' => ∃ A, e = .returned (.slice A 3 3) ∧ ShS w' A 3 barsS ∧ Below w.heap.size w w' := by
  go_enter Tryz.func49, Tryz.ntmps49
  go_wp2_with fail
  go_ret
  exact ⟨_, rfl, barsMem w, (Bl.alloc (Bl.alloc (Bl.alloc (Below.refl _ _) _) _) _)⟩
def bedB : Array Value := #[.int .i64 20, .int .i64 8, .int .i64 0, .int .i64 0]
theorem bedB_cells {w : World} {g : Nat} (h : BlkS w g 25 bedB) : w.cell? ⟨g, 0, none⟩ = some (.int .i64 20) ∧ w.cell? ⟨g, 1, none⟩ = some (.int .i64 8) ∧ w.cell? ⟨g, 2, none⟩ = some (.int .i64 0) ∧ w.cell? ⟨g, 3, none⟩ = some (.int .i64 0) :=
  ⟨blk_cell h _ _ rfl, blk_cell h _ _ rfl, blk_cell h _ _ rfl, blk_cell h _ _ rfl⟩
theorem bndC : bndW ⟨0, 0, 0, 0⟩ [] = (3, 0) := by decide +kernel
theorem ord6 : ordW 6 = [] := by decide +kernel
theorem rd3 (w : World) (t : TypeId) (a b c : Int) : InS (w.alloc (.cells #[.int .i64 a, .int .i64 b, .int .i64 c] t)) (some ⟨w.heap.size, 0, none⟩) 3 [a, b, c] := by
  have h := BlkS.new w t #[.int .i64 a, .int .i64 b, .int .i64 c]
  refine ⟨rfl, .inr ⟨_, 0, rfl, fun k hk => ?_⟩⟩
  have : k = 0 ∨ k = 1 ∨ k = 2 := by omega
  rcases this with rfl | rfl | rfl <;> exact blk_cell h _ _ rfl
set_option maxHeartbeats 4000000 in
set_option maxRecDepth 100000 in
theorem alive_any : AliveOK := by
  intro w
  have hX := Lib.hid (show Below w.heap.size w (w.alloc (.cells bedB 25)) from (Bl.alloc (Below.refl _ _) _))
  have hB := Lib.hid (BlkS.new w 25 bedB)
  unfold bedB at hX hB
  go_enter Tryz.func23, Tryz.ntmps23
  go_upto_region 2 with fail
  refine wp_world (fun X => Below w.heap.size w X ∧ BlkS X w.heap.size 25 bedB) ⟨hX.out, hB.out⟩ ?_
  clear hX hB
  rintro X ⟨hX, hB⟩
  obtain ⟨d1, d2, d3, d4⟩ := bedB_cells hB
  go_cut [2, 3] (fun v2 v3 wx => v2 = .int .i64 8 ∧ v3 = .int .i64 0 ∧ Below w.heap.size w wx ∧ Hid (BlkS wx w.heap.size 25 bedB))
  case first =>
    have HB := Lib.hid hB
    clear hB
    go_region_held3 (fun w' => w'.cell? ⟨w.heap.size, 0, none⟩ = some (.int .i64 20) ∧ w'.cell? ⟨w.heap.size, 1, none⟩ = some (.int .i64 8) ∧ w'.cell? ⟨w.heap.size, 2, none⟩ = some (.int .i64 0) ∧ w'.cell? ⟨w.heap.size, 3, none⟩ = some (.int .i64 0))
      (first
        | go_keep
        | exact ⟨cell_keep hb3 d1, cell_keep hb3 d2, cell_keep hb3 d3, cell_keep hb3 d4⟩
        | exact ⟨cell_keep hb4 (cell_keep hb3 d1), cell_keep hb4 (cell_keep hb3 d2), cell_keep hb4 (cell_keep hb3 d3), cell_keep hb4 (cell_keep hb3 d4)⟩)
      ((first
        | (go_at_call 49; refine (bars_any _).mono ?_; rintro e w3 ⟨A3, rfl, hS3, hb3⟩)
        | (go_at_call 24; refine (bound_any _ _ _ ⟨20, 8, 0, 0⟩ barsS _ hS3).mono ?_; rintro e w4 ⟨rfl, hb4⟩; rw [bndA])))
    all_goals go_wp2_with fail
    all_goals go_meet
    all_goals exact ⟨rfl, rfl, Bl.call (Bl.call (Bl.drew hX) hb3) hb4, Lib.hid (((HB.out.drew).keep hb3).keep hb4)⟩
  case rest =>
    clear d1 d2 d3 d4 hB hX
    obtain ⟨rfl, rfl, hX, HB⟩ := hcut
    obtain ⟨d1, d2, d3, d4⟩ := bedB_cells HB.out
    go_upto_region 3 with fail
    go_cut [4, 5, 6] (fun v4 v5 v6 wx => v5 = .int .i64 8 ∧ v6 = .int .i64 0 ∧ (∃ B, RdI B wx v4 [0, 1, 2]) ∧ Below w.heap.size w wx)
    case first =>
      go_region_held3 (fun w' => w'.cell? ⟨w.heap.size, 0, none⟩ = some (.int .i64 20) ∧ w'.cell? ⟨w.heap.size, 1, none⟩ = some (.int .i64 8) ∧ w'.cell? ⟨w.heap.size, 2, none⟩ = some (.int .i64 0) ∧ w'.cell? ⟨w.heap.size, 3, none⟩ = some (.int .i64 0))
        (first
          | go_keep
          | exact ⟨cell_keep hb3 d1, cell_keep hb3 d2, cell_keep hb3 d3, cell_keep hb3 d4⟩
          | exact ⟨cell_keep hb4 (cell_keep hb3 d1), cell_keep hb4 (cell_keep hb3 d2), cell_keep hb4 (cell_keep hb3 d3), cell_keep hb4 (cell_keep hb3 d4)⟩)
        ((first
          | (go_at_call 49; refine (bars_any _).mono ?_; rintro e w3 ⟨A3, rfl, hS3, hb3⟩)
          | (go_at_call 27; refine (best_any _ _ _ ⟨20, 8, 0, 0⟩ barsS _ hS3).mono ?_; rintro e w4 ⟨v4, rfl, hr4, hb4⟩; rw [bestA] at hr4 ⊢)))
      all_goals go_wp2_with fail
      all_goals go_meet
      all_goals exact ⟨rfl, rfl, ⟨_, hr4⟩, Bl.call (Bl.call (Bl.drew hX) hb3) hb4⟩
    case rest =>
      clear d1 d2 d3 d4 HB hX
      obtain ⟨rfl, rfl, hr, hX⟩ := hcut
      obtain ⟨B4, A4, c4, rfl, -, hI4, -⟩ := hr
      have hI4' : InS wc A4 3 [0, 1, 2] := hI4
      clear hI4
      have l3 : ([0, 1, 2] : List Int).length = 3 := rfl
      rw [l3]
      clear l3
      go_upto_region 7 with (first | (go_at_call 49; refine (bars_any _).mono ?_; rintro e w3 ⟨A3, rfl, hS3, hb3⟩) | (go_at_call 27; refine (best_any _ _ _ ⟨7, 8, 0, 0⟩ barsS _ hS3).mono ?_; rintro e w4 ⟨v4, rfl, -, hb4⟩; rw [bestB]) | (go_at_call 24; refine (bound_any none 0 0 ⟨0, 0, 0, 0⟩ [] _ ⟨rfl, Nat.zero_le _, .inl rfl⟩).mono ?_; rintro e w5 ⟨rfl, hb5⟩; rw [bndC]) | (go_at_call 30; refine (orders_any 3 _ (by omega) (by omega)).mono ?_; rintro e w6 ⟨v6, rfl, ho6, hb6⟩; rw [ord3] at ho6))
      obtain ⟨A6, c6, rfl, hc6, hS6, -⟩ := ho6.inss
      have hS6' : InSS w6 A6 6 [[0, 1, 2], [0, 2, 1], [1, 0, 2], [1, 2, 0], [2, 0, 1], [2, 1, 0]] := hS6
      have l6 : ([[0, 1, 2], [0, 2, 1], [1, 0, 2], [1, 2, 0], [2, 0, 1], [2, 1, 0]] : List (List Int)).length = 6 := rfl
      rw [l6]
      clear l6 hS6 ho6 hc6
      have hI6 := hI4'.keep (Bl.call (Bl.call (Bl.call hb3 hb4) hb5) hb6)
      have hX6 := Bl.call hX (Bl.call (Bl.call (Bl.call hb3 hb4) hb5) hb6)
      obtain ⟨b1, o1, Ak, ck, rfl, e1, e2, e3, e4⟩ := hS6'.at_ (show 1 < 6 by omega)
      have e3' : InS w6 Ak 3 [0, 2, 1] := e3
      have e1' : w6.cell? ⟨b1, o1 + 1, none⟩ = some (.slice Ak 3 ck) := e1
      clear e1 e2 e3 e4 hI4' hX hb3 hb4 hb5 hb6
      have hJ6 := hI6.keep (Bl.alloc (Below.refl _ _) (.cells #[.int .i64 0, .int .i64 1, .int .i64 2] 3))
      clear hI6
      have s1 := Lib.hid (show sameI [0, 1, 2] [0, 1, 2] = true by decide)
      have s2 := Lib.hid (show sameI [0, 2, 1] [0, 2, 1] = true by decide)
      go_wp2_with (first | (go_at_call 29; refine (sameInts_any A4 (some ⟨w6.heap.size, 0, none⟩) c4 3 3 3 [0, 1, 2] [0, 1, 2] (w6.alloc (.cells #[.int .i64 0, .int .i64 1, .int .i64 2] 3)) (by omega) hJ6 (rd3 _ _ _ _ _)).mono ?_; clear hJ6; rintro e w7 ⟨rfl, hb7⟩; rw [s1.out]; have f1 := cell_keep (Bl.call (Bl.alloc (Below.refl _ _) _) hb7) e1'; have hK := e3'.keep (Bl.alloc (Bl.call (Bl.alloc (Below.refl _ _) _) hb7) (.cells #[.int .i64 0, .int .i64 2, .int .i64 1] 3))) | (go_at_call 29; refine (sameInts_any Ak (some ⟨w7.heap.size, 0, none⟩) ck 3 3 3 [0, 2, 1] [0, 2, 1] (w7.alloc (.cells #[.int .i64 0, .int .i64 2, .int .i64 1] 3)) (by omega) hK (rd3 _ _ _ _ _)).mono ?_; clear hK; rintro e w8 ⟨rfl, hb8⟩; rw [s2.out]) | (go_at_call 30; refine (orders_any 6 w8 (by omega) (by omega)).mono ?_; rintro e w9 ⟨v9, rfl, ho9, hb9⟩; rw [ord6] at ho9; obtain ⟨A9, c9, rfl, -, -, -⟩ := ho9.inss))
      go_ret
      exact ⟨rfl, Bl.call (Bl.call (Bl.alloc (Bl.call (Bl.alloc hX6 _) hb7) _) hb8) hb9⟩
end Go.Proofs.YtmdncaoilegnnaaGreat

/- Contract of polygon.Box. -/
import Derived.Test.YtjnllehnplenaaaGreatG03
import Derived.Deep.DeepCutAuto
namespace Go.Proofs.YtjnllehnplenaaaGreat
set_option linter.unusedVariables false
set_option linter.unusedSimpArgs false
open Go.RowKit

def loX (l : List (Int × Int)) : Nat → Int | 0 => (gt l 0).1 | k + 1 => if (gt l k).1 < loX l k then (gt l k).1 else loX l k
def loY (l : List (Int × Int)) : Nat → Int | 0 => (gt l 0).2 | k + 1 => if (gt l k).2 < loY l k then (gt l k).2 else loY l k
def hiX (l : List (Int × Int)) : Nat → Int | 0 => (gt l 0).1 | k + 1 => if hiX l k < (gt l k).1 then (gt l k).1 else hiX l k
def hiY (l : List (Int × Int)) : Nat → Int | 0 => (gt l 0).2 | k + 1 => if hiY l k < (gt l k).2 then (gt l k).2 else hiY l k

def BlkS (w : World) (g : Nat) (t : TypeId) (cs : Array Value) : Prop := w.heap[g]? = some (.cells cs t (0, 0))
theorem BlkS.cell {w : World} {g : Nat} {t : TypeId} {cs : Array Value} (h : BlkS w g t cs) (i : Nat) : w.cell? ⟨g, i, none⟩ = cs[i]? := cell_of_row w g i cs t (0, 0) h
theorem BlkS.frozen {w : World} {g : Nat} {t : TypeId} {cs : Array Value} (h : BlkS w g t cs) (i : Nat) : w.frozen? ⟨g, i, none⟩ = false := by
  unfold BlkS at h; simp [World.frozen?, h]

theorem BlkS.lt {w : World} {g : Nat} {t : TypeId} {cs : Array Value} (h : BlkS w g t cs) : g < w.heap.size := by
  rcases Nat.lt_or_ge g w.heap.size with hlt | hge
  · exact hlt
  · unfold BlkS at h; rw [Array.getElem?_eq_none hge] at h; cases h
theorem BlkS.alloc {w : World} {g : Nat} {t : TypeId} {cs : Array Value} (h : BlkS w g t cs) (o : Obj) : BlkS (w.alloc o) g t cs := (Below.heap_alloc w o g h.lt).trans h
theorem BlkS.new (w : World) (t : TypeId) (cs : Array Value) : BlkS (w.alloc (.cells cs t)) w.heap.size t cs := heap_alloc_new w _
theorem BlkS.new2 (w : World) (o : Obj) (t : TypeId) (cs : Array Value) : BlkS ((w.alloc o).alloc (.cells cs t)) (w.heap.size + 1) t cs := by
  have h := BlkS.new (w.alloc o) t cs
  simpa using h
theorem BlkS.drew {w : World} {g : Nat} {t : TypeId} {cs : Array Value} (h : BlkS w g t cs) : BlkS w.drew g t cs := h
theorem BlkS.drewN {w : World} {g : Nat} {t : TypeId} {cs : Array Value} (h : BlkS w g t cs) (n : Nat) : BlkS (w.drewN n) g t cs := h
theorem BlkS.set_ {w : World} {g : Nat} {t : TypeId} {cs : Array Value} (h : BlkS w g t cs) (i : Nat) (u : Value) : BlkS (w.setCell ⟨g, i, none⟩ u) g t (cs.setIfInBounds i u) := by
  unfold BlkS at h ⊢
  simp [World.setCell, Array.getElem?_modify, h]
theorem BlkS.far {w : World} {g : Nat} {t : TypeId} {cs : Array Value} (h : BlkS w g t cs) {p : Addr} (hp : g ≠ p.block) (u : Value) : BlkS (w.setCell p u) g t cs := (Below.heap_setCell w p u g hp).trans h
theorem BlkS.keep {w w' : World} {g : Nat} {t : TypeId} {cs : Array Value} (h : BlkS w g t cs) (hb : Below w.heap.size w w') : BlkS w' g t cs := (hb.block g h.lt).trans h



end Go.Proofs.YtjnllehnplenaaaGreat

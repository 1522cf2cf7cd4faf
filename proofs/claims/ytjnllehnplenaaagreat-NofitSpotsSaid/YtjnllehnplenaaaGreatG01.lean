/- General words and small laws for the walks of this family: frames, a region walked once in every world of the class Below. Plain words on lists and slices. -/
import Derived.Test.YtjnllehnplenaaaGreatRows
import Derived.WalkKit
import Derived.WalkSpells
import Derived.WalkLawsBesides
import Derived.Lib.Hide
import Derived.Deep.QuietTactic
import Derived.BigQuiet
import Derived.IntWalk
namespace Go.Proofs.YtjnllehnplenaaaGreat
set_option linter.unusedVariables false
set_option linter.unusedSimpArgs false
open Go.RowKit

theorem ret_bool {a b : Bool} (h : a = b) : Ending.returned (.bool a) = .returned (.bool b) := by rw [h]
theorem ret_int {k : IntKind} {a b : Int} (h : a = b) : Ending.returned (.int k a) = .returned (.int k b) := by rw [h]

theorem Bl.alloc {a w : World} (h : Below a.heap.size a w) (o : Obj) : Below a.heap.size a (w.alloc o) := Below.alloc h h.size o
theorem Bl.drew {a w : World} (h : Below a.heap.size a w) : Below a.heap.size a w.drew := Below.drew h
theorem Bl.drewN {a w : World} (h : Below a.heap.size a w) (n : Nat) : Below a.heap.size a (w.drewN n) := ⟨h.os, h.tape, h.output, h.size, h.block⟩
theorem Bl.call {a w w2 : World} (h : Below a.heap.size a w) (h2 : Below w.heap.size w w2) : Below a.heap.size a w2 := h.trans (h2.mono h.size)
theorem Bl.set {a w : World} (h : Below a.heap.size a w) {p : Addr} (hp : a.heap.size ≤ p.block) (u : Value) : Below a.heap.size a (w.setCell p u) := Below.setCell h hp u

theorem bcell {W w1 : World} (hb : Below W.heap.size W w1) : (∀ b o, b < W.heap.size → w1.cell? ⟨b, o, none⟩ = W.cell? ⟨b, o, none⟩) ∧ (∀ b o, b < W.heap.size → w1.frozen? ⟨b, o, none⟩ = W.frozen? ⟨b, o, none⟩) :=
  ⟨fun b o h => hb.cell (p := ⟨b, o, none⟩) h, fun b o h => hb.frozen (p := ⟨b, o, none⟩) h⟩

section
variable {P : Program} {ops : Array Oper} {C : World → Prop}

theorem wq_plain {Q : Act → Prop} {a : Act} {o : Oper} {rest : List Oper} (hg : o.guard = none) {v : Value}
    (h1 : ∀ w, C w → o.quietAt P a C w v) (h2 : wpQuiet P ops C Q rest (a.put o.dst v)) : wpQuiet P ops C Q (o :: rest) a := by
  show (if Region.wanted o (yielded ops a.tmps) then o.quiet P a C (wpQuiet P ops C Q rest) else wpQuiet P ops C Q rest (a.put o.dst undef))
  have hw : Region.wanted o (yielded ops a.tmps) = true := by simp [Region.wanted, hg]
  rw [if_pos hw]
  exact ⟨v, h1, h2⟩

theorem wq_yes {Q : Act → Prop} {a : Act} {o : Oper} {rest : List Oper} (hw : Region.wanted o (yielded ops a.tmps) = true) {v : Value}
    (h1 : ∀ w, C w → o.quietAt P a C w v) (h2 : wpQuiet P ops C Q rest (a.put o.dst v)) : wpQuiet P ops C Q (o :: rest) a := by
  show (if Region.wanted o (yielded ops a.tmps) then o.quiet P a C (wpQuiet P ops C Q rest) else wpQuiet P ops C Q rest (a.put o.dst undef))
  rw [if_pos hw]
  exact ⟨v, h1, h2⟩

theorem wq_no {Q : Act → Prop} {a : Act} {o : Oper} {rest : List Oper} (hw : Region.wanted o (yielded ops a.tmps) = false)
    (h2 : wpQuiet P ops C Q rest (a.put o.dst undef)) : wpQuiet P ops C Q (o :: rest) a := by
  show (if Region.wanted o (yielded ops a.tmps) then o.quiet P a C (wpQuiet P ops C Q rest) else wpQuiet P ops C Q rest (a.put o.dst undef))
  rw [if_neg (by rw [hw]; simp)]
  exact h2

/-- The worlds in which nothing below w0's heap has turned and the listed cells hold what is listed. -/
def Cls (w0 : World) (l : List (Addr × Value)) (w : World) : Prop := Below w0.heap.size w0 w ∧ ∀ x ∈ l, w.cell? x.1 = some x.2

theorem lt_of_cell {w : World} {p : Addr} {v : Value} (h : w.cell? p = some v) : p.block < w.heap.size := by
  rcases Nat.lt_or_ge p.block w.heap.size with h1 | h1
  · exact h1
  · simp [World.cell?, Array.getElem?_eq_none h1] at h

theorem cell_keep {w w2 : World} {p : Addr} {v : Value} (hb : Below w.heap.size w w2) (h : w.cell? p = some v) : w2.cell? p = some v :=
  (hb.cell (lt_of_cell h)).trans h

theorem Cls.call {w0 w w2 : World} {l : List (Addr × Value)} (h : Cls w0 l w) (hb : Below w.heap.size w w2) : Cls w0 l w2 :=
  ⟨Bl.call h.1 hb, fun x hx => cell_keep hb (h.2 x hx)⟩

theorem wp_region_cls (w0 : World) (cl : List (Addr × Value)) {id : Nat} {Q : Exit → Act → World → Prop} {a : Act} {w : World} {l : List Oper} (hm : P.follows .mixedOrders = true) (hB : Region.lexB .any l.toArray = true)
    (hC : Cls w0 cl w) (h : wpQuiet P l.toArray (Cls w0 cl) (fun a' => ∀ w', Cls w0 cl w' → Q .normal a' w') l a) : (Code.region id l.toArray true).wp P Q a w :=
  wp_region_quiet (C := Cls w0 cl) hm hB ⟨⟨hC.1.os, hC.1.tape, hC.1.output, hC.1.size, hC.1.block⟩, hC.2⟩ (by simpa using h)

theorem calls_cls {f : FuncId} {args : Array Value} {w0 w : World} {cl : List (Addr × Value)} {v : Value} (hw : Cls w0 cl w)
    (h : Calls P f args w fun e w' => e = .returned v ∧ Below w.heap.size w w') : Calls P f args w fun e w'' => e = .returned v ∧ Cls w0 cl w'' :=
  h.mono fun _ _ ⟨he, hb⟩ => ⟨he, hw.call hb⟩
end

end Go.Proofs.YtjnllehnplenaaaGreat

namespace Go.Proofs.YtjnllehnplenaaaGreat
set_option linter.unusedVariables false
set_option linter.unusedSimpArgs false
open Go.RowKit

def gt (l : List (Int × Int)) (k : Nat) : Int × Int := l.getD k (0, 0)

/-- The slice header A with n elements reads, in w, as the list l of pairs of integers (elements of two cells). -/
def SpS (w : World) (A : Option Addr) (n : Nat) (l : List (Int × Int)) : Prop :=
  l.length = n ∧ (n = 0 ∨ ∃ b off, A = some ⟨b, off, none⟩ ∧ ∀ k, k < n → w.cell? ⟨b, off + k * 2, none⟩ = some (.int .i64 (gt l k).1) ∧ w.cell? ⟨b, off + k * 2 + 1, none⟩ = some (.int .i64 (gt l k).2))

theorem SpS.at_ {w : World} {A : Option Addr} {n : Nat} {l : List (Int × Int)} (h : SpS w A n l) {k : Nat} (hk : k < n) : ∃ b off, A = some ⟨b, off, none⟩ ∧ b < w.heap.size ∧ ∀ k, k < n → w.cell? ⟨b, off + k * 2, none⟩ = some (.int .i64 (gt l k).1) ∧ w.cell? ⟨b, off + k * 2 + 1, none⟩ = some (.int .i64 (gt l k).2) := by
  obtain ⟨h1, h⟩ := h; rcases h with rfl | ⟨b, off, rfl, h⟩
  · omega
  · exact ⟨b, off, rfl, lt_of_cell (h k hk).1, h⟩

theorem SpS.keep {w w' : World} {A : Option Addr} {n : Nat} {l : List (Int × Int)} (h : SpS w A n l) (hb : Below w.heap.size w w') : SpS w' A n l := by
  refine ⟨h.1, ?_⟩
  obtain ⟨h1, h⟩ := h; rcases h with rfl | ⟨b, off, rfl, h⟩
  · exact .inl rfl
  · exact .inr ⟨b, off, rfl, fun k hk => ⟨cell_keep hb (h k hk).1, cell_keep hb (h k hk).2⟩⟩

theorem all_succ {f : Nat → Bool} {k : Nat} (h : (List.range k).all f = true) (h2 : f k = true) : (List.range (k + 1)).all f = true := by
  rw [List.range_succ, List.all_append, h]; simp [h2]
theorem all_not {f : Nat → Bool} {k n : Nat} (hk : k < n) (h2 : f k = false) : (List.range n).all f = false := by
  rw [List.all_eq_false]; exact ⟨k, by simpa using hk, by simp [h2]⟩
theorem any_succ {f : Nat → Bool} {k : Nat} (h : (List.range k).any f = false) (h2 : f k = false) : (List.range (k + 1)).any f = false := by
  rw [List.range_succ, List.any_append, h]; simp [h2]
theorem any_yes {f : Nat → Bool} {k n : Nat} (hk : k < n) (h2 : f k = true) : (List.range n).any f = true := by
  rw [List.any_eq_true]; exact ⟨k, by simpa using hk, h2⟩

/-- The first index below n at which f holds, or -1. -/
def idxOf (f : Nat → Bool) (n : Nat) : Int := match (List.range n).find? f with | some i => (i : Int) | none => -1
def AnyB (f : Nat → Bool) (n : Nat) : Bool := (List.range n).any f
def AllB (f : Nat → Bool) (n : Nat) : Bool := (List.range n).all f
theorem AllB.zero (f : Nat → Bool) : AllB f 0 = true := rfl
theorem AnyB.zero (f : Nat → Bool) : AnyB f 0 = false := rfl
theorem AllB.succ {f : Nat → Bool} {k : Nat} (h : AllB f k = true) (h2 : f k = true) : AllB f (k + 1) = true := all_succ h h2
theorem AllB.no {f : Nat → Bool} {k n : Nat} (hk : k < n) (h2 : f k = false) : AllB f n = false := all_not hk h2
theorem AnyB.succ {f : Nat → Bool} {k : Nat} (h : AnyB f k = false) (h2 : f k = false) : AnyB f (k + 1) = false := any_succ h h2
theorem AnyB.yes {f : Nat → Bool} {k n : Nat} (hk : k < n) (h2 : f k = true) : AnyB f n = true := any_yes hk h2

theorem idxOf_none {f : Nat → Bool} {n : Nat} (h : AnyB f n = false) : idxOf f n = -1 := by
  unfold idxOf
  have : (List.range n).find? f = none := by
    rw [List.find?_eq_none]; intro x hx hf
    have := (List.any_eq_false.1 h) x hx
    exact this hf
  rw [this]

theorem idxOf_at {f : Nat → Bool} {k n : Nat} (hk : k < n) (h : AnyB f k = false) (h2 : f k = true) : idxOf f n = k := by
  unfold idxOf
  have : (List.range n).find? f = some k := by
    have e : List.range n = List.range k ++ (List.range' k (n - k)) := by
      have h := List.range'_append_1 (s := 0) (m := k) (n := n - k)
      rw [List.range_eq_range', List.range_eq_range', show n = k + (n - k) by omega, ← h]; simp
    rw [e, List.find?_append]
    have h3 : (List.range k).find? f = none := by
      rw [List.find?_eq_none]; intro x hx hf
      exact (List.any_eq_false.1 h) x hx hf
    rw [h3]
    obtain ⟨m, hm⟩ : ∃ m, n - k = m + 1 := ⟨n - k - 1, by omega⟩
    rw [hm, List.range'_succ]
    simp [h2]
  rw [this]

theorem idxOf_any (f : Nat → Bool) (n : Nat) : decide (0 ≤ idxOf f n) = AnyB f n := by
  unfold idxOf AnyB
  cases h : (List.range n).find? f with
  | none =>
    rw [List.find?_eq_none] at h
    have : (List.range n).any f = false := by rw [List.any_eq_false]; intro x hx; simpa using h x hx
    simp [this]
  | some i =>
    have h1 := List.find?_some h
    have h2 := List.mem_of_find?_eq_some h
    have : (List.range n).any f = true := List.any_eq_true.2 ⟨i, h2, h1⟩
    simp [this]

theorem AllB.mono {f : Nat → Bool} {k n : Nat} (h : AllB f k = true) (hn : n ≤ k) : AllB f n = true := by
  unfold AllB at *
  rw [List.all_eq_true] at *
  intro x hx; exact h x (by simp at *; omega)
theorem AllB.start {f : Nat → Bool} {k : Nat} (h : ∀ i, i < k → f i = true) : AllB f k = true := by
  unfold AllB; rw [List.all_eq_true]; intro x hx; exact h x (by simpa using hx)
theorem AllB.iff {f : Nat → Bool} {k : Nat} : AllB f k = true ↔ ∀ i, i < k → f i = true := by
  unfold AllB; rw [List.all_eq_true]; simp
theorem AnyB.iff {f : Nat → Bool} {k : Nat} : AnyB f k = true ↔ ∃ i, i < k ∧ f i = true := by
  unfold AnyB; rw [List.any_eq_true]; simp

theorem gt_take {l : List (Int × Int)} {i k : Nat} (h : k < i) : gt (l.take i) k = gt l k := by
  unfold gt; simp [List.getD, List.getElem?_take, h]

theorem SpS.take {w : World} {A : Option Addr} {n : Nat} {l : List (Int × Int)} (h : SpS w A n l) {i : Nat} (hi : i ≤ n) : SpS w A i (l.take i) := by
  refine ⟨by rw [List.length_take, h.1]; omega, ?_⟩
  obtain ⟨h1, h⟩ := h; rcases h with rfl | ⟨b, off, rfl, h⟩
  · exact .inl (by omega)
  · refine .inr ⟨b, off, rfl, fun k hk => ?_⟩
    rw [gt_take hk]
    exact h k (by omega)

theorem AnyB.congr {f g : Nat → Bool} {n : Nat} (h : ∀ i, i < n → f i = g i) : AnyB f n = AnyB g n := by
  rw [Bool.eq_iff_iff, AnyB.iff, AnyB.iff]
  exact ⟨fun ⟨i, h1, h2⟩ => ⟨i, h1, by rw [← h i h1]; exact h2⟩, fun ⟨i, h1, h2⟩ => ⟨i, h1, by rw [h i h1]; exact h2⟩⟩
theorem AllB.congr {f g : Nat → Bool} {n : Nat} (h : ∀ i, i < n → f i = g i) : AllB f n = AllB g n := by
  rw [Bool.eq_iff_iff, AllB.iff, AllB.iff]
  exact ⟨fun h1 i hi => by rw [← h i hi]; exact h1 i hi, fun h1 i hi => by rw [h i hi]; exact h1 i hi⟩
theorem SpS.cells {w : World} {b off n : Nat} {l : List (Int × Int)} (h : SpS w (some ⟨b, off, none⟩) n l) {k : Nat} (hk : k < n) : w.cell? ⟨b, off + k * 2, none⟩ = some (.int .i64 (gt l k).1) ∧ w.cell? ⟨b, off + k * 2 + 1, none⟩ = some (.int .i64 (gt l k).2) := by
  obtain ⟨h1, h⟩ := h; rcases h with rfl | ⟨b', off', e, h⟩
  · omega
  · injection e with e
    injection e with e1 e2
    subst e1 e2
    exact h k hk

theorem wrap_in (z : Int) (h1 : -9223372036854775808 ≤ z) (h2 : z ≤ 9223372036854775807) : IntKind.i64.wrap z = z := IntWalk.i64_in z ⟨h1, h2⟩
theorem wrap_add (k c : Nat) (h : k + c ≤ 1000000000000) : IntKind.i64.wrap ((k : Int) + (c : Int)) = (k : Int) + (c : Int) := wrap_in _ (by omega) (by omega)
theorem tmod1 (k n : Nat) : ((k : Int) + 1).tmod (n : Int) = (((k + 1) % n : Nat) : Int) := by
  rw [show ((k : Int) + 1) = ((k + 1 : Nat) : Int) by omega, Int.ofNat_tmod]
theorem tmod2 (k n : Nat) : ((k : Int) + 2).tmod (n : Int) = (((k + 2) % n : Nat) : Int) := by
  rw [show ((k : Int) + 2) = ((k + 2 : Nat) : Int) by omega, Int.ofNat_tmod]
theorem emod1 (k n : Nat) : ((k : Int) + 1) % (n : Int) = (((k + 1) % n : Nat) : Int) := by
  rw [Int.natCast_emod]; rfl
theorem emod2 (k n : Nat) : ((k : Int) + 2) % (n : Int) = (((k + 2) % n : Nat) : Int) := by
  rw [Int.natCast_emod]; rfl
theorem modf (z : Int) (a n : Nat) (hz : z = (a : Int)) (hn : 0 < n) : z.tmod (n : Int) = z % (n : Int) ∧ 0 ≤ z % (n : Int) ∧ z % (n : Int) < (n : Int) ∧ (z % (n : Int)).toNat = a % n := by
  subst hz
  refine ⟨by rw [← Int.ofNat_tmod, Int.natCast_emod], Int.emod_nonneg _ (by omega), Int.emod_lt_of_pos _ (by omega), ?_⟩
  rw [← Int.natCast_emod, Int.toNat_natCast]
theorem beq0 {n : Nat} (h : 0 < n) : ((n : Int) == 0) = false := by
  rw [beq_eq_false_iff_ne]; omega

end Go.Proofs.YtjnllehnplenaaaGreat

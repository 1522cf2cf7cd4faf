/- General words and small laws for the walks of this family: frames, a region walked once in every world of the class Below. Plain words on lists and slices. Contracts of the small geometric functions: outside, cross, on, parted, folded, meet. '==' and '!=' at spots. Contracts of slices.IndexFunc, ContainsFunc, Index, Contains at spots. Contracts of polygon.simple and polygon.Check. Contracts of polygon.Check, area, Area2, bend. -/
import Derived.Test.YtmdncaoilegnnaaGreatRows
import Derived.WalkKit
import Derived.WalkSpells
import Derived.WalkLawsBesides
import Derived.Lib.Hide
import Derived.Deep.QuietTactic
import Derived.BigQuiet
import Derived.IntWalk
import Derived.Laws.StructEq
namespace Go.Proofs.YtmdncaoilegnnaaGreat
set_option linter.unusedVariables false
set_option linter.unusedSimpArgs false
set_option linter.unusedVariables false
set_option linter.unusedSimpArgs false
open Go.RowKit

theorem ret_bool {a b : Bool} (h : a = b) : Ending.returned (.bool a) = .returned (.bool b) := by rw [h]
theorem ret_int {k : IntKind} {a b : Int} (h : a = b) : Ending.returned (.int k a) = .returned (.int k b) := by rw [h]
theorem Bl.alloc {a w : World} (h : Below a.heap.size a w) (o : Obj) : Below a.heap.size a (w.alloc o) := Below.alloc h h.size o
theorem Bl.drew {a w : World} (h : Below a.heap.size a w) : Below a.heap.size a w.drew := Below.drew h
theorem Bl.drewN {a w : World} (h : Below a.heap.size a w) (n : Nat) : Below a.heap.size a (w.drewN n) := ⟨h.os, h.tape, h.output, h.size, h.block⟩
theorem Bl.call {a w w2 : World} (h : Below a.heap.size a w) (h2 : Below w.heap.size w w2) : Below a.heap.size a w2 := h.trans (h2.mono h.size)
theorem Bl.set {a w : World} (h : Below a.heap.size a w) {p : Addr} (hp : a.heap.size ≤ p.block) (u : Value) : Below a.heap.size a (w.setCell p u) := Below.setCell h hp u
theorem bcell {W w1 : World} (hb : Below W.heap.size W w1) : (∀ b o, b < W.heap.size → w1.cell? ⟨b, o, none⟩ = W.cell? ⟨b, o, none⟩) ∧ (∀ b o, b < W.heap.size → w1.frozen? ⟨b, o, none⟩ = W.frozen? ⟨b, o, none⟩) :=
  ⟨fun b o h => hb.cell (p := ⟨b, o, none⟩) h, fun b o h => hb.frozen (p := ⟨b, o, none⟩) h⟩
section
variable {P : Program} {ops : Array Oper} {C : World → Prop}

theorem wq_plain {Q : Act → Prop} {a : Act} {o : Oper} {rest : List Oper} (hg : o.guard = none) {v : Value}
    (h1 : ∀ w, C w → o.quietAt P a C w v) (h2 : wpQuiet P ops C Q rest (a.put o.dst v)) : wpQuiet P ops C Q (o :: rest) a := by
  show (if Region.wanted o (yielded ops a.tmps) then o.quiet P a C (wpQuiet P ops C Q rest) else wpQuiet P ops C Q rest (a.put o.dst undef))
  have hw : Region.wanted o (yielded ops a.tmps) = true := by simp [Region.wanted, hg]
  rw [if_pos hw]
  exact ⟨v, h1, h2⟩
/-- The worlds in which nothing below w0's heap has turned and the listed cells hold what is listed. -/
def Cls (w0 : World) (l : List (Addr × Value)) (w : World) : Prop := Below w0.heap.size w0 w ∧ ∀ x ∈ l, w.cell? x.1 = some x.2
theorem lt_of_cell {w : World} {p : Addr} {v : Value} (h : w.cell? p = some v) : p.block < w.heap.size := by
  rcases Nat.lt_or_ge p.block w.heap.size with h1 | h1
  · exact h1
  · simp [World.cell?, Array.getElem?_eq_none h1] at h
theorem cell_keep {w w2 : World} {p : Addr} {v : Value} (hb : Below w.heap.size w w2) (h : w.cell? p = some v) : w2.cell? p = some v :=
  (hb.cell (lt_of_cell h)).trans h
theorem Cls.call {w0 w w2 : World} {l : List (Addr × Value)} (h : Cls w0 l w) (hb : Below w.heap.size w w2) : Cls w0 l w2 :=
  ⟨Bl.call h.1 hb, fun x hx => cell_keep hb (h.2 x hx)⟩
theorem wp_region_cls (w0 : World) (cl : List (Addr × Value)) {id : Nat} {Q : Exit → Act → World → Prop} {a : Act} {w : World} {l : List Oper} (hm : P.follows .mixedOrders = true) (hB : Region.lexB .any l.toArray = true)
    (hC : Cls w0 cl w) (h : wpQuiet P l.toArray (Cls w0 cl) (fun a' => ∀ w', Cls w0 cl w' → Q .normal a' w') l a) : (Code.region id l.toArray true).wp P Q a w :=
  wp_region_quiet (C := Cls w0 cl) hm hB ⟨⟨hC.1.os, hC.1.tape, hC.1.output, hC.1.size, hC.1.block⟩, hC.2⟩ (by simpa using h)
theorem calls_cls {f : FuncId} {args : Array Value} {w0 w : World} {cl : List (Addr × Value)} {v : Value} (hw : Cls w0 cl w)
    (h : Calls P f args w fun e w' => e = .returned v ∧ Below w.heap.size w w') : Calls P f args w fun e w'' => e = .returned v ∧ Cls w0 cl w'' :=
  h.mono fun _ _ ⟨he, hb⟩ => ⟨he, hw.call hb⟩
end

end Go.Proofs.YtmdncaoilegnnaaGreat

namespace Go.Proofs.YtmdncaoilegnnaaGreat
set_option linter.unusedVariables false
set_option linter.unusedSimpArgs false
set_option linter.unusedVariables false
set_option linter.unusedSimpArgs false
open Go.RowKit

def gt (l : List (Int × Int)) (k : Nat) : Int × Int := l.getD k (0, 0)
/-- The slice header A with n elements reads, in w, as the list l of pairs of integers (elements of two cells). -/
def SpS (w : World) (A : Option Addr) (n : Nat) (l : List (Int × Int)) : Prop :=
  l.length = n ∧ (n = 0 ∨ ∃ b off, A = some ⟨b, off, none⟩ ∧ ∀ k, k < n → w.cell? ⟨b, off + k * 2, none⟩ = some (.int .i64 (gt l k).1) ∧ w.cell? ⟨b, off + k * 2 + 1, none⟩ = some (.int .i64 (gt l k).2))
theorem SpS.at_ {w : World} {A : Option Addr} {n : Nat} {l : List (Int × Int)} (h : SpS w A n l) {k : Nat} (hk : k < n) : ∃ b off, A = some ⟨b, off, none⟩ ∧ b < w.heap.size ∧ ∀ k, k < n → w.cell? ⟨b, off + k * 2, none⟩ = some (.int .i64 (gt l k).1) ∧ w.cell? ⟨b, off + k * 2 + 1, none⟩ = some (.int .i64 (gt l k).2) := by
  obtain ⟨h1, h⟩ := h; rcases h with rfl | ⟨b, off, rfl, h⟩
  · omega
  · exact ⟨b, off, rfl, lt_of_cell (h k hk).1, h⟩
theorem SpS.keep {w w' : World} {A : Option Addr} {n : Nat} {l : List (Int × Int)} (h : SpS w A n l) (hb : Below w.heap.size w w') : SpS w' A n l := by
  refine ⟨h.1, ?_⟩
  obtain ⟨h1, h⟩ := h; rcases h with rfl | ⟨b, off, rfl, h⟩
  · exact .inl rfl
  · exact .inr ⟨b, off, rfl, fun k hk => ⟨cell_keep hb (h k hk).1, cell_keep hb (h k hk).2⟩⟩
theorem all_succ {f : Nat → Bool} {k : Nat} (h : (List.range k).all f = true) (h2 : f k = true) : (List.range (k + 1)).all f = true := by
  rw [List.range_succ, List.all_append, h]; simp [h2]
theorem all_not {f : Nat → Bool} {k n : Nat} (hk : k < n) (h2 : f k = false) : (List.range n).all f = false := by
  rw [List.all_eq_false]; exact ⟨k, by simpa using hk, by simp [h2]⟩
theorem any_succ {f : Nat → Bool} {k : Nat} (h : (List.range k).any f = false) (h2 : f k = false) : (List.range (k + 1)).any f = false := by
  rw [List.range_succ, List.any_append, h]; simp [h2]
theorem any_yes {f : Nat → Bool} {k n : Nat} (hk : k < n) (h2 : f k = true) : (List.range n).any f = true := by
  rw [List.any_eq_true]; exact ⟨k, by simpa using hk, h2⟩
/-- The first index below n at which f holds, or -1. -/
def idxOf (f : Nat → Bool) (n : Nat) : Int := match (List.range n).find? f with | some i => (i : Int) | none => -1
def AnyB (f : Nat → Bool) (n : Nat) : Bool := (List.range n).any f
def AllB (f : Nat → Bool) (n : Nat) : Bool := (List.range n).all f
theorem AllB.zero (f : Nat → Bool) : AllB f 0 = true := rfl
theorem AnyB.zero (f : Nat → Bool) : AnyB f 0 = false := rfl
theorem AllB.succ {f : Nat → Bool} {k : Nat} (h : AllB f k = true) (h2 : f k = true) : AllB f (k + 1) = true := all_succ h h2
theorem AllB.no {f : Nat → Bool} {k n : Nat} (hk : k < n) (h2 : f k = false) : AllB f n = false := all_not hk h2
theorem AnyB.succ {f : Nat → Bool} {k : Nat} (h : AnyB f k = false) (h2 : f k = false) : AnyB f (k + 1) = false := any_succ h h2
theorem AnyB.yes {f : Nat → Bool} {k n : Nat} (hk : k < n) (h2 : f k = true) : AnyB f n = true := any_yes hk h2
theorem idxOf_none {f : Nat → Bool} {n : Nat} (h : AnyB f n = false) : idxOf f n = -1 := by
  unfold idxOf
  have : (List.range n).find? f = none := by
    rw [List.find?_eq_none]; intro x hx hf
    have := (List.any_eq_false.1 h) x hx
    exact this hf
  rw [this]
theorem idxOf_at {f : Nat → Bool} {k n : Nat} (hk : k < n) (h : AnyB f k = false) (h2 : f k = true) : idxOf f n = k := by
  unfold idxOf
  have : (List.range n).find? f = some k := by
    have e : List.range n = List.range k ++ (List.range' k (n - k)) := by
      have h := List.range'_append_1 (s := 0) (m := k) (n := n - k)
      rw [List.range_eq_range', List.range_eq_range', show n = k + (n - k) by omega, ← h]; simp
    rw [e, List.find?_append]
    have h3 : (List.range k).find? f = none := by
      rw [List.find?_eq_none]; intro x hx hf
      exact (List.any_eq_false.1 h) x hx hf
    rw [h3]
    obtain ⟨m, hm⟩ : ∃ m, n - k = m + 1 := ⟨n - k - 1, by omega⟩
    rw [hm, List.range'_succ]
    simp [h2]
  rw [this]
theorem idxOf_any (f : Nat → Bool) (n : Nat) : decide (0 ≤ idxOf f n) = AnyB f n := by
  unfold idxOf AnyB
  cases h : (List.range n).find? f with
  | none =>
    rw [List.find?_eq_none] at h
    have : (List.range n).any f = false := by rw [List.any_eq_false]; intro x hx; simpa using h x hx
    simp [this]
  | some i =>
    have h1 := List.find?_some h
    have h2 := List.mem_of_find?_eq_some h
    have : (List.range n).any f = true := List.any_eq_true.2 ⟨i, h2, h1⟩
    simp [this]
theorem AllB.mono {f : Nat → Bool} {k n : Nat} (h : AllB f k = true) (hn : n ≤ k) : AllB f n = true := by
  unfold AllB at *
  rw [List.all_eq_true] at *
  intro x hx; exact h x (by simp at *; omega)
theorem AllB.start {f : Nat → Bool} {k : Nat} (h : ∀ i, i < k → f i = true) : AllB f k = true := by
  unfold AllB; rw [List.all_eq_true]; intro x hx; exact h x (by simpa using hx)
theorem AllB.iff {f : Nat → Bool} {k : Nat} : AllB f k = true ↔ ∀ i, i < k → f i = true := by
  unfold AllB; rw [List.all_eq_true]; simp
theorem AnyB.iff {f : Nat → Bool} {k : Nat} : AnyB f k = true ↔ ∃ i, i < k ∧ f i = true := by
  unfold AnyB; rw [List.any_eq_true]; simp
theorem gt_take {l : List (Int × Int)} {i k : Nat} (h : k < i) : gt (l.take i) k = gt l k := by
  unfold gt; simp [List.getD, List.getElem?_take, h]
theorem SpS.take {w : World} {A : Option Addr} {n : Nat} {l : List (Int × Int)} (h : SpS w A n l) {i : Nat} (hi : i ≤ n) : SpS w A i (l.take i) := by
  refine ⟨by rw [List.length_take, h.1]; omega, ?_⟩
  obtain ⟨h1, h⟩ := h; rcases h with rfl | ⟨b, off, rfl, h⟩
  · exact .inl (by omega)
  · refine .inr ⟨b, off, rfl, fun k hk => ?_⟩
    rw [gt_take hk]
    exact h k (by omega)
theorem AnyB.congr {f g : Nat → Bool} {n : Nat} (h : ∀ i, i < n → f i = g i) : AnyB f n = AnyB g n := by
  rw [Bool.eq_iff_iff, AnyB.iff, AnyB.iff]
  exact ⟨fun ⟨i, h1, h2⟩ => ⟨i, h1, by rw [← h i h1]; exact h2⟩, fun ⟨i, h1, h2⟩ => ⟨i, h1, by rw [h i h1]; exact h2⟩⟩
theorem AllB.congr {f g : Nat → Bool} {n : Nat} (h : ∀ i, i < n → f i = g i) : AllB f n = AllB g n := by
  rw [Bool.eq_iff_iff, AllB.iff, AllB.iff]
  exact ⟨fun h1 i hi => by rw [← h i hi]; exact h1 i hi, fun h1 i hi => by rw [h i hi]; exact h1 i hi⟩
theorem SpS.cells {w : World} {b off n : Nat} {l : List (Int × Int)} (h : SpS w (some ⟨b, off, none⟩) n l) {k : Nat} (hk : k < n) : w.cell? ⟨b, off + k * 2, none⟩ = some (.int .i64 (gt l k).1) ∧ w.cell? ⟨b, off + k * 2 + 1, none⟩ = some (.int .i64 (gt l k).2) := by
  obtain ⟨h1, h⟩ := h; rcases h with rfl | ⟨b', off', e, h⟩
  · omega
  · injection e with e
    injection e with e1 e2
    subst e1 e2
    exact h k hk
theorem wrap_in (z : Int) (h1 : -9223372036854775808 ≤ z) (h2 : z ≤ 9223372036854775807) : IntKind.i64.wrap z = z := IntWalk.i64_in z ⟨h1, h2⟩
theorem wrap_add (k c : Nat) (h : k + c ≤ 1000000000000) : IntKind.i64.wrap ((k : Int) + (c : Int)) = (k : Int) + (c : Int) := wrap_in _ (by omega) (by omega)
theorem emod1 (k n : Nat) : ((k : Int) + 1) % (n : Int) = (((k + 1) % n : Nat) : Int) := by
  rw [Int.natCast_emod]; rfl
theorem modf (z : Int) (a n : Nat) (hz : z = (a : Int)) (hn : 0 < n) : z.tmod (n : Int) = z % (n : Int) ∧ 0 ≤ z % (n : Int) ∧ z % (n : Int) < (n : Int) ∧ (z % (n : Int)).toNat = a % n := by
  subst hz
  refine ⟨by rw [← Int.ofNat_tmod, Int.natCast_emod], Int.emod_nonneg _ (by omega), Int.emod_lt_of_pos _ (by omega), ?_⟩
  rw [← Int.natCast_emod, Int.toNat_natCast]
end Go.Proofs.YtmdncaoilegnnaaGreat

namespace Go.Proofs.YtmdncaoilegnnaaGreat
set_option linter.unusedVariables false
set_option linter.unusedSimpArgs false
set_option linter.unusedVariables false
set_option linter.unusedSimpArgs false
open Go.RowKit

def crossW (a b c : Int × Int) : Int := wrap64 (wrap64 (wrap64 (b.1 - a.1) * wrap64 (c.2 - a.2)) - wrap64 (wrap64 (b.2 - a.2) * wrap64 (c.1 - a.1)))
def outB (M : Int) (s : Int × Int) : Bool := decide (s.1 < -M) || decide (s.1 > M) || decide (s.2 < -M) || decide (s.2 > M)
def cmpI (x y : Int) : Int := if x < y then -1 else if x > y then 1 else 0
def partedW (a b c d : Int × Int) : Bool := decide (IntKind.i64.wrap (cmpI (crossW a b c) 0 * cmpI (crossW a b d) 0) < 0)
def onW (a b p : Int × Int) : Bool := (crossW a b p == 0) && decide (min a.1 b.1 ≤ p.1) && decide (p.1 ≤ max a.1 b.1) && decide (min a.2 b.2 ≤ p.2) && decide (p.2 ≤ max a.2 b.2)
set_option maxHeartbeats 400000 in
theorem cross_any (ax ay bx bY cx cy : Int) (w : World) :
    Calls Tryz.prog 179 #[.agg #[.int .i64 ax, .int .i64 ay], .agg #[.int .i64 bx, .int .i64 bY], .agg #[.int .i64 cx, .int .i64 cy]] w fun e w' => e = .returned (.int .i64 (crossW (ax, ay) (bx, bY) (cx, cy))) ∧ Below w.heap.size w w' := by
  go_enter Tryz.func179, Tryz.ntmps179
  go_wp2
  go_ret
  exact ⟨rfl, Bl.alloc (Bl.alloc (Bl.alloc (Below.refl _ _) _) _) _⟩
set_option maxHeartbeats 400000 in
theorem outside_any (ax ay : Int) (w : World) :
    Calls Tryz.prog 106 #[.agg #[.int .i64 ax, .int .i64 ay]] w fun e w' => e = .returned (.bool (outB 1048576 (ax, ay))) ∧ Below w.heap.size w w' := by
  go_enter Tryz.func106, Tryz.ntmps106
  go_wp2
  all_goals go_ret
  all_goals exact ⟨ret_bool (by simp [outB] <;> omega), Bl.alloc (Below.refl _ _) _⟩
set_option maxHeartbeats 400000 in
theorem isNaN_any (x : Int) (w : World) : Calls Tryz.prog 111 #[.int .i64 x] w fun e w' => e = .returned (.bool false) ∧ w = w' := by
  go_enter Tryz.func111, Tryz.ntmps111
  go_wp2
  all_goals go_ret
  all_goals exact ⟨by simp, rfl⟩
set_option maxHeartbeats 400000 in
theorem compare_any (x y : Int) (w : World) : Calls Tryz.prog 80 #[.int .i64 x, .int .i64 y] w fun e w' => e = .returned (.int .i64 (cmpI x y)) ∧ Below w.heap.size w w' := by
  go_enter Tryz.func80, Tryz.ntmps80
  go_wp2_with (go_at_call 111; refine (isNaN_any _ _).mono ?_; rintro e w' ⟨rfl, rfl⟩)
  all_goals go_ret
  all_goals exact ⟨ret_int (by unfold cmpI; (repeat split) <;> omega), Below.refl _ _⟩
set_option maxHeartbeats 400000 in
theorem parted_any (ax ay bx bY cx cy dx dy : Int) (w : World) :
    Calls Tryz.prog 181 #[.agg #[.int .i64 ax, .int .i64 ay], .agg #[.int .i64 bx, .int .i64 bY], .agg #[.int .i64 cx, .int .i64 cy], .agg #[.int .i64 dx, .int .i64 dy]] w fun e w' => e = .returned (.bool (partedW (ax, ay) (bx, bY) (cx, cy) (dx, dy))) ∧ Below w.heap.size w w' := by
  go_enter Tryz.func181, Tryz.ntmps181
  go_wp2_with fail
  refine wp_region_cls w [(⟨w.heap.size, 0, none⟩, .int .i64 ax), (⟨w.heap.size, 1, none⟩, .int .i64 ay), (⟨w.heap.size + 1, 0, none⟩, .int .i64 bx), (⟨w.heap.size + 1, 1, none⟩, .int .i64 bY), (⟨w.heap.size + 1 + 1, 0, none⟩, .int .i64 cx), (⟨w.heap.size + 1 + 1, 1, none⟩, .int .i64 cy), (⟨w.heap.size + 1 + 1 + 1, 0, none⟩, .int .i64 dx), (⟨w.heap.size + 1 + 1 + 1, 1, none⟩, .int .i64 dy)] (by kernel_rfl) (by kernel_rfl) ⟨(Bl.alloc (Bl.alloc (Bl.alloc (Bl.alloc (Below.refl _ _) _) _) _) _), by simp only [List.mem_cons, List.not_mem_nil, forall_eq_or_imp, or_false, forall_eq]; go_simp⟩ ?_
  repeat
    apply wq_plain
    · rfl
    · intro w1 hw1
      have hx := hw1.2
      simp only [List.mem_cons, List.not_mem_nil, forall_eq_or_imp, or_false, forall_eq] at hx
      go_simp
      first | rfl | exact calls_cls hw1 (cross_any _ _ _ _ _ _ _) | exact calls_cls hw1 (compare_any _ _ _)
    go_simp
  refine wpQuiet_nil ?_
  intro w1 hCw1
  have hb := hCw1.1
  clear hCw1
  go_wp2
  go_ret
  exact ⟨rfl, hb⟩
set_option maxHeartbeats 1000000 in
theorem on_any (ax ay bx bY cx cy : Int) (w : World) :
    Calls Tryz.prog 180 #[.agg #[.int .i64 ax, .int .i64 ay], .agg #[.int .i64 bx, .int .i64 bY], .agg #[.int .i64 cx, .int .i64 cy]] w fun e w' => e = .returned (.bool (onW (ax, ay) (bx, bY) (cx, cy))) ∧ Below w.heap.size w w' := by
  go_enter Tryz.func180, Tryz.ntmps180
  go_wp2_with (go_at_call 179; refine (cross_any _ _ _ _ _ _ _).mono ?_; rintro e w1 ⟨rfl, hb⟩; obtain ⟨hc, hf⟩ := bcell hb)
  all_goals go_ret
  all_goals refine ⟨ret_bool ?_, Bl.call (Bl.alloc (Bl.alloc (Bl.alloc (Below.refl _ _) _) _) _) (by assumption)⟩
  all_goals clear hb hc hf
  all_goals (rw [Bool.eq_iff_iff]; simp [onW]; try omega)
def foldedW (a b c : Int × Int) : Bool := (crossW a b c == 0) && decide (wrap64 (wrap64 (wrap64 (a.1 - b.1) * wrap64 (c.1 - b.1)) + wrap64 (wrap64 (a.2 - b.2) * wrap64 (c.2 - b.2))) > 0)
def meetW (a b c d : Int × Int) : Bool := onW a b c || onW a b d || onW c d a || onW c d b || (partedW a b c d && partedW c d a b)
set_option maxHeartbeats 1000000 in
theorem folded_any (ax ay bx bY cx cy : Int) (w : World) :
    Calls Tryz.prog 145 #[.agg #[.int .i64 ax, .int .i64 ay], .agg #[.int .i64 bx, .int .i64 bY], .agg #[.int .i64 cx, .int .i64 cy]] w fun e w' => e = .returned (.bool (foldedW (ax, ay) (bx, bY) (cx, cy))) ∧ Below w.heap.size w w' := by
  go_enter Tryz.func145, Tryz.ntmps145
  go_wp2_with (go_at_call 179; refine (cross_any _ _ _ _ _ _ _).mono ?_; rintro e w1 ⟨rfl, hb⟩; obtain ⟨hc, hf⟩ := bcell hb)
  all_goals go_ret
  all_goals refine ⟨ret_bool ?_, Bl.call (Bl.alloc (Bl.alloc (Bl.alloc (Below.refl _ _) _) _) _) (by assumption)⟩
  all_goals clear hb hc hf
  all_goals (rw [Bool.eq_iff_iff]; simp [foldedW]; try omega)
set_option maxHeartbeats 2000000 in
theorem meet_any (ax ay bx bY cx cy dx dy : Int) (w : World) :
    Calls Tryz.prog 146 #[.agg #[.int .i64 ax, .int .i64 ay], .agg #[.int .i64 bx, .int .i64 bY], .agg #[.int .i64 cx, .int .i64 cy], .agg #[.int .i64 dx, .int .i64 dy]] w fun e w' => e = .returned (.bool (meetW (ax, ay) (bx, bY) (cx, cy) (dx, dy))) ∧ Below w.heap.size w w' := by
  go_enter Tryz.func146, Tryz.ntmps146
  go_wp2_with (first | (go_at_call 180; refine (on_any _ _ _ _ _ _ _).mono ?_; rintro e w1 ⟨rfl, hb⟩; (first | (have hC := Cls.call hC hb) | (have hC : Cls w [(⟨w.heap.size, 0, none⟩, .int .i64 ax), (⟨w.heap.size, 1, none⟩, .int .i64 ay), (⟨w.heap.size + 1, 0, none⟩, .int .i64 bx), (⟨w.heap.size + 1, 1, none⟩, .int .i64 bY), (⟨w.heap.size + 1 + 1, 0, none⟩, .int .i64 cx), (⟨w.heap.size + 1 + 1, 1, none⟩, .int .i64 cy), (⟨w.heap.size + 1 + 1 + 1, 0, none⟩, .int .i64 dx), (⟨w.heap.size + 1 + 1 + 1, 1, none⟩, .int .i64 dy)] w1 := Cls.call ⟨(Bl.alloc (Bl.alloc (Bl.alloc (Bl.alloc (Below.refl _ _) _) _) _) _), by simp only [List.mem_cons, List.not_mem_nil, forall_eq_or_imp, or_false, forall_eq]; go_simp⟩ hb)); clear hb; have hx := hC.2; simp only [List.mem_cons, List.not_mem_nil, forall_eq_or_imp, or_false, forall_eq] at hx) | (go_at_call 181; refine (parted_any _ _ _ _ _ _ _ _ _).mono ?_; rintro e w1 ⟨rfl, hb⟩; (first | (have hC := Cls.call hC hb) | (have hC : Cls w [(⟨w.heap.size, 0, none⟩, .int .i64 ax), (⟨w.heap.size, 1, none⟩, .int .i64 ay), (⟨w.heap.size + 1, 0, none⟩, .int .i64 bx), (⟨w.heap.size + 1, 1, none⟩, .int .i64 bY), (⟨w.heap.size + 1 + 1, 0, none⟩, .int .i64 cx), (⟨w.heap.size + 1 + 1, 1, none⟩, .int .i64 cy), (⟨w.heap.size + 1 + 1 + 1, 0, none⟩, .int .i64 dx), (⟨w.heap.size + 1 + 1 + 1, 1, none⟩, .int .i64 dy)] w1 := Cls.call ⟨(Bl.alloc (Bl.alloc (Bl.alloc (Bl.alloc (Below.refl _ _) _) _) _) _), by simp only [List.mem_cons, List.not_mem_nil, forall_eq_or_imp, or_false, forall_eq]; go_simp⟩ hb)); clear hb; have hx := hC.2; simp only [List.mem_cons, List.not_mem_nil, forall_eq_or_imp, or_false, forall_eq] at hx))
  all_goals go_ret
  all_goals refine ⟨ret_bool ?_, hC.1⟩
  all_goals clear hx hC
  all_goals (rw [Bool.eq_iff_iff]; simp [meetW, *])
end Go.Proofs.YtmdncaoilegnnaaGreat

namespace Go.Proofs.YtmdncaoilegnnaaGreat
set_option linter.unusedVariables false
set_option linter.unusedSimpArgs false
set_option linter.unusedVariables false
set_option linter.unusedSimpArgs false
open Go.RowKit

def eqS (p q : Int × Int) : Bool := p.1 == q.1 && p.2 == q.2
theorem eqS_iff (p q : Int × Int) : eqS p q = true ↔ p = q := by
  obtain ⟨a, b⟩ := p; obtain ⟨c, d⟩ := q; simp [eqS]
theorem eqInSpot (a b c d : Int) (w : World) : (Op.equalIn 10000 37 (.agg #[.int .i64 a, .int .i64 b]) (.agg #[.int .i64 c, .int .i64 d])).run Tryz.prog w = .ok (eqS (a, b) (c, d)) w := by
  have u3 := Tryz.underlying3
  have a3 := Tryz.isAgg3
  have z3 := Tryz.sizeOf3
  have hS : Tryz.prog.underlying 37 = some (.struct (Tryz.prog.fieldsOf 37)) := by kernel_rfl
  have hp : Tryz.prog.stoodInHeld 37 = false := by kernel_rfl
  rw [show (10000 : Nat) = 9999 + 1 from rfl, run_equalIn_agg w 9999 37 _ _ hS hp]
  simp only [Program.fieldsOf, Tryz.underlying37]
  go_simp
  by_cases h1 : a = c <;> by_cases h2 : b = d <;> simp [h1, h2, eqS]
end Go.Proofs.YtmdncaoilegnnaaGreat

namespace Go.Proofs.YtmdncaoilegnnaaGreat
set_option linter.unusedVariables false
set_option linter.unusedSimpArgs false
set_option linter.unusedVariables false
set_option linter.unusedSimpArgs false
open Go.RowKit

set_option maxHeartbeats 1000000 in
theorem idxOut_any (A : Option Addr) (cap n : Nat) (l : List (Int × Int)) (w : World) (hl : n ≤ 1000000) (hs : SpS w A n l) :
    Calls Tryz.prog 143 #[.slice A n cap, .func (.func 106) #[] #[]] w fun e w' => e = .returned (.int .i64 (idxOf (fun i => outB 1048576 (gt l i)) n)) ∧ Below w.heap.size w w' := by
  go_enter Tryz.func143, Tryz.ntmps143
  go_wp2_with fail
  go_loopw [8] (fun i wr => ∃ k : Nat, k ≤ n ∧ i = .int .i64 k ∧ Hid (AnyB (fun i => outB 1048576 (gt l i)) k = false) ∧ Below w.heap.size w wr) (fun i _ => n - (intOf i).toNat)
  case atStart => exact ⟨0, Nat.zero_le _, rfl, AnyB.zero _, Below.refl _ _⟩
  case round =>
    obtain ⟨k, hk, rfl, hp, hb⟩ := hrel
    by_cases hlt : k < n
    · obtain ⟨b, off, rfl, hbl, hc⟩ := hs.at_ hlt
      have h1 := cell_keep hb (hc k hlt).1
      have h2 := cell_keep hb (hc k hlt).2
      clear hc
      go_wp2_with (go_at_call 106; refine (outside_any _ _ _).mono ?_; rintro e w1 ⟨rfl, hb1⟩; have hb2 := Bl.call hb hb1; clear hb1)
      · go_ret
        exact ⟨ret_int (idxOf_at hlt hp.out (by assumption)).symm, hb2⟩
      · go_roundw
        case rel => exact ⟨k + 1, by omega, by go_num, AnyB.succ hp.out (by simpa using ‹_›), hb2⟩
        case measure => simp [intOf]; omega
    · obtain rfl : n = k := by omega
      go_wp2_with fail
      go_ret
      exact ⟨ret_int (idxOf_none hp.out).symm, hb⟩
set_option maxHeartbeats 1000000 in
theorem containsOut_any (A : Option Addr) (cap n : Nat) (l : List (Int × Int)) (w : World) (hl : n ≤ 1000000) (hs : SpS w A n l) :
    Calls Tryz.prog 105 #[.slice A n cap, .func (.func 106) #[] #[]] w fun e w' => e = .returned (.bool (AnyB (fun i => outB 1048576 (gt l i)) n)) ∧ Below w.heap.size w w' := by
  go_enter Tryz.func105, Tryz.ntmps105
  go_wp2_with (go_at_call 143; refine (idxOut_any _ _ _ _ _ hl hs).mono ?_; rintro e w1 ⟨rfl, hb1⟩)
  go_ret
  exact ⟨ret_bool (idxOf_any _ _), hb1⟩
set_option maxHeartbeats 1000000 in
theorem index_any (A : Option Addr) (cap n : Nat) (l : List (Int × Int)) (x y : Int) (w : World) (hl : n ≤ 1000000) (hs : SpS w A n l) :
    Calls Tryz.prog 178 #[.slice A n cap, .agg #[.int .i64 x, .int .i64 y]] w fun e w' => e = .returned (.int .i64 (idxOf (fun i => eqS (x, y) (gt l i)) n)) ∧ Below w.heap.size w w' := by
  have heq := eqInSpot
  go_enter Tryz.func178, Tryz.ntmps178
  go_wp2_with fail
  go_loopw [8] (fun i wr => ∃ k : Nat, k ≤ n ∧ i = .int .i64 k ∧ Hid (AnyB (fun i => eqS (x, y) (gt l i)) k = false) ∧ Cls w [(⟨w.heap.size, 0, none⟩, .int .i64 x), (⟨w.heap.size, 1, none⟩, .int .i64 y)] wr) (fun i _ => n - (intOf i).toNat)
  case atStart => exact ⟨0, Nat.zero_le _, rfl, AnyB.zero _, (Bl.alloc (Below.refl _ _) _), by simp only [List.mem_cons, List.not_mem_nil, forall_eq_or_imp, or_false, forall_eq]; go_simp⟩
  case round =>
    obtain ⟨k, hk, rfl, hp, hC⟩ := hrel
    by_cases hlt : k < n
    · obtain ⟨b, off, rfl, hbl, hc⟩ := hs.at_ hlt
      have h1 := cell_keep hC.1 (hc k hlt).1
      have h2 := cell_keep hC.1 (hc k hlt).2
      have hx := hC.2
      simp only [List.mem_cons, List.not_mem_nil, forall_eq_or_imp, or_false, forall_eq] at hx
      clear hc
      go_wp2_with fail
      go_quiet (fail)
      have hC2 : Cls w [(⟨w.heap.size, 0, none⟩, .int .i64 x), (⟨w.heap.size, 1, none⟩, .int .i64 y)] (wr.drewN nq) := ⟨Bl.drewN hC.1 _, hC.2⟩
      clear hC
      go_wp2_with fail
      · go_ret
        exact ⟨ret_int (idxOf_at hlt hp.out (by assumption)).symm, hC2.1⟩
      · go_roundw
        case rel => exact ⟨k + 1, by omega, by go_num, AnyB.succ hp.out (by simpa using ‹_›), hC2⟩
        case measure => simp [intOf]; omega
    · obtain rfl : n = k := by omega
      go_wp2_with fail
      go_ret
      exact ⟨ret_int (idxOf_none hp.out).symm, hC.1⟩
set_option maxHeartbeats 1000000 in
theorem contains_any (A : Option Addr) (cap n : Nat) (l : List (Int × Int)) (x y : Int) (w : World) (hl : n ≤ 1000000) (hs : SpS w A n l) :
    Calls Tryz.prog 144 #[.slice A n cap, .agg #[.int .i64 x, .int .i64 y]] w fun e w' => e = .returned (.bool (AnyB (fun i => eqS (x, y) (gt l i)) n)) ∧ Below w.heap.size w w' := by
  go_enter Tryz.func144, Tryz.ntmps144
  go_wp2_with (go_at_call 178; refine (index_any _ _ _ _ _ _ _ hl (hs.keep (Bl.alloc (Below.refl _ _) _))).mono ?_; rintro e w1 ⟨rfl, hb1⟩)
  go_ret
  exact ⟨ret_bool (idxOf_any _ _), Bl.call (Bl.alloc (Below.refl _ _) _) hb1⟩
end Go.Proofs.YtmdncaoilegnnaaGreat

namespace Go.Proofs.YtmdncaoilegnnaaGreat
set_option linter.unusedVariables false
set_option linter.unusedSimpArgs false
set_option linter.unusedVariables false
set_option linter.unusedSimpArgs false
open Go.RowKit

def dupW (l : List (Int × Int)) (i : Nat) : Bool := AnyB (fun j => eqS (gt l i) (gt l j)) i
def innW (l : List (Int × Int)) (n i k : Nat) : Bool := decide (k < i + 2) || decide ((k + 1) % n = i) || !meetW (gt l i) (gt l ((i + 1) % n)) (gt l k) (gt l ((k + 1) % n))
def sidW (l : List (Int × Int)) (n i : Nat) : Bool := !foldedW (gt l i) (gt l ((i + 1) % n)) (gt l ((i + 2) % n)) && AllB (innW l n i) n
def simpleW (l : List (Int × Int)) (n : Nat) : Bool := AllB (fun i => !dupW l i) n && AllB (sidW l n) n
theorem dup_of {l : List (Int × Int)} {k : Nat} {r : Bool} (h : AnyB (fun i => eqS ((gt l k).1, (gt l k).2) (gt (l.take k) i)) k = r) : dupW l k = r := by
  rw [← h]; unfold dupW; exact AnyB.congr fun i hi => by rw [gt_take hi]
theorem simple_f1 {l : List (Int × Int)} {n k : Nat} (hk : k < n) (h : dupW l k = true) : simpleW l n = false := by
  unfold simpleW; rw [AllB.no hk (by rw [h]; rfl)]; rfl
theorem simple_f2 {l : List (Int × Int)} {n k : Nat} (hk : k < n) (h : foldedW (gt l k) (gt l ((k + 1) % n)) (gt l ((k + 2) % n)) = true) : simpleW l n = false := by
  have : sidW l n k = false := by unfold sidW; rw [h]; rfl
  unfold simpleW; rw [AllB.no (f := sidW l n) hk this, Bool.and_false]
theorem simple_f3 {l : List (Int × Int)} {n k j : Nat} (hk : k < n) (hj : j < n) (h1 : k + 2 ≤ j) (h2 : ¬ (j + 1) % n = k) (h : meetW (gt l k) (gt l ((k + 1) % n)) (gt l j) (gt l ((j + 1) % n)) = true) : simpleW l n = false := by
  have h3 : innW l n k j = false := by unfold innW; rw [h]; simp [h2]; omega
  have : sidW l n k = false := by unfold sidW; rw [AllB.no hj h3, Bool.and_false]
  unfold simpleW; rw [AllB.no (f := sidW l n) hk this, Bool.and_false]
theorem sid_t {l : List (Int × Int)} {n k : Nat} (hf : foldedW (gt l k) (gt l ((k + 1) % n)) (gt l ((k + 2) % n)) = false) (h : AllB (innW l n k) n = true) : sidW l n k = true := by
  unfold sidW; rw [hf, h]; rfl
theorem inn_succ {l : List (Int × Int)} {n k j : Nat} (h : AllB (innW l n k) j = true) (hm : meetW (gt l k) (gt l ((k + 1) % n)) (gt l j) (gt l ((j + 1) % n)) = false) : AllB (innW l n k) (j + 1) = true :=
  AllB.succ h (by unfold innW; rw [hm]; simp)
theorem inn_end {l : List (Int × Int)} {n k j : Nat} (h : AllB (innW l n k) j = true) (hj : j < n) (h1 : k + 2 ≤ j) (h2 : (j + 1) % n = k) : AllB (innW l n k) n = true := by
  have h3 : j + 1 = n := by
    rcases Nat.lt_or_ge (j + 1) n with h4 | h4
    · rw [Nat.mod_eq_of_lt h4] at h2; omega
    · omega
  have h5 := AllB.succ h (show innW l n k j = true by unfold innW; simp [h2])
  rw [h3] at h5; exact h5
theorem simple_t {l : List (Int × Int)} {n : Nat} (h1 : AllB (fun i => !dupW l i) n = true) (h2 : AllB (sidW l n) n = true) : simpleW l n = true := by
  unfold simpleW; rw [h1, h2]; rfl
set_option maxHeartbeats 2000000 in
theorem simple_any (b off cap n : Nat) (l : List (Int × Int)) (w : World) (hl : n ≤ 1000) (h3 : 3 ≤ n) (hcap : n ≤ cap) (hs : SpS w (some ⟨b, off, none⟩) n l) :
    Calls Tryz.prog 107 #[.slice (some ⟨b, off, none⟩) n cap] w fun e w' => e = .returned (.bool (simpleW l n)) ∧ Below w.heap.size w w' := by
  go_enter Tryz.func107, Tryz.ntmps107
  go_wp2_with fail
  go_loopw [14] (fun i wr => ∃ k : Nat, k ≤ n ∧ i = .int .i64 k ∧ Hid (AllB (fun i => !dupW l i) k = true) ∧ Below w.heap.size w wr) (fun i _ => n - (intOf i).toNat)
  case atStart => exact ⟨0, Nat.zero_le _, rfl, AllB.zero _, Below.refl _ _⟩
  case round =>
    obtain ⟨k, hk, rfl, hp, hb⟩ := hrel
    by_cases hlt : k < n
    · obtain ⟨h1, h2⟩ := (hs.keep hb).cells hlt
      have hkc : (k : Int) ≤ (cap : Int) := by omega
      go_wp2_with fail
      refine wp_region_cls w [(⟨wr.heap.size, 0, none⟩, .int .i64 (gt l k).1), (⟨wr.heap.size, 1, none⟩, .int .i64 (gt l k).2)] (by kernel_rfl) (by kernel_rfl) ⟨Bl.alloc hb _, by simp only [List.mem_cons, List.not_mem_nil, forall_eq_or_imp, or_false, forall_eq]; go_simp⟩ ?_
      repeat
        apply wq_plain
        · rfl
        · intro w1 hw1
          have hx := hw1.2
          simp only [List.mem_cons, List.not_mem_nil, forall_eq_or_imp, or_false, forall_eq] at hx
          go_simp
          first | rfl | exact calls_cls hw1 (contains_any _ _ _ (l.take k) _ _ _ (by omega) ((hs.keep hw1.1).take hk))
        go_simp
      refine wpQuiet_nil ?_
      intro w1 hCw1
      have hb2 := hCw1.1
      clear hCw1 h1 h2
      go_wp2_with fail
      · go_ret
        exact ⟨ret_bool (simple_f1 hlt (dup_of ‹_›)).symm, hb2⟩
      · go_roundw
        case rel => exact ⟨k + 1, by omega, by go_num, AllB.succ hp.out (by rw [dup_of (by simpa using ‹_›)]; rfl), hb2⟩
        case measure => simp [intOf]; omega
    · obtain rfl : n = k := by omega
      have hp0 := hp
      clear hp
      obtain ⟨wo, rfl⟩ : ∃ wo : World, wo = wr := ⟨_, rfl⟩
      go_wp2_with fail
      go_loopw [27] (fun i wr => ∃ k : Nat, k ≤ n ∧ i = .int .i64 k ∧ Hid (AllB (sidW l n) k = true) ∧ Below w.heap.size w wr) (fun i _ => n - (intOf i).toNat)
      case atStart => exact ⟨0, Nat.zero_le _, rfl, AllB.zero _, hb⟩
      case round =>
        clear hb
        obtain ⟨k, hk, rfl, hp, hb⟩ := hrel
        by_cases hlt : k < n
        · obtain ⟨h1, h2⟩ := (hs.keep hb).cells hlt
          have hm1 : (k + 1) % n < n := Nat.mod_lt _ (by omega)
          have hm2 : (k + 2) % n < n := Nat.mod_lt _ (by omega)
          obtain ⟨h3, h4⟩ := (hs.keep hb).cells hm1
          obtain ⟨h5, h6⟩ := (hs.keep hb).cells hm2
          have hbl : b < wr.heap.size := lt_of_cell h1
          have m1 := (modf ((k : Int) + 1) (k + 1) n rfl (by omega)).2
          go_wp2_with fail
          have q1 : IntKind.i64.wrap ((k : Int) + 2) = (k : Int) + 2 := wrap_add k 2 (by omega)
          have q2 := modf ((k : Int) + 2) (k + 2) n rfl (by omega)
          have q3 : ¬ n = 0 := by omega
          refine wp_region_cls w [(⟨wr.heap.size, 0, none⟩, .int .i64 (gt l k).1), (⟨wr.heap.size, 1, none⟩, .int .i64 (gt l k).2), (⟨wr.heap.size + 1, 0, none⟩, .int .i64 (gt l ((k + 1) % n)).1), (⟨wr.heap.size + 1, 1, none⟩, .int .i64 (gt l ((k + 1) % n)).2), (⟨b, off + (k + 2) % n * 2, none⟩, .int .i64 (gt l ((k + 2) % n)).1), (⟨b, off + (k + 2) % n * 2 + 1, none⟩, .int .i64 (gt l ((k + 2) % n)).2)] (by kernel_rfl) (by kernel_rfl) ⟨Bl.alloc (Bl.alloc hb _) _, by simp only [List.mem_cons, List.not_mem_nil, forall_eq_or_imp, or_false, forall_eq]; go_simp⟩ ?_
          repeat
            apply wq_plain
            · rfl
            · intro w1 hw1
              have hx := hw1.2
              simp only [List.mem_cons, List.not_mem_nil, forall_eq_or_imp, or_false, forall_eq] at hx
              go_simp
              first | rfl | exact calls_cls hw1 (folded_any _ _ _ _ _ _ _)
            go_simp
          refine wpQuiet_nil ?_
          intro w1 hCw1
          clear q1 q2 q3 h1 h2 h3 h4 h5 h6 hm2 hbl m1
          obtain ⟨B, hB⟩ : ∃ B, B = wr.heap.size := ⟨_, rfl⟩
          rw [← hB] at hCw1 ⊢
          have hC : Cls w [(⟨B, 0, none⟩, .int .i64 (gt l k).1), (⟨B, 1, none⟩, .int .i64 (gt l k).2), (⟨B + 1, 0, none⟩, .int .i64 (gt l ((k + 1) % n)).1), (⟨B + 1, 1, none⟩, .int .i64 (gt l ((k + 1) % n)).2)] w1 := ⟨hCw1.1, fun x hx => hCw1.2 x (by simp only [List.mem_cons, List.not_mem_nil, or_false] at hx ⊢; rcases hx with h | h | h | h <;> simp [h])⟩
          clear hCw1 hB hb
          go_wp2_with fail
          · go_ret
            exact ⟨ret_bool (simple_f2 hlt ‹_›).symm, hC.1⟩
          · rename_i hfold
            have hfo := Lib.hid hfold
            clear hfold
            go_loopw [9] (fun i wr => ∃ j : Nat, k + 2 ≤ j ∧ j ≤ n + 2 ∧ i = .int .i64 j ∧ Hid (AllB (innW l n k) j = true) ∧ Cls w [(⟨B, 0, none⟩, .int .i64 (gt l k).1), (⟨B, 1, none⟩, .int .i64 (gt l k).2), (⟨B + 1, 0, none⟩, .int .i64 (gt l ((k + 1) % n)).1), (⟨B + 1, 1, none⟩, .int .i64 (gt l ((k + 1) % n)).2)] wr) (fun i _ => n + 2 - (intOf i).toNat)
            case atStart => exact ⟨k + 2, by omega, by omega, by go_num, AllB.start (fun i hi => by unfold innW; simp [hi]), hC⟩
            case round =>
              clear hC
              obtain ⟨j, hj1, hj2, rfl, hq, hC⟩ := hrel
              have hx := hC.2
              simp only [List.mem_cons, List.not_mem_nil, forall_eq_or_imp, or_false, forall_eq] at hx
              by_cases hjn : j < n
              · have hm3 : (j + 1) % n < n := Nat.mod_lt _ (by omega)
                by_cases hjk : (j + 1) % n = k
                · have q1 : (((j : Int) + 1) % (n : Int) != (k : Int)) = false := by
                    rw [show ((j : Int) + 1) % (n : Int) = (((j + 1) % n : Nat) : Int) from emod1 j n, hjk]; simp
                  have HJ := Lib.hid hjk
                  clear hjk
                  go_wp2_with fail
                  exact ⟨⟨k + 1, by omega, by go_num, AllB.succ hp.out (sid_t (by simpa using hfo.out) (inn_end hq.out hjn hj1 HJ.out)), hC.1⟩, by simp [intOf]; omega⟩
                · have q1 : (((j : Int) + 1) % (n : Int) != (k : Int)) = true := by
                    rw [show ((j : Int) + 1) % (n : Int) = (((j + 1) % n : Nat) : Int) from emod1 j n, bne_iff_ne]; omega
                  have HJ := Lib.hid hjk
                  clear hjk
                  obtain ⟨h1, h2⟩ := (hs.keep hC.1).cells hjn
                  obtain ⟨h5, h6⟩ := (hs.keep hC.1).cells hm3
                  go_wp2_with fail
                  have q4 : IntKind.i64.wrap ((j : Int) + 1) = (j : Int) + 1 := wrap_add j 1 (by omega)
                  have q2 := modf ((j : Int) + 1) (j + 1) n rfl (by omega)
                  have q3 : ¬ n = 0 := by omega
                  refine wp_region_cls w [(⟨B, 0, none⟩, .int .i64 (gt l k).1), (⟨B, 1, none⟩, .int .i64 (gt l k).2), (⟨B + 1, 0, none⟩, .int .i64 (gt l ((k + 1) % n)).1), (⟨B + 1, 1, none⟩, .int .i64 (gt l ((k + 1) % n)).2), (⟨b, off + j * 2, none⟩, .int .i64 (gt l j).1), (⟨b, off + j * 2 + 1, none⟩, .int .i64 (gt l j).2), (⟨b, off + (j + 1) % n * 2, none⟩, .int .i64 (gt l ((j + 1) % n)).1), (⟨b, off + (j + 1) % n * 2 + 1, none⟩, .int .i64 (gt l ((j + 1) % n)).2)] (by kernel_rfl) (by kernel_rfl) ⟨hC.1, by simp only [List.mem_cons, List.not_mem_nil, forall_eq_or_imp, or_false, forall_eq]; go_simp⟩ ?_
                  repeat
                    apply wq_plain
                    · rfl
                    · intro w1 hw1
                      have hx := hw1.2
                      simp only [List.mem_cons, List.not_mem_nil, forall_eq_or_imp, or_false, forall_eq] at hx
                      go_simp
                      first | rfl | exact calls_cls hw1 (meet_any _ _ _ _ _ _ _ _ _)
                    go_simp
                  refine wpQuiet_nil ?_
                  intro w1 hCw1
                  clear q1 q2 q3 q4 h1 h2 h5 h6
                  have hC' : Cls w [(⟨B, 0, none⟩, .int .i64 (gt l k).1), (⟨B, 1, none⟩, .int .i64 (gt l k).2), (⟨B + 1, 0, none⟩, .int .i64 (gt l ((k + 1) % n)).1), (⟨B + 1, 1, none⟩, .int .i64 (gt l ((k + 1) % n)).2)] w1 := ⟨hCw1.1, fun x hx => hCw1.2 x (by simp only [List.mem_cons, List.not_mem_nil, or_false] at hx ⊢; rcases hx with h | h | h | h <;> simp [h])⟩
                  clear hCw1 hC hx
                  go_wp2_with fail
                  · go_ret
                    exact ⟨ret_bool (simple_f3 hlt hjn hj1 HJ.out ‹_›).symm, hC'.1⟩
                  · go_roundw
                    case rel => exact ⟨j + 1, by omega, by omega, by go_num, inn_succ hq.out (by simpa using ‹_›), hC'⟩
                    case measure => simp [intOf]; omega
              · go_wp2_with fail
                exact ⟨⟨k + 1, by omega, by go_num, AllB.succ hp.out (sid_t (by simpa using hfo.out) (AllB.mono hq.out (by omega))), hC.1⟩, by simp [intOf]; omega⟩
        · obtain rfl : n = k := by omega
          go_wp2_with fail
          go_ret
          exact ⟨ret_bool (simple_t hp0.out hp.out).symm, hb⟩
end Go.Proofs.YtmdncaoilegnnaaGreat

namespace Go.Proofs.YtmdncaoilegnnaaGreat
set_option linter.unusedVariables false
set_option linter.unusedSimpArgs false
set_option linter.unusedVariables false
set_option linter.unusedSimpArgs false
open Go.RowKit

def checkW (l : List (Int × Int)) (n : Nat) : Int :=
  if n > 40 then 5 else if n < 3 then 11 else if AnyB (fun i => outB 1048576 (gt l i)) n then 3 else if simpleW l n then 0 else 11
theorem checkW_long {l : List (Int × Int)} {n : Nat} (h : 40 < n) : checkW l n = 5 := by unfold checkW; rw [if_pos (by omega)]
theorem checkW_short {l : List (Int × Int)} {n : Nat} (h : n < 3) : checkW l n = 11 := by unfold checkW; rw [if_neg (by omega), if_pos (by omega)]
theorem checkW_out {l : List (Int × Int)} {n : Nat} (h : ¬ 40 < n) (h2 : ¬ n < 3) (h3 : AnyB (fun i => outB 1048576 (gt l i)) n = true) : checkW l n = 3 := by unfold checkW; rw [if_neg (by omega), if_neg (by omega), if_pos h3]
theorem checkW_bad {l : List (Int × Int)} {n : Nat} (h : ¬ 40 < n) (h2 : ¬ n < 3) (h3 : AnyB (fun i => outB 1048576 (gt l i)) n = false) (h4 : simpleW l n = false) : checkW l n = 11 := by unfold checkW; rw [if_neg (by omega), if_neg (by omega), if_neg (by rw [h3]; simp), if_neg (by rw [h4]; simp)]
theorem checkW_ok {l : List (Int × Int)} {n : Nat} (h : ¬ 40 < n) (h2 : ¬ n < 3) (h3 : AnyB (fun i => outB 1048576 (gt l i)) n = false) (h4 : simpleW l n = true) : checkW l n = 0 := by unfold checkW; rw [if_neg (by omega), if_neg (by omega), if_neg (by rw [h3]; simp), if_pos h4]
set_option maxHeartbeats 1000000 in
theorem check_any (A : Option Addr) (cap n : Nat) (l : List (Int × Int)) (w : World) (hl : n ≤ 9223372036854775807) (hcap : n ≤ cap) (hs : SpS w A n l) :
    Calls Tryz.prog 74 #[.slice A n cap] w fun e w' => e = .returned (.int .i64 (checkW l n)) ∧ Below w.heap.size w w' := by
  by_cases h1 : 40 < n
  · go_enter Tryz.func74, Tryz.ntmps74
    go_wp2_with fail
    go_ret
    exact ⟨ret_int (checkW_long h1).symm, Below.refl _ _⟩
  by_cases h2 : n < 3
  · go_enter Tryz.func74, Tryz.ntmps74
    go_wp2_with fail
    go_ret
    exact ⟨ret_int (checkW_short h2).symm, Below.refl _ _⟩
  obtain ⟨b, off, rfl, -, -⟩ := hs.at_ (k := 0) (by omega)
  go_enter Tryz.func74, Tryz.ntmps74
  go_wp2_with (first | (go_at_call 105; refine (containsOut_any _ _ _ l _ (by omega) hs).mono ?_; rintro e w1 ⟨rfl, hb1⟩) | (go_at_call 107; refine (simple_any _ _ _ _ l _ (by omega) (by omega) hcap (hs.keep hb1)).mono ?_; rintro e w2 ⟨rfl, hb2⟩))
  · go_ret
    exact ⟨ret_int (checkW_out h1 h2 ‹_›).symm, hb1⟩
  · go_ret
    exact ⟨ret_int (checkW_bad h1 h2 ‹AnyB _ _ = false› (by simpa using ‹(!simpleW l n) = true›)).symm, Bl.call hb1 hb2⟩
  · go_ret
    exact ⟨ret_int (checkW_ok h1 h2 ‹AnyB _ _ = false› (by simpa using ‹(!simpleW l n) = false›)).symm, Bl.call hb1 hb2⟩
/-- Twice the signed area, as the program sums it, up to k. -/
def areaW (l : List (Int × Int)) (n : Nat) : Nat → Int
  | 0 => 0
  | k + 1 => wrap64 (areaW l n k + wrap64 (wrap64 ((gt l k).1 * (gt l ((k + 1) % n)).2) - wrap64 ((gt l k).2 * (gt l ((k + 1) % n)).1)))
set_option maxHeartbeats 1000000 in
theorem area_any (A : Option Addr) (cap n : Nat) (l : List (Int × Int)) (w : World) (hl : n ≤ 1000000) (hcap : n ≤ cap) (hs : SpS w A n l) :
    Calls Tryz.prog 86 #[.slice A n cap] w fun e w' => e = .returned (.int .i64 (areaW l n n)) ∧ Below w.heap.size w w' := by
  go_enter Tryz.func86, Tryz.ntmps86
  go_wp2_with fail
  go_loopw [3, 9] (fun s i wr => ∃ k : Nat, k ≤ n ∧ i = .int .i64 k ∧ s = .int .i64 (areaW l n k) ∧ Below w.heap.size w wr) (fun _ i _ => n - (intOf i).toNat)
  case atStart => exact ⟨0, Nat.zero_le _, rfl, rfl, Below.refl _ _⟩
  case round =>
    obtain ⟨k, hk, rfl, rfl, hb⟩ := hrel
    by_cases hlt : k < n
    · have hm1 : (k + 1) % n < n := Nat.mod_lt _ (by omega)
      have m1 := (modf ((k : Int) + 1) (k + 1) n rfl (by omega)).2
      obtain ⟨b, off, rfl, -, -⟩ := hs.at_ hlt
      obtain ⟨h1, h2⟩ := (hs.keep hb).cells hlt
      obtain ⟨h3, h4⟩ := (hs.keep hb).cells hm1
      have hbl : b < wr.heap.size := lt_of_cell h1
      go_wp2_with fail
      go_roundw
      case rel => exact ⟨k + 1, by omega, by go_num, rfl, Bl.alloc (Bl.alloc hb _) _⟩
      case measure => simp [intOf]; omega
    · obtain rfl : n = k := by omega
      go_wp2_with fail
      go_ret
      exact ⟨rfl, hb⟩
set_option maxHeartbeats 1000000 in
theorem area2_any (A : Option Addr) (cap n : Nat) (l : List (Int × Int)) (w : World) (hl : n ≤ 9223372036854775807) (hcap : n ≤ cap) (hs : SpS w A n l) :
    Calls Tryz.prog 51 #[.slice A n cap] w fun e w' => e = .returned (.int .i64 (if checkW l n = 0 then areaW l n n else 0)) ∧ Below w.heap.size w w' := by
  by_cases hc : checkW l n = 0
  · have hn : n ≤ 40 := by
      rcases Nat.lt_or_ge 40 n with h | h
      · rw [checkW_long h] at hc; omega
      · exact h
    rw [if_pos hc]
    have HC := Lib.hid hc
    have q : (checkW l n != 0) = false := by rw [hc]; rfl
    clear hc
    go_enter Tryz.func51, Tryz.ntmps51
    go_wp2_with (first | (go_at_call 74; refine (check_any _ _ _ l _ hl hcap hs).mono ?_; rintro e w1 ⟨rfl, hb1⟩) | (go_at_call 86; refine (area_any _ _ _ l _ (by omega) hcap (hs.keep hb1)).mono ?_; rintro e w2 ⟨rfl, hb2⟩))
    go_ret
    exact ⟨rfl, Bl.call hb1 hb2⟩
  · rw [if_neg hc]
    have q : (checkW l n != 0) = true := by rw [bne_iff_ne]; exact hc
    clear hc
    go_enter Tryz.func51, Tryz.ntmps51
    go_wp2_with (go_at_call 74; refine (check_any _ _ _ l _ hl hcap hs).mono ?_; rintro e w1 ⟨rfl, hb1⟩)
    go_ret
    exact ⟨rfl, hb1⟩
def bendW (l : List (Int × Int)) (n k : Nat) : Int := crossW (gt l ((k + n - 1) % n)) (gt l k) (gt l ((k + 1) % n))
set_option maxHeartbeats 1000000 in
theorem bend_any (b off cap n k : Nat) (l : List (Int × Int)) (w : World) (hl : n ≤ 1000000) (hcap : n ≤ cap) (hs : SpS w (some ⟨b, off, none⟩) n l) (hk : k < n) :
    Calls Tryz.prog 201 #[.slice (some ⟨b, off, none⟩) n cap, .int .i64 k] w fun e w' => e = .returned (.int .i64 (bendW l n k)) ∧ Below w.heap.size w w' := by
  have hm1 : (k + 1) % n < n := Nat.mod_lt _ (by omega)
  have hm2 : (k + n - 1) % n < n := Nat.mod_lt _ (by omega)
  obtain ⟨h1, h2⟩ := hs.cells hk
  obtain ⟨h3, h4⟩ := hs.cells hm1
  obtain ⟨h5, h6⟩ := hs.cells hm2
  go_enter Tryz.func201, Tryz.ntmps201
  go_wp2_with fail
  have m1 := modf ((k : Int) + 1) (k + 1) n rfl (by omega)
  have m2 := modf ((k : Int) + (n : Int) - 1) (k + n - 1) n (by omega) (by omega)
  have q1 : IntKind.i64.wrap ((k : Int) + 1) = (k : Int) + 1 := wrap_add k 1 (by omega)
  have q2 : IntKind.i64.wrap ((k : Int) + (n : Int)) = (k : Int) + (n : Int) := wrap_add k n (by omega)
  have q3 : IntKind.i64.wrap ((k : Int) + (n : Int) - 1) = (k : Int) + (n : Int) - 1 := wrap_in _ (by omega) (by omega)
  have q4 : ¬ n = 0 := by omega
  refine wp_region_cls w [(⟨b, off + k * 2, none⟩, .int .i64 (gt l k).1), (⟨b, off + k * 2 + 1, none⟩, .int .i64 (gt l k).2), (⟨b, off + (k + 1) % n * 2, none⟩, .int .i64 (gt l ((k + 1) % n)).1), (⟨b, off + (k + 1) % n * 2 + 1, none⟩, .int .i64 (gt l ((k + 1) % n)).2), (⟨b, off + (k + n - 1) % n * 2, none⟩, .int .i64 (gt l ((k + n - 1) % n)).1), (⟨b, off + (k + n - 1) % n * 2 + 1, none⟩, .int .i64 (gt l ((k + n - 1) % n)).2)] (by kernel_rfl) (by kernel_rfl) ⟨Below.refl _ _, by simp only [List.mem_cons, List.not_mem_nil, forall_eq_or_imp, or_false, forall_eq]; go_simp⟩ ?_
  repeat
    apply wq_plain
    · rfl
    · intro w1 hw1
      have hx := hw1.2
      simp only [List.mem_cons, List.not_mem_nil, forall_eq_or_imp, or_false, forall_eq] at hx
      go_simp
      first | rfl | exact calls_cls hw1 (cross_any _ _ _ _ _ _ _)
    go_simp
  refine wpQuiet_nil ?_
  intro w1 hCw1
  have hb := hCw1.1
  clear hCw1 m1 m2 q1 q2 q3
  go_wp2_with fail
  go_ret
  exact ⟨rfl, hb⟩
end Go.Proofs.YtmdncaoilegnnaaGreat

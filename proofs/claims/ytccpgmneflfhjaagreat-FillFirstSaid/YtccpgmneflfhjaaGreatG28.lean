/- Opening the laws' arguments: beds, shapes, puts, spots and slices of them. Plain facts on Step, Run and Extent. garmentref32.Few; the law SearchBest. -/
import Derived.Test.YtccpgmneflfhjaaGreatG27
import Derived.Deep.Slices
import Derived.Deep.Strs
import Derived.Lib.SmallJoins
namespace Go.Proofs.YtccpgmneflfhjaaGreat
set_option linter.unusedVariables false
set_option linter.unusedSimpArgs false
open Go.ChangeShapes Go.WideShapes Go.ChangeAt Go.RowKit Go.Deep Go.Joins

section
variable {H : Type} {enc : TypeId × Value → H} {w : World} {base b0 : Nat} {spare : Nat → Bool} {held : Bool} {fuel : Nat} {cs : List Value} {x : DataW H × List MemPlace} {r : Reach} {v : Value} {d : DataW H} {p : List MemPlace}

theorem cellsSpot : Tryz.prog.cellsOf 37 = 2 := by kernel_rfl
theorem cellsRep : Tryz.prog.cellsOf 23 = 2 := by kernel_rfl
theorem cellsTurn : Tryz.prog.cellsOf 44 = 2 := by kernel_rfl
theorem cellsBed : Tryz.prog.cellsOf 25 = 4 := by kernel_rfl
theorem cellsShape : Tryz.prog.cellsOf 39 = 5 := by kernel_rfl
theorem cellsPut : Tryz.prog.cellsOf 51 = 5 := by kernel_rfl
theorem cellsInt : Tryz.prog.cellsOf 3 = 1 := by kernel_rfl
theorem cellsBool : Tryz.prog.cellsOf 4 = 1 := by kernel_rfl
theorem cellsSS : Tryz.prog.cellsOf 36 = 1 := by kernel_rfl

theorem lenL2 {α : Type} {l : List α} (h : l.length = 2) : ∃ a b, l = [a, b] := by
  match l, h with
  | [a, b], _ => exact ⟨a, b, rfl⟩
theorem lenL4 {α : Type} {l : List α} (h : l.length = 4) : ∃ a b c d, l = [a, b, c, d] := by
  match l, h with
  | [a, b, c, d], _ => exact ⟨a, b, c, d, rfl⟩
theorem lenL5 {α : Type} {l : List α} (h : l.length = 5) : ∃ a b c d e, l = [a, b, c, d, e] := by
  match l, h with
  | [a, b, c, d, e], _ => exact ⟨a, b, c, d, e, rfl⟩

set_option maxRecDepth 100000 in
theorem spot_trod (h : DataW.trod enc Tryz.prog w base spare held fuel 37 cs = some x) : ∃ a b, cs = [.int .i64 a, .int .i64 b] ∧ inR a ∧ inR b := by
  obtain ⟨y0, y1, n, -, hl, h0, h1⟩ := trod_struct2 Tryz.underlying37 h
  rw [cellsSpot] at hl
  obtain ⟨c0, c1, rfl⟩ := lenL2 hl
  dsimp only at h0 h1
  rw [cellsInt] at h0 h1
  obtain ⟨a, e0, -, wa⟩ := DataW.trod_int Tryz.underlying3 h0
  obtain ⟨b, e1, -, wb⟩ := DataW.trod_int Tryz.underlying3 h1
  simp at e0 e1
  subst e0 e1
  exact ⟨a, b, rfl, bounds_i64 wa, bounds_i64 wb⟩
set_option maxRecDepth 100000 in
theorem rep_trod (h : DataW.trod enc Tryz.prog w base spare held fuel 23 cs = some x) : ∃ a b, cs = [.int .i64 a, .int .i64 b] ∧ inR a ∧ inR b := by
  obtain ⟨y0, y1, n, -, hl, h0, h1⟩ := trod_struct2 Tryz.underlying23 h
  rw [cellsRep] at hl
  obtain ⟨c0, c1, rfl⟩ := lenL2 hl
  dsimp only at h0 h1
  rw [cellsInt] at h0 h1
  obtain ⟨a, e0, -, wa⟩ := DataW.trod_int Tryz.underlying3 h0
  obtain ⟨b, e1, -, wb⟩ := DataW.trod_int Tryz.underlying3 h1
  simp at e0 e1
  subst e0 e1
  exact ⟨a, b, rfl, bounds_i64 wa, bounds_i64 wb⟩
set_option maxRecDepth 100000 in
theorem turn_trod (h : DataW.trod enc Tryz.prog w base spare held fuel 44 cs = some x) : ∃ a b, cs = [.bool a, .int .i64 b] ∧ inR b := by
  obtain ⟨y0, y1, n, -, hl, h0, h1⟩ := trod_struct2 Tryz.underlying44 h
  rw [cellsTurn] at hl
  obtain ⟨c0, c1, rfl⟩ := lenL2 hl
  dsimp only at h0 h1
  rw [cellsBool] at h0
  rw [cellsInt] at h1
  obtain ⟨a, e0, -⟩ := DataW.trod_bool Tryz.underlying4 h0
  obtain ⟨b, e1, -, wb⟩ := DataW.trod_int Tryz.underlying3 h1
  simp at e0 e1
  subst e0 e1
  exact ⟨a, b, rfl, bounds_i64 wb⟩
set_option maxRecDepth 100000 in
theorem bed_trod (h : DataW.trod enc Tryz.prog w base spare held fuel 25 cs = some x) : ∃ a b c e, cs = [.int .i64 a, .int .i64 b, .int .i64 c, .int .i64 e] ∧ inR a ∧ inR b ∧ inR c ∧ inR e := by
  obtain ⟨y0, y1, y2, n, -, hl, h0, h1, h2⟩ := trod_struct3 Tryz.underlying25 h
  rw [cellsBed] at hl
  obtain ⟨c0, c1, c2, c3, rfl⟩ := lenL4 hl
  dsimp only at h0 h1 h2
  rw [cellsInt] at h0 h1
  rw [cellsRep] at h2
  obtain ⟨a, e0, -, wa⟩ := DataW.trod_int Tryz.underlying3 h0
  obtain ⟨b, e1, -, wb⟩ := DataW.trod_int Tryz.underlying3 h1
  obtain ⟨c, e, e2, w1, w2⟩ := rep_trod h2
  simp at e0 e1 e2
  obtain ⟨rfl, rfl⟩ := e2
  subst e0 e1
  exact ⟨a, b, c, e, rfl, bounds_i64 wa, bounds_i64 wb, w1, w2⟩
set_option maxRecDepth 100000 in
theorem put_trod (h : DataW.trod enc Tryz.prog w base spare held fuel 51 cs = some x) : ∃ q : Pt5, cs = enP q ∧ inR q.sh ∧ inR q.qu ∧ inR q.x ∧ inR q.y := by
  obtain ⟨y0, y1, y2, n, -, hl, h0, h1, h2⟩ := trod_struct3 Tryz.underlying51 h
  rw [cellsPut] at hl
  obtain ⟨c0, c1, c2, c3, c4, rfl⟩ := lenL5 hl
  dsimp only at h0 h1 h2
  rw [cellsInt] at h0
  rw [cellsTurn] at h1
  rw [cellsSpot] at h2
  obtain ⟨a, e0, -, wa⟩ := DataW.trod_int Tryz.underlying3 h0
  obtain ⟨b, c, e1, w1⟩ := turn_trod h1
  obtain ⟨e, f, e2, w2, w3⟩ := spot_trod h2
  simp at e0 e1 e2
  obtain ⟨rfl, rfl⟩ := e1
  obtain ⟨rfl, rfl⟩ := e2
  subst e0
  exact ⟨⟨a, b, c, e, f⟩, rfl, bounds_i64 wa, w1, w2, w3⟩

/-- The row of a slice: its address is plain. -/
theorem addr_plain {a : Addr} {u : Value} (h : w.cell? a = some u) : a = ⟨a.block, a.off, none⟩ := by
  have := World.cell?_spot h
  obtain ⟨b, o, s⟩ := a
  simp at this
  subst this
  rfl
theorem cells_at {a : Addr} {n k : Nat} {cs : List Value} (h : w.cells? base a n = some cs) (hk : k < n) : w.cell? (a.add k) = cs[k]? := (World.cells?_some h).2.2 k hk

theorem add_zero_ (a : Addr) : a.add 0 = a := by unfold Addr.add; simp
theorem add_mk (b o k : Nat) : (⟨b, o, none⟩ : Addr).add k = ⟨b, o + k, none⟩ := by
  unfold Addr.add; by_cases h : k = 0
  · subst h; simp
  · simp [h]

set_option maxRecDepth 100000 in
theorem spots_trod {A : Option Addr} {n c : Nat} (h : DataW.trod enc Tryz.prog w base spare held fuel 36 [.slice A n c] = some x) : n ≤ c ∧ c ≤ 9223372036854775807 ∧ (A = none → c = 0) ∧ ∃ l, SpS w A n l ∧ ∀ q ∈ l, inR q.1 ∧ inR q.2 := by
  rcases open_slice Tryz.underlying36 h with ⟨h1, -⟩ | ⟨a, len, cap, m, k, D, Pl, h1, h2, h3, h4, h5, -, h6⟩
  · simp at h1
    obtain ⟨rfl, rfl, rfl⟩ := h1
    exact ⟨Nat.le_refl _, by omega, fun _ => rfl, [], ⟨rfl, .inl rfl⟩, by simp⟩
  · simp at h1
    obtain ⟨rfl, rfl, rfl⟩ := h1
    refine ⟨h3, by unfold maxLen at h4; exact h4, (fun h => by cases h), ?_⟩
    have hm : n ≤ m := by rw [h5]; split <;> omega
    have hel : ∀ i, i < n → ∃ q : Int × Int, (w.cell? (a.add (i * 2)) = some (.int .i64 q.1) ∧ w.cell? ((a.add (i * 2)).add 1) = some (.int .i64 q.2)) ∧ inR q.1 ∧ inR q.2 := by
      intro i hi
      obtain ⟨cs', g1, g2⟩ := h6 i (by omega)
      rw [cellsSpot] at g1
      obtain ⟨u, v, rfl, wu, wv⟩ := spot_trod g2
      have c0 := cells_at g1 (show 0 < 2 by omega)
      have c1 := cells_at g1 (show 1 < 2 by omega)
      rw [add_zero_] at c0
      exact ⟨(u, v), ⟨c0, c1⟩, wu, wv⟩
    obtain ⟨f, hf⟩ := choose_lt (α := Int × Int) (p := fun i q => (w.cell? (a.add (i * 2)) = some (.int .i64 q.1) ∧ w.cell? ((a.add (i * 2)).add 1) = some (.int .i64 q.2)) ∧ inR q.1 ∧ inR q.2) hel
    refine ⟨(List.range n).map f, ⟨by simp, ?_⟩, fun q hq => ?_⟩
    · rcases Nat.eq_zero_or_pos n with h0 | h0
      · exact .inl h0
      · have c0 := (hf 0 h0).1.1
        rw [Nat.zero_mul, add_zero_] at c0
        have ea := addr_plain c0
        refine .inr ⟨a.block, a.off, by rw [← ea], fun k hk => ?_⟩
        have g := (hf k hk).1
        rw [ea, add_mk, add_mk] at g
        have e : gt ((List.range n).map f) k = f k := by unfold gt; simp [List.getD, hk]
        rw [e]
        exact g
    · simp at hq
      obtain ⟨i, hi, rfl⟩ := hq
      exact (hf i hi).2

def ShOk (s : Shp) : Prop := inR s.grain ∧ inR s.anc.1 ∧ inR s.anc.2 ∧ ∀ q ∈ s.poly, inR q.1 ∧ inR q.2
set_option maxRecDepth 100000 in
theorem shape_trod (h : DataW.trod enc Tryz.prog w base spare held fuel 39 cs = some x) : ∃ A n c g m ax ay l, cs = [.slice A n c, .int .i64 g, .bool m, .int .i64 ax, .int .i64 ay] ∧ n ≤ c ∧ c ≤ 9223372036854775807 ∧ (A = none → c = 0) ∧ SpS w A n l ∧ ShOk ⟨l, g, m, (ax, ay)⟩ := by
  obtain ⟨y0, y1, y2, y3, n, -, hl, h0, h1, h2, h3⟩ := trod_struct4 Tryz.underlying39 h
  rw [cellsShape] at hl
  obtain ⟨c0, c1, c2, c3, c4, rfl⟩ := lenL5 hl
  dsimp only at h0 h1 h2 h3
  rw [cellsSS] at h0
  rw [cellsInt] at h1
  rw [cellsBool] at h2
  rw [cellsSpot] at h3
  obtain ⟨a, e1, -, wa⟩ := DataW.trod_int Tryz.underlying3 h1
  obtain ⟨b, e2, -⟩ := DataW.trod_bool Tryz.underlying4 h2
  obtain ⟨e, f, e3, w2, w3⟩ := spot_trod h3
  have h0' : DataW.trod enc Tryz.prog w base spare held n 36 [c0] = some y0 := by simpa using h0
  have hsl : ∃ A n c, c0 = .slice A n c := by
    rcases open_slice Tryz.underlying36 h0' with ⟨g, -⟩ | ⟨a, len, cap, m, k, D, Pl, g, -⟩
    · simp at g; exact ⟨_, _, _, g⟩
    · simp at g; exact ⟨_, _, _, g⟩
  obtain ⟨A, nn, c, rfl⟩ := hsl
  obtain ⟨g1, g2, g3, l, g4, g5⟩ := spots_trod h0'
  simp at e1 e2 e3
  obtain ⟨rfl, rfl⟩ := e3
  subst e1 e2
  exact ⟨A, nn, c, a, b, e, f, l, rfl, g1, g2, g3, g4, bounds_i64 wa, w2, w3, g5⟩

instance : Inhabited Shp := ⟨⟨[], 0, false, (0, 0)⟩⟩
instance : Inhabited Pt5 := ⟨⟨0, false, 0, 0, 0⟩⟩
/-- As ShS, of whatever length. -/
def ShW (w : World) (A : Option Addr) (n : Nat) (S : List Shp) : Prop := S.length = n ∧ n ≤ 9223372036854775807 ∧ (n = 0 ∨ ∃ b off, A = some ⟨b, off, none⟩ ∧ ∀ k, k < n → ShAt w b (off + k * 5) (shp S k)) ∧ ∀ s ∈ S, ShOk s
end
theorem ShW.shs {w : World} {A : Option Addr} {n : Nat} {S : List Shp} (h : ShW w A n S) (hn : n ≤ 100000000000000) : ShS w A n S := ⟨h.1, hn, h.2.2.1⟩

section
variable {H : Type} {enc : TypeId × Value → H} {w : World} {base b0 : Nat} {spare : Nat → Bool} {held : Bool} {r : Reach} {v : Value} {d : DataW H} {p : List MemPlace}
set_option maxRecDepth 100000 in
theorem open_bed (hv : Value.okWide Tryz.prog w r b0 25 v) (h : DataW.Trod enc Tryz.prog w base spare held 25 v d p) : ∃ b : Bed4, v = bedV b ∧ inR b.len ∧ inR b.wid ∧ inR b.rx ∧ inR b.ry := by
  obtain ⟨cs, rfl, hsz⟩ := okWide_struct Tryz.underlying25 hv
  obtain ⟨fuel, hf⟩ := h
  obtain ⟨a, b, c, e, hcs, wa, wb, wc, we⟩ := bed_trod hf
  refine ⟨⟨a, b, c, e⟩, ?_, wa, wb, wc, we⟩
  unfold bedV
  rw [show cs = cs.toList.toArray by simp]
  have : cs.toList = [.int .i64 a, .int .i64 b, .int .i64 c, .int .i64 e] := by simpa [Value.cells] using hcs
  rw [this]

set_option maxRecDepth 100000 in
theorem open_shapes (hv : Value.okWide Tryz.prog w r b0 26 v) (h : DataW.Trod enc Tryz.prog w base spare held 26 v d p) : ∃ A n c S, v = .slice A n c ∧ n ≤ c ∧ ShW w A n S := by
  obtain ⟨A, n, c, rfl⟩ := okWide_slice Tryz.underlying26 hv
  obtain ⟨fuel, hf⟩ := h
  have hf' : DataW.trod enc Tryz.prog w base spare held fuel 26 [.slice A n c] = some (d, p) := by simpa [Value.cells] using hf
  refine ⟨A, n, c, ?_⟩
  rcases open_slice Tryz.underlying26 hf' with ⟨h1, -⟩ | ⟨a, len, cap, m, k, D, Pl, h1, h2, h3, h4, h5, -, h6⟩
  · simp at h1
    obtain ⟨rfl, rfl, rfl⟩ := h1
    exact ⟨[], rfl, Nat.le_refl _, rfl, by omega, .inl rfl, by simp⟩
  · simp at h1
    obtain ⟨rfl, rfl, rfl⟩ := h1
    have hm : n ≤ m := by rw [h5]; split <;> omega
    have hel : ∀ i, i < n → ∃ s : Shp, (∃ Ak ck, w.cell? (a.add (i * 5)) = some (.slice Ak s.poly.length ck) ∧ s.poly.length ≤ ck ∧ ck ≤ 9223372036854775807 ∧ SpS w Ak s.poly.length s.poly ∧ (Ak = none → ck = 0) ∧ w.cell? ((a.add (i * 5)).add 1) = some (.int .i64 s.grain) ∧ w.cell? ((a.add (i * 5)).add 2) = some (.bool s.mat) ∧ w.cell? ((a.add (i * 5)).add 3) = some (.int .i64 s.anc.1) ∧ w.cell? ((a.add (i * 5)).add 4) = some (.int .i64 s.anc.2)) ∧ ShOk s := by
      intro i hi
      obtain ⟨cs', g1, g2⟩ := h6 i (by omega)
      rw [cellsShape] at g1
      obtain ⟨Ak, nk, ck, g, mt, ax, ay, l, rfl, k1, k2, k3, k4, k5⟩ := shape_trod g2
      have c0 := cells_at g1 (show 0 < 5 by omega)
      rw [add_zero_] at c0
      have hl := k4.1
      exact ⟨⟨l, g, mt, (ax, ay)⟩, ⟨Ak, ck, by rw [hl]; exact c0, by rw [hl]; exact k1, k2, by rw [hl]; exact k4, k3, cells_at g1 (show 1 < 5 by omega), cells_at g1 (show 2 < 5 by omega), cells_at g1 (show 3 < 5 by omega), cells_at g1 (show 4 < 5 by omega)⟩, k5⟩
    obtain ⟨f, hf⟩ := choose_lt hel
    refine ⟨(List.range n).map f, rfl, h3, by simp, by unfold maxLen at h4; omega, ?_, fun s hs => ?_⟩
    · rcases Nat.eq_zero_or_pos n with h0 | h0
      · exact .inl h0
      · obtain ⟨Ak, ck, c0, -⟩ := (hf 0 h0).1
        rw [Nat.zero_mul, add_zero_] at c0
        have ea := addr_plain c0
        refine .inr ⟨a.block, a.off, by rw [← ea], fun k hk => ?_⟩
        have g := (hf k hk).1
        rw [ea, add_mk, add_mk, add_mk, add_mk, add_mk] at g
        have e : shp ((List.range n).map f) k = f k := by unfold shp; simp [List.getD, hk]
        rw [e]
        exact g
    · simp at hs
      obtain ⟨i, hi, rfl⟩ := hs
      exact (hf i hi).2
end

end Go.Proofs.YtccpgmneflfhjaaGreat

namespace Go.Proofs.YtccpgmneflfhjaaGreat
set_option linter.unusedVariables false
set_option linter.unusedSimpArgs false
open Go.RowKit

theorem mem_addTo {α : Type} [DecidableEq α] {L xs : List α} {d : α} : ∀ {k : Nat}, k ≤ xs.length → ∀ {x : α}, x ∈ addTo L xs d k → x ∈ L ∨ x ∈ xs := by
  intro k
  induction k with
  | zero => intro _ x h; exact .inl h
  | succ k ih =>
    intro hk x h
    rw [addTo] at h
    split at h
    · exact ih (by omega) h
    · rcases List.mem_append.1 h with h | h
      · exact ih (by omega) h
      · simp at h
        right
        rw [h, List.getElem?_eq_getElem (by omega)]
        exact List.getElem_mem _
theorem mem_addW {α : Type} [DecidableEq α] {L xs : List α} {d x : α} (h : x ∈ addW L xs d) : x ∈ L ∨ x ∈ xs := mem_addTo (Nat.le_refl _) h
theorem addTo_old {α : Type} [DecidableEq α] {L xs : List α} {d : α} : ∀ {k : Nat} {x : α}, x ∈ L → x ∈ addTo L xs d k := by
  intro k
  induction k with
  | zero => intro x h; exact h
  | succ k ih =>
    intro x h
    rw [addTo]
    split
    · exact ih h
    · exact List.mem_append.2 (.inl (ih h))
theorem addTo_new {α : Type} [DecidableEq α] {L xs : List α} {d : α} : ∀ {k i : Nat}, i < k → k ≤ xs.length → xs.getD i d ∈ addTo L xs d k := by
  intro k
  induction k with
  | zero => intro i h; omega
  | succ k ih =>
    intro i hi hk
    rw [addTo]
    by_cases h : i < k
    · split
      · exact ih h (by omega)
      · exact List.mem_append.2 (.inl (ih h (by omega)))
    · obtain rfl : i = k := by omega
      split
      · assumption
      · exact List.mem_append.2 (.inr (by simp))
theorem mem_addW_iff {α : Type} [DecidableEq α] {L xs : List α} {d x : α} : x ∈ addW L xs d ↔ x ∈ L ∨ x ∈ xs := by
  refine ⟨mem_addW, fun h => ?_⟩
  rcases h with h | h
  · exact addTo_old h
  · obtain ⟨i, hi, rfl⟩ := List.getElem_of_mem h
    have := addTo_new (L := L) (xs := xs) (d := d) hi (Nat.le_refl _)
    rw [List.getD, List.getElem?_eq_getElem hi] at this
    exact this

theorem find_range {f : Nat → Bool} {n j : Nat} (h : (List.range n).find? f = some j) : j < n ∧ f j = true ∧ ∀ i, i < j → f i = false := by
  have h1 := List.mem_of_find?_eq_some h
  have h2 := List.find?_some h
  refine ⟨by simpa using h1, h2, fun i hi => ?_⟩
  have hj : j < n := by simpa using h1
  cases hf : f i with
  | false => rfl
  | true =>
    exfalso
    -- the first index at which f holds is at most i
    have hex : ∃ m, m < n ∧ f m = true ∧ ∀ q, q < m → f q = false := by
      have : ∀ N, (∃ m, m ≤ N ∧ f m = true) → ∃ m, m ≤ N ∧ f m = true ∧ ∀ q, q < m → f q = false := by
        intro N
        induction N with
        | zero =>
          rintro ⟨m, hm, hfm⟩
          obtain rfl : m = 0 := by omega
          exact ⟨0, hm, hfm, fun q hq => absurd hq (by omega)⟩
        | succ N ih =>
          rintro ⟨m, hm, hfm⟩
          by_cases hh : ∃ m, m ≤ N ∧ f m = true
          · obtain ⟨q, q1, q2, q3⟩ := ih hh
            exact ⟨q, by omega, q2, q3⟩
          · refine ⟨m, hm, hfm, fun q hq => ?_⟩
            cases hq2 : f q with
            | false => rfl
            | true => exact absurd ⟨q, by omega, hq2⟩ hh
      obtain ⟨m, m1, m2, m3⟩ := this i ⟨i, Nat.le_refl _, hf⟩
      exact ⟨m, by omega, m2, m3⟩
    obtain ⟨m, m1, m2, m3⟩ := hex
    have hm : idxOf f n = m := idxOf_at m1 (by unfold AnyB; rw [List.any_eq_false]; intro q hq; simp at hq; simp [m3 q hq]) m2
    unfold idxOf at hm
    rw [h] at hm
    have : j = m := by have h9 : ((j : Nat) : Int) = (m : Int) := hm; omega
    subst this
    rw [m3 i hi] at hf
    cases hf

theorem leastTo_mem {l : List End6} : ∀ {n : Nat}, 0 < n → n ≤ l.length → leastTo l n ∈ l := by
  intro n
  induction n with
  | zero => intro h; omega
  | succ k ih =>
    intro _ hk
    rw [leastTo]
    split
    · unfold ed; rw [List.getD, List.getElem?_eq_getElem (by omega)]; exact List.getElem_mem _
    · rename_i h
      exact ih (by omega) (by omega)

/-- What stands in the list of endings: the first fitting candidate of a turn. -/
def StE (b : Bed4) (S : List Shp) (ps : List Pt5) (sh : Int) (pls : List (List (Int × Int))) (ts : List Trn) (i j : Nat) : Prop :=
  (polyW S ⟨sh, (tr ts i).1, (tr ts i).2, 0, 0⟩).1 = 0 ∧ (candW b (shp S sh.toNat) (tr ts i).1 (tr ts i).2 (polyW S ⟨sh, (tr ts i).1, (tr ts i).2, 0, 0⟩).2 pls).1 = 0 ∧
  fstFit b S ps sh (tr ts i) (candW b (shp S sh.toNat) (tr ts i).1 (tr ts i).2 (polyW S ⟨sh, (tr ts i).1, (tr ts i).2, 0, 0⟩).2 pls).2 = some j
def stEnd (b : Bed4) (S : List Shp) (sh : Int) (pls : List (List (Int × Int))) (ts : List Trn) (i j : Nat) : End6 :=
  endOf sh (tr ts i) (polyW S ⟨sh, (tr ts i).1, (tr ts i).2, 0, 0⟩).2 (gt (candW b (shp S sh.toNat) (tr ts i).1 (tr ts i).2 (polyW S ⟨sh, (tr ts i).1, (tr ts i).2, 0, 0⟩).2 pls).2 j)

theorem stTo_mem {b : Bed4} {S : List Shp} {ps : List Pt5} {sh : Int} {pls : List (List (Int × Int))} {ts : List Trn} : ∀ {k : Nat}, (stTo b S ps sh pls ts k).1 = 0 →
    (∀ i, i < k → (polyW S ⟨sh, (tr ts i).1, (tr ts i).2, 0, 0⟩).1 = 0 ∧ (candW b (shp S sh.toNat) (tr ts i).1 (tr ts i).2 (polyW S ⟨sh, (tr ts i).1, (tr ts i).2, 0, 0⟩).2 pls).1 = 0) ∧
    ∀ e, e ∈ (stTo b S ps sh pls ts k).2 ↔ ∃ i j, i < k ∧ StE b S ps sh pls ts i j ∧ e = stEnd b S sh pls ts i j := by
  intro k
  induction k with
  | zero => intro _; exact ⟨fun i hi => absurd hi (by omega), fun e => by simp [stTo]⟩
  | succ k ih =>
    intro h
    rw [stTo] at h
    rw [stTo]
    split at h
    · rename_i h0; exact absurd h h0
    · rename_i h0
      rw [if_neg h0]
      have h0' : (stTo b S ps sh pls ts k).1 = 0 := by simpa using h0
      obtain ⟨ih1, ih2⟩ := ih h0'
      split at h
      · rename_i h1; exact absurd h h1
      · rename_i h1
        rw [if_neg h1]
        split at h
        · rename_i h2; exact absurd h h2
        · rename_i h2
          rw [if_neg h2]
          have h1' : (polyW S ⟨sh, (tr ts k).1, (tr ts k).2, 0, 0⟩).1 = 0 := by simpa using h1
          have h2' : (candW b (shp S sh.toNat) (tr ts k).1 (tr ts k).2 (polyW S ⟨sh, (tr ts k).1, (tr ts k).2, 0, 0⟩).2 pls).1 = 0 := by simpa using h2
          refine ⟨fun i hi => ?_, fun e => ?_⟩
          · by_cases hik : i < k
            · exact ih1 i hik
            · obtain rfl : i = k := by omega
              exact ⟨h1', h2'⟩
          · cases hf : fstFit b S ps sh (tr ts k) (candW b (shp S sh.toNat) (tr ts k).1 (tr ts k).2 (polyW S ⟨sh, (tr ts k).1, (tr ts k).2, 0, 0⟩).2 pls).2 with
            | none =>
              show e ∈ (stTo b S ps sh pls ts k).2 ↔ _
              rw [ih2 e]
              constructor
              · rintro ⟨i, j, g1, g2, g3⟩; exact ⟨i, j, by omega, g2, g3⟩
              · rintro ⟨i, j, g1, g2, g3⟩
                refine ⟨i, j, ?_, g2, g3⟩
                by_cases hik : i < k
                · exact hik
                · obtain rfl : i = k := by omega
                  obtain ⟨_, _, g4⟩ := g2
                  rw [hf] at g4; cases g4
            | some j =>
              show e ∈ addW (stTo b S ps sh pls ts k).2 _ _ ↔ _
              rw [mem_addW_iff, ih2 e]
              constructor
              · rintro (⟨i, j', g1, g2, g3⟩ | g)
                · exact ⟨i, j', by omega, g2, g3⟩
                · simp at g
                  exact ⟨k, j, by omega, ⟨h1', h2', hf⟩, g⟩
              · rintro ⟨i, j', g1, g2, g3⟩
                by_cases hik : i < k
                · exact .inl ⟨i, j', hik, g2, g3⟩
                · obtain rfl : i = k := by omega
                  obtain ⟨_, _, g4⟩ := g2
                  rw [hf] at g4
                  injection g4 with g4
                  subst g4
                  exact .inr (by simp; exact g3)

theorem fstFit_some {b : Bed4} {S : List Shp} {ps : List Pt5} {sh : Int} {t : Trn} {cs : List (Int × Int)} {j : Nat} (h : fstFit b S ps sh t cs = some j) :
    j < cs.length ∧ fitsW b S ps ⟨sh, t.1, t.2, (gt cs j).1, (gt cs j).2⟩ = 0 ∧ ∀ i, i < j → fitsW b S ps ⟨sh, t.1, t.2, (gt cs i).1, (gt cs i).2⟩ ≠ 0 := by
  obtain ⟨h1, h2, h3⟩ := find_range h
  refine ⟨h1, by simpa [isFit] using h2, fun i hi => ?_⟩
  have := h3 i hi
  simpa [isFit] using this

/-- Step went: what it found. -/
theorem step_went {b : Bed4} {S : List Shp} {ps : List Pt5} {sh : Int} {p : Pt5} (h : stepW b S ps sh = (0, p)) :
    (prepW b S ps sh false 0).1 = 0 ∧ (stTo b S ps sh (prepW b S ps sh false 0).2.2 (allW (shp S sh.toNat).grain false) (allW (shp S sh.toNat).grain false).length).1 = 0 ∧
    ∃ E, (stTo b S ps sh (prepW b S ps sh false 0).2.2 (allW (shp S sh.toNat).grain false) (allW (shp S sh.toNat).grain false).length).2 = E ∧ E ≠ [] ∧ p = (leastTo E E.length).put ∧ leastTo E E.length ∈ E := by
  unfold stepW at h
  split at h
  · rename_i h0
    injection h with h1 h2
    exact absurd h1 h0
  · rename_i h0
    refine ⟨by simpa using h0, ?_⟩
    unfold stepIn at h
    split at h
    · rename_i h1
      injection h with h2 h3
      exact absurd h2 h1
    · rename_i h1
      split at h
      · injection h with h2 h3; cases h2
      · rename_i h2
        injection h with h3 h4
        refine ⟨by simpa using h1, _, rfl, ?_, h4.symm, leastTo_mem (by omega) (Nat.le_refl _)⟩
        intro e; rw [e] at h2; exact h2 rfl

theorem step_fits {b : Bed4} {S : List Shp} {ps : List Pt5} {sh : Int} {p : Pt5} (h : stepW b S ps sh = (0, p)) : fitsW b S ps p = 0 ∧ p.sh = sh := by
  obtain ⟨_, h1, E, hE, _, hp, hm⟩ := step_went h
  rw [← hE] at hm
  obtain ⟨i, j, hi, hst, he⟩ := ((stTo_mem h1).2 _).1 hm
  rw [hp, ← hE, he]
  exact ⟨(fstFit_some hst.2.2).2.1, rfl⟩

theorem fits_poly {b : Bed4} {S : List Shp} {ps : List Pt5} {p : Pt5} (h : fitsW b S ps p = 0) : bedBad b = false ∧ (polyW S p).1 = 0 ∧ fitIn b S ps p (shp S p.sh.toNat) (polyW S p).2 = 0 := by
  unfold fitsW at h
  split at h
  · cases h
  · rename_i h0
    split at h
    · rename_i h1; exact absurd h h1
    · rename_i h1
      exact ⟨by simpa using h0, by simpa using h1, h⟩

/-- Run went: each put fits beside those before it. -/
theorem runTo_ok {b : Bed4} {S : List Shp} {os : List Int} : ∀ {k : Nat}, (runTo b S os k).1 = 0 → (runTo b S os k).2.length = k ∧
    ∀ i, i < k → (runTo b S os i) = (0, (runTo b S os k).2.take i) ∧ stepW b S ((runTo b S os k).2.take i) (gi os i) = (0, pt (runTo b S os k).2 i) := by
  intro k
  induction k with
  | zero => intro _; exact ⟨rfl, fun i hi => absurd hi (by omega)⟩
  | succ k ih =>
    intro h
    rw [runTo] at h
    split at h
    · rename_i h0; exact absurd h h0
    · rename_i h0
      have h0' : (runTo b S os k).1 = 0 := by simpa using h0
      split at h
      · rename_i h1; exact absurd h h1
      · rename_i h1
        have h1' : (stepW b S (runTo b S os k).2 (gi os k)).1 = 0 := by simpa using h1
        obtain ⟨ih1, ih2⟩ := ih h0'
        have hr : runTo b S os (k + 1) = (0, (runTo b S os k).2 ++ [(stepW b S (runTo b S os k).2 (gi os k)).2]) := by rw [runTo, if_neg h0, if_neg h1]
        have hl : ((runTo b S os k).2 ++ [(stepW b S (runTo b S os k).2 (gi os k)).2]).length = k + 1 := by rw [List.length_append, ih1]; rfl
        rw [hr]
        refine ⟨hl, fun i hi => ?_⟩
        by_cases hik : i < k
        · obtain ⟨g1, g2⟩ := ih2 i hik
          have e1 : (((runTo b S os k).2 ++ [(stepW b S (runTo b S os k).2 (gi os k)).2]).take i) = (runTo b S os k).2.take i := by
            rw [List.take_append_of_le_length (by omega)]
          have e2 : pt ((runTo b S os k).2 ++ [(stepW b S (runTo b S os k).2 (gi os k)).2]) i = pt (runTo b S os k).2 i := by
            unfold pt; rw [List.getD, List.getD, List.getElem?_append_left (by omega)]
          rw [e1, e2]
          exact ⟨g1, g2⟩
        · obtain rfl : i = k := by omega
          have e1 : (((runTo b S os i).2 ++ [(stepW b S (runTo b S os i).2 (gi os i)).2]).take i) = (runTo b S os i).2 := by
            rw [List.take_append_of_le_length (by omega), List.take_of_length_le (by omega)]
          have e2 : pt ((runTo b S os i).2 ++ [(stepW b S (runTo b S os i).2 (gi os i)).2]) i = (stepW b S (runTo b S os i).2 (gi os i)).2 := by
            unfold pt; rw [List.getD, List.getElem?_append_right (by omega), ih1, Nat.sub_self]; rfl
          dsimp only
          rw [e1, e2]
          refine ⟨Prod.ext h0' rfl, Prod.ext h1' rfl⟩
theorem runW_ok {b : Bed4} {S : List Shp} {os : List Int} (h : (runW b S os).1 = 0) : os.length ≤ 60 ∧ runW b S os = runTo b S os os.length ∧ (runW b S os).2.length = os.length ∧
    ∀ i, i < os.length → fitsW b S ((runW b S os).2.take i) (pt (runW b S os).2 i) = 0 ∧ (pt (runW b S os).2 i).sh = gi os i := by
  unfold runW at h ⊢
  split at h
  · cases h
  · rename_i h60
    rw [if_neg h60]
    obtain ⟨h1, h2⟩ := runTo_ok h
    exact ⟨by omega, rfl, h1, fun i hi => step_fits (h2 i hi).2⟩

theorem extTo_ok {S : List Shp} {ps : List Pt5} : ∀ {k : Nat}, (∀ i, i < k → (polyW S (pt ps i)).1 = 0) → (extTo S ps k).1 = 0 := by
  intro k
  induction k with
  | zero => intro _; rfl
  | succ k ih =>
    intro h
    have h1 := ih fun i hi => h i (by omega)
    rw [extTo, if_neg (by rw [h1]; simp), if_neg (by rw [h k (by omega)]; simp)]
theorem run_ext_ok {b : Bed4} {S : List Shp} {os : List Int} (h : (runW b S os).1 = 0) : (extW S (runW b S os).2).1 = 0 := by
  obtain ⟨_, _, h1, h2⟩ := runW_ok h
  unfold extW
  rw [h1]
  exact extTo_ok fun i hi => (fits_poly (h2 i hi).1).2.1

/-! ### the best order -/
theorem bestTo_some {b : Bed4} {S : List Shp} {os : List (List Int)} : ∀ {k : Nat} {x : Int} {o : List Int}, bestTo b S os k = some (x, o) →
    (∃ i, i < k ∧ li os i = o ∧ tryW b S o = some x ∧ ∀ j, j < i → ∀ y, tryW b S (li os j) = some y → x < y) ∧ ∀ j, j < k → ∀ y, tryW b S (li os j) = some y → x ≤ y := by
  intro k
  induction k with
  | zero => intro x o h; cases h
  | succ k ih =>
    intro x o h
    rw [bestTo] at h
    cases ht : tryW b S (li os k) with
    | none =>
      rw [ht] at h
      obtain ⟨⟨i, i1, i2⟩, g2⟩ := ih (show bestTo b S os k = some (x, o) from h)
      refine ⟨⟨i, by omega, i2⟩, fun j hj y hy => ?_⟩
      by_cases hjk : j < k
      · exact g2 j hjk y hy
      · obtain rfl : j = k := by omega
        rw [ht] at hy; cases hy
    | some z =>
      rw [ht] at h
      cases hb : bestTo b S os k with
      | none =>
        rw [hb] at h
        have h' : some (z, li os k) = some (x, o) := h
        injection h' with h'
        injection h' with h1 h2
        subst h1 h2
        have hnone : ∀ j, j < k → tryW b S (li os j) = none := by
          clear ih h ht
          have : ∀ k, bestTo b S os k = none → ∀ j, j < k → tryW b S (li os j) = none := by
            intro k
            induction k with
            | zero => intro _ j hj; omega
            | succ k ih =>
              intro h j hj
              rw [bestTo] at h
              cases ht : tryW b S (li os k) with
              | none =>
                rw [ht] at h
                by_cases hjk : j < k
                · exact ih h j hjk
                · obtain rfl : j = k := by omega
                  exact ht
              | some y =>
                rw [ht] at h
                cases hb : bestTo b S os k with
                | none => rw [hb] at h; cases h
                | some q => rw [hb] at h; obtain ⟨q1, q2⟩ := q; unfold bestUp at h; dsimp only at h; split at h <;> cases h
          exact this k hb
        refine ⟨⟨k, by omega, rfl, ht, fun j hj y hy => by rw [hnone j hj] at hy; cases hy⟩, fun j hj y hy => ?_⟩
        by_cases hjk : j < k
        · rw [hnone j hjk] at hy; cases hy
        · obtain rfl : j = k := by omega
          rw [ht] at hy; injection hy with hy; omega
      | some q =>
        obtain ⟨q1, q2⟩ := q
        rw [hb] at h
        obtain ⟨⟨i, i1, i2, i3, i4⟩, g2⟩ := ih hb
        unfold bestUp at h
        dsimp only at h
        split at h
        · rename_i hlt
          injection h with h
          injection h with h1 h2
          subst h1 h2
          refine ⟨⟨k, by omega, rfl, ht, fun j hj y hy => ?_⟩, fun j hj y hy => ?_⟩
          · have := g2 j hj y hy; omega
          · by_cases hjk : j < k
            · have := g2 j hjk y hy; omega
            · obtain rfl : j = k := by omega
              rw [ht] at hy; injection hy with hy; omega
        · rename_i hlt
          injection h with h
          injection h with h1 h2
          subst h1 h2
          refine ⟨⟨i, by omega, i2, i3, i4⟩, fun j hj y hy => ?_⟩
          by_cases hjk : j < k
          · exact g2 j hjk y hy
          · obtain rfl : j = k := by omega
            rw [ht] at hy; injection hy with hy; omega

end Go.Proofs.YtccpgmneflfhjaaGreat

namespace Go.Proofs.YtccpgmneflfhjaaGreat
set_option linter.unusedVariables false
set_option linter.unusedSimpArgs false
open Go.RowKit

def fewW (S : List Shp) : Bool := decide (S.length ≤ 3) && AllB (fun i => decide ((shp S i).poly.length ≤ 6)) S.length

theorem ShW.keep {w w' : World} {A : Option Addr} {n : Nat} {S : List Shp} (h : ShW w A n S) (hb : Below w.heap.size w w') : ShW w' A n S := by
  refine ⟨h.1, h.2.1, ?_, h.2.2.2⟩
  obtain ⟨h1, -, h, -⟩ := h; rcases h with rfl | ⟨b, off, rfl, h⟩
  · exact .inl rfl
  · exact .inr ⟨b, off, rfl, fun k hk => (h k hk).keep hb⟩
theorem ShW.at_ {w : World} {A : Option Addr} {n : Nat} {S : List Shp} (h : ShW w A n S) {k : Nat} (hk : k < n) : ∃ b off, A = some ⟨b, off, none⟩ ∧ b < w.heap.size ∧ ShAt w b (off + k * 5) (shp S k) := by
  obtain ⟨h1, -, h, -⟩ := h; rcases h with rfl | ⟨b, off, rfl, h⟩
  · omega
  · obtain ⟨Ak, ck, g1, _⟩ := h k hk
    exact ⟨b, off, rfl, lt_of_cell g1, h k hk⟩

set_option maxHeartbeats 1000000 in
set_option maxRecDepth 100000 in
theorem few_any (A : Option Addr) (c n : Nat) (S : List Shp) (w : World) (hS : ShW w A n S) :
    Calls Tryz.prog 38 #[.slice A n c] w fun e w' => e = .returned (.bool (fewW S)) ∧ Below w.heap.size w w' := by
  have hn := hS.2.1
  have HL := Lib.hid hS.1
  go_enter Tryz.func38, Tryz.ntmps38
  go_wp2_with fail
  go_loopw [3] (fun i wr => ∃ k : Nat, k ≤ n ∧ k ≤ 3 ∧ i = .int .i64 k ∧ Hid (AllB (fun i => decide ((shp S i).poly.length ≤ 6)) k = true) ∧ Below w.heap.size w wr) (fun i _ => 3 - (intOf i).toNat)
  case atStart => exact ⟨0, Nat.zero_le _, by omega, rfl, AllB.zero _, Below.refl _ _⟩
  case round =>
    obtain ⟨k, hk, hk3, rfl, hp, hb⟩ := hrel
    by_cases hlt : k < n ∧ k < 3
    · obtain ⟨hlt, hlt3⟩ := hlt
      obtain ⟨ba, oa, rfl, hbl, hsh⟩ := (hS.keep hb).at_ hlt
      obtain ⟨Ak, ck, g1, g2, g3, -⟩ := hsh
      obtain ⟨nk, hnk⟩ : ∃ nk, (shp S k).poly.length = nk := ⟨_, rfl⟩
      rw [hnk] at g1 g2
      by_cases h6 : 6 < nk
      · have HF := Lib.hid (show fewW S = false by
          unfold fewW
          rw [HL.out]
          by_cases h3 : n ≤ 3
          · rw [show AllB (fun i => decide ((shp S i).poly.length ≤ 6)) n = false from AllB.no hlt (by simp [hnk]; omega)]; simp
          · simp [h3])
        clear hnk
        go_wp2_with fail
        go_ret
        exact ⟨ret_bool HF.out.symm, hb⟩
      · have HS := Lib.hid (AllB.succ hp.out (show decide ((shp S k).poly.length ≤ 6) = true by simp [hnk]; omega))
        clear hnk
        go_wp2_with fail
        exact ⟨⟨k + 1, by omega, by omega, by go_num, HS, hb⟩, by simp [intOf]; omega⟩
    · have HF := Lib.hid (show fewW S = decide ((n : Int) ≤ 3) by
        unfold fewW
        rw [HL.out]
        by_cases h3 : n ≤ 3
        · have e : n = k := by omega
          rw [e, hp.out]
          simp; omega
        · simp [h3]; omega)
      by_cases hlt1 : k < n
      · have h3 : ¬ k < 3 := fun h => hlt ⟨hlt1, h⟩
        clear hlt
        go_wp2_with fail
        go_ret
        exact ⟨ret_bool HF.out.symm, hb⟩
      · clear hlt
        go_wp2_with fail
        go_ret
        exact ⟨ret_bool HF.out.symm, hb⟩

theorem fewW_len {S : List Shp} (h : fewW S = true) : S.length ≤ 3 := by
  unfold fewW at h
  simp at h
  exact h.1

/-- What the law asks of the order k of the list: it is true for the best order. -/
theorem best_round {b : Bed4} {S : List Shp} {L : List (List Int)} {m : Nat} {x : Int} {o : List Int} (hb : bestTo b S L m = some (x, o)) {k : Nat} (hk : k < m) (hr : (runW b S (li L k)).1 = 0) :
    (extW S (runW b S (li L k)).2).1 = 0 ∧ x ≤ (extW S (runW b S (li L k)).2).2 ∧ (AllB (fun i => !sameI (li L i) o) (k + 1) = true → (extW S (runW b S (li L k)).2).2 ≠ x) ∧ (sameI (li L k) o = true → (extW S (runW b S (li L k)).2).2 = x) := by
  have he := run_ext_ok hr
  obtain ⟨⟨i, i1, i2, i3, i4⟩, g⟩ := bestTo_some hb
  have ht : tryW b S (li L k) = some (extW S (runW b S (li L k)).2).2 := by unfold tryW; rw [if_neg (by rw [hr]; simp), if_neg (by rw [he]; simp)]
  refine ⟨he, g k hk _ ht, fun h => ?_, fun h => ?_⟩
  · have hik : k < i := by
      rcases Nat.lt_or_ge k i with h1 | h1
      · exact h1
      · have := AllB.iff.1 h i (by omega)
        rw [i2] at this
        simp [sameI] at this
    have := i4 k hik _ ht
    omega
  · have h' : li L k = o := by simpa [sameI] using h
    rw [h', i3] at ht
    injection ht with ht
    rw [h']
    exact ht.symm
theorem best_same {b : Bed4} {S : List Shp} {L : List (List Int)} {m : Nat} {x : Int} {o : List Int} (hb : bestTo b S L m = some (x, o)) : (runW b S o).1 = 0 ∧ AllB (fun i => !sameI (li L i) o) m = false := by
  obtain ⟨⟨i, i1, i2, i3, i4⟩, g⟩ := bestTo_some hb
  constructor
  · unfold tryW at i3
    split at i3
    · cases i3
    · rename_i h; simpa using h
  · exact AllB.no i1 (by rw [i2]; simp [sameI])

theorem bestW_bad {b : Bed4} {S : List Shp} {e : Int} {y : Int × List Int} (h : bestW b S = (e, y)) (he : e ≠ 0) : y = (0, []) := by
  unfold bestW at h
  split at h
  · injection h with h1 h2; exact h2.symm
  · split at h
    · injection h with h1 h2; exact h2.symm
    · split at h
      · injection h with h1 h2; exact h2.symm
      · injection h with h1 h2; exact absurd h1.symm he
theorem bestW_good {b : Bed4} {S : List Shp} {x : Int} {o : List Int} (h : bestW b S = (0, x, o)) : S.length ≤ 5 ∧ (bndW b S).1 = 0 ∧ bestTo b S (ordW S.length) (ordW S.length).length = some (x, o) := by
  unfold bestW at h
  split at h
  · injection h with h1 h2; cases h1
  · rename_i h5
    split at h
    · rename_i h0; injection h with h1 h2; exact absurd h1 h0
    · rename_i h0
      split at h
      · injection h with h1 h2; cases h1
      · rename_i x' o' hb
        injection h with h1 h2
        injection h2 with h2 h3
        subst h2 h3
        exact ⟨by omega, by simpa using h0, hb⟩

set_option maxHeartbeats 4000000 in
set_option maxRecDepth 100000 in
theorem lawBest (A1 : Option Addr) (c1 n1 : Nat) (b : Bed4) (S : List Shp) (w : World) (hS : ShW w A1 n1 S) :
    Calls Tryz.prog 11 #[bedV b, .slice A1 n1 c1] w fun e w' => e = .returned (.bool true) ∧ Below w.heap.size w w' := by
  have hB := Lib.hid (BlkS.new w 25 #[.int .i64 b.len, .int .i64 b.wid, .int .i64 b.rx, .int .i64 b.ry])
  have hbw := Lib.hid (show Below w.heap.size w (w.alloc (.cells #[.int .i64 b.len, .int .i64 b.wid, .int .i64 b.rx, .int .i64 b.ry] 25)) from (Bl.alloc (Below.refl _ _) _))
  have hl := hS.1
  obtain ⟨len, wid, rx, ry⟩ := b
  unfold bedV
  dsimp only at hB hbw ⊢
  have HA := Lib.hid alive_any
  cases hfew : fewW S with
  | false =>
    have HF := Lib.hid hfew
    clear hfew hl
    go_enter Tryz.func11, Tryz.ntmps11
    go_wp2_with (first | (go_at_call 38; refine (few_any _ _ _ S _ (hS.keep hbw.out)).mono ?_; rintro e w1 ⟨rfl, hb1⟩; rw [HF.out]) | (go_at_call 34; refine (HA.out _).mono ?_; rintro e w2 ⟨rfl, hb2⟩))
    go_ret
    exact ⟨rfl, Bl.call (Bl.call hbw.out hb1) hb2⟩
  | true =>
    have hn3 := fewW_len hfew
    rw [hl] at hn3
    have HF := Lib.hid hfew
    have hSS := hS.shs (by omega)
    obtain ⟨r, hr⟩ : ∃ r, bestW ⟨len, wid, rx, ry⟩ S = r := ⟨_, rfl⟩
    have HR := Lib.hid hr
    obtain ⟨er, x, o⟩ := r
    by_cases her : er = 0
    · subst her
      obtain ⟨h5, -, hbt⟩ := bestW_good hr
      rw [hl] at hbt
      have hsm := ordW_len n1
      obtain ⟨L, hL⟩ : ∃ L, ordW n1 = L := ⟨_, rfl⟩
      rw [hL] at hsm hbt
      have HW := Lib.hid hL
      have HSM := Lib.hid hsm.2
      have hsm1 := hsm.1
      obtain ⟨m, hm⟩ : ∃ m, L.length = m := ⟨_, rfl⟩
      rw [hm] at hsm1 hbt
      have HM := Lib.hid hm
      have HBT := Lib.hid hbt
      have hol : o.length ≤ 5 := by
        obtain ⟨⟨i, i1, i2, -⟩, -⟩ := bestTo_some hbt
        rw [← i2]
        exact HSM.out _ (li_mem (by rw [hm]; exact i1))
      clear hsm hL hm hbt hr hl hfew h5
      obtain ⟨no, hno⟩ : ∃ no, o.length = no := ⟨_, rfl⟩
      rw [hno] at hol
      have HNO := Lib.hid hno
      clear hno
      go_enter Tryz.func11, Tryz.ntmps11
      go_upto_region 4 with (first | (go_at_call 38; refine (few_any _ _ _ S _ (hS.keep hbw.out)).mono ?_; rintro e w1 ⟨rfl, hb1⟩; rw [HF.out]; obtain ⟨a1, a2, a3, a4, a5⟩ := (hB.out.keep hb1).cells4) | (go_at_call 39; refine (best_any _ _ _ ⟨len, wid, rx, ry⟩ S _ (hSS.keep (Bl.call hbw.out hb1))).mono ?_; rintro e w2 ⟨v2, rfl, hr2, hb2⟩; rw [HR.out] at hr2 ⊢; dsimp only at hr2))
      obtain ⟨Ab, cb, rfl, hcb, hIb, -⟩ := hr2
      rw [HNO.out] at hIb hcb ⊢
      have hb12 := Bl.call (Bl.call hbw.out hb1) hb2
      have HB2 := Lib.hid ((hB.out.keep hb1).keep hb2)
      have hS2 := hSS.keep hb12
      clear hb1 hb2 a1 a2 a3 a4 a5 hbw hB hSS hS
      go_upto_region 7 with (go_at_call 31; refine (orders_any n1 _ (by omega) (by omega)).mono ?_; rintro e w3 ⟨v3, rfl, ho3, hb3⟩; rw [HW.out] at ho3)
      obtain ⟨A3, c3, rfl, hc3, hI3, -⟩ := ho3.inss
      rw [HM.out] at hI3 hc3 ⊢
      have hbX := Bl.call hb12 hb3
      have HBX := Lib.hid (HB2.out.keep hb3)
      have hSX := hS2.keep hb3
      have hIX := hIb.keep hb3
      clear ho3 hb12 hb3 HB2 hS2 hIb
      go_wp2_with fail
      go_loopw [9, 10, 11] (fun vb vf i wr => ∃ k : Nat, ∃ bf : Bool, k ≤ m ∧ i = .int .i64 k ∧ vb = .bool bf ∧ vf = .bool (!bf) ∧ Hid (bf = AllB (fun i => !sameI (li L i) o) k) ∧ Below w3.heap.size w3 wr) (fun _ _ i _ => m - (intOf i).toNat)
      case atStart => exact ⟨0, true, Nat.zero_le _, rfl, rfl, rfl, Lib.hid rfl, Below.refl _ _⟩
      case round =>
        obtain ⟨k, bf, hk, rfl, rfl, rfl, hbf, hbr⟩ := hrel
        by_cases hlt : k < m
        · obtain ⟨b1, o1, Ak, ck, rfl, e1, e2, e3, e4⟩ := (hI3.keep hbr).at_ hlt
          have hl5 : (li L k).length ≤ 5 := HSM.out _ (li_mem (by rw [HM.out]; exact hlt))
          have hround := fun h => best_round HBT.out hlt h
          have hsucc : AllB (fun i => !sameI (li L i) o) (k + 1) = (bf && !sameI (li L k) o) := by
            rw [hbf.out]; unfold AllB; rw [List.range_succ, List.all_append]; simp
          rw [hsucc] at hround
          have HSUC := Lib.hid hsucc
          have hsame0 : sameI (li L k) o = true → (runW ⟨len, wid, rx, ry⟩ S (li L k)).1 = 0 := fun h => by
            have h' : li L k = o := by simpa [sameI] using h
            rw [h']; exact (best_same HBT.out).1
          clear hsucc
          obtain ⟨ok, hok⟩ : ∃ ok, li L k = ok := ⟨_, rfl⟩
          rw [hok] at e1 e2 e3 hl5 hround hsame0 HSUC
          clear hok
          have hpl := runW_len ⟨len, wid, rx, ry⟩ S ok
          obtain ⟨r, hr⟩ : ∃ r, runW ⟨len, wid, rx, ry⟩ S ok = r := ⟨_, rfl⟩
          rw [hr] at hround hpl hsame0
          have HRN := Lib.hid hr
          clear hr
          obtain ⟨q1, ps⟩ := r
          dsimp only at hround hpl hsame0
          obtain ⟨y, hy⟩ : ∃ y, extW S ps = y := ⟨_, rfl⟩
          rw [hy] at hround
          have HX := Lib.hid hy
          clear hy
          obtain ⟨y1, y2⟩ := y
          dsimp only at hround
          have HRD := Lib.hid hround
          have HS0 := Lib.hid hsame0
          clear hround hsame0
          obtain ⟨nk, hnk⟩ : ∃ nk, ok.length = nk := ⟨_, rfl⟩
          rw [hnk] at e1 e2 e3 hl5 hpl
          clear hnk
          obtain ⟨np, hnp⟩ : ∃ np, ps.length = np := ⟨_, rfl⟩
          rw [hnp] at hpl
          have HPL := Lib.hid hnp
          clear hnp
          obtain ⟨d1, d2, d3, d4, d5⟩ := (HBX.out.keep hbr).cells4
          clear d5
          go_upto_region 11 with fail
          go_cut [12, 13] (fun v12 v13 wx => v13 = .int .i64 q1 ∧ (∃ A5 c5, v12 = .slice A5 np c5 ∧ PuS wx A5 np ps) ∧ Below wr.heap.size wr wx)
          case first =>
            go_region_held3 (fun w' => w'.cell? ⟨w.heap.size, 0, none⟩ = some (.int .i64 len) ∧ w'.cell? ⟨w.heap.size, 1, none⟩ = some (.int .i64 wid) ∧ w'.cell? ⟨w.heap.size, 2, none⟩ = some (.int .i64 rx) ∧ w'.cell? ⟨w.heap.size, 3, none⟩ = some (.int .i64 ry) ∧ w'.cell? ⟨b1, o1 + k, none⟩ = some (.slice Ak nk ck))
              (first
                | go_keep
                | exact ⟨cell_keep hb5 d1, cell_keep hb5 d2, cell_keep hb5 d3, cell_keep hb5 d4, cell_keep hb5 e1⟩)
              ((first
                | (go_at_call 16; refine (run_any _ _ _ _ _ _ ⟨len, wid, rx, ry⟩ S ok _ (by omega) (hSX.keep (Bl.drew hbr)) (e3.keep (Bl.drew (Below.refl _ _)))).mono ?_; rintro e w5 ⟨v5, rfl, ho5, hb5⟩; rw [HRN.out] at ho5 ⊢; obtain ⟨A5, c5, rfl, hP5⟩ := OwP.pus ho5; rw [HPL.out] at hP5 ⊢)))
            all_goals go_wp2_with fail
            all_goals go_meet
            all_goals exact ⟨rfl, ⟨_, _, rfl, hP5⟩, Bl.call (Bl.drew (Below.refl _ _)) hb5⟩
          case rest =>
            clear d1 d2 d3 d4
            obtain ⟨rfl, ⟨A5, c5, rfl, hP5⟩, hbc⟩ := hcut
            have e1' := cell_keep hbc e1
            have e3' := e3.keep hbc
            have hIc := hIX.keep (Bl.call hbr hbc)
            have hSc := hSX.keep (Bl.call hbr hbc)
            have hbc' := Bl.call hbr hbc
            clear e1 e3 hbr hbc
            cases hsm : sameI ok o with
            | true =>
              have hq := HS0.out hsm
              subst hq
              obtain ⟨z1, z2, -, z4⟩ := HRD.out rfl
              replace z4 := z4 hsm
              subst z1 z4
              have HSM2 := Lib.hid hsm
              have HB1 := Lib.hid (show AllB (fun i => !sameI (li L i) o) (k + 1) = false by rw [HSUC.out, hsm]; simp)
              clear hsm z2
              go_wp2_with (first | (go_at_call 33; refine (sameInts_any Ak Ab _ _ nk no ok o _ (by omega) ((e3'.keep hb5).keep hb6) ((hIc.keep hb5).keep hb6)).mono ?_; rintro e w7 ⟨rfl, hb7⟩; rw [HSM2.out]) | (go_at_call 33; refine (sameInts_any Ak Ab _ _ nk no ok o _ (by omega) e3' hIc).mono ?_; rintro e w5 ⟨rfl, hb5⟩; rw [HSM2.out]) | (go_at_call 27; refine (extent_any _ _ _ _ _ _ S ps _ (by omega) (hSc.keep hb5) (hP5.keep hb5)).mono ?_; rintro e w6 ⟨rfl, hb6⟩; rw [HX.out]; have e1'' := cell_keep (Bl.call hb5 hb6) e1'))
              exact ⟨⟨k + 1, false, by omega, by go_num, rfl, rfl, Lib.hid HB1.out.symm, Bl.call (Bl.call (Bl.call hbc' hb5) hb6) hb7⟩, by simp [intOf]; omega⟩
            | false =>
              have HSM2 := Lib.hid hsm
              have HB1 := Lib.hid (show AllB (fun i => !sameI (li L i) o) (k + 1) = bf by rw [HSUC.out, hsm]; simp)
              by_cases hq : q1 = 0
              · subst hq
                obtain ⟨z1, z2, z3, -⟩ := HRD.out rfl
                subst z1
                rw [hsm] at z3
                clear hsm
                cases bf with
                | true =>
                  have z3' : (y2 == x) = false := by have := z3 rfl; simpa using this
                  clear z3
                  go_wp2_with (first | (go_at_call 33; refine (sameInts_any Ak Ab _ _ nk no ok o _ (by omega) ((e3'.keep hb5).keep hb6) ((hIc.keep hb5).keep hb6)).mono ?_; rintro e w7 ⟨rfl, hb7⟩; rw [HSM2.out]) | (go_at_call 33; refine (sameInts_any Ak Ab _ _ nk no ok o _ (by omega) e3' hIc).mono ?_; rintro e w5 ⟨rfl, hb5⟩; rw [HSM2.out]) | (go_at_call 27; refine (extent_any _ _ _ _ _ _ S ps _ (by omega) (hSc.keep hb5) (hP5.keep hb5)).mono ?_; rintro e w6 ⟨rfl, hb6⟩; rw [HX.out]; have e1'' := cell_keep (Bl.call hb5 hb6) e1'))
                  exact ⟨⟨k + 1, true, by omega, by go_num, rfl, rfl, Lib.hid HB1.out.symm, Bl.call (Bl.call (Bl.call hbc' hb5) hb6) hb7⟩, by simp [intOf]; omega⟩
                | false =>
                  clear z3
                  go_wp2_with (first | (go_at_call 33; refine (sameInts_any Ak Ab _ _ nk no ok o _ (by omega) ((e3'.keep hb5).keep hb6) ((hIc.keep hb5).keep hb6)).mono ?_; rintro e w7 ⟨rfl, hb7⟩; rw [HSM2.out]) | (go_at_call 33; refine (sameInts_any Ak Ab _ _ nk no ok o _ (by omega) e3' hIc).mono ?_; rintro e w5 ⟨rfl, hb5⟩; rw [HSM2.out]) | (go_at_call 27; refine (extent_any _ _ _ _ _ _ S ps _ (by omega) (hSc.keep hb5) (hP5.keep hb5)).mono ?_; rintro e w6 ⟨rfl, hb6⟩; rw [HX.out]; have e1'' := cell_keep (Bl.call hb5 hb6) e1'))
                  exact ⟨⟨k + 1, false, by omega, by go_num, rfl, rfl, Lib.hid HB1.out.symm, Bl.call (Bl.call (Bl.call hbc' hb5) hb6) hb7⟩, by simp [intOf]; omega⟩
              · have qo : (q1 != 0) = true := by simpa using hq
                clear hq hsm
                go_wp2_with (first | (go_at_call 33; refine (sameInts_any Ak Ab _ _ nk no ok o _ (by omega) ((e3'.keep hb5).keep hb6) ((hIc.keep hb5).keep hb6)).mono ?_; rintro e w7 ⟨rfl, hb7⟩; rw [HSM2.out]) | (go_at_call 33; refine (sameInts_any Ak Ab _ _ nk no ok o _ (by omega) e3' hIc).mono ?_; rintro e w5 ⟨rfl, hb5⟩; rw [HSM2.out]) | (go_at_call 27; refine (extent_any _ _ _ _ _ _ S ps _ (by omega) (hSc.keep hb5) (hP5.keep hb5)).mono ?_; rintro e w6 ⟨rfl, hb6⟩; rw [HX.out]; have e1'' := cell_keep (Bl.call hb5 hb6) e1'))
                exact ⟨⟨k + 1, bf, by omega, by go_num, rfl, rfl, Lib.hid HB1.out.symm, Bl.call hbc' hb5⟩, by simp [intOf]; omega⟩
        · obtain rfl : m = k := by omega
          have e : bf = false := by rw [hbf.out]; exact (best_same HBT.out).2
          subst e
          go_wp2_with (go_at_call 34; refine (HA.out _).mono ?_; rintro e w4 ⟨rfl, hb4⟩)
          go_ret
          exact ⟨rfl, Bl.call (Bl.call hbX hbr) hb4⟩
    · have hy := bestW_bad hr her
      injection hy with hy1 hy2
      subst hy1 hy2
      have qe : (er != 0) = true := by simpa using her
      clear her hr hl hfew
      go_enter Tryz.func11, Tryz.ntmps11
      go_wp2_with (first | (go_at_call 38; refine (few_any _ _ _ S _ (hS.keep hbw.out)).mono ?_; rintro e w1 ⟨rfl, hb1⟩; rw [HF.out]; obtain ⟨a1, a2, a3, a4, a5⟩ := (hB.out.keep hb1).cells4) | (go_at_call 39; refine (best_any _ _ _ ⟨len, wid, rx, ry⟩ S _ (hSS.keep (Bl.call hbw.out hb1))).mono ?_; rintro e w2 ⟨v2, rfl, hr2, hb2⟩; rw [HR.out] at hr2 ⊢; obtain ⟨Ab, cb, rfl, hcb, hIb, -⟩ := hr2; dsimp only) | (go_at_call 34; refine (HA.out _).mono ?_; rintro e w3 ⟨rfl, hb3⟩))
      go_ret
      exact ⟨rfl, Bl.call (Bl.call (Bl.call hbw.out hb1) hb2) hb3⟩

end Go.Proofs.YtccpgmneflfhjaaGreat

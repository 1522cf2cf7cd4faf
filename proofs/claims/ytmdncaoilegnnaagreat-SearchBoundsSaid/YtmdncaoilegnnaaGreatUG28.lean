/- Opening the laws' arguments: beds, shapes, puts, spots and slices of them. Plain facts on Step, Run and Extent. garmentref32.Few; the law SearchBest. -/
import Derived.Test.YtmdncaoilegnnaaGreatUG27
import Derived.Deep.Slices
import Derived.Deep.Strs
import Derived.Lib.SmallJoins
namespace Go.Proofs.YtmdncaoilegnnaaGreat
set_option linter.unusedVariables false
set_option linter.unusedSimpArgs false
set_option linter.unusedVariables false
set_option linter.unusedSimpArgs false
open Go.ChangeShapes Go.WideShapes Go.ChangeAt Go.RowKit Go.Deep Go.Joins

section
variable {H : Type} {enc : TypeId × Value → H} {w : World} {base b0 : Nat} {spare : Nat → Bool} {held : Bool} {fuel : Nat} {cs : List Value} {x : DataW H × List MemPlace} {r : Reach} {v : Value} {d : DataW H} {p : List MemPlace}

theorem cellsRep : Tryz.prog.cellsOf 23 = 2 := by kernel_rfl
theorem cellsBed : Tryz.prog.cellsOf 25 = 4 := by kernel_rfl
theorem cellsShape : Tryz.prog.cellsOf 49 = 5 := by kernel_rfl
theorem cellsBool : Tryz.prog.cellsOf 4 = 1 := by kernel_rfl
theorem lenL4 {α : Type} {l : List α} (h : l.length = 4) : ∃ a b c d, l = [a, b, c, d] := by
  match l, h with
  | [a, b, c, d], _ => exact ⟨a, b, c, d, rfl⟩
theorem lenL5 {α : Type} {l : List α} (h : l.length = 5) : ∃ a b c d e, l = [a, b, c, d, e] := by
  match l, h with
  | [a, b, c, d, e], _ => exact ⟨a, b, c, d, e, rfl⟩
set_option maxRecDepth 100000 in
theorem rep_trod (h : DataW.trod enc Tryz.prog w base spare held fuel 23 cs = some x) : ∃ a b, cs = [.int .i64 a, .int .i64 b] ∧ inR a ∧ inR b := by
  obtain ⟨y0, y1, n, -, hl, h0, h1⟩ := trod_struct2 Tryz.underlying23 h
  rw [cellsRep] at hl
  obtain ⟨c0, c1, rfl⟩ := lenL2 hl
  dsimp only at h0 h1
  rw [cellsInt] at h0 h1
  obtain ⟨a, e0, -, wa⟩ := DataW.trod_int Tryz.underlying3 h0
  obtain ⟨b, e1, -, wb⟩ := DataW.trod_int Tryz.underlying3 h1
  simp at e0 e1
  subst e0 e1
  exact ⟨a, b, rfl, bounds_i64 wa, bounds_i64 wb⟩
set_option maxRecDepth 100000 in
theorem bed_trod (h : DataW.trod enc Tryz.prog w base spare held fuel 25 cs = some x) : ∃ a b c e, cs = [.int .i64 a, .int .i64 b, .int .i64 c, .int .i64 e] ∧ inR a ∧ inR b ∧ inR c ∧ inR e := by
  obtain ⟨y0, y1, y2, n, -, hl, h0, h1, h2⟩ := trod_struct3 Tryz.underlying25 h
  rw [cellsBed] at hl
  obtain ⟨c0, c1, c2, c3, rfl⟩ := lenL4 hl
  dsimp only at h0 h1 h2
  rw [cellsInt] at h0 h1
  rw [cellsRep] at h2
  obtain ⟨a, e0, -, wa⟩ := DataW.trod_int Tryz.underlying3 h0
  obtain ⟨b, e1, -, wb⟩ := DataW.trod_int Tryz.underlying3 h1
  obtain ⟨c, e, e2, w1, w2⟩ := rep_trod h2
  simp at e0 e1 e2
  obtain ⟨rfl, rfl⟩ := e2
  subst e0 e1
  exact ⟨a, b, c, e, rfl, bounds_i64 wa, bounds_i64 wb, w1, w2⟩
def ShOk (s : Shp) : Prop := inR s.grain ∧ inR s.anc.1 ∧ inR s.anc.2 ∧ ∀ q ∈ s.poly, inR q.1 ∧ inR q.2
set_option maxRecDepth 100000 in
theorem shape_trod (h : DataW.trod enc Tryz.prog w base spare held fuel 49 cs = some x) : ∃ A n c g m ax ay l, cs = [.slice A n c, .int .i64 g, .bool m, .int .i64 ax, .int .i64 ay] ∧ n ≤ c ∧ c ≤ 9223372036854775807 ∧ (A = none → c = 0) ∧ SpS w A n l ∧ ShOk ⟨l, g, m, (ax, ay)⟩ := by
  obtain ⟨y0, y1, y2, y3, n, -, hl, h0, h1, h2, h3⟩ := trod_struct4 Tryz.underlying49 h
  rw [cellsShape] at hl
  obtain ⟨c0, c1, c2, c3, c4, rfl⟩ := lenL5 hl
  dsimp only at h0 h1 h2 h3
  rw [cellsSS] at h0
  rw [cellsInt] at h1
  rw [cellsBool] at h2
  rw [cellsSpot] at h3
  obtain ⟨a, e1, -, wa⟩ := DataW.trod_int Tryz.underlying3 h1
  obtain ⟨b, e2, -⟩ := DataW.trod_bool Tryz.underlying4 h2
  obtain ⟨e, f, e3, w2, w3⟩ := spot_trod h3
  have h0' : DataW.trod enc Tryz.prog w base spare held n 47 [c0] = some y0 := by simpa using h0
  have hsl : ∃ A n c, c0 = .slice A n c := by
    rcases open_slice Tryz.underlying47 h0' with ⟨g, -⟩ | ⟨a, len, cap, m, k, D, Pl, g, -⟩
    · simp at g; exact ⟨_, _, _, g⟩
    · simp at g; exact ⟨_, _, _, g⟩
  obtain ⟨A, nn, c, rfl⟩ := hsl
  obtain ⟨g1, g2, g3, l, g4, g5⟩ := spots_trod h0'
  simp at e1 e2 e3
  obtain ⟨rfl, rfl⟩ := e3
  subst e1 e2
  exact ⟨A, nn, c, a, b, e, f, l, rfl, g1, g2, g3, g4, bounds_i64 wa, w2, w3, g5⟩
instance : Inhabited Shp := ⟨⟨[], 0, false, (0, 0)⟩⟩
instance : Inhabited Pt5 := ⟨⟨0, false, 0, 0, 0⟩⟩
/-- As ShS, of whatever length. -/
def ShW (w : World) (A : Option Addr) (n : Nat) (S : List Shp) : Prop := S.length = n ∧ n ≤ 9223372036854775807 ∧ (n = 0 ∨ ∃ b off, A = some ⟨b, off, none⟩ ∧ ∀ k, k < n → ShAt w b (off + k * 5) (shp S k)) ∧ ∀ s ∈ S, ShOk s
end
theorem ShW.shs {w : World} {A : Option Addr} {n : Nat} {S : List Shp} (h : ShW w A n S) (hn : n ≤ 100000000000000) : ShS w A n S := ⟨h.1, hn, h.2.2.1⟩
section
variable {H : Type} {enc : TypeId × Value → H} {w : World} {base b0 : Nat} {spare : Nat → Bool} {held : Bool} {r : Reach} {v : Value} {d : DataW H} {p : List MemPlace}
set_option maxRecDepth 100000 in
theorem open_bed (hv : Value.okWide Tryz.prog w r b0 25 v) (h : DataW.Trod enc Tryz.prog w base spare held 25 v d p) : ∃ b : Bed4, v = bedV b ∧ inR b.len ∧ inR b.wid ∧ inR b.rx ∧ inR b.ry := by
  obtain ⟨cs, rfl, hsz⟩ := okWide_struct Tryz.underlying25 hv
  obtain ⟨fuel, hf⟩ := h
  obtain ⟨a, b, c, e, hcs, wa, wb, wc, we⟩ := bed_trod hf
  refine ⟨⟨a, b, c, e⟩, ?_, wa, wb, wc, we⟩
  unfold bedV
  rw [show cs = cs.toList.toArray by simp]
  have : cs.toList = [.int .i64 a, .int .i64 b, .int .i64 c, .int .i64 e] := by simpa [Value.cells] using hcs
  rw [this]
set_option maxRecDepth 100000 in
theorem open_shapes (hv : Value.okWide Tryz.prog w r b0 26 v) (h : DataW.Trod enc Tryz.prog w base spare held 26 v d p) : ∃ A n c S, v = .slice A n c ∧ n ≤ c ∧ ShW w A n S := by
  obtain ⟨A, n, c, rfl⟩ := okWide_slice Tryz.underlying26 hv
  obtain ⟨fuel, hf⟩ := h
  have hf' : DataW.trod enc Tryz.prog w base spare held fuel 26 [.slice A n c] = some (d, p) := by simpa [Value.cells] using hf
  refine ⟨A, n, c, ?_⟩
  rcases open_slice Tryz.underlying26 hf' with ⟨h1, -⟩ | ⟨a, len, cap, m, k, D, Pl, h1, h2, h3, h4, h5, -, h6⟩
  · simp at h1
    obtain ⟨rfl, rfl, rfl⟩ := h1
    exact ⟨[], rfl, Nat.le_refl _, rfl, by omega, .inl rfl, by simp⟩
  · simp at h1
    obtain ⟨rfl, rfl, rfl⟩ := h1
    have hm : n ≤ m := by rw [h5]; split <;> omega
    have hel : ∀ i, i < n → ∃ s : Shp, (∃ Ak ck, w.cell? (a.add (i * 5)) = some (.slice Ak s.poly.length ck) ∧ s.poly.length ≤ ck ∧ ck ≤ 9223372036854775807 ∧ SpS w Ak s.poly.length s.poly ∧ (Ak = none → ck = 0) ∧ w.cell? ((a.add (i * 5)).add 1) = some (.int .i64 s.grain) ∧ w.cell? ((a.add (i * 5)).add 2) = some (.bool s.mat) ∧ w.cell? ((a.add (i * 5)).add 3) = some (.int .i64 s.anc.1) ∧ w.cell? ((a.add (i * 5)).add 4) = some (.int .i64 s.anc.2)) ∧ ShOk s := by
      intro i hi
      obtain ⟨cs', g1, g2⟩ := h6 i (by omega)
      rw [cellsShape] at g1
      obtain ⟨Ak, nk, ck, g, mt, ax, ay, l, rfl, k1, k2, k3, k4, k5⟩ := shape_trod g2
      have c0 := cells_at g1 (show 0 < 5 by omega)
      rw [add_zero_] at c0
      have hl := k4.1
      exact ⟨⟨l, g, mt, (ax, ay)⟩, ⟨Ak, ck, by rw [hl]; exact c0, by rw [hl]; exact k1, k2, by rw [hl]; exact k4, k3, cells_at g1 (show 1 < 5 by omega), cells_at g1 (show 2 < 5 by omega), cells_at g1 (show 3 < 5 by omega), cells_at g1 (show 4 < 5 by omega)⟩, k5⟩
    obtain ⟨f, hf⟩ := choose_lt hel
    refine ⟨(List.range n).map f, rfl, h3, by simp, by unfold maxLen at h4; omega, ?_, fun s hs => ?_⟩
    · rcases Nat.eq_zero_or_pos n with h0 | h0
      · exact .inl h0
      · obtain ⟨Ak, ck, c0, -⟩ := (hf 0 h0).1
        rw [Nat.zero_mul, add_zero_] at c0
        have ea := addr_plain c0
        refine .inr ⟨a.block, a.off, by rw [← ea], fun k hk => ?_⟩
        have g := (hf k hk).1
        rw [ea, add_mk, add_mk, add_mk, add_mk, add_mk] at g
        have e : shp ((List.range n).map f) k = f k := by unfold shp; simp [List.getD, hk]
        rw [e]
        exact g
    · simp at hs
      obtain ⟨i, hi, rfl⟩ := hs
      exact (hf i hi).2
end

end Go.Proofs.YtmdncaoilegnnaaGreat

namespace Go.Proofs.YtmdncaoilegnnaaGreat
set_option linter.unusedVariables false
set_option linter.unusedSimpArgs false
set_option linter.unusedVariables false
set_option linter.unusedSimpArgs false
open Go.RowKit

theorem mem_addTo {α : Type} [DecidableEq α] {L xs : List α} {d : α} : ∀ {k : Nat}, k ≤ xs.length → ∀ {x : α}, x ∈ addTo L xs d k → x ∈ L ∨ x ∈ xs := by
  intro k
  induction k with
  | zero => intro _ x h; exact .inl h
  | succ k ih =>
    intro hk x h
    rw [addTo] at h
    split at h
    · exact ih (by omega) h
    · rcases List.mem_append.1 h with h | h
      · exact ih (by omega) h
      · simp at h
        right
        rw [h, List.getElem?_eq_getElem (by omega)]
        exact List.getElem_mem _
theorem mem_addW {α : Type} [DecidableEq α] {L xs : List α} {d x : α} (h : x ∈ addW L xs d) : x ∈ L ∨ x ∈ xs := mem_addTo (Nat.le_refl _) h
theorem addTo_old {α : Type} [DecidableEq α] {L xs : List α} {d : α} : ∀ {k : Nat} {x : α}, x ∈ L → x ∈ addTo L xs d k := by
  intro k
  induction k with
  | zero => intro x h; exact h
  | succ k ih =>
    intro x h
    rw [addTo]
    split
    · exact ih h
    · exact List.mem_append.2 (.inl (ih h))
theorem addTo_new {α : Type} [DecidableEq α] {L xs : List α} {d : α} : ∀ {k i : Nat}, i < k → k ≤ xs.length → xs.getD i d ∈ addTo L xs d k := by
  intro k
  induction k with
  | zero => intro i h; omega
  | succ k ih =>
    intro i hi hk
    rw [addTo]
    by_cases h : i < k
    · split
      · exact ih h (by omega)
      · exact List.mem_append.2 (.inl (ih h (by omega)))
    · obtain rfl : i = k := by omega
      split
      · assumption
      · exact List.mem_append.2 (.inr (by simp))
theorem mem_addW_iff {α : Type} [DecidableEq α] {L xs : List α} {d x : α} : x ∈ addW L xs d ↔ x ∈ L ∨ x ∈ xs := by
  refine ⟨mem_addW, fun h => ?_⟩
  rcases h with h | h
  · exact addTo_old h
  · obtain ⟨i, hi, rfl⟩ := List.getElem_of_mem h
    have := addTo_new (L := L) (xs := xs) (d := d) hi (Nat.le_refl _)
    rw [List.getD, List.getElem?_eq_getElem hi] at this
    exact this
theorem find_range {f : Nat → Bool} {n j : Nat} (h : (List.range n).find? f = some j) : j < n ∧ f j = true ∧ ∀ i, i < j → f i = false := by
  have h1 := List.mem_of_find?_eq_some h
  have h2 := List.find?_some h
  refine ⟨by simpa using h1, h2, fun i hi => ?_⟩
  have hj : j < n := by simpa using h1
  cases hf : f i with
  | false => rfl
  | true =>
    exfalso
    -- the first index at which f holds is at most i
    have hex : ∃ m, m < n ∧ f m = true ∧ ∀ q, q < m → f q = false := by
      have : ∀ N, (∃ m, m ≤ N ∧ f m = true) → ∃ m, m ≤ N ∧ f m = true ∧ ∀ q, q < m → f q = false := by
        intro N
        induction N with
        | zero =>
          rintro ⟨m, hm, hfm⟩
          obtain rfl : m = 0 := by omega
          exact ⟨0, hm, hfm, fun q hq => absurd hq (by omega)⟩
        | succ N ih =>
          rintro ⟨m, hm, hfm⟩
          by_cases hh : ∃ m, m ≤ N ∧ f m = true
          · obtain ⟨q, q1, q2, q3⟩ := ih hh
            exact ⟨q, by omega, q2, q3⟩
          · refine ⟨m, hm, hfm, fun q hq => ?_⟩
            cases hq2 : f q with
            | false => rfl
            | true => exact absurd ⟨q, by omega, hq2⟩ hh
      obtain ⟨m, m1, m2, m3⟩ := this i ⟨i, Nat.le_refl _, hf⟩
      exact ⟨m, by omega, m2, m3⟩
    obtain ⟨m, m1, m2, m3⟩ := hex
    have hm : idxOf f n = m := idxOf_at m1 (by unfold AnyB; rw [List.any_eq_false]; intro q hq; simp at hq; simp [m3 q hq]) m2
    unfold idxOf at hm
    rw [h] at hm
    have : j = m := by have h9 : ((j : Nat) : Int) = (m : Int) := hm; omega
    subst this
    rw [m3 i hi] at hf
    cases hf
theorem leastTo_mem {l : List End6} : ∀ {n : Nat}, 0 < n → n ≤ l.length → leastTo l n ∈ l := by
  intro n
  induction n with
  | zero => intro h; omega
  | succ k ih =>
    intro _ hk
    rw [leastTo]
    split
    · unfold ed; rw [List.getD, List.getElem?_eq_getElem (by omega)]; exact List.getElem_mem _
    · rename_i h
      exact ih (by omega) (by omega)
/-- What stands in the list of endings: the first fitting candidate of a turn. -/
def StE (b : Bed4) (S : List Shp) (ps : List Pt5) (sh : Int) (pls : List (List (Int × Int))) (ts : List Trn) (i j : Nat) : Prop :=
  (polyW S ⟨sh, (tr ts i).1, (tr ts i).2, 0, 0⟩).1 = 0 ∧ (candW b (shp S sh.toNat) (tr ts i).1 (tr ts i).2 (polyW S ⟨sh, (tr ts i).1, (tr ts i).2, 0, 0⟩).2 pls).1 = 0 ∧
  fstFit b S ps sh (tr ts i) (candW b (shp S sh.toNat) (tr ts i).1 (tr ts i).2 (polyW S ⟨sh, (tr ts i).1, (tr ts i).2, 0, 0⟩).2 pls).2 = some j
def stEnd (b : Bed4) (S : List Shp) (sh : Int) (pls : List (List (Int × Int))) (ts : List Trn) (i j : Nat) : End6 :=
  endOf sh (tr ts i) (polyW S ⟨sh, (tr ts i).1, (tr ts i).2, 0, 0⟩).2 (gt (candW b (shp S sh.toNat) (tr ts i).1 (tr ts i).2 (polyW S ⟨sh, (tr ts i).1, (tr ts i).2, 0, 0⟩).2 pls).2 j)
theorem stTo_mem {b : Bed4} {S : List Shp} {ps : List Pt5} {sh : Int} {pls : List (List (Int × Int))} {ts : List Trn} : ∀ {k : Nat}, (stTo b S ps sh pls ts k).1 = 0 →
    (∀ i, i < k → (polyW S ⟨sh, (tr ts i).1, (tr ts i).2, 0, 0⟩).1 = 0 ∧ (candW b (shp S sh.toNat) (tr ts i).1 (tr ts i).2 (polyW S ⟨sh, (tr ts i).1, (tr ts i).2, 0, 0⟩).2 pls).1 = 0) ∧
    ∀ e, e ∈ (stTo b S ps sh pls ts k).2 ↔ ∃ i j, i < k ∧ StE b S ps sh pls ts i j ∧ e = stEnd b S sh pls ts i j := by
  intro k
  induction k with
  | zero => intro _; exact ⟨fun i hi => absurd hi (by omega), fun e => by simp [stTo]⟩
  | succ k ih =>
    intro h
    rw [stTo] at h
    rw [stTo]
    split at h
    · rename_i h0; exact absurd h h0
    · rename_i h0
      rw [if_neg h0]
      have h0' : (stTo b S ps sh pls ts k).1 = 0 := by simpa using h0
      obtain ⟨ih1, ih2⟩ := ih h0'
      split at h
      · rename_i h1; exact absurd h h1
      · rename_i h1
        rw [if_neg h1]
        split at h
        · rename_i h2; exact absurd h h2
        · rename_i h2
          rw [if_neg h2]
          have h1' : (polyW S ⟨sh, (tr ts k).1, (tr ts k).2, 0, 0⟩).1 = 0 := by simpa using h1
          have h2' : (candW b (shp S sh.toNat) (tr ts k).1 (tr ts k).2 (polyW S ⟨sh, (tr ts k).1, (tr ts k).2, 0, 0⟩).2 pls).1 = 0 := by simpa using h2
          refine ⟨fun i hi => ?_, fun e => ?_⟩
          · by_cases hik : i < k
            · exact ih1 i hik
            · obtain rfl : i = k := by omega
              exact ⟨h1', h2'⟩
          · cases hf : fstFit b S ps sh (tr ts k) (candW b (shp S sh.toNat) (tr ts k).1 (tr ts k).2 (polyW S ⟨sh, (tr ts k).1, (tr ts k).2, 0, 0⟩).2 pls).2 with
            | none =>
              show e ∈ (stTo b S ps sh pls ts k).2 ↔ _
              rw [ih2 e]
              constructor
              · rintro ⟨i, j, g1, g2, g3⟩; exact ⟨i, j, by omega, g2, g3⟩
              · rintro ⟨i, j, g1, g2, g3⟩
                refine ⟨i, j, ?_, g2, g3⟩
                by_cases hik : i < k
                · exact hik
                · obtain rfl : i = k := by omega
                  obtain ⟨_, _, g4⟩ := g2
                  rw [hf] at g4; cases g4
            | some j =>
              show e ∈ addW (stTo b S ps sh pls ts k).2 _ _ ↔ _
              rw [mem_addW_iff, ih2 e]
              constructor
              · rintro (⟨i, j', g1, g2, g3⟩ | g)
                · exact ⟨i, j', by omega, g2, g3⟩
                · simp at g
                  exact ⟨k, j, by omega, ⟨h1', h2', hf⟩, g⟩
              · rintro ⟨i, j', g1, g2, g3⟩
                by_cases hik : i < k
                · exact .inl ⟨i, j', hik, g2, g3⟩
                · obtain rfl : i = k := by omega
                  obtain ⟨_, _, g4⟩ := g2
                  rw [hf] at g4
                  injection g4 with g4
                  subst g4
                  exact .inr (by simp; exact g3)
theorem fstFit_some {b : Bed4} {S : List Shp} {ps : List Pt5} {sh : Int} {t : Trn} {cs : List (Int × Int)} {j : Nat} (h : fstFit b S ps sh t cs = some j) :
    j < cs.length ∧ fitsW b S ps ⟨sh, t.1, t.2, (gt cs j).1, (gt cs j).2⟩ = 0 ∧ ∀ i, i < j → fitsW b S ps ⟨sh, t.1, t.2, (gt cs i).1, (gt cs i).2⟩ ≠ 0 := by
  obtain ⟨h1, h2, h3⟩ := find_range h
  refine ⟨h1, by simpa [isFit] using h2, fun i hi => ?_⟩
  have := h3 i hi
  simpa [isFit] using this
/-- Step went: what it found. -/
theorem step_went {b : Bed4} {S : List Shp} {ps : List Pt5} {sh : Int} {p : Pt5} (h : stepW b S ps sh = (0, p)) :
    (prepW b S ps sh false 0).1 = 0 ∧ (stTo b S ps sh (prepW b S ps sh false 0).2.2 (allW (shp S sh.toNat).grain false) (allW (shp S sh.toNat).grain false).length).1 = 0 ∧
    ∃ E, (stTo b S ps sh (prepW b S ps sh false 0).2.2 (allW (shp S sh.toNat).grain false) (allW (shp S sh.toNat).grain false).length).2 = E ∧ E ≠ [] ∧ p = (leastTo E E.length).put ∧ leastTo E E.length ∈ E := by
  unfold stepW at h
  split at h
  · rename_i h0
    injection h with h1 h2
    exact absurd h1 h0
  · rename_i h0
    refine ⟨by simpa using h0, ?_⟩
    unfold stepIn at h
    split at h
    · rename_i h1
      injection h with h2 h3
      exact absurd h2 h1
    · rename_i h1
      split at h
      · injection h with h2 h3; cases h2
      · rename_i h2
        injection h with h3 h4
        refine ⟨by simpa using h1, _, rfl, ?_, h4.symm, leastTo_mem (by omega) (Nat.le_refl _)⟩
        intro e; rw [e] at h2; exact h2 rfl
theorem step_fits {b : Bed4} {S : List Shp} {ps : List Pt5} {sh : Int} {p : Pt5} (h : stepW b S ps sh = (0, p)) : fitsW b S ps p = 0 ∧ p.sh = sh := by
  obtain ⟨_, h1, E, hE, _, hp, hm⟩ := step_went h
  rw [← hE] at hm
  obtain ⟨i, j, hi, hst, he⟩ := ((stTo_mem h1).2 _).1 hm
  rw [hp, ← hE, he]
  exact ⟨(fstFit_some hst.2.2).2.1, rfl⟩
theorem fits_poly {b : Bed4} {S : List Shp} {ps : List Pt5} {p : Pt5} (h : fitsW b S ps p = 0) : bedBad b = false ∧ (polyW S p).1 = 0 ∧ fitIn b S ps p (shp S p.sh.toNat) (polyW S p).2 = 0 := by
  unfold fitsW at h
  split at h
  · cases h
  · rename_i h0
    split at h
    · rename_i h1; exact absurd h h1
    · rename_i h1
      exact ⟨by simpa using h0, by simpa using h1, h⟩
/-- Run went: each put fits beside those before it. -/
theorem runTo_ok {b : Bed4} {S : List Shp} {os : List Int} : ∀ {k : Nat}, (runTo b S os k).1 = 0 → (runTo b S os k).2.length = k ∧
    ∀ i, i < k → (runTo b S os i) = (0, (runTo b S os k).2.take i) ∧ stepW b S ((runTo b S os k).2.take i) (gi os i) = (0, pt (runTo b S os k).2 i) := by
  intro k
  induction k with
  | zero => intro _; exact ⟨rfl, fun i hi => absurd hi (by omega)⟩
  | succ k ih =>
    intro h
    rw [runTo] at h
    split at h
    · rename_i h0; exact absurd h h0
    · rename_i h0
      have h0' : (runTo b S os k).1 = 0 := by simpa using h0
      split at h
      · rename_i h1; exact absurd h h1
      · rename_i h1
        have h1' : (stepW b S (runTo b S os k).2 (gi os k)).1 = 0 := by simpa using h1
        obtain ⟨ih1, ih2⟩ := ih h0'
        have hr : runTo b S os (k + 1) = (0, (runTo b S os k).2 ++ [(stepW b S (runTo b S os k).2 (gi os k)).2]) := by rw [runTo, if_neg h0, if_neg h1]
        have hl : ((runTo b S os k).2 ++ [(stepW b S (runTo b S os k).2 (gi os k)).2]).length = k + 1 := by rw [List.length_append, ih1]; rfl
        rw [hr]
        refine ⟨hl, fun i hi => ?_⟩
        by_cases hik : i < k
        · obtain ⟨g1, g2⟩ := ih2 i hik
          have e1 : (((runTo b S os k).2 ++ [(stepW b S (runTo b S os k).2 (gi os k)).2]).take i) = (runTo b S os k).2.take i := by
            rw [List.take_append_of_le_length (by omega)]
          have e2 : pt ((runTo b S os k).2 ++ [(stepW b S (runTo b S os k).2 (gi os k)).2]) i = pt (runTo b S os k).2 i := by
            unfold pt; rw [List.getD, List.getD, List.getElem?_append_left (by omega)]
          rw [e1, e2]
          exact ⟨g1, g2⟩
        · obtain rfl : i = k := by omega
          have e1 : (((runTo b S os i).2 ++ [(stepW b S (runTo b S os i).2 (gi os i)).2]).take i) = (runTo b S os i).2 := by
            rw [List.take_append_of_le_length (by omega), List.take_of_length_le (by omega)]
          have e2 : pt ((runTo b S os i).2 ++ [(stepW b S (runTo b S os i).2 (gi os i)).2]) i = (stepW b S (runTo b S os i).2 (gi os i)).2 := by
            unfold pt; rw [List.getD, List.getElem?_append_right (by omega), ih1, Nat.sub_self]; rfl
          dsimp only
          rw [e1, e2]
          refine ⟨Prod.ext h0' rfl, Prod.ext h1' rfl⟩
theorem runW_ok {b : Bed4} {S : List Shp} {os : List Int} (h : (runW b S os).1 = 0) : os.length ≤ 60 ∧ runW b S os = runTo b S os os.length ∧ (runW b S os).2.length = os.length ∧
    ∀ i, i < os.length → fitsW b S ((runW b S os).2.take i) (pt (runW b S os).2 i) = 0 ∧ (pt (runW b S os).2 i).sh = gi os i := by
  unfold runW at h ⊢
  split at h
  · cases h
  · rename_i h60
    rw [if_neg h60]
    obtain ⟨h1, h2⟩ := runTo_ok h
    exact ⟨by omega, rfl, h1, fun i hi => step_fits (h2 i hi).2⟩
theorem extTo_ok {S : List Shp} {ps : List Pt5} : ∀ {k : Nat}, (∀ i, i < k → (polyW S (pt ps i)).1 = 0) → (extTo S ps k).1 = 0 := by
  intro k
  induction k with
  | zero => intro _; rfl
  | succ k ih =>
    intro h
    have h1 := ih fun i hi => h i (by omega)
    rw [extTo, if_neg (by rw [h1]; simp), if_neg (by rw [h k (by omega)]; simp)]
theorem run_ext_ok {b : Bed4} {S : List Shp} {os : List Int} (h : (runW b S os).1 = 0) : (extW S (runW b S os).2).1 = 0 := by
  obtain ⟨_, _, h1, h2⟩ := runW_ok h
  unfold extW
  rw [h1]
  exact extTo_ok fun i hi => (fits_poly (h2 i hi).1).2.1
/-! ### the best order -/
theorem bestTo_some {b : Bed4} {S : List Shp} {os : List (List Int)} : ∀ {k : Nat} {x : Int} {o : List Int}, bestTo b S os k = some (x, o) →
    (∃ i, i < k ∧ li os i = o ∧ tryW b S o = some x ∧ ∀ j, j < i → ∀ y, tryW b S (li os j) = some y → x < y) ∧ ∀ j, j < k → ∀ y, tryW b S (li os j) = some y → x ≤ y := by
  intro k
  induction k with
  | zero => intro x o h; cases h
  | succ k ih =>
    intro x o h
    rw [bestTo] at h
    cases ht : tryW b S (li os k) with
    | none =>
      rw [ht] at h
      obtain ⟨⟨i, i1, i2⟩, g2⟩ := ih (show bestTo b S os k = some (x, o) from h)
      refine ⟨⟨i, by omega, i2⟩, fun j hj y hy => ?_⟩
      by_cases hjk : j < k
      · exact g2 j hjk y hy
      · obtain rfl : j = k := by omega
        rw [ht] at hy; cases hy
    | some z =>
      rw [ht] at h
      cases hb : bestTo b S os k with
      | none =>
        rw [hb] at h
        have h' : some (z, li os k) = some (x, o) := h
        injection h' with h'
        injection h' with h1 h2
        subst h1 h2
        have hnone : ∀ j, j < k → tryW b S (li os j) = none := by
          clear ih h ht
          have : ∀ k, bestTo b S os k = none → ∀ j, j < k → tryW b S (li os j) = none := by
            intro k
            induction k with
            | zero => intro _ j hj; omega
            | succ k ih =>
              intro h j hj
              rw [bestTo] at h
              cases ht : tryW b S (li os k) with
              | none =>
                rw [ht] at h
                by_cases hjk : j < k
                · exact ih h j hjk
                · obtain rfl : j = k := by omega
                  exact ht
              | some y =>
                rw [ht] at h
                cases hb : bestTo b S os k with
                | none => rw [hb] at h; cases h
                | some q => rw [hb] at h; obtain ⟨q1, q2⟩ := q; unfold bestUp at h; dsimp only at h; split at h <;> cases h
          exact this k hb
        refine ⟨⟨k, by omega, rfl, ht, fun j hj y hy => by rw [hnone j hj] at hy; cases hy⟩, fun j hj y hy => ?_⟩
        by_cases hjk : j < k
        · rw [hnone j hjk] at hy; cases hy
        · obtain rfl : j = k := by omega
          rw [ht] at hy; injection hy with hy; omega
      | some q =>
        obtain ⟨q1, q2⟩ := q
        rw [hb] at h
        obtain ⟨⟨i, i1, i2, i3, i4⟩, g2⟩ := ih hb
        unfold bestUp at h
        dsimp only at h
        split at h
        · rename_i hlt
          injection h with h
          injection h with h1 h2
          subst h1 h2
          refine ⟨⟨k, by omega, rfl, ht, fun j hj y hy => ?_⟩, fun j hj y hy => ?_⟩
          · have := g2 j hj y hy; omega
          · by_cases hjk : j < k
            · have := g2 j hjk y hy; omega
            · obtain rfl : j = k := by omega
              rw [ht] at hy; injection hy with hy; omega
        · rename_i hlt
          injection h with h
          injection h with h1 h2
          subst h1 h2
          refine ⟨⟨i, by omega, i2, i3, i4⟩, fun j hj y hy => ?_⟩
          by_cases hjk : j < k
          · exact g2 j hjk y hy
          · obtain rfl : j = k := by omega
            rw [ht] at hy; injection hy with hy; omega
end Go.Proofs.YtmdncaoilegnnaaGreat

namespace Go.Proofs.YtmdncaoilegnnaaGreat
set_option linter.unusedVariables false
set_option linter.unusedSimpArgs false
set_option linter.unusedVariables false
set_option linter.unusedSimpArgs false
open Go.RowKit

def fewW (S : List Shp) : Bool := decide (S.length ≤ 3) && AllB (fun i => decide ((shp S i).poly.length ≤ 6)) S.length
theorem ShW.keep {w w' : World} {A : Option Addr} {n : Nat} {S : List Shp} (h : ShW w A n S) (hb : Below w.heap.size w w') : ShW w' A n S := by
  refine ⟨h.1, h.2.1, ?_, h.2.2.2⟩
  obtain ⟨h1, -, h, -⟩ := h; rcases h with rfl | ⟨b, off, rfl, h⟩
  · exact .inl rfl
  · exact .inr ⟨b, off, rfl, fun k hk => (h k hk).keep hb⟩
theorem ShW.at_ {w : World} {A : Option Addr} {n : Nat} {S : List Shp} (h : ShW w A n S) {k : Nat} (hk : k < n) : ∃ b off, A = some ⟨b, off, none⟩ ∧ b < w.heap.size ∧ ShAt w b (off + k * 5) (shp S k) := by
  obtain ⟨h1, -, h, -⟩ := h; rcases h with rfl | ⟨b, off, rfl, h⟩
  · omega
  · obtain ⟨Ak, ck, g1, _⟩ := h k hk
    exact ⟨b, off, rfl, lt_of_cell g1, h k hk⟩
set_option maxHeartbeats 1000000 in
set_option maxRecDepth 100000 in
theorem few_any (A : Option Addr) (c n : Nat) (S : List Shp) (w : World) (hS : ShW w A n S) :
    Calls Tryz.prog 26 #[.slice A n c] w fun e w' => e = .returned (.bool (fewW S)) ∧ Below w.heap.size w w' := by
  have hn := hS.2.1
  have HL := Lib.hid hS.1
  go_enter Tryz.func26, Tryz.ntmps26
  go_wp2_with fail
  go_loopw [3] (fun i wr => ∃ k : Nat, k ≤ n ∧ k ≤ 3 ∧ i = .int .i64 k ∧ Hid (AllB (fun i => decide ((shp S i).poly.length ≤ 6)) k = true) ∧ Below w.heap.size w wr) (fun i _ => 3 - (intOf i).toNat)
  case atStart => exact ⟨0, Nat.zero_le _, by omega, rfl, AllB.zero _, Below.refl _ _⟩
  case round =>
    obtain ⟨k, hk, hk3, rfl, hp, hb⟩ := hrel
    by_cases hlt : k < n ∧ k < 3
    · obtain ⟨hlt, hlt3⟩ := hlt
      obtain ⟨ba, oa, rfl, hbl, hsh⟩ := (hS.keep hb).at_ hlt
      obtain ⟨Ak, ck, g1, g2, g3, -⟩ := hsh
      obtain ⟨nk, hnk⟩ : ∃ nk, (shp S k).poly.length = nk := ⟨_, rfl⟩
      rw [hnk] at g1 g2
      by_cases h6 : 6 < nk
      · have HF := Lib.hid (show fewW S = false by
          unfold fewW
          rw [HL.out]
          by_cases h3 : n ≤ 3
          · rw [show AllB (fun i => decide ((shp S i).poly.length ≤ 6)) n = false from AllB.no hlt (by simp [hnk]; omega)]; simp
          · simp [h3])
        clear hnk
        go_wp2_with fail
        go_ret
        exact ⟨ret_bool HF.out.symm, hb⟩
      · have HS := Lib.hid (AllB.succ hp.out (show decide ((shp S k).poly.length ≤ 6) = true by simp [hnk]; omega))
        clear hnk
        go_wp2_with fail
        exact ⟨⟨k + 1, by omega, by omega, by go_num, HS, hb⟩, by simp [intOf]; omega⟩
    · have HF := Lib.hid (show fewW S = decide ((n : Int) ≤ 3) by
        unfold fewW
        rw [HL.out]
        by_cases h3 : n ≤ 3
        · have e : n = k := by omega
          rw [e, hp.out]
          simp; omega
        · simp [h3]; omega)
      by_cases hlt1 : k < n
      · have h3 : ¬ k < 3 := fun h => hlt ⟨hlt1, h⟩
        clear hlt
        go_wp2_with fail
        go_ret
        exact ⟨ret_bool HF.out.symm, hb⟩
      · clear hlt
        go_wp2_with fail
        go_ret
        exact ⟨ret_bool HF.out.symm, hb⟩
theorem fewW_len {S : List Shp} (h : fewW S = true) : S.length ≤ 3 := by
  unfold fewW at h
  simp at h
  exact h.1
end Go.Proofs.YtmdncaoilegnnaaGreat

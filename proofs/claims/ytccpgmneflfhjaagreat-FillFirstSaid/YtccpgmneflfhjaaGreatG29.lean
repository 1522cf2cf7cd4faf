/- Plain facts: polygons of puts without wrapping; a longer bed. The law SearchLonger. -/
import Derived.Test.YtccpgmneflfhjaaGreatG28
namespace Go.Proofs.YtccpgmneflfhjaaGreat
set_option linter.unusedVariables false
set_option linter.unusedSimpArgs false
open Go.RowKit

def nearB (M : Int) (q : Int × Int) : Prop := -M ≤ q.1 ∧ q.1 ≤ M ∧ -M ≤ q.2 ∧ q.2 ≤ M
theorem near_of_out {M : Int} {q : Int × Int} (h : outB M q = false) : nearB M q := by
  unfold outB at h; simp at h; unfold nearB; omega
theorem mem_gt {l : List (Int × Int)} {q : Int × Int} (h : q ∈ l) : ∃ i, i < l.length ∧ gt l i = q := gt_mem h
theorem gt_in {l : List (Int × Int)} {i : Nat} (h : i < l.length) : gt l i ∈ l := by
  unfold gt; rw [List.getD, List.getElem?_eq_getElem h]; exact List.getElem_mem h
theorem check_near {l : List (Int × Int)} (h : checkW l l.length = 0) : ∀ q ∈ l, nearB 1048576 q := by
  intro q hq
  obtain ⟨i, hi, rfl⟩ := mem_gt hq
  unfold checkW at h
  split at h
  · cases h
  · split at h
    · cases h
    · split at h
      · cases h
      · rename_i h3
        have h3' : AnyB (fun i => outB 1048576 (gt l i)) l.length = false := by simpa using h3
        apply near_of_out
        cases ho : outB 1048576 (gt l i) with
        | false => rfl
        | true => rw [AnyB.yes hi ho] at h3'; cases h3'
theorem wrap_near {z : Int} (h1 : -100000000 ≤ z) (h2 : z ≤ 100000000) : wrap64 z = z := by unfold wrap64; omega

theorem rot1_near {M : Int} (hM : M ≤ 10000000) {q : Int × Int} (h : nearB M q) : nearB M (rot1 q) := by
  unfold nearB rot1 at *
  dsimp only
  rw [wrap_near (by omega) (by omega)]; omega
theorem rotN_near {M : Int} (hM : M ≤ 10000000) : ∀ (n : Nat) {q : Int × Int}, nearB M q → nearB M (rotN n q) := by
  intro n
  induction n with
  | zero => intro q h; exact h
  | succ n ih => intro q h; unfold rotN; first | exact ih (rot1_near hM h) | exact rot1_near hM (ih h)
theorem flip_near {M : Int} (hM : M ≤ 10000000) {f : Bool} {q : Int × Int} (h : nearB M q) : nearB M (flipW f q) := by
  unfold flipW
  split
  · unfold nearB at *; dsimp only; rw [wrap_near (by omega) (by omega)]; omega
  · exact h
theorem apply_near {M : Int} (hM : M ≤ 10000000) {f : Bool} {u : Int} {q : Int × Int} (h : nearB M q) : nearB M (applyW f u q) := rotN_near hM _ (flip_near hM h)
theorem tpol_near {M : Int} (hM : M ≤ 10000000) {f : Bool} {u : Int} {l : List (Int × Int)} (h : ∀ q ∈ l, nearB M q) : ∀ q ∈ tpolW f u l, nearB M q := by
  intro q hq
  unfold tpolW at hq
  split at hq
  · obtain ⟨x, hx, rfl⟩ := List.mem_map.1 (List.mem_reverse.1 hq)
    exact apply_near hM (h x hx)
  · obtain ⟨x, hx, rfl⟩ := List.mem_map.1 hq
    exact apply_near hM (h x hx)

def movP (l : List (Int × Int)) (x y : Int) : List (Int × Int) := l.map fun q => (q.1 + x, q.2 + y)
theorem mov_plain {l : List (Int × Int)} {x y : Int} (h : ∀ q ∈ l, nearB 1048576 q) (hx : nearB 1048576 (x, y)) : movW l (x, y) = movP l x y := by
  unfold movW movP
  apply List.map_congr_left
  intro q hq
  have := h q hq
  unfold nearB at this hx
  dsimp only at hx ⊢
  rw [wrap_near (by omega) (by omega), wrap_near (by omega) (by omega)]

/-- The turned polygon of a put's shape. -/
def tpS (S : List Shp) (p : Pt5) : List (Int × Int) := tpolW p.fl p.qu (shp S p.sh.toNat).poly
theorem poly_plain {S : List Shp} {p : Pt5} (h : (polyW S p).1 = 0) : (∀ q ∈ tpS S p, nearB 1048576 q) ∧ nearB 1048576 (p.x, p.y) ∧ (polyW S p).2 = movP (tpS S p) p.x p.y ∧ (∀ q ∈ (polyW S p).2, nearB 1048576 q) ∧ 3 ≤ (tpS S p).length ∧ checkW (shp S p.sh.toNat).poly (shp S p.sh.toNat).poly.length = 0 := by
  have hc := polyW_check h
  unfold polyW at h hc ⊢
  split at h
  · cases h
  · rename_i h0
    rw [if_neg h0] at hc ⊢
    have hxy : nearB 1048576 (p.x, p.y) := near_of_out (by
      cases ho : outB 1048576 (p.x, p.y) with
      | false => rfl
      | true => exact absurd (.inr (.inr ho)) h0)
    unfold polyIn at h hc ⊢
    split at h
    · rename_i h1; exact absurd h h1
    · rename_i h1
      rw [if_neg h1] at hc ⊢
      have h1' : checkW (shp S p.sh.toNat).poly (shp S p.sh.toNat).poly.length = 0 := by simpa using h1
      split at h
      · rename_i h2; exact absurd h h2
      · rename_i h2
        rw [if_neg h2] at hc ⊢
        have hn := tpol_near (M := 1048576) (by omega) (f := p.fl) (u := p.qu) (check_near h1')
        refine ⟨hn, hxy, mov_plain hn hxy, check_near hc, ?_, h1'⟩
        unfold tpS
        rw [tpolW_len]
        exact (check_len h1').1

/-! ### the greatest X -/
theorem hiX_ge {l : List (Int × Int)} : ∀ {n i : Nat}, i < n → (gt l i).1 ≤ hiX l n := by
  intro n
  induction n with
  | zero => intro i hi; omega
  | succ n ih =>
    intro i hi
    rw [hiX]
    by_cases h : i < n
    · have := ih h; split <;> omega
    · obtain rfl : i = n := by omega
      split <;> omega
theorem hiX_at {l : List (Int × Int)} : ∀ {n : Nat}, 0 < n → ∃ i, i < n ∧ hiX l n = (gt l i).1 := by
  intro n
  induction n with
  | zero => intro h; omega
  | succ n ih =>
    intro _
    rw [hiX]
    split
    · exact ⟨n, by omega, rfl⟩
    · rcases Nat.eq_zero_or_pos n with h0 | h0
      · subst h0; exact ⟨0, by omega, rfl⟩
      · obtain ⟨i, hi, e⟩ := ih h0; exact ⟨i, by omega, e⟩
theorem loX_le {l : List (Int × Int)} : ∀ {n i : Nat}, i < n → loX l n ≤ (gt l i).1 := by
  intro n
  induction n with
  | zero => intro i hi; omega
  | succ n ih =>
    intro i hi
    rw [loX]
    by_cases h : i < n
    · have := ih h; split <;> omega
    · obtain rfl : i = n := by omega
      split <;> omega
theorem loX_at {l : List (Int × Int)} : ∀ {n : Nat}, 0 < n → ∃ i, i < n ∧ loX l n = (gt l i).1 := by
  intro n
  induction n with
  | zero => intro h; omega
  | succ n ih =>
    intro _
    rw [loX]
    split
    · exact ⟨n, by omega, rfl⟩
    · rcases Nat.eq_zero_or_pos n with h0 | h0
      · subst h0; exact ⟨0, by omega, rfl⟩
      · obtain ⟨i, hi, e⟩ := ih h0; exact ⟨i, by omega, e⟩
def maxX (l : List (Int × Int)) : Int := hiX l l.length
theorem maxX_le {l : List (Int × Int)} (h0 : 0 < l.length) {z : Int} : maxX l ≤ z ↔ ∀ q ∈ l, q.1 ≤ z := by
  unfold maxX
  constructor
  · intro h q hq
    obtain ⟨i, hi, rfl⟩ := mem_gt hq
    have := hiX_ge (l := l) hi; omega
  · intro h
    obtain ⟨i, hi, e⟩ := hiX_at (l := l) h0
    rw [e]; exact h _ (gt_in hi)
theorem movP_maxX {l : List (Int × Int)} (h0 : 0 < l.length) (x y : Int) : maxX (movP l x y) = maxX l + x := by
  have h0' : 0 < (movP l x y).length := by unfold movP; simpa using h0
  apply Int.le_antisymm
  · rw [maxX_le h0']
    intro q hq
    obtain ⟨r, hr, rfl⟩ := List.mem_map.1 hq
    have := (maxX_le h0 (z := maxX l)).1 (Int.le_refl _) r hr
    dsimp only; omega
  · have : maxX l ≤ maxX (movP l x y) - x := by
      rw [maxX_le h0]
      intro q hq
      have := (maxX_le h0' (z := maxX (movP l x y))).1 (Int.le_refl _) (q.1 + x, q.2 + y) (List.mem_map.2 ⟨q, hq, rfl⟩)
      dsimp only at this; omega
    omega

/-- The turned polygon at the origin, and at a place. -/
theorem poly_at {S : List Shp} {sh : Int} {f : Bool} {u x y : Int} (h0 : (polyW S ⟨sh, f, u, 0, 0⟩).1 = 0) (h : (polyW S ⟨sh, f, u, x, y⟩).1 = 0) :
    (polyW S ⟨sh, f, u, x, y⟩).2 = movP (polyW S ⟨sh, f, u, 0, 0⟩).2 x y ∧ maxX (polyW S ⟨sh, f, u, x, y⟩).2 = maxX (polyW S ⟨sh, f, u, 0, 0⟩).2 + x ∧
    (endOf sh (f, u) (polyW S ⟨sh, f, u, 0, 0⟩).2 (x, y)).right = maxX (polyW S ⟨sh, f, u, x, y⟩).2 := by
  obtain ⟨a1, a2, a3, a4, a5, -⟩ := poly_plain h0
  obtain ⟨b1, b2, b3, b4, b5, -⟩ := poly_plain h
  dsimp only at a1 a2 a3 a5 b1 b2 b3 b5
  have e0 : (polyW S ⟨sh, f, u, 0, 0⟩).2 = tpS S ⟨sh, f, u, 0, 0⟩ := by rw [a3]; unfold movP; simp
  have et : tpS S ⟨sh, f, u, x, y⟩ = tpS S ⟨sh, f, u, 0, 0⟩ := rfl
  rw [et] at b3
  have hl : 0 < (tpS S ⟨sh, f, u, 0, 0⟩).length := by omega
  refine ⟨by rw [b3, e0], by rw [b3, e0, movP_maxX hl], ?_⟩
  rw [b3, movP_maxX hl]
  unfold endOf
  dsimp only
  rw [e0]
  obtain ⟨i, hi, ei⟩ := hiX_at (l := tpS S ⟨sh, f, u, 0, 0⟩) hl
  obtain ⟨j, hj, ej⟩ := loX_at (l := tpS S ⟨sh, f, u, 0, 0⟩) hl
  have n1 := a1 _ (gt_in hi)
  have n2 := a1 _ (gt_in hj)
  unfold nearB at n1 n2 b2
  dsimp only at b2
  unfold maxX
  rw [wrap_near (z := x + loX (tpS S ⟨sh, f, u, 0, 0⟩) (tpS S ⟨sh, f, u, 0, 0⟩).length) (by omega) (by omega), wrap_near (z := hiX (tpS S ⟨sh, f, u, 0, 0⟩) (tpS S ⟨sh, f, u, 0, 0⟩).length - loX (tpS S ⟨sh, f, u, 0, 0⟩) (tpS S ⟨sh, f, u, 0, 0⟩).length) (by omega) (by omega), wrap_near (by omega) (by omega)]
  omega

/-! ### a longer bed -/
def lenTo (b : Bed4) (l : Int) : Bed4 := ⟨l, b.wid, b.rx, b.ry⟩

theorem fits_len {b : Bed4} {l : Int} {S : List Shp} {ps : List Pt5} {p : Pt5} (hb : bedBad b = false) (hl : bedBad (lenTo b l) = false) (hle : b.len ≤ l) :
    fitsW b S ps p = 0 ↔ fitsW (lenTo b l) S ps p = 0 ∧ ∀ q ∈ (polyW S p).2, q.1 ≤ b.len := by
  unfold fitsW
  rw [hb, hl]
  simp only [Bool.false_eq_true, if_false]
  by_cases h1 : (polyW S p).1 ≠ 0
  · rw [if_pos h1, if_pos h1]
    constructor
    · intro h; exact absurd h h1
    · intro h; exact absurd h.1 h1
  · rw [if_neg h1, if_neg h1]
    unfold fitIn
    split
    · constructor
      · intro h; cases h
      · intro h; cases h.1
    · have hout : AnyB (fun i => outBed b (gt (polyW S p).2 i)) (polyW S p).2.length = true ↔ (AnyB (fun i => outBed (lenTo b l) (gt (polyW S p).2 i)) (polyW S p).2.length = true ∨ ∃ q ∈ (polyW S p).2, b.len < q.1) := by
        rw [AnyB.iff, AnyB.iff]
        constructor
        · rintro ⟨i, hi, h⟩
          unfold outBed at h
          simp at h
          by_cases h2 : b.len < (gt (polyW S p).2 i).1
          · exact .inr ⟨_, gt_in hi, h2⟩
          · refine .inl ⟨i, hi, ?_⟩
            unfold outBed lenTo
            simp
            omega
        · rintro (⟨i, hi, h⟩ | ⟨q, hq, h⟩)
          · refine ⟨i, hi, ?_⟩
            unfold outBed lenTo at h
            unfold outBed
            simp at h ⊢
            omega
          · obtain ⟨i, hi, rfl⟩ := mem_gt hq
            refine ⟨i, hi, ?_⟩
            unfold outBed
            simp
            omega
      have hin : (¬ ∃ q ∈ (polyW S p).2, b.len < q.1) ↔ ∀ q ∈ (polyW S p).2, q.1 ≤ b.len := by
        constructor
        · intro h q hq; rcases Int.lt_or_le b.len q.1 with h2 | h2
          · exact absurd ⟨q, hq, h2⟩ h
          · exact h2
        · rintro h ⟨q, hq, h2⟩; have := h q hq; omega
      rw [← hin]
      by_cases ha : AnyB (fun i => outBed b (gt (polyW S p).2 i)) (polyW S p).2.length = true
      · rw [if_pos ha]
        constructor
        · intro h; cases h
        · rintro ⟨h2, h3⟩
          rcases hout.1 ha with h4 | h4
          · rw [if_pos h4] at h2; cases h2
          · exact absurd h4 h3
      · rw [if_neg ha]
        have hb' : ¬ AnyB (fun i => outBed (lenTo b l) (gt (polyW S p).2 i)) (polyW S p).2.length = true := fun h => ha (hout.2 (.inl h))
        rw [if_neg hb']
        constructor
        · intro h; exact ⟨h, fun h4 => ha (hout.2 (.inr h4))⟩
        · intro h; exact h.1

/-- the candidates are sorted by X -/
theorem sort_pairwise (l : List (Int × Int)) : (sortW l).Pairwise fun x y => x.1 ≤ y.1 := by
  rw [sortW_eq]
  have h := isortF_sorted (lt := ltOf cmpS) swoS.irrefl swoS.trans totS l
  have e : ltOf cmpS = lessS := by funext p q; exact ltS p q
  rw [e] at h
  unfold sortF
  refine List.Pairwise.imp ?_ h
  intro x y hxy
  unfold lessS at hxy
  simp at hxy
  omega
theorem cand_sorted {b : Bed4} {s : Shp} {f : Bool} {u : Int} {l : List (Int × Int)} {pls : List (List (Int × Int))} {i j : Nat} (hij : i < j) (hj : j < (candW b s f u l pls).2.length) : (gt (candW b s f u l pls).2 i).1 ≤ (gt (candW b s f u l pls).2 j).1 := by
  have h : (candW b s f u l pls).2.Pairwise fun x y => x.1 ≤ y.1 := by
    unfold candW
    split
    · exact List.Pairwise.nil
    · exact sort_pairwise _
  have := List.pairwise_iff_getElem.1 h i j (by omega) hj hij
  unfold gt
  rw [List.getD, List.getD, List.getElem?_eq_getElem hj, List.getElem?_eq_getElem (show i < _ by omega)]
  exact this
theorem cand_len (b : Bed4) (l : Int) (s : Shp) (f : Bool) (u : Int) (r : List (Int × Int)) (pls : List (List (Int × Int))) : candW (lenTo b l) s f u r pls = candW b s f u r pls := rfl
theorem prep_len {b : Bed4} {l : Int} {S : List Shp} {ps : List Pt5} {sh : Int} {f : Bool} {u : Int} (hb : bedBad b = false) (hl : bedBad (lenTo b l) = false) : prepW (lenTo b l) S ps sh f u = prepW b S ps sh f u := by
  unfold prepW; rw [hb, hl]

theorem fnd_none {f : Nat → Bool} {n : Nat} (h : (List.range n).find? f = none) : ∀ i, i < n → f i = false := by
  intro i hi
  rw [List.find?_eq_none] at h
  have := h i (by simpa using hi)
  simpa using this
theorem fnd_some {f : Nat → Bool} {n j : Nat} (hj : j < n) (h1 : f j = true) (h2 : ∀ i, i < j → f i = false) : (List.range n).find? f = some j := by
  cases h : (List.range n).find? f with
  | none => rw [fnd_none h j hj] at h1; cases h1
  | some k =>
    obtain ⟨k1, k2, k3⟩ := find_range h
    rcases Nat.lt_trichotomy j k with hlt | rfl | hlt
    · rw [k3 j hlt] at h1; cases h1
    · rfl
    · rw [h2 k hlt] at k2; cases k2

/-- The first fitting candidate on the bed and on a longer one. -/
theorem fst_len {b : Bed4} {l : Int} {S : List Shp} {ps : List Pt5} {sh : Int} {f : Bool} {u : Int} {s : Shp} {pls : List (List (Int × Int))} (hb : bedBad b = false) (hl : bedBad (lenTo b l) = false) (hle : b.len ≤ l)
    (h0 : (polyW S ⟨sh, f, u, 0, 0⟩).1 = 0) :
    fstFit b S ps sh (f, u) (candW b s f u (polyW S ⟨sh, f, u, 0, 0⟩).2 pls).2 =
      match fstFit (lenTo b l) S ps sh (f, u) (candW b s f u (polyW S ⟨sh, f, u, 0, 0⟩).2 pls).2 with
      | none => none
      | some j => if (endOf sh (f, u) (polyW S ⟨sh, f, u, 0, 0⟩).2 (gt (candW b s f u (polyW S ⟨sh, f, u, 0, 0⟩).2 pls).2 j)).right ≤ b.len then some j else none := by
  have hsort := fun {i j : Nat} => cand_sorted (b := b) (s := s) (f := f) (u := u) (l := (polyW S ⟨sh, f, u, 0, 0⟩).2) (pls := pls) (i := i) (j := j)
  obtain ⟨cs, hcs⟩ : ∃ cs, (candW b s f u (polyW S ⟨sh, f, u, 0, 0⟩).2 pls).2 = cs := ⟨_, rfl⟩
  rw [hcs] at hsort ⊢
  have key : ∀ i, isFit b S ps sh (f, u) (gt cs i) = (isFit (lenTo b l) S ps sh (f, u) (gt cs i) && decide (maxX (polyW S ⟨sh, f, u, 0, 0⟩).2 + (gt cs i).1 ≤ b.len)) := by
    intro i
    unfold isFit
    dsimp only
    have := fits_len (S := S) (ps := ps) (p := ⟨sh, f, u, (gt cs i).1, (gt cs i).2⟩) hb hl hle
    rw [Bool.eq_iff_iff]
    simp only [beq_iff_eq, Bool.and_eq_true, decide_eq_true_eq]
    rw [this]
    constructor
    · rintro ⟨h1, h2⟩
      refine ⟨h1, ?_⟩
      have hp := (fits_poly h1).2.1
      have := poly_at h0 hp
      rw [← this.2.1, maxX_le (by obtain ⟨_, _, e, _, h5, _⟩ := poly_plain hp; rw [e]; unfold movP; simp; omega)]
      exact h2
    · rintro ⟨h1, h2⟩
      refine ⟨h1, ?_⟩
      have hp := (fits_poly h1).2.1
      have := poly_at h0 hp
      rw [← this.2.1, maxX_le (by obtain ⟨_, _, e, _, h5, _⟩ := poly_plain hp; rw [e]; unfold movP; simp; omega)] at h2
      exact h2
  cases hf : fstFit (lenTo b l) S ps sh (f, u) cs with
  | none =>
    dsimp only
    unfold fstFit at hf ⊢
    rw [List.find?_eq_none]
    intro i hi hfi
    rw [key i, fnd_none hf i (by simpa using hi)] at hfi
    simp at hfi
  | some j =>
    dsimp only
    obtain ⟨j1, j2, j3⟩ := fstFit_some hf
    have hp := (fits_poly j2).2.1
    have hat := poly_at h0 hp
    have hr : (endOf sh (f, u) (polyW S ⟨sh, f, u, 0, 0⟩).2 (gt cs j)).right = maxX (polyW S ⟨sh, f, u, 0, 0⟩).2 + (gt cs j).1 := by
      rw [← hat.2.1]; exact hat.2.2
    rw [hr]
    have hf' := hf
    unfold fstFit at hf'
    obtain ⟨k1, k2, k3⟩ := find_range hf'
    split
    · rename_i hle2
      unfold fstFit
      refine fnd_some j1 ?_ fun i hi => ?_
      · rw [key j, k2]; simpa using hle2
      · rw [key i, k3 i hi]; rfl
    · rename_i hgt
      unfold fstFit
      rw [List.find?_eq_none]
      intro i hi hfi
      rw [key i, Bool.and_eq_true] at hfi
      have hil : i < cs.length := by simpa using hi
      have hij : ¬ i < j := fun h => by rw [k3 i h] at hfi; cases hfi.1
      have : (gt cs j).1 ≤ (gt cs i).1 := by
        rcases Nat.eq_or_lt_of_le (Nat.le_of_not_lt hij) with h | h
        · rw [h]; exact Int.le_refl _
        · exact hsort h hil
      have h2 := hfi.2
      simp at h2
      omega

def shortE (n : Int) (e : End6) : Bool := decide (e.right ≤ n)
theorem addW_one {α : Type} [DecidableEq α] (L : List α) (x d : α) : addW L [x] d = if x ∈ L then L else L ++ [x] := rfl
theorem filter_add {L : List End6} {x d : End6} {n : Int} : (addW L [x] d).filter (shortE n) = if shortE n x = true then addW (L.filter (shortE n)) [x] d else L.filter (shortE n) := by
  rw [addW_one, addW_one]
  by_cases hx : shortE n x = true
  · rw [if_pos hx]
    by_cases hm : x ∈ L
    · rw [if_pos hm, if_pos (List.mem_filter.2 ⟨hm, hx⟩)]
    · rw [if_neg hm, if_neg (fun h => hm (List.mem_filter.1 h).1), List.filter_append]
      simp [hx]
  · rw [if_neg hx]
    by_cases hm : x ∈ L
    · rw [if_pos hm]
    · rw [if_neg hm, List.filter_append]
      simp [hx]
def stG (b : Bed4) (S : List Shp) (ps : List Pt5) (sh : Int) (pls : List (List (Int × Int))) (t : Trn) (E : List End6) : Int × List End6 :=
  if (polyW S ⟨sh, t.1, t.2, 0, 0⟩).1 ≠ 0 then ((polyW S ⟨sh, t.1, t.2, 0, 0⟩).1, [])
  else if (candW b (shp S sh.toNat) t.1 t.2 (polyW S ⟨sh, t.1, t.2, 0, 0⟩).2 pls).1 ≠ 0 then ((candW b (shp S sh.toNat) t.1 t.2 (polyW S ⟨sh, t.1, t.2, 0, 0⟩).2 pls).1, [])
  else match fstFit b S ps sh t (candW b (shp S sh.toNat) t.1 t.2 (polyW S ⟨sh, t.1, t.2, 0, 0⟩).2 pls).2 with
    | none => (0, E)
    | some j => (0, addW E [endOf sh t (polyW S ⟨sh, t.1, t.2, 0, 0⟩).2 (gt (candW b (shp S sh.toNat) t.1 t.2 (polyW S ⟨sh, t.1, t.2, 0, 0⟩).2 pls).2 j)] ⟨⟨0, false, 0, 0, 0⟩, 0⟩)
theorem stTo_succ (b : Bed4) (S : List Shp) (ps : List Pt5) (sh : Int) (pls : List (List (Int × Int))) (ts : List Trn) (k : Nat) : stTo b S ps sh pls ts (k + 1) = if (stTo b S ps sh pls ts k).1 ≠ 0 then stTo b S ps sh pls ts k else stG b S ps sh pls (tr ts k) (stTo b S ps sh pls ts k).2 := rfl
theorem stG_len {b : Bed4} {l : Int} {S : List Shp} {ps : List Pt5} {sh : Int} {pls : List (List (Int × Int))} {t : Trn} {E E' : List End6} (hb : bedBad b = false) (hl : bedBad (lenTo b l) = false) (hle : b.len ≤ l) (hE : E = E'.filter (shortE b.len)) :
    (stG b S ps sh pls t E).1 = (stG (lenTo b l) S ps sh pls t E').1 ∧ ((stG b S ps sh pls t E).1 = 0 → (stG b S ps sh pls t E).2 = ((stG (lenTo b l) S ps sh pls t E').2).filter (shortE b.len)) := by
  obtain ⟨f, u⟩ := t
  by_cases h1 : (polyW S ⟨sh, f, u, 0, 0⟩).1 ≠ 0
  · unfold stG
    dsimp only
    rw [if_pos h1, if_pos h1]
    exact ⟨rfl, fun h => absurd h h1⟩
  · have h1' : (polyW S ⟨sh, f, u, 0, 0⟩).1 = 0 := by simpa using h1
    have hfst := fst_len (ps := ps) (s := shp S sh.toNat) (pls := pls) hb hl hle h1'
    by_cases h2 : (candW b (shp S sh.toNat) f u (polyW S ⟨sh, f, u, 0, 0⟩).2 pls).1 ≠ 0
    · unfold stG
      dsimp only
      rw [if_neg h1, if_neg h1, cand_len, if_pos h2, if_pos h2]
      exact ⟨rfl, fun h => absurd h h2⟩
    · unfold stG
      dsimp only
      rw [if_neg h1, if_neg h1, cand_len, if_neg h2, if_neg h2, hfst]
      cases hf : fstFit (lenTo b l) S ps sh (f, u) (candW b (shp S sh.toNat) f u (polyW S ⟨sh, f, u, 0, 0⟩).2 pls).2 with
      | none => exact ⟨rfl, fun _ => hE⟩
      | some j =>
        dsimp only
        by_cases hs : (endOf sh (f, u) (polyW S ⟨sh, f, u, 0, 0⟩).2 (gt (candW b (shp S sh.toNat) f u (polyW S ⟨sh, f, u, 0, 0⟩).2 pls).2 j)).right ≤ b.len
        · rw [if_pos hs]
          refine ⟨rfl, fun _ => ?_⟩
          dsimp only
          rw [filter_add, if_pos (by unfold shortE; simpa using hs), hE]
        · rw [if_neg hs]
          refine ⟨rfl, fun _ => ?_⟩
          dsimp only
          rw [filter_add, if_neg (by unfold shortE; simpa using hs), hE]
theorem st_len {b : Bed4} {l : Int} {S : List Shp} {ps : List Pt5} {sh : Int} {pls : List (List (Int × Int))} {ts : List Trn} (hb : bedBad b = false) (hl : bedBad (lenTo b l) = false) (hle : b.len ≤ l) : ∀ k,
    (stTo b S ps sh pls ts k).1 = (stTo (lenTo b l) S ps sh pls ts k).1 ∧ ((stTo b S ps sh pls ts k).1 = 0 → (stTo b S ps sh pls ts k).2 = ((stTo (lenTo b l) S ps sh pls ts k).2).filter (shortE b.len)) := by
  intro k
  induction k with
  | zero => exact ⟨rfl, fun _ => rfl⟩
  | succ k ih =>
    rw [stTo_succ, stTo_succ]
    by_cases h0 : (stTo b S ps sh pls ts k).1 ≠ 0
    · rw [if_pos h0, if_pos (by rw [← ih.1]; exact h0)]
      exact ⟨ih.1, fun h => absurd h h0⟩
    · have h0' : (stTo b S ps sh pls ts k).1 = 0 := by simpa using h0
      rw [if_neg h0, if_neg (by rw [← ih.1]; exact h0)]
      exact stG_len hb hl hle (ih.2 h0')

/-! ### the least ending -/
theorem ed_app {l : List End6} {x : End6} {i : Nat} (h : i < l.length) : ed (l ++ [x]) i = ed l i := by
  unfold ed; rw [List.getD, List.getD, List.getElem?_append_left h]
theorem ed_last (l : List End6) (x : End6) : ed (l ++ [x]) l.length = x := by
  unfold ed; rw [List.getD, List.getElem?_append_right (Nat.le_refl _), Nat.sub_self]; rfl
theorem least_app {l : List End6} {x : End6} : ∀ {n : Nat}, n ≤ l.length → leastTo (l ++ [x]) n = leastTo l n := by
  intro n
  induction n with
  | zero => intro _; rfl
  | succ n ih =>
    intro h
    rw [leastTo, leastTo, ih (by omega), ed_app (by omega)]
def leastL (l : List End6) : End6 := leastTo l l.length
theorem leastL_app (l : List End6) (x : End6) : leastL (l ++ [x]) = if l = [] ∨ cmpE x (leastL l) < 0 then x else leastL l := by
  unfold leastL
  rw [List.length_append, show l.length + [x].length = l.length + 1 from rfl, leastTo, least_app (Nat.le_refl _), ed_last]
  simp only [List.length_eq_zero_iff]
theorem cmpI_less {x y : Int} (h : x < y) : cmpI x y = -1 := by unfold cmpI; rw [if_pos h]
theorem cmpI_more {x y : Int} (h : y < x) : cmpI x y = 1 := by unfold cmpI; rw [if_neg (by omega), if_pos h]
theorem cmpE_lt {a b : End6} (h : a.right < b.right) : cmpE a b < 0 := by
  unfold cmpE orI; rw [cmpI_less h]; simp
theorem cmpE_gt {a b : End6} (h : b.right < a.right) : ¬ cmpE a b < 0 := by
  unfold cmpE orI; rw [cmpI_more h]; simp
theorem rev_ind {α : Type} {P : List α → Prop} (h0 : P []) (h1 : ∀ l x, P l → P (l ++ [x])) (l : List α) : P l := by
  have : ∀ n (l : List α), l.length = n → P l := by
    intro n
    induction n with
    | zero => intro l hl; rw [List.eq_nil_of_length_eq_zero hl]; exact h0
    | succ n ih =>
      intro l hl
      have hne : l ≠ [] := by intro e; rw [e] at hl; cases hl
      rw [← List.dropLast_concat_getLast hne]
      exact h1 _ _ (ih _ (by rw [List.length_dropLast, hl]; rfl))
  exact this _ l rfl
theorem least_filter (n : Int) (l : List End6) : (l.filter (shortE n) = [] → l ≠ [] → n < (leastL l).right) ∧ (l.filter (shortE n) ≠ [] → leastL l = leastL (l.filter (shortE n)) ∧ (leastL l).right ≤ n) := by
  induction l using rev_ind with
  | h0 => exact ⟨fun _ h => absurd rfl h, fun h => absurd rfl h⟩
  | h1 l x ih =>
    obtain ⟨ih1, ih2⟩ := ih
    rw [List.filter_append, leastL_app l x]
    by_cases hx : shortE n x = true
    · have hx' : x.right ≤ n := by unfold shortE at hx; simpa using hx
      have e : [x].filter (shortE n) = [x] := by simp [hx]
      rw [e]
      refine ⟨fun h => absurd h (by simp), fun _ => ?_⟩
      rw [leastL_app (l.filter (shortE n)) x]
      by_cases hF : l.filter (shortE n) = []
      · have e2 : (if l.filter (shortE n) = [] ∨ cmpE x (leastL (l.filter (shortE n))) < 0 then x else leastL (l.filter (shortE n))) = x := if_pos (.inl hF)
        rw [e2]
        by_cases hl : l = []
        · rw [if_pos (.inl hl)]; exact ⟨rfl, hx'⟩
        · have := ih1 hF hl
          rw [if_pos (.inr (cmpE_lt (by omega)))]; exact ⟨rfl, hx'⟩
      · obtain ⟨g1, g2⟩ := ih2 hF
        have hl : l ≠ [] := by intro e; rw [e] at hF; exact hF rfl
        rw [← g1]
        by_cases hc : cmpE x (leastL l) < 0
        · rw [if_pos (.inr hc), if_pos (.inr hc)]; exact ⟨rfl, hx'⟩
        · rw [if_neg (by rintro (h1 | h1); exact hl h1; exact hc h1), if_neg (by rintro (h1 | h1); exact hF h1; exact hc h1)]; exact ⟨rfl, g2⟩
    · have hx' : n < x.right := by unfold shortE at hx; simpa using hx
      have e : [x].filter (shortE n) = [] := by simp [hx]
      rw [e, List.append_nil]
      refine ⟨fun h _ => ?_, fun h => ?_⟩
      · split
        · exact hx'
        · rename_i hn
          have hl : l ≠ [] := fun e => hn (.inl e)
          exact ih1 h hl
      · obtain ⟨g1, g2⟩ := ih2 h
        have hl : l ≠ [] := by intro e; rw [e] at h; exact h rfl
        rw [if_neg (by rintro (h1 | h1); exact hl h1; exact cmpE_gt (by omega) h1)]
        exact ⟨g1, g2⟩

/-- Step on the bed and on a longer one. -/
theorem step_len {b : Bed4} {l : Int} {S : List Shp} {ps : List Pt5} {sh : Int} {p : Pt5} (hb : bedBad b = false) (hl : bedBad (lenTo b l) = false) (hle : b.len ≤ l) :
    (stepW b S ps sh = (0, p) → stepW (lenTo b l) S ps sh = (0, p)) ∧ (stepW (lenTo b l) S ps sh = (0, p) → maxX (polyW S p).2 ≤ b.len → stepW b S ps sh = (0, p)) := by
  have hst := st_len (S := S) (ps := ps) (sh := sh) (pls := (prepW b S ps sh false 0).2.2) (ts := allW (shp S sh.toNat).grain false) hb hl hle (allW (shp S sh.toNat).grain false).length
  constructor
  · intro h
    obtain ⟨h1, h2, E, hE, hne, hp, hm⟩ := step_went h
    obtain ⟨g1, g2⟩ := hst
    have g3 := g2 h2
    rw [hE] at g3
    obtain ⟨E', hE'⟩ : ∃ E', (stTo (lenTo b l) S ps sh (prepW b S ps sh false 0).2.2 (allW (shp S sh.toNat).grain false) (allW (shp S sh.toNat).grain false).length).2 = E' := ⟨_, rfl⟩
    rw [hE'] at g3
    have hF := (least_filter b.len E').2 (by rw [← g3]; exact hne)
    have hE'ne : E' ≠ [] := by intro e; rw [e] at g3; exact hne g3
    unfold stepW
    rw [prep_len hb hl, if_neg (by rw [h1]; simp)]
    unfold stepIn
    rw [if_neg (by rw [← g1, h2]; simp), hE', if_neg (by simpa [List.length_eq_zero_iff] using hE'ne)]
    rw [hp]
    have := hF.1
    unfold leastL at this
    rw [this, ← g3]
  · intro h hmax
    obtain ⟨h1, h2, E', hE', hne, hp, hm⟩ := step_went h
    rw [prep_len hb hl] at h1 h2 hE'
    obtain ⟨g1, g2⟩ := hst
    have g0 : (stTo b S ps sh (prepW b S ps sh false 0).2.2 (allW (shp S sh.toNat).grain false) (allW (shp S sh.toNat).grain false).length).1 = 0 := by rw [g1]; exact h2
    have g3 := g2 g0
    rw [hE'] at g3
    have hright : (leastL E').right ≤ b.len := by
      have hm' := hm
      rw [← hE'] at hm'
      obtain ⟨i, j, hi, hs, he⟩ := ((stTo_mem h2).2 _).1 hm'
      rw [hE'] at he
      have hfit := (fstFit_some hs.2.2).2.1
      have hpat := poly_at hs.1 (fits_poly hfit).2.1
      have hpe : p = (stEnd (lenTo b l) S sh (prepW b S ps sh false 0).2.2 (allW (shp S sh.toNat).grain false) i j).put := by rw [hp, he]
      unfold leastL
      rw [he]
      unfold stEnd at hpe ⊢
      have e2 := hpat.2.2
      rw [e2]
      rw [hpe] at hmax
      exact hmax
    have hEne : E'.filter (shortE b.len) ≠ [] := by
      intro e
      have := List.mem_filter.2 (⟨hm, by unfold shortE; unfold leastL at hright; simpa using hright⟩ : leastTo E' E'.length ∈ E' ∧ shortE b.len (leastTo E' E'.length) = true)
      rw [e] at this
      cases this
    have hF := (least_filter b.len E').2 hEne
    unfold stepW
    rw [if_neg (by rw [h1]; simp)]
    unfold stepIn
    rw [if_neg (by rw [g0]; simp), g3, if_neg (by simpa [List.length_eq_zero_iff] using hEne)]
    rw [hp]
    have := hF.1
    unfold leastL at this
    rw [this]

theorem mem_pt {ps : List Pt5} {i : Nat} (h : i < ps.length) : pt ps i ∈ ps := by
  unfold pt; rw [List.getD, List.getElem?_eq_getElem h]; exact List.getElem_mem h

/-! ### the extent -/
theorem extIn_max {f : Bool} {l : List (Int × Int)} {e : Int} : ∀ {n : Nat}, (∀ i, i < n → (gt l i).1 ≤ extIn f l e n) ∧ (f = false → e ≤ extIn f l e n) ∧ (0 < n → (∃ i, i < n ∧ extIn f l e n = (gt l i).1) ∨ (f = false ∧ extIn f l e n = e)) := by
  intro n
  induction n with
  | zero => exact ⟨fun i hi => absurd hi (by omega), fun _ => Int.le_refl _, fun h => absurd h (by omega)⟩
  | succ n ih =>
    obtain ⟨g1, g2, g3⟩ := ih
    rw [extIn]
    by_cases hc : (f && decide (n = 0)) = true ∨ extIn f l e n < (gt l n).1
    · rw [if_pos hc]
      refine ⟨fun i hi => ?_, fun hf => ?_, fun _ => .inl ⟨n, by omega, rfl⟩⟩
      · by_cases h : i < n
        · have := g1 i h
          rcases hc with hc | hc
          · simp at hc; omega
          · omega
        · obtain rfl : i = n := by omega
          exact Int.le_refl _
      · rcases hc with hc | hc
        · simp [hf] at hc
        · have := g2 hf; omega
    · rw [if_neg hc]
      have hc2 : (gt l n).1 ≤ extIn f l e n := Int.not_lt.1 fun h => hc (.inr h)
      refine ⟨fun i hi => ?_, g2, fun _ => ?_⟩
      · by_cases h : i < n
        · exact g1 i h
        · obtain rfl : i = n := by omega
          exact hc2
      · rcases Nat.eq_zero_or_pos n with h0 | h0
        · subst h0
          refine .inr ⟨?_, rfl⟩
          cases f with
          | false => rfl
          | true => exact absurd (.inl (by simp)) hc
        · rcases g3 h0 with ⟨i, hi, he⟩ | h
          · exact .inl ⟨i, by omega, he⟩
          · exact .inr h
/-- Where it is defined the extent is at least every put's greatest X, and one of these. -/
theorem extTo_max {S : List Shp} {ps : List Pt5} : ∀ {k : Nat}, (extTo S ps k).1 = 0 → (∀ i, i < k → (polyW S (pt ps i)).1 = 0 ∧ maxX (polyW S (pt ps i)).2 ≤ (extTo S ps k).2) ∧ (0 < k → ∃ i, i < k ∧ (extTo S ps k).2 = maxX (polyW S (pt ps i)).2) := by
  intro k
  induction k with
  | zero => intro _; exact ⟨fun i hi => absurd hi (by omega), fun h => absurd h (by omega)⟩
  | succ k ih =>
    intro h
    rw [extTo] at h ⊢
    by_cases h0 : (extTo S ps k).1 ≠ 0
    · rw [if_pos h0] at h; exact absurd h h0
    · have h0' : (extTo S ps k).1 = 0 := by simpa using h0
      rw [if_neg h0] at h ⊢
      by_cases h1 : (polyW S (pt ps k)).1 ≠ 0
      · rw [if_pos h1] at h; exact absurd h h1
      · have h1' : (polyW S (pt ps k)).1 = 0 := by simpa using h1
        rw [if_neg h1] at h ⊢
        obtain ⟨ih1, ih2⟩ := ih h0'
        have hpos : 0 < (polyW S (pt ps k)).2.length := by obtain ⟨_, _, e, _, h5, _⟩ := poly_plain h1'; rw [e]; unfold movP; simp; omega
        have hm := extIn_max (f := decide (k = 0)) (l := (polyW S (pt ps k)).2) (e := (extTo S ps k).2) (n := (polyW S (pt ps k)).2.length)
        obtain ⟨m1, m2, m3⟩ := hm
        have hle : maxX (polyW S (pt ps k)).2 ≤ extIn (decide (k = 0)) (polyW S (pt ps k)).2 (extTo S ps k).2 (polyW S (pt ps k)).2.length := by
          rw [maxX_le hpos]
          intro q hq
          obtain ⟨i, hi, rfl⟩ := mem_gt hq
          exact m1 i hi
        dsimp only
        refine ⟨fun i hi => ?_, fun _ => ?_⟩
        · by_cases hik : i < k
          · have hk0 : decide (k = 0) = false := by simp; omega
            have := m2 hk0
            exact ⟨(ih1 i hik).1, by have := (ih1 i hik).2; omega⟩
          · obtain rfl : i = k := by omega
            exact ⟨h1', hle⟩
        · rcases m3 hpos with ⟨i, hi, he⟩ | ⟨hf, he⟩
          · refine ⟨k, by omega, ?_⟩
            apply Int.le_antisymm
            · rw [he]
              exact (maxX_le hpos).1 (Int.le_refl _) _ (gt_in hi)
            · exact hle
          · have hk : 0 < k := by simp at hf; omega
            obtain ⟨i, hi, hi2⟩ := ih2 hk
            exact ⟨i, by omega, by rw [he]; exact hi2⟩

/-! ### Run and Best on a longer bed -/
theorem run_len_up {b : Bed4} {l : Int} {S : List Shp} {os : List Int} (hb : bedBad b = false) (hl : bedBad (lenTo b l) = false) (hle : b.len ≤ l) : ∀ k, (runTo b S os k).1 = 0 → runTo (lenTo b l) S os k = runTo b S os k := by
  intro k
  induction k with
  | zero => intro _; rfl
  | succ k ih =>
    intro h
    rw [runTo] at h
    by_cases h0 : (runTo b S os k).1 ≠ 0
    · rw [if_pos h0] at h; exact absurd h h0
    · rw [if_neg h0] at h
      have h0' : (runTo b S os k).1 = 0 := by simpa using h0
      by_cases h1 : (stepW b S (runTo b S os k).2 (gi os k)).1 ≠ 0
      · rw [if_pos h1] at h; exact absurd h h1
      · have h1' : (stepW b S (runTo b S os k).2 (gi os k)).1 = 0 := by simpa using h1
        have hs := (step_len (S := S) (ps := (runTo b S os k).2) (sh := gi os k) (p := (stepW b S (runTo b S os k).2 (gi os k)).2) hb hl hle).1 (Prod.ext h1' rfl)
        rw [runTo, runTo, ih h0', if_neg h0, if_neg h0, if_neg h1, hs, if_neg (by simp)]
theorem run_len_down {b : Bed4} {l : Int} {S : List Shp} {os : List Int} (hb : bedBad b = false) (hl : bedBad (lenTo b l) = false) (hle : b.len ≤ l) : ∀ k, (runTo (lenTo b l) S os k).1 = 0 → (∀ p ∈ (runTo (lenTo b l) S os k).2, maxX (polyW S p).2 ≤ b.len) → runTo b S os k = runTo (lenTo b l) S os k := by
  intro k
  induction k with
  | zero => intro _ _; rfl
  | succ k ih =>
    intro h hm
    rw [runTo] at h hm
    by_cases h0 : (runTo (lenTo b l) S os k).1 ≠ 0
    · rw [if_pos h0] at h; exact absurd h h0
    · rw [if_neg h0] at h hm
      have h0' : (runTo (lenTo b l) S os k).1 = 0 := by simpa using h0
      by_cases h1 : (stepW (lenTo b l) S (runTo (lenTo b l) S os k).2 (gi os k)).1 ≠ 0
      · rw [if_pos h1] at h; exact absurd h h1
      · have h1' : (stepW (lenTo b l) S (runTo (lenTo b l) S os k).2 (gi os k)).1 = 0 := by simpa using h1
        rw [if_neg h1] at hm
        have hs := (step_len (S := S) (ps := (runTo (lenTo b l) S os k).2) (sh := gi os k) (p := (stepW (lenTo b l) S (runTo (lenTo b l) S os k).2 (gi os k)).2) hb hl hle).2 (Prod.ext h1' rfl) (hm _ (List.mem_append.2 (.inr (by simp))))
        have ihk := ih h0' fun p hp => hm p (List.mem_append.2 (.inl hp))
        rw [runTo, runTo, ihk, if_neg h0, if_neg h0, if_neg h1, hs, if_neg (by simp)]

theorem fits_maxX {b : Bed4} {S : List Shp} {ps : List Pt5} {p : Pt5} (h : fitsW b S ps p = 0) : maxX (polyW S p).2 ≤ b.len := by
  obtain ⟨hb, h1, h2⟩ := fits_poly h
  have hpos : 0 < (polyW S p).2.length := by obtain ⟨_, _, e, _, h5, _⟩ := poly_plain h1; rw [e]; unfold movP; simp; omega
  rw [maxX_le hpos]
  intro q hq
  obtain ⟨i, hi, rfl⟩ := mem_gt hq
  unfold fitIn at h2
  split at h2
  · cases h2
  · split at h2
    · cases h2
    · rename_i h3
      have h3' : AnyB (fun i => outBed b (gt (polyW S p).2 i)) (polyW S p).2.length = false := by simpa using h3
      have : outBed b (gt (polyW S p).2 i) = false := by
        cases ho : outBed b (gt (polyW S p).2 i) with
        | false => rfl
        | true => rw [AnyB.yes hi ho] at h3'; cases h3'
      unfold outBed at this
      simp at this
      omega

theorem try_le {b : Bed4} {S : List Shp} {o : List Int} {x : Int} (hb : bedBad b = false) (h : tryW b S o = some x) : x ≤ b.len ∧ (runW b S o).1 = 0 ∧ extW S (runW b S o).2 = (0, x) := by
  unfold tryW at h
  split at h
  · cases h
  · rename_i h0
    have h0' : (runW b S o).1 = 0 := by simpa using h0
    split at h
    · cases h
    · rename_i h1
      have h1' : (extW S (runW b S o).2).1 = 0 := by simpa using h1
      injection h with h
      subst h
      refine ⟨?_, h0', Prod.ext h1' rfl⟩
      obtain ⟨_, _, hlen, hf⟩ := runW_ok h0'
      unfold extW at h1' ⊢
      rw [hlen] at h1' ⊢
      rcases Nat.eq_zero_or_pos o.length with hz | hz
      · rw [hz]
        unfold bedBad at hb
        simp at hb
        show (0 : Int) ≤ b.len
        omega
      · obtain ⟨i, hi, he⟩ := (extTo_max h1').2 hz
        rw [he]
        exact fits_maxX (hf i hi).1

theorem try_up {b : Bed4} {l : Int} {S : List Shp} {o : List Int} {x : Int} (hb : bedBad b = false) (hl : bedBad (lenTo b l) = false) (hle : b.len ≤ l) (h : tryW b S o = some x) : tryW (lenTo b l) S o = some x := by
  obtain ⟨_, h0, h1⟩ := try_le hb h
  have hr : runW (lenTo b l) S o = runW b S o := by
    obtain ⟨h60, he, _⟩ := runW_ok h0
    have : (runTo b S o o.length).1 = 0 := by rw [← he]; exact h0
    rw [he]
    unfold runW
    rw [if_neg (by omega)]
    exact run_len_up hb hl hle _ this
  unfold tryW
  rw [hr, if_neg (by rw [h0]; simp), h1]
  simp
theorem try_down {b : Bed4} {l : Int} {S : List Shp} {o : List Int} {y : Int} (hb : bedBad b = false) (hl : bedBad (lenTo b l) = false) (hle : b.len ≤ l) (h : tryW (lenTo b l) S o = some y) (hy : y ≤ b.len) : tryW b S o = some y := by
  obtain ⟨_, h0, h1⟩ := try_le hl h
  obtain ⟨h60, he, hlen, _⟩ := runW_ok h0
  have h0' : (runTo (lenTo b l) S o o.length).1 = 0 := by rw [← he]; exact h0
  have hm : ∀ p ∈ (runTo (lenTo b l) S o o.length).2, maxX (polyW S p).2 ≤ b.len := by
    rw [← he]
    intro p hp
    obtain ⟨i, hi, rfl⟩ := List.getElem_of_mem hp
    have e1 : (extTo S (runW (lenTo b l) S o).2 (runW (lenTo b l) S o).2.length) = (0, y) := h1
    have e2 := (extTo_max (S := S) (ps := (runW (lenTo b l) S o).2) (k := (runW (lenTo b l) S o).2.length) (by rw [e1])).1 i hi
    rw [e1] at e2
    have e3 : pt (runW (lenTo b l) S o).2 i = (runW (lenTo b l) S o).2[i] := by unfold pt; rw [List.getD, List.getElem?_eq_getElem hi]; rfl
    rw [e3] at e2
    have := e2.2
    dsimp only at this
    omega
  have hr : runW b S o = runW (lenTo b l) S o := by
    rw [he]
    unfold runW
    rw [if_neg (by omega)]
    exact run_len_down hb hl hle _ h0' hm
  unfold tryW
  rw [hr, if_neg (by rw [h0]; simp), h1]
  simp

theorem best_len {b : Bed4} {l : Int} {S : List Shp} {L : List (List Int)} (hb : bedBad b = false) (hl : bedBad (lenTo b l) = false) (hle : b.len ≤ l) : ∀ k,
    (bestTo b S L k = none → ∀ x o, bestTo (lenTo b l) S L k = some (x, o) → b.len < x) ∧ (∀ x o, bestTo b S L k = some (x, o) → x ≤ b.len ∧ bestTo (lenTo b l) S L k = some (x, o)) := by
  intro k
  induction k with
  | zero => exact ⟨fun _ x o h => (by cases h), fun x o h => (by cases h)⟩
  | succ k ih =>
    obtain ⟨ih1, ih2⟩ := ih
    rw [bestTo, bestTo]
    cases ht : tryW b S (li L k) with
    | some y =>
      rw [try_up hb hl hle ht]
      have hy := (try_le hb ht).1
      cases hr : bestTo b S L k with
      | none =>
        have g := ih1 hr
        cases hr' : bestTo (lenTo b l) S L k with
        | none => exact ⟨fun h => (by cases h), fun x o h => (by unfold bestUp at h ⊢; dsimp only at h ⊢; injection h with h; injection h with h1 h2; subst h1 h2; exact ⟨hy, rfl⟩)⟩
        | some z =>
          obtain ⟨z1, z2⟩ := z
          have := g z1 z2 hr'
          refine ⟨fun h => (by cases h), fun x o h => ?_⟩
          unfold bestUp at h ⊢
          dsimp only at h ⊢
          injection h with h; injection h with h1 h2; subst h1 h2
          exact ⟨hy, by rw [if_pos (by omega)]⟩
      | some z =>
        obtain ⟨z1, z2⟩ := z
        obtain ⟨g1, g2⟩ := ih2 z1 z2 hr
        rw [g2]
        refine ⟨fun h => ?_, fun x o h => ⟨?_, h⟩⟩
        · unfold bestUp at h; dsimp only at h; split at h <;> cases h
        · unfold bestUp at h; dsimp only at h
          split at h
          · injection h with h; injection h with h1 h2; omega
          · injection h with h; injection h with h1 h2; omega
    | none =>
      have hno : ∀ y, tryW (lenTo b l) S (li L k) = some y → b.len < y := by
        intro y hy
        rcases Int.lt_or_le b.len y with h | h
        · exact h
        · rw [try_down hb hl hle hy h] at ht; cases ht
      cases ht' : tryW (lenTo b l) S (li L k) with
      | none => exact ⟨fun h => ih1 h, fun x o h => ih2 x o h⟩
      | some y =>
        have hy := hno y ht'
        refine ⟨fun h x o h2 => ?_, fun x o h => ?_⟩
        · have g := ih1 h
          cases hr' : bestTo (lenTo b l) S L k with
          | none => rw [hr'] at h2; unfold bestUp at h2; dsimp only at h2; injection h2 with h2; injection h2 with h3 h4; omega
          | some z =>
            obtain ⟨z1, z2⟩ := z
            have := g z1 z2 hr'
            rw [hr'] at h2; unfold bestUp at h2; dsimp only at h2
            split at h2
            · injection h2 with h2; injection h2 with h3 h4; omega
            · injection h2 with h2; injection h2 with h3 h4; omega
        · obtain ⟨g1, g2⟩ := ih2 x o h
          refine ⟨g1, ?_⟩
          rw [g2]
          unfold bestUp
          dsimp only
          rw [if_neg (by omega)]

/-- On a longer bed the best order and its extent stay. -/
theorem bestW_len {b : Bed4} {l : Int} {S : List Shp} {x : Int} {o : List Int} (hb : bedBad b = false) (hl : bedBad (lenTo b l) = false) (hle : b.len ≤ l) (h : bestW b S = (0, x, o)) : bestW (lenTo b l) S = (0, x, o) := by
  obtain ⟨h5, h0, hbt⟩ := bestW_good h
  have hb2 := ((best_len (S := S) (L := ordW S.length) hb hl hle _).2 x o hbt).2
  have hbn : (bndW (lenTo b l) S).1 = 0 := by
    unfold bndW at h0 ⊢
    rw [hb] at h0
    rw [hl]
    simp only [Bool.false_eq_true, if_false] at h0 ⊢
    split
    · rename_i h60; omega
    · rename_i h60
      rw [if_neg h60] at h0
      split
      · rename_i h1
        rw [if_pos h1] at h0
        exact absurd h0 h1
      · rfl
  unfold bestW
  rw [if_neg (by omega), if_neg (by rw [hbn]; simp), hb2]

end Go.Proofs.YtccpgmneflfhjaaGreat

namespace Go.Proofs.YtccpgmneflfhjaaGreat
set_option linter.unusedVariables false
set_option linter.unusedSimpArgs false
open Go.RowKit

theorem InS.far {w : World} {A : Option Addr} {n : Nat} {l : List Int} (h : InS w A n l) {p : Addr} {u : Value} (hp : ∀ a, A = some a → a.block ≠ p.block) : InS (w.setCell p u) A n l := by
  refine ⟨h.1, ?_⟩
  obtain ⟨_, h2⟩ := h
  rcases h2 with h2 | ⟨b, off, rfl, h2⟩
  · exact .inl h2
  · refine .inr ⟨b, off, rfl, fun k hk => ?_⟩
    rw [World.cell?_of_block (w := w) (a := ⟨b, off + k, none⟩) (Below.heap_setCell w p u b (by have := hp _ rfl; exact this))]
    exact h2 k hk

set_option maxHeartbeats 4000000 in
set_option maxRecDepth 100000 in
theorem lawLonger (A1 : Option Addr) (c1 n1 : Nat) (b : Bed4) (S : List Shp) (z : Int) (w : World) (hS : ShW w A1 n1 S) (hz : 0 ≤ z ∧ z ≤ 65535) (hbl : inR b.len) :
    Calls Tryz.prog 13 #[bedV b, .slice A1 n1 c1, .int .u16 z] w fun e w' => e = .returned (.bool true) ∧ Below w.heap.size w w' := by
  have hB := Lib.hid (BlkS.new w 25 #[.int .i64 b.len, .int .i64 b.wid, .int .i64 b.rx, .int .i64 b.ry])
  have hbw := Lib.hid (show Below w.heap.size w (w.alloc (.cells #[.int .i64 b.len, .int .i64 b.wid, .int .i64 b.rx, .int .i64 b.ry] 25)) from (Bl.alloc (Below.refl _ _) _))
  have hl := hS.1
  obtain ⟨len, wid, rx, ry⟩ := b
  unfold bedV
  unfold inR at hbl
  dsimp only at hB hbw hbl ⊢
  obtain ⟨hz1, hz2⟩ := hz
  obtain ⟨hbl1, hbl2⟩ := hbl
  have HA := Lib.hid alive_any
  cases hfew : fewW S with
  | false =>
    have HF := Lib.hid hfew
    clear hfew hl
    go_enter Tryz.func13, Tryz.ntmps13
    go_wp2_with (first | (go_at_call 38; refine (few_any _ _ _ S _ (hS.keep hbw.out)).mono ?_; rintro e w1 ⟨rfl, hb1⟩; rw [HF.out]) | (go_at_call 34; refine (HA.out _).mono ?_; rintro e w2 ⟨rfl, hb2⟩))
    go_ret
    exact ⟨rfl, Bl.call (Bl.call hbw.out hb1) hb2⟩
  | true =>
    have hn3 := fewW_len hfew
    rw [hl] at hn3
    have HF := Lib.hid hfew
    clear hfew
    by_cases hlo : len < 1
    · go_enter Tryz.func13, Tryz.ntmps13
      go_wp2_with (first | (go_at_call 38; refine (few_any _ _ _ S _ (hS.keep hbw.out)).mono ?_; rintro e w1 ⟨rfl, hb1⟩; rw [HF.out]; obtain ⟨a1, a2, a3, a4, a5⟩ := (hB.out.keep hb1).cells4) | (go_at_call 34; refine (HA.out _).mono ?_; rintro e w2 ⟨rfl, hb2⟩))
      go_ret
      exact ⟨rfl, Bl.call (Bl.call hbw.out hb1) hb2⟩
    · by_cases hhi : 1048576 - z < len
      · go_enter Tryz.func13, Tryz.ntmps13
        go_wp2_with (first | (go_at_call 38; refine (few_any _ _ _ S _ (hS.keep hbw.out)).mono ?_; rintro e w1 ⟨rfl, hb1⟩; rw [HF.out]; obtain ⟨a1, a2, a3, a4, a5⟩ := (hB.out.keep hb1).cells4) | (go_at_call 34; refine (HA.out _).mono ?_; rintro e w2 ⟨rfl, hb2⟩))
        go_ret
        exact ⟨rfl, Bl.call (Bl.call hbw.out hb1) hb2⟩
      · have hSS := hS.shs (by omega)
        obtain ⟨r, hr⟩ : ∃ r, bestW ⟨len, wid, rx, ry⟩ S = r := ⟨_, rfl⟩
        have HR := Lib.hid hr
        obtain ⟨er, x, o⟩ := r
        by_cases her : er = 0
        · subst her
          obtain ⟨h5, hbn, hbt⟩ := bestW_good hr
          have hbb : bedBad ⟨len, wid, rx, ry⟩ = false := by
            cases h : bedBad ⟨len, wid, rx, ry⟩ with
            | false => rfl
            | true => unfold bndW at hbn; rw [if_pos h] at hbn; cases hbn
          have hbb2 : bedBad (lenTo ⟨len, wid, rx, ry⟩ (len + z)) = false := by
            unfold bedBad lenTo at *
            simp at hbb ⊢
            omega
          have HR2 := Lib.hid (show bestW ⟨len + z, wid, rx, ry⟩ S = (0, x, o) from bestW_len hbb hbb2 (by dsimp only; omega) hr)
          have hol : o.length ≤ 5 := by
            obtain ⟨⟨i, i1, i2, -⟩, -⟩ := bestTo_some hbt
            rw [← i2]
            exact (ordW_len _).2 _ (li_mem i1)
          clear hr hbt hbn h5 hbb hbb2 hl
          obtain ⟨no, hno⟩ : ∃ no, o.length = no := ⟨_, rfl⟩
          rw [hno] at hol
          have HNO := Lib.hid hno
          have hsame := Lib.hid (show sameI o o = true by unfold sameI; simp)
          clear hno
          go_enter Tryz.func13, Tryz.ntmps13
          go_upto_region 6 with (first | (go_at_call 38; refine (few_any _ _ _ S _ (hS.keep hbw.out)).mono ?_; rintro e w1 ⟨rfl, hb1⟩; rw [HF.out]; obtain ⟨a1, a2, a3, a4, a5⟩ := (hB.out.keep hb1).cells4) | (go_at_call 39; refine (best_any _ _ _ ⟨len, wid, rx, ry⟩ S _ (hSS.keep (Bl.call hbw.out hb1))).mono ?_; rintro e w2 ⟨v2, rfl, hr2, hb2⟩; rw [HR.out] at hr2 ⊢; dsimp only at hr2))
          obtain ⟨Ab, cb, rfl, hcb, hIb, -, hba⟩ := hr2
          rw [HNO.out] at hIb hcb ⊢
          have hb12 := Bl.call (Bl.call hbw.out hb1) hb2
          obtain ⟨d1, d2, d3, d4, d5⟩ := ((hB.out.keep hb1).keep hb2).cells4
          have d6 := ((hB.out.keep hb1).keep hb2).frozen 0
          have hw1 : w.heap.size < w1.heap.size := by have := hb1.size; simp at this; omega
          have hfar := InS.far (p := ⟨w.heap.size, 0, none⟩) (u := .int .i64 (len + z)) hIb (fun a ha => by have := hba a ha; dsimp only; omega)
          have HB9 := Lib.hid (Bl.set hb12 (p := ⟨w.heap.size, 0, none⟩) (Nat.le_refl _) (.int .i64 (len + z)))
          clear hb1 hb2 a1 a2 a3 a4 a5 hbw hB hIb hba hS
          go_upto_region 7 with fail
          refine wp_world (fun X => Below w.heap.size w X ∧ InS X Ab no o ∧ X.cell? ⟨w.heap.size, 0, none⟩ = some (.int .i64 (len + z)) ∧ X.cell? ⟨w.heap.size, 1, none⟩ = some (.int .i64 wid) ∧ X.cell? ⟨w.heap.size, 2, none⟩ = some (.int .i64 rx) ∧ X.cell? ⟨w.heap.size, 3, none⟩ = some (.int .i64 ry)) ⟨HB9.out, hfar, by go_simp, by go_simp, by go_simp, by go_simp⟩ ?_
          clear d1 d2 d3 d4 d5 d6 hfar HB9 hb12 hw1
          rintro X ⟨hX, hI, d1, d2, d3, d4⟩
          go_wp2_with (first | (go_at_call 39; refine (best_any _ _ _ ⟨len + z, wid, rx, ry⟩ S _ (hSS.keep hX)).mono ?_; rintro e w4 ⟨v4, rfl, hr4, hb4⟩; rw [HR2.out] at hr4 ⊢; dsimp only at hr4; obtain ⟨Ac, cc, rfl, hcc, hIc, -, -⟩ := hr4; rw [HNO.out] at hIc hcc ⊢) | (go_at_call 33; refine (sameInts_any Ab Ac _ _ no no o o _ (by omega) (hI.keep hb4) hIc).mono ?_; rintro e w5 ⟨rfl, hb5⟩; rw [hsame.out]) | (go_at_call 34; refine (HA.out _).mono ?_; rintro e w6 ⟨rfl, hb6⟩))
          go_ret
          exact ⟨rfl, Bl.call (Bl.call (Bl.call hX hb4) hb5) hb6⟩
        · have hy := bestW_bad hr her
          injection hy with hy1 hy2
          subst hy1 hy2
          have qe : (er != 0) = true := by simpa using her
          clear her hr hl
          go_enter Tryz.func13, Tryz.ntmps13
          go_wp2_with (first | (go_at_call 38; refine (few_any _ _ _ S _ (hS.keep hbw.out)).mono ?_; rintro e w1 ⟨rfl, hb1⟩; rw [HF.out]; obtain ⟨a1, a2, a3, a4, a5⟩ := (hB.out.keep hb1).cells4) | (go_at_call 39; refine (best_any _ _ _ ⟨len, wid, rx, ry⟩ S _ (hSS.keep (Bl.call hbw.out hb1))).mono ?_; rintro e w2 ⟨v2, rfl, hr2, hb2⟩; rw [HR.out] at hr2 ⊢; obtain ⟨Ab, cb, rfl, hcb, hIb, -⟩ := hr2; dsimp only) | (go_at_call 34; refine (HA.out _).mono ?_; rintro e w3 ⟨rfl, hb3⟩))
          go_ret
          exact ⟨rfl, Bl.call (Bl.call (Bl.call hbw.out hb1) hb2) hb3⟩

end Go.Proofs.YtccpgmneflfhjaaGreat

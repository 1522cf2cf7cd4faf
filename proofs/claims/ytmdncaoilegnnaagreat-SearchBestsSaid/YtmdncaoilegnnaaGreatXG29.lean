/- Lean texts of the claim. -/
import Derived.Test.YtmdncaoilegnnaaGreatXG28
namespace Go.Proofs.YtmdncaoilegnnaaGreat
set_option linter.unusedVariables false
set_option linter.unusedSimpArgs false
section
open Go.RowKit
theorem rot1_near {M : Int} (hM : M ≤ 10000000) {q : Int × Int} (h : nearB M q) : nearB M (rot1 q) := by
 unfold nearB rot1 at *
 dsimp only
 rw [wrap_near (by omega) (by omega)]; omega
theorem rotN_near {M : Int} (hM : M ≤ 10000000) : ∀ (n : Nat) {q : Int × Int}, nearB M q → nearB M (rotN n q) := by
 intro n
 induction n with
 | zero => intro q h; exact h
 | succ n ih => intro q h; unfold rotN; first | exact ih (rot1_near hM h) | exact rot1_near hM (ih h)
theorem flip_near {M : Int} (hM : M ≤ 10000000) {f : Bool} {q : Int × Int} (h : nearB M q) : nearB M (flipW f q) := by
 unfold flipW
 split
 ·unfold nearB at *; dsimp only; rw [wrap_near (by omega) (by omega)]; omega
 ·exact h
theorem apply_near {M : Int} (hM : M ≤ 10000000) {f : Bool} {u : Int} {q : Int × Int} (h : nearB M q) : nearB M (applyW f u q) := rotN_near hM _ (flip_near hM h)
theorem tpol_near {M : Int} (hM : M ≤ 10000000) {f : Bool} {u : Int} {l : List (Int × Int)} (h : ∀ q ∈ l, nearB M q) : ∀ q ∈ tpolW f u l, nearB M q := by
 intro q hq
 unfold tpolW at hq
 split at hq
 ·obtain ⟨x, hx, rfl⟩ := List.mem_map.1 (List.mem_reverse.1 hq)
  exact apply_near hM (h x hx)
 ·obtain ⟨x, hx, rfl⟩ := List.mem_map.1 hq
  exact apply_near hM (h x hx)
def movP (l : List (Int × Int)) (x y : Int) : List (Int × Int) := l.map fun q => (q.1 + x, q.2 + y)
theorem mov_plain {l : List (Int × Int)} {x y : Int} (h : ∀ q ∈ l, nearB 1048576 q) (hx : nearB 1048576 (x, y)) : movW l (x, y) = movP l x y := by
 unfold movW movP
 apply List.map_congr_left
 intro q hq
 have := h q hq
 unfold nearB at this hx
 dsimp only at hx ⊢
 rw [wrap_near (by omega) (by omega), wrap_near (by omega) (by omega)]
def tpS (S : List Shp) (p : Pt5) : List (Int × Int) := tpolW p.fl p.qu (shp S p.sh.toNat).poly
theorem poly_plain {S : List Shp} {p : Pt5} (h : (Xe S p).1 = 0) : (∀ q ∈ tpS S p, nearB 1048576 q) ∧ nearB 1048576 (p.x, p.y) ∧ (Xe S p).2 = movP (tpS S p) p.x p.y ∧ (∀ q ∈ (Xe S p).2, nearB 1048576 q) ∧ 3 ≤ (tpS S p).length ∧ checkW (shp S p.sh.toNat).poly (shp S p.sh.toNat).poly.length = 0 := by
 have hc := polyW_check h
 unfold Xe at h hc ⊢
 split at h
 ·cases h
 ·rename_i h0
  rw [if_neg h0] at hc ⊢
  have hxy : nearB 1048576 (p.x, p.y) := near_of_out (by
   cases ho : outB 1048576 (p.x, p.y) with
   | false => rfl
   | true => exact absurd (.inr (.inr ho)) h0)
  unfold polyIn at h hc ⊢
  split at h
  ·rename_i h1; exact absurd h h1
  ·rename_i h1
   rw [if_neg h1] at hc ⊢
   have h1' : checkW (shp S p.sh.toNat).poly (shp S p.sh.toNat).poly.length = 0 := by simpa using h1
   split at h
   ·rename_i h2; exact absurd h h2
   ·rename_i h2
    rw [if_neg h2] at hc ⊢
    have hn := tpol_near (M := 1048576) (by omega) (f := p.fl) (u := p.qu) (check_near h1')
    refine ⟨hn, hxy, mov_plain hn hxy, check_near hc, ?_, h1'⟩
    unfold tpS
    rw [tpolW_len]
    exact (check_len h1').1
/-! ### the greatest X -/
theorem hiX_ge {l : List (Int × Int)} : ∀ {n i : Nat}, i < n → (gt l i).1 ≤ hiX l n := by
 intro n
 induction n with
 | zero => intro i hi; omega
 | succ n ih =>
   intro i hi
   rw [hiX]
   by_cases h : i < n
   ·have := ih h; split <;> omega
   ·obtain rfl : i = n := by omega
    split <;> omega
theorem hiX_at {l : List (Int × Int)} : ∀ {n : Nat}, 0 < n → ∃ i, i < n ∧ hiX l n = (gt l i).1 := by
 intro n
 induction n with
 | zero => intro h; omega
 | succ n ih =>
   intro _
   rw [hiX]
   split
   ·exact ⟨n, by omega, rfl⟩
   ·rcases Nat.eq_zero_or_pos n with h0 | h0
    ·subst h0; exact ⟨0, by omega, rfl⟩
    ·obtain ⟨i, hi, e⟩ := ih h0; exact ⟨i, by omega, e⟩
theorem loX_at {l : List (Int × Int)} : ∀ {n : Nat}, 0 < n → ∃ i, i < n ∧ loX l n = (gt l i).1 := by
 intro n
 induction n with
 | zero => intro h; omega
 | succ n ih =>
   intro _
   rw [loX]
   split
   ·exact ⟨n, by omega, rfl⟩
   ·rcases Nat.eq_zero_or_pos n with h0 | h0
    ·subst h0; exact ⟨0, by omega, rfl⟩
    ·obtain ⟨i, hi, e⟩ := ih h0; exact ⟨i, by omega, e⟩
def maxX (l : List (Int × Int)) : Int := hiX l l.length
theorem maxX_le {l : List (Int × Int)} (h0 : 0 < l.length) {z : Int} : maxX l ≤ z ↔ ∀ q ∈ l, q.1 ≤ z := by
 unfold maxX
 constructor
 ·intro h q hq
  obtain ⟨i, hi, rfl⟩ := mem_gt hq
  have := hiX_ge (l := l) hi; omega
 ·intro h
  obtain ⟨i, hi, e⟩ := hiX_at (l := l) h0
  rw [e]; exact h _ (gt_in hi)
theorem movP_maxX {l : List (Int × Int)} (h0 : 0 < l.length) (x y : Int) : maxX (movP l x y) = maxX l + x := by
 have h0' : 0 < (movP l x y).length := by unfold movP; simpa using h0
 apply Int.le_antisymm
 ·rw [maxX_le h0']
  intro q hq
  obtain ⟨r, hr, rfl⟩ := List.mem_map.1 hq
  have := (maxX_le h0 (z := maxX l)).1 (Int.le_refl _) r hr
  dsimp only; omega
 ·have : maxX l ≤ maxX (movP l x y) - x := by
   rw [maxX_le h0]
   intro q hq
   have := (maxX_le h0' (z := maxX (movP l x y))).1 (Int.le_refl _) (q.1 + x, q.2 + y) (List.mem_map.2 ⟨q, hq, rfl⟩)
   dsimp only at this; omega
  omega
theorem poly_at {S : List Shp} {sh : Int} {f : Bool} {u x y : Int} (h0 : (Xe S ⟨sh, f, u, 0, 0⟩).1 = 0) (h : (Xe S ⟨sh, f, u, x, y⟩).1 = 0) :
 (Xe S ⟨sh, f, u, x, y⟩).2 = movP (Xe S ⟨sh, f, u, 0, 0⟩).2 x y ∧ maxX (Xe S ⟨sh, f, u, x, y⟩).2 = maxX (Xe S ⟨sh, f, u, 0, 0⟩).2 + x ∧
 (endOf sh (f, u) (Xe S ⟨sh, f, u, 0, 0⟩).2 (x, y)).right = maxX (Xe S ⟨sh, f, u, x, y⟩).2 := by
 obtain ⟨a1, a2, a3, a4, a5, -⟩ := poly_plain h0
 obtain ⟨b1, b2, b3, b4, b5, -⟩ := poly_plain h
 dsimp only at a1 a2 a3 a5 b1 b2 b3 b5
 have e0 : (Xe S ⟨sh, f, u, 0, 0⟩).2 = tpS S ⟨sh, f, u, 0, 0⟩ := by rw [a3]; unfold movP; simp
 have et : tpS S ⟨sh, f, u, x, y⟩ = tpS S ⟨sh, f, u, 0, 0⟩ := rfl
 rw [et] at b3
 have hl : 0 < (tpS S ⟨sh, f, u, 0, 0⟩).length := by omega
 refine ⟨by rw [b3, e0], by rw [b3, e0, movP_maxX hl], ?_⟩
 rw [b3, movP_maxX hl]
 unfold endOf
 dsimp only
 rw [e0]
 obtain ⟨i, hi, ei⟩ := hiX_at (l := tpS S ⟨sh, f, u, 0, 0⟩) hl
 obtain ⟨j, hj, ej⟩ := loX_at (l := tpS S ⟨sh, f, u, 0, 0⟩) hl
 have n1 := a1 _ (gt_in hi)
 have n2 := a1 _ (gt_in hj)
 unfold nearB at n1 n2 b2
 dsimp only at b2
 unfold maxX
 rw [wrap_near (z := x + loX (tpS S ⟨sh, f, u, 0, 0⟩) (tpS S ⟨sh, f, u, 0, 0⟩).length) (by omega) (by omega), wrap_near (z := hiX (tpS S ⟨sh, f, u, 0, 0⟩) (tpS S ⟨sh, f, u, 0, 0⟩).length - loX (tpS S ⟨sh, f, u, 0, 0⟩) (tpS S ⟨sh, f, u, 0, 0⟩).length) (by omega) (by omega), wrap_near (by omega) (by omega)]
 omega
/-! ### a longer bed -/
def lenTo (b : Bed4) (l : Int) : Bed4 := ⟨l, b.wid, b.rx, b.ry⟩
theorem fits_len {b : Bed4} {l : Int} {S : List Shp} {ps : List Pt5} {p : Pt5} (hb : bedBad b = false) (hl : bedBad (lenTo b l) = false) (hle : b.len ≤ l) :
 fitsW b S ps p = 0 ↔ fitsW (lenTo b l) S ps p = 0 ∧ ∀ q ∈ (Xe S p).2, q.1 ≤ b.len := by
 unfold fitsW
 rw [hb, hl]
 simp only [Bool.false_eq_true, if_false]
 by_cases h1 : (Xe S p).1 ≠ 0
 ·rw [if_pos h1, if_pos h1]
  constructor
  ·intro h; exact absurd h h1
  ·intro h; exact absurd h.1 h1
 ·rw [if_neg h1, if_neg h1]
  unfold fitIn
  split
  ·constructor
   ·intro h; cases h
   ·intro h; cases h.1
  ·have hout : AnyB (fun i => outBed b (gt (Xe S p).2 i)) (Xe S p).2.length = true ↔ (AnyB (fun i => outBed (lenTo b l) (gt (Xe S p).2 i)) (Xe S p).2.length = true ∨ ∃ q ∈ (Xe S p).2, b.len < q.1) := by
    rw [AnyB.iff, AnyB.iff]
    constructor
    ·rintro ⟨i, hi, h⟩
     unfold outBed at h
     simp at h
     by_cases h2 : b.len < (gt (Xe S p).2 i).1
     ·exact .inr ⟨_, gt_in hi, h2⟩
     ·refine .inl ⟨i, hi, ?_⟩
      unfold outBed lenTo
      simp
      omega
    ·rintro (⟨i, hi, h⟩ | ⟨q, hq, h⟩)
     ·refine ⟨i, hi, ?_⟩
      unfold outBed lenTo at h
      unfold outBed
      simp at h ⊢
      omega
     ·obtain ⟨i, hi, rfl⟩ := mem_gt hq
      refine ⟨i, hi, ?_⟩
      unfold outBed
      simp
      omega
   have hin : (¬ ∃ q ∈ (Xe S p).2, b.len < q.1) ↔ ∀ q ∈ (Xe S p).2, q.1 ≤ b.len := by
    constructor
    ·intro h q hq; rcases Int.lt_or_le b.len q.1 with h2 | h2
     ·exact absurd ⟨q, hq, h2⟩ h
     ·exact h2
    ·rintro h ⟨q, hq, h2⟩; have := h q hq; omega
   rw [← hin]
   by_cases ha : AnyB (fun i => outBed b (gt (Xe S p).2 i)) (Xe S p).2.length = true
   ·rw [if_pos ha]
    constructor
    ·intro h; cases h
    ·rintro ⟨h2, h3⟩
     rcases hout.1 ha with h4 | h4
     ·rw [if_pos h4] at h2; cases h2
     ·exact absurd h4 h3
   ·rw [if_neg ha]
    have hb' : ¬ AnyB (fun i => outBed (lenTo b l) (gt (Xe S p).2 i)) (Xe S p).2.length = true := fun h => ha (hout.2 (.inl h))
    rw [if_neg hb']
    constructor
    ·intro h; exact ⟨h, fun h4 => ha (hout.2 (.inr h4))⟩
    ·intro h; exact h.1
theorem sort_pairwise (l : List (Int × Int)) : (sortW l).Pairwise fun x y => x.1 ≤ y.1 := by
 rw [sortW_eq]
 have h := isortF_sorted (lt := ltOf cmpS) swoS.irrefl swoS.trans totS l
 have e : ltOf cmpS = lessS := by funext p q; exact ltS p q
 rw [e] at h
 unfold sortF
 refine List.Pairwise.imp ?_ h
 intro x y hxy
 unfold lessS at hxy
 simp at hxy
 omega
theorem cand_sorted {b : Bed4} {s : Shp} {f : Bool} {u : Int} {l : List (Int × Int)} {pls : List (List (Int × Int))} {i j : Nat} (hij : i < j) (hj : j < (candW b s f u l pls).2.length) : (gt (candW b s f u l pls).2 i).1 ≤ (gt (candW b s f u l pls).2 j).1 := by
 have h : (candW b s f u l pls).2.Pairwise fun x y => x.1 ≤ y.1 := by
  unfold candW
  split
  ·exact List.Pairwise.nil
  ·exact sort_pairwise _
 have := List.pairwise_iff_getElem.1 h i j (by omega) hj hij
 unfold gt
 rw [List.getD, List.getD, List.getElem?_eq_getElem hj, List.getElem?_eq_getElem (show i < _ by omega)]
 exact this
theorem fnd_none {f : Nat → Bool} {n : Nat} (h : (List.range n).find? f = none) : ∀ i, i < n → f i = false := by
 intro i hi
 rw [List.find?_eq_none] at h
 have := h i (by simpa using hi)
 simpa using this
theorem fnd_some {f : Nat → Bool} {n j : Nat} (hj : j < n) (h1 : f j = true) (h2 : ∀ i, i < j → f i = false) : (List.range n).find? f = some j := by
 cases h : (List.range n).find? f with
 | none => rw [fnd_none h j hj] at h1; cases h1
 | some k =>
   obtain ⟨k1, k2, k3⟩ := find_range h
   rcases Nat.lt_trichotomy j k with hlt | rfl | hlt
   ·rw [k3 j hlt] at h1; cases h1
   ·rfl
   ·rw [h2 k hlt] at k2; cases k2
theorem fst_len {b : Bed4} {l : Int} {S : List Shp} {ps : List Pt5} {sh : Int} {f : Bool} {u : Int} {s : Shp} {pls : List (List (Int × Int))} (hb : bedBad b = false) (hl : bedBad (lenTo b l) = false) (hle : b.len ≤ l)
 (h0 : (Xe S ⟨sh, f, u, 0, 0⟩).1 = 0) :
 fstFit b S ps sh (f, u) (candW b s f u (Xe S ⟨sh, f, u, 0, 0⟩).2 pls).2 =
  match fstFit (lenTo b l) S ps sh (f, u) (candW b s f u (Xe S ⟨sh, f, u, 0, 0⟩).2 pls).2 with
  | none => none
  | some j => if (endOf sh (f, u) (Xe S ⟨sh, f, u, 0, 0⟩).2 (gt (candW b s f u (Xe S ⟨sh, f, u, 0, 0⟩).2 pls).2 j)).right ≤ b.len then some j else none := by
 have hsort := fun {i j : Nat} => cand_sorted (b := b) (s := s) (f := f) (u := u) (l := (Xe S ⟨sh, f, u, 0, 0⟩).2) (pls := pls) (i := i) (j := j)
 obtain ⟨cs, hcs⟩ : ∃ cs, (candW b s f u (Xe S ⟨sh, f, u, 0, 0⟩).2 pls).2 = cs := ⟨_, rfl⟩
 rw [hcs] at hsort ⊢
 have key : ∀ i, isFit b S ps sh (f, u) (gt cs i) = (isFit (lenTo b l) S ps sh (f, u) (gt cs i) && decide (maxX (Xe S ⟨sh, f, u, 0, 0⟩).2 + (gt cs i).1 ≤ b.len)) := by
  intro i
  unfold isFit
  dsimp only
  have := fits_len (S := S) (ps := ps) (p := ⟨sh, f, u, (gt cs i).1, (gt cs i).2⟩) hb hl hle
  rw [Bool.eq_iff_iff]
  simp only [beq_iff_eq, Bool.and_eq_true, decide_eq_true_eq]
  rw [this]
  constructor
  ·rintro ⟨h1, h2⟩
   refine ⟨h1, ?_⟩
   have hp := (fits_poly h1).2.1
   have := poly_at h0 hp
   rw [← this.2.1, maxX_le (by obtain ⟨_, _, e, _, h5, _⟩ := poly_plain hp; rw [e]; unfold movP; simp; omega)]
   exact h2
  ·rintro ⟨h1, h2⟩
   refine ⟨h1, ?_⟩
   have hp := (fits_poly h1).2.1
   have := poly_at h0 hp
   rw [← this.2.1, maxX_le (by obtain ⟨_, _, e, _, h5, _⟩ := poly_plain hp; rw [e]; unfold movP; simp; omega)] at h2
   exact h2
 cases hf : fstFit (lenTo b l) S ps sh (f, u) cs with
 | none =>
   dsimp only
   unfold fstFit at hf ⊢
   rw [List.find?_eq_none]
   intro i hi hfi
   rw [key i, fnd_none hf i (by simpa using hi)] at hfi
   simp at hfi
 | some j =>
   dsimp only
   obtain ⟨j1, j2, j3⟩ := fstFit_some hf
   have hp := (fits_poly j2).2.1
   have hat := poly_at h0 hp
   have hr : (endOf sh (f, u) (Xe S ⟨sh, f, u, 0, 0⟩).2 (gt cs j)).right = maxX (Xe S ⟨sh, f, u, 0, 0⟩).2 + (gt cs j).1 := by
    rw [← hat.2.1]; exact hat.2.2
   rw [hr]
   have hf' := hf
   unfold fstFit at hf'
   obtain ⟨k1, k2, k3⟩ := find_range hf'
   split
   ·rename_i hle2
    unfold fstFit
    refine fnd_some j1 ?_ fun i hi => ?_
    ·rw [key j, k2]; simpa using hle2
    ·rw [key i, k3 i hi]; rfl
   ·rename_i hgt
    unfold fstFit
    rw [List.find?_eq_none]
    intro i hi hfi
    rw [key i, Bool.and_eq_true] at hfi
    have hil : i < cs.length := by simpa using hi
    have hij : ¬ i < j := fun h => by rw [k3 i h] at hfi; cases hfi.1
    have : (gt cs j).1 ≤ (gt cs i).1 := by
     rcases Nat.eq_or_lt_of_le (Nat.le_of_not_lt hij) with h | h
     ·rw [h]; exact Int.le_refl _
     ·exact hsort h hil
    have h2 := hfi.2
    simp at h2
    omega
def stG (b : Bed4) (S : List Shp) (ps : List Pt5) (sh : Int) (pls : List (List (Int × Int))) (t : Trn) (E : List End6) : Int × List End6 :=
 if (Xe S ⟨sh, t.1, t.2, 0, 0⟩).1 ≠ 0 then ((Xe S ⟨sh, t.1, t.2, 0, 0⟩).1, [])
 else if (candW b (shp S sh.toNat) t.1 t.2 (Xe S ⟨sh, t.1, t.2, 0, 0⟩).2 pls).1 ≠ 0 then ((candW b (shp S sh.toNat) t.1 t.2 (Xe S ⟨sh, t.1, t.2, 0, 0⟩).2 pls).1, [])
 else match fstFit b S ps sh t (candW b (shp S sh.toNat) t.1 t.2 (Xe S ⟨sh, t.1, t.2, 0, 0⟩).2 pls).2 with
  | none => (0, E)
  | some j => (0, addW E [endOf sh t (Xe S ⟨sh, t.1, t.2, 0, 0⟩).2 (gt (candW b (shp S sh.toNat) t.1 t.2 (Xe S ⟨sh, t.1, t.2, 0, 0⟩).2 pls).2 j)] ⟨⟨0, false, 0, 0, 0⟩, 0⟩)
theorem stTo_succ (b : Bed4) (S : List Shp) (ps : List Pt5) (sh : Int) (pls : List (List (Int × Int))) (ts : List Trn) (k : Nat) : stTo b S ps sh pls ts (k + 1) = if (stTo b S ps sh pls ts k).1 ≠ 0 then stTo b S ps sh pls ts k else stG b S ps sh pls (tr ts k) (stTo b S ps sh pls ts k).2 := rfl
/-! ### the least ending -/
theorem ed_app {l : List End6} {x : End6} {i : Nat} (h : i < l.length) : ed (l ++ [x]) i = ed l i := by
 unfold ed; rw [List.getD, List.getD, List.getElem?_append_left h]
theorem ed_last (l : List End6) (x : End6) : ed (l ++ [x]) l.length = x := by
 unfold ed; rw [List.getD, List.getElem?_append_right (Nat.le_refl _), Nat.sub_self]; rfl
theorem least_app {l : List End6} {x : End6} : ∀ {n : Nat}, n ≤ l.length → leastTo (l ++ [x]) n = leastTo l n := by
 intro n
 induction n with
 | zero => intro _; rfl
 | succ n ih =>
   intro h
   rw [leastTo, leastTo, ih (by omega), ed_app (by omega)]
def leastL (l : List End6) : End6 := leastTo l l.length
theorem leastL_app (l : List End6) (x : End6) : leastL (l ++ [x]) = if l = [] ∨ cmpE x (leastL l) < 0 then x else leastL l := by
 unfold leastL
 rw [List.length_append, show l.length + [x].length = l.length + 1 from rfl, leastTo, least_app (Nat.le_refl _), ed_last]
 simp only [List.length_eq_zero_iff]
theorem rev_ind {α : Type} {P : List α → Prop} (h0 : P []) (h1 : ∀ l x, P l → P (l ++ [x])) (l : List α) : P l := by
 have : ∀ n (l : List α), l.length = n → P l := by
  intro n
  induction n with
  | zero => intro l hl; rw [List.eq_nil_of_length_eq_zero hl]; exact h0
  | succ n ih =>
    intro l hl
    have hne : l ≠ [] := by intro e; rw [e] at hl; cases hl
    rw [← List.dropLast_concat_getLast hne]
    exact h1 _ _ (ih _ (by rw [List.length_dropLast, hl]; rfl))
 exact this _ l rfl
theorem mem_pt {ps : List Pt5} {i : Nat} (h : i < ps.length) : pt ps i ∈ ps := by
 unfold pt; rw [List.getD, List.getElem?_eq_getElem h]; exact List.getElem_mem h
/-! ### the extent -/
theorem extIn_max {f : Bool} {l : List (Int × Int)} {e : Int} : ∀ {n : Nat}, (∀ i, i < n → (gt l i).1 ≤ extIn f l e n) ∧ (f = false → e ≤ extIn f l e n) ∧ (0 < n → (∃ i, i < n ∧ extIn f l e n = (gt l i).1) ∨ (f = false ∧ extIn f l e n = e)) := by
 intro n
 induction n with
 | zero => exact ⟨fun i hi => absurd hi (by omega), fun _ => Int.le_refl _, fun h => absurd h (by omega)⟩
 | succ n ih =>
   obtain ⟨g1, g2, g3⟩ := ih
   rw [extIn]
   by_cases hc : (f && decide (n = 0)) = true ∨ extIn f l e n < (gt l n).1
   ·rw [if_pos hc]
    refine ⟨fun i hi => ?_, fun hf => ?_, fun _ => .inl ⟨n, by omega, rfl⟩⟩
    ·by_cases h : i < n
     ·have := g1 i h
      rcases hc with hc | hc
      ·simp at hc; omega
      ·omega
     ·obtain rfl : i = n := by omega
      exact Int.le_refl _
    ·rcases hc with hc | hc
     ·simp [hf] at hc
     ·have := g2 hf; omega
   ·rw [if_neg hc]
    have hc2 : (gt l n).1 ≤ extIn f l e n := Int.not_lt.1 fun h => hc (.inr h)
    refine ⟨fun i hi => ?_, g2, fun _ => ?_⟩
    ·by_cases h : i < n
     ·exact g1 i h
     ·obtain rfl : i = n := by omega
      exact hc2
    ·rcases Nat.eq_zero_or_pos n with h0 | h0
     ·subst h0
      refine .inr ⟨?_, rfl⟩
      cases f with
      | false => rfl
      | true => exact absurd (.inl (by simp)) hc
     ·rcases g3 h0 with ⟨i, hi, he⟩ | h
      ·exact .inl ⟨i, by omega, he⟩
      ·exact .inr h
theorem extTo_max {S : List Shp} {ps : List Pt5} : ∀ {k : Nat}, (extTo S ps k).1 = 0 → (∀ i, i < k → (Xe S (pt ps i)).1 = 0 ∧ maxX (Xe S (pt ps i)).2 ≤ (extTo S ps k).2) ∧ (0 < k → ∃ i, i < k ∧ (extTo S ps k).2 = maxX (Xe S (pt ps i)).2) := by
 intro k
 induction k with
 | zero => intro _; exact ⟨fun i hi => absurd hi (by omega), fun h => absurd h (by omega)⟩
 | succ k ih =>
   intro h
   rw [extTo] at h ⊢
   by_cases h0 : (extTo S ps k).1 ≠ 0
   ·rw [if_pos h0] at h; exact absurd h h0
   ·have h0' : (extTo S ps k).1 = 0 := by simpa using h0
    rw [if_neg h0] at h ⊢
    by_cases h1 : (Xe S (pt ps k)).1 ≠ 0
    ·rw [if_pos h1] at h; exact absurd h h1
    ·have h1' : (Xe S (pt ps k)).1 = 0 := by simpa using h1
     rw [if_neg h1] at h ⊢
     obtain ⟨ih1, ih2⟩ := ih h0'
     have hpos : 0 < (Xe S (pt ps k)).2.length := by obtain ⟨_, _, e, _, h5, _⟩ := poly_plain h1'; rw [e]; unfold movP; simp; omega
     have hm := extIn_max (f := decide (k = 0)) (l := (Xe S (pt ps k)).2) (e := (extTo S ps k).2) (n := (Xe S (pt ps k)).2.length)
     obtain ⟨m1, m2, m3⟩ := hm
     have hle : maxX (Xe S (pt ps k)).2 ≤ extIn (decide (k = 0)) (Xe S (pt ps k)).2 (extTo S ps k).2 (Xe S (pt ps k)).2.length := by
      rw [maxX_le hpos]
      intro q hq
      obtain ⟨i, hi, rfl⟩ := mem_gt hq
      exact m1 i hi
     dsimp only
     refine ⟨fun i hi => ?_, fun _ => ?_⟩
     ·by_cases hik : i < k
      ·have hk0 : decide (k = 0) = false := by simp; omega
       have := m2 hk0
       exact ⟨(ih1 i hik).1, by have := (ih1 i hik).2; omega⟩
      ·obtain rfl : i = k := by omega
       exact ⟨h1', hle⟩
     ·rcases m3 hpos with ⟨i, hi, he⟩ | ⟨hf, he⟩
      ·refine ⟨k, by omega, ?_⟩
       apply Int.le_antisymm
       ·rw [he]
        exact (maxX_le hpos).1 (Int.le_refl _) _ (gt_in hi)
       ·exact hle
      ·have hk : 0 < k := by simp at hf; omega
       obtain ⟨i, hi, hi2⟩ := ih2 hk
       exact ⟨i, by omega, by rw [he]; exact hi2⟩
/-! ### Run and Best on a longer bed -/
theorem fits_maxX {b : Bed4} {S : List Shp} {ps : List Pt5} {p : Pt5} (h : fitsW b S ps p = 0) : maxX (Xe S p).2 ≤ b.len := by
 obtain ⟨hb, h1, h2⟩ := fits_poly h
 have hpos : 0 < (Xe S p).2.length := by obtain ⟨_, _, e, _, h5, _⟩ := poly_plain h1; rw [e]; unfold movP; simp; omega
 rw [maxX_le hpos]
 intro q hq
 obtain ⟨i, hi, rfl⟩ := mem_gt hq
 unfold fitIn at h2
 split at h2
 ·cases h2
 ·split at h2
  ·cases h2
  ·rename_i h3
   have h3' : AnyB (fun i => outBed b (gt (Xe S p).2 i)) (Xe S p).2.length = false := by simpa using h3
   have : outBed b (gt (Xe S p).2 i) = false := by
    cases ho : outBed b (gt (Xe S p).2 i) with
    | false => rfl
    | true => rw [AnyB.yes hi ho] at h3'; cases h3'
   unfold outBed at this
   simp at this
   omega
theorem try_le {b : Bed4} {S : List Shp} {o : List Int} {x : Int} (hb : bedBad b = false) (h : tryW b S o = some x) : x ≤ b.len ∧ (runW b S o).1 = 0 ∧ extW S (runW b S o).2 = (0, x) := by
 unfold tryW at h
 split at h
 ·cases h
 ·rename_i h0
  have h0' : (runW b S o).1 = 0 := by simpa using h0
  split at h
  ·cases h
  ·rename_i h1
   have h1' : (extW S (runW b S o).2).1 = 0 := by simpa using h1
   injection h with h
   subst h
   refine ⟨?_, h0', Prod.ext h1' rfl⟩
   obtain ⟨_, _, hlen, hf⟩ := runW_ok h0'
   unfold extW at h1' ⊢
   rw [hlen] at h1' ⊢
   rcases Nat.eq_zero_or_pos o.length with hz | hz
   ·rw [hz]
    unfold bedBad at hb
    simp at hb
    show (0 : Int) ≤ b.len
    omega
   ·obtain ⟨i, hi, he⟩ := (extTo_max h1').2 hz
    rw [he]
    exact fits_maxX (hf i hi).1
end
end Go.Proofs.YtmdncaoilegnnaaGreat

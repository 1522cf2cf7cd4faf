/- search.Bound. search.Best. Twins of the pure functions that the kernel computes (nofit): sorting by insertion, the stack with fuel. Twins of the pure functions that the kernel computes (fill). -/
import Derived.Test.YtmdncaoilegnnaaGreatQG24
import Derived.Test.YtmdncaoilegnnaaGreatQG23
import Derived.Test.YtmdncaoilegnnaaGreatQG17
import Derived.Lib.MinMax
namespace Go.Proofs.YtmdncaoilegnnaaGreat
set_option linter.unusedVariables false
set_option linter.unusedSimpArgs false
set_option linter.unusedVariables false
set_option linter.unusedSimpArgs false
open Go.RowKit

def a2W (l : List (Int × Int)) : Int := if checkW l l.length = 0 then areaW l l.length l.length else 0
def bndTo (S : List Shp) : Nat → Int × Int × Int
  | 0 => (0, 0, 0)
  | k + 1 => if (bndTo S k).1 ≠ 0 then bndTo S k
    else if (narW (shp S k).poly (shp S k).grain).1 ≠ 0 then ((narW (shp S k).poly (shp S k).grain).1, 0, 0)
    else (0, wrap64 ((bndTo S k).2.1 + max (a2W (shp S k).poly) (wrap64 (- a2W (shp S k).poly))), max (bndTo S k).2.2 (narW (shp S k).poly (shp S k).grain).2)
end Go.Proofs.YtmdncaoilegnnaaGreat

namespace Go.Proofs.YtmdncaoilegnnaaGreat
set_option linter.unusedVariables false
set_option linter.unusedSimpArgs false
set_option linter.unusedVariables false
set_option linter.unusedSimpArgs false
open Go.RowKit

end Go.Proofs.YtmdncaoilegnnaaGreat

namespace Go.Proofs.YtmdncaoilegnnaaGreat
set_option linter.unusedVariables false
set_option linter.unusedSimpArgs false
set_option linter.unusedVariables false
set_option linter.unusedSimpArgs false
open Go.RowKit

section
variable {α : Type}
def insF (lt : α → α → Bool) (x : α) : List α → List α
  | [] => [x]
  | y :: ys => if lt y x then y :: insF lt x ys else x :: y :: ys
def isortF (lt : α → α → Bool) : List α → List α
  | [] => []
  | x :: xs => insF lt x (isortF lt xs)
theorem insF_perm (lt : α → α → Bool) (x : α) (l : List α) : (insF lt x l).Perm (x :: l) := by
  induction l with
  | nil => exact List.Perm.refl _
  | cons y ys ih =>
    unfold insF
    split
    · exact (List.Perm.cons y ih).trans (List.Perm.swap x y ys)
    · exact List.Perm.refl _
theorem isortF_perm (lt : α → α → Bool) (l : List α) : (isortF lt l).Perm l := by
  induction l with
  | nil => exact List.Perm.refl _
  | cons x xs ih => exact (insF_perm lt x _).trans (List.Perm.cons x ih)
variable {lt : α → α → Bool} (hi : ∀ x, lt x x = false) (ht : ∀ x y z, lt x y = true → lt y z = true → lt x z = true) (hu : ∀ x y, lt x y = false → lt y x = false → x = y)
include hi ht hu
omit hi in
theorem leF_trans (x y z : α) (h1 : (!lt y x) = true) (h2 : (!lt z y) = true) : (!lt z x) = true := by
  simp only [Bool.not_eq_true'] at *
  by_cases h : lt z x = true
  · by_cases h3 : lt x y = true
    · rw [ht z x y h h3] at h2; cases h2
    · have := hu x y (by simpa using h3) h1
      subst this
      rw [h] at h2; cases h2
  · simpa using h
omit hu in
theorem leF_total (x y : α) : (!lt y x || !lt x y) = true := by
  by_cases h : lt y x = true
  · by_cases h2 : lt x y = true
    · have := ht x y x h2 h; rw [hi] at this; cases this
    · simp [h2]
  · simp [h]
theorem isortF_sorted (l : List α) : (isortF lt l).Pairwise fun x y => (!lt y x) = true := by
  induction l with
  | nil => exact List.Pairwise.nil
  | cons x xs ih =>
    unfold isortF
    generalize isortF lt xs = ys at ih
    induction ys with
    | nil => exact List.pairwise_singleton _ _
    | cons y ys ih2 =>
      unfold insF
      rw [List.pairwise_cons] at ih
      split
      · rename_i hyx
        rw [List.pairwise_cons]
        refine ⟨fun z hz => ?_, ih2 ih.2⟩
        rcases List.mem_cons.1 ((insF_perm lt x ys).mem_iff.1 hz) with rfl | hz
        · by_cases h : lt z y = true
          · have := ht z y z h hyx; rw [hi] at this; cases this
          · simpa using h
        · exact ih.1 z hz
      · rename_i hyx
        rw [List.pairwise_cons]
        refine ⟨fun z hz => ?_, List.pairwise_cons.2 ih⟩
        have hxy : (!lt y x) = true := by simpa using hyx
        rcases List.mem_cons.1 hz with rfl | hz
        · exact hxy
        · exact leF_trans ht hu x y z hxy (ih.1 z hz)
theorem msort_isort (l : List α) : l.mergeSort (fun x y => !lt y x) = isortF lt l :=
  List.Perm.eq_of_pairwise (le := fun x y => (!lt y x) = true) (fun x y _ _ h1 h2 => hu x y (by simpa using h2) (by simpa using h1))
    (List.pairwise_mergeSort (le := fun x y => !lt y x) (fun x y z => leF_trans ht hu x y z) (fun x y => leF_total hi ht x y) l)
    (isortF_sorted hi ht hu l) ((List.mergeSort_perm _ _).trans (isortF_perm lt l).symm)
end

def sortF (l : List (Int × Int)) : List (Int × Int) := isortF lessS l
theorem sortW_eq (l : List (Int × Int)) : sortW l = sortF l := by
  have e : ltOf cmpS = lessS := by funext p q; exact ltS p q
  unfold sortW sortF
  have h := msort_isort (lt := ltOf cmpS) swoS.irrefl swoS.trans totS l
  rw [h, e]
def sortLF (l : List (List (Int × Int))) : List (List (Int × Int)) := isortF (fun x y => decide (cmpL x y < 0)) l
theorem sortLW_eq (l : List (List (Int × Int))) : sortLW l = sortLF l :=
  msort_isort (lt := ltOf cmpL) (swoOf id).irrefl (swoOf id).trans totL l
def popF (p : Int × Int) : Nat → List (Int × Int) → List (Int × Int)
  | 0, r => r
  | f + 1, r => if 1 < r.length ∧ crossW (gt r (r.length - 2)) (gt r (r.length - 1)) p ≤ 0 then popF p f (r.take (r.length - 1)) else r
theorem popW_eq (p : Int × Int) : ∀ (f : Nat) (r : List (Int × Int)), r.length ≤ f → popW p r = popF p f r := by
  intro f
  induction f with
  | zero => intro r hr; rw [popW, if_neg (by omega)]; rfl
  | succ f ih =>
    intro r hr
    rw [popW, popF]
    split
    · exact ih _ (by rw [List.length_take]; omega)
    · rfl
def borToF (l : List (Int × Int)) : Nat → List (Int × Int)
  | 0 => []
  | k + 1 => popF (gt l k) k (borToF l k) ++ [gt l k]
theorem borTo_eq (l : List (Int × Int)) : ∀ k, borTo l k = borToF l k := by
  intro k
  induction k with
  | zero => rfl
  | succ k ih => rw [borTo, borToF, popW_eq (gt l k) k _ (borTo_len l k), ih]
def borF (l : List (Int × Int)) : List (Int × Int) := (borToF l l.length).dropLast
theorem borW_eq (l : List (Int × Int)) : borW l = borF l := by
  unfold borW borF; rw [borTo_eq, List.dropLast_eq_take]
def hullF2 (s : List (Int × Int)) : Option (List (Int × Int)) :=
  if s.length < 3 then none else if (borF s ++ borF s.reverse).length < 3 then none else some (borF s ++ borF s.reverse)
def hullF (l : List (Int × Int)) : Option (List (Int × Int)) := hullF2 (compW eqS (0, 0) (sortF l))
theorem hullW_eq (l : List (Int × Int)) : hullW l = hullF l := by
  unfold hullW hullF hullF2
  rw [sortW_eq, borW_eq, borW_eq]
def HullF (l : List (Int × Int)) : Int × List (Int × Int) :=
  if l.length > 160 then (5, []) else if AnyB (fun i => outB 4194304 (gt l i)) l.length then (3, []) else match hullF l with | none => (11, []) | some r => (0, r)
theorem HullW_eq (l : List (Int × Int)) : HullW l = HullF l := by
  unfold HullW HullF; rw [hullW_eq]; rfl
def SumF3 (r : List (Int × Int)) : Int × List (Int × Int) :=
  if AnyB (fun i => outB 4194304 (gt r i)) r.length then (3, []) else if r.length > 160 then (5, []) else (0, r)
def SumF (a b : List (Int × Int)) : Int × List (Int × Int) :=
  match HullF a with
  | (x, p) => if x ≠ 0 then (x, []) else match HullF b with
    | (y, q) => if y ≠ 0 then (y, []) else SumF3 ((hullF (sumTo p q p.length)).getD [])
theorem SumW_eq (a b : List (Int × Int)) : SumW a b = SumF a b := by
  unfold SumW SumF SumF3
  rw [HullW_eq, HullW_eq, hullW_eq]
def regInF (s : List (Int × Int)) (ts acc : List (List (Int × Int))) : Nat → Int × List (List (Int × Int))
  | 0 => (0, acc)
  | j + 1 => match regInF s ts acc j with
    | (x, r) => if x ≠ 0 then (x, r) else match SumF s (negW (lt_ ts j)) with
      | (y, t) => if y ≠ 0 then (y, []) else (0, r ++ [t])
theorem regIn_eq (s : List (Int × Int)) (ts acc : List (List (Int × Int))) : ∀ j, regIn s ts acc j = regInF s ts acc j := by
  intro j
  induction j with
  | zero => rfl
  | succ j ih => rw [regIn, regInF, ih, SumW_eq]
def regToF (ss ts : List (List (Int × Int))) : Nat → Int × List (List (Int × Int))
  | 0 => (0, [])
  | k + 1 => match regToF ss ts k with
    | (x, r) => if x ≠ 0 then (x, r) else regInF (lt_ ss k) ts r ts.length
theorem regTo_eq (ss ts : List (List (Int × Int))) : ∀ k, regTo ss ts k = regToF ss ts k := by
  intro k
  induction k with
  | zero => rfl
  | succ k ih => rw [regTo, regToF, ih, regIn_eq]
def regionsF3 (r : Int × List (List (Int × Int))) : Int × List (List (Int × Int)) :=
  match r with
  | (x, l) => if x ≠ 0 then (x, []) else (0, compW eqL [] (sortLF l))
def regionsF (a b : List (Int × Int)) : Int × List (List (Int × Int)) :=
  match splitAllW a with
  | (x, ss) => if x ≠ 0 then (x, []) else match splitAllW b with
    | (y, ts) => if y ≠ 0 then (y, []) else regionsF3 (regToF ss ts ss.length)
theorem regionsW_eq (a b : List (Int × Int)) : regionsW a b = regionsF a b := by
  unfold regionsW regionsF regionsF3
  rw [regTo_eq, sortLW_eq]
def spotsF3 (r : Int × List (List (Int × Int))) : Int × List (Int × Int) :=
  match r with
  | (x, l) => if x ≠ 0 then (x, []) else (0, sortF ((uniq l.flatten).filter fun p => !blockedW l p))
def spotsF (a b : List (Int × Int)) : Int × List (Int × Int) := spotsF3 (regionsF a b)
theorem spotsW_eq (a b : List (Int × Int)) : spotsW a b = spotsF a b := by
  unfold spotsW spotsF spotsF3 spotsOf
  rw [regionsW_eq, sortW_eq]
end Go.Proofs.YtmdncaoilegnnaaGreat

namespace Go.Proofs.YtmdncaoilegnnaaGreat
set_option linter.unusedVariables false
set_option linter.unusedSimpArgs false
set_option linter.unusedVariables false
set_option linter.unusedSimpArgs false
open Go.RowKit

def plcToF (l : List (Int × Int)) (x0 y0 y1 : Int) (pls : List (List (Int × Int))) : Nat → Int × List (Int × Int)
  | 0 => (0, addW [] [(x0, y0), (x0, y1)] (0, 0))
  | k + 1 => match plcToF l x0 y0 y1 pls k with
    | (x, r) => if x ≠ 0 then (x, r) else match spotsF (lt_ pls k) l with
      | (y, sp) => if y ≠ 0 then (y, []) else (0, plcIn x0 y0 y1 sp r sp.length)
theorem plcTo_eq (l : List (Int × Int)) (x0 y0 y1 : Int) (pls : List (List (Int × Int))) : ∀ k, plcTo l x0 y0 y1 pls k = plcToF l x0 y0 y1 pls k := by
  intro k
  induction k with
  | zero => rfl
  | succ k ih => rw [plcTo, plcToF, ih, spotsW_eq]
def placesF (b : Bed4) (l : List (Int × Int)) (pls : List (List (Int × Int))) : Int × List (Int × Int) :=
  if checkW l l.length ≠ 0 then (checkW l l.length, [])
  else plcToF l (wrap64 (-loX l l.length)) (wrap64 (-loY l l.length)) (wrap64 (wrap64 (b.wid - loY l l.length) - wrap64 (hiY l l.length - loY l l.length))) pls pls.length
theorem placesW_eq (b : Bed4) (l : List (Int × Int)) (pls : List (List (Int × Int))) : placesW b l pls = placesF b l pls := by
  unfold placesW placesF
  rw [plcTo_eq]
def candF (b : Bed4) (s : Shp) (fl : Bool) (qu : Int) (l : List (Int × Int)) (pls : List (List (Int × Int))) : Int × List (Int × Int) :=
  match placesF b l pls with
  | (x, r) => if x ≠ 0 then (x, []) else (0, sortF (keptTo b.rx b.ry s fl qu r r.length))
theorem candW_eq (b : Bed4) (s : Shp) (fl : Bool) (qu : Int) (l : List (Int × Int)) (pls : List (List (Int × Int))) : candW b s fl qu l pls = candF b s fl qu l pls := by
  unfold candW candF
  rw [placesW_eq, sortW_eq]
def stF1 (b : Bed4) (S : List Shp) (ps : List Pt5) (sh : Int) (t : Trn) (E : List End6) (l : List (Int × Int)) (c : Int × List (Int × Int)) : Int × List End6 :=
  match c with
  | (y, cs) => if y ≠ 0 then (y, []) else match fstFit b S ps sh t cs with
    | none => (0, E)
    | some j => (0, addW E [endOf sh t l (gt cs j)] ⟨⟨0, false, 0, 0, 0⟩, 0⟩)
def stF0 (b : Bed4) (S : List Shp) (ps : List Pt5) (sh : Int) (pls : List (List (Int × Int))) (t : Trn) (E : List End6) (q : Int × List (Int × Int)) : Int × List End6 :=
  match q with
  | (x, l) => if x ≠ 0 then (x, []) else stF1 b S ps sh t E l (candF b (shp S sh.toNat) t.1 t.2 l pls)
def stToF (b : Bed4) (S : List Shp) (ps : List Pt5) (sh : Int) (pls : List (List (Int × Int))) (ts : List Trn) : Nat → Int × List End6
  | 0 => (0, [])
  | k + 1 => match stToF b S ps sh pls ts k with
    | (e, E) => if e ≠ 0 then (e, E) else stF0 b S ps sh pls (tr ts k) E (polyW S ⟨sh, (tr ts k).1, (tr ts k).2, 0, 0⟩)
theorem stTo_eq (b : Bed4) (S : List Shp) (ps : List Pt5) (sh : Int) (pls : List (List (Int × Int))) (ts : List Trn) : ∀ k, stTo b S ps sh pls ts k = stToF b S ps sh pls ts k := by
  intro k
  induction k with
  | zero => rfl
  | succ k ih => rw [stTo, stToF, ih, candW_eq]; rfl
def stepF3 (b : Bed4) (S : List Shp) (ps : List Pt5) (sh : Int) (ts : List Trn) (r : Int × List (Int × Int) × List (List (Int × Int))) : Int × Pt5 :=
  match r with
  | (x, _, pls) => if x ≠ 0 then (x, zeroP) else stepIn (stToF b S ps sh pls ts ts.length)
def stepF (b : Bed4) (S : List Shp) (ps : List Pt5) (sh : Int) : Int × Pt5 := stepF3 b S ps sh (allW (shp S sh.toNat).grain false) (prepW b S ps sh false 0)
theorem stepW_eq (b : Bed4) (S : List Shp) (ps : List Pt5) (sh : Int) : stepW b S ps sh = stepF b S ps sh := by
  unfold stepW stepF stepF3
  rw [stTo_eq]
end Go.Proofs.YtmdncaoilegnnaaGreat

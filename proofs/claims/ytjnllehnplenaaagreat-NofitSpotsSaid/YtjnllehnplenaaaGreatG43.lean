/- Opening the laws' arguments: spots and slices of spots. garmentref16.Light, garmentlaw16.near and half, garmentref11.Same and Less, nofit.Blocks, overlap.Touch. Twins of the pure functions that the kernel computes (nofit): sorting by insertion, the stack with fuel. garmentlaw16.alive returns true. -/
import Derived.Test.YtjnllehnplenaaaGreatG17
import Derived.Test.YtjnllehnplenaaaGreatG48
import Derived.ProofKit
import Derived.OpenShut
import Derived.ShutString
import Derived.ChangeOld
import Derived.Below
import Derived.Deep.Slices
import Derived.Deep.Strs
import Derived.Lib.SmallJoins
import Derived.BigQuiet
namespace Go.Proofs.YtjnllehnplenaaaGreat
set_option linter.unusedVariables false
set_option linter.unusedSimpArgs false
open Go.ChangeShapes Go.WideShapes Go.ChangeAt Go.RowKit Go.Deep Go.Joins

theorem own : ownKnob Tryz.prog.godebug = none := by kernel_rfl

section
variable {H : Type} {enc : TypeId × Value → H} {w : World} {base b0 : Nat} {spare : Nat → Bool} {held : Bool} {fuel : Nat} {cs : List Value} {x : DataW H × List MemPlace} {r : Reach} {v : Value} {d : DataW H} {p : List MemPlace}

theorem cellsSpot : Tryz.prog.cellsOf 30 = 2 := by kernel_rfl
theorem cellsInt : Tryz.prog.cellsOf 3 = 1 := by kernel_rfl
theorem cellsSS : Tryz.prog.cellsOf 22 = 1 := by kernel_rfl
theorem lenL2 {α : Type} {l : List α} (h : l.length = 2) : ∃ a b, l = [a, b] := by
  match l, h with
  | [a, b], _ => exact ⟨a, b, rfl⟩
set_option maxRecDepth 100000 in
theorem spot_trod (h : DataW.trod enc Tryz.prog w base spare held fuel 30 cs = some x) : ∃ a b, cs = [.int .i64 a, .int .i64 b] ∧ inR a ∧ inR b := by
  obtain ⟨y0, y1, n, -, hl, h0, h1⟩ := trod_struct2 Tryz.underlying30 h
  rw [cellsSpot] at hl
  obtain ⟨c0, c1, rfl⟩ := lenL2 hl
  dsimp only at h0 h1
  rw [cellsInt] at h0 h1
  obtain ⟨a, e0, -, wa⟩ := DataW.trod_int Tryz.underlying3 h0
  obtain ⟨b, e1, -, wb⟩ := DataW.trod_int Tryz.underlying3 h1
  simp at e0 e1
  subst e0 e1
  exact ⟨a, b, rfl, bounds_i64 wa, bounds_i64 wb⟩
/-- The row of a slice: its address is plain. -/
theorem addr_plain {a : Addr} {u : Value} (h : w.cell? a = some u) : a = ⟨a.block, a.off, none⟩ := by
  have := World.cell?_spot h
  obtain ⟨b, o, s⟩ := a
  simp at this
  subst this
  rfl
theorem cells_at {a : Addr} {n k : Nat} {cs : List Value} (h : w.cells? base a n = some cs) (hk : k < n) : w.cell? (a.add k) = cs[k]? := (World.cells?_some h).2.2 k hk
theorem add_zero_ (a : Addr) : a.add 0 = a := by unfold Addr.add; simp
theorem add_mk (b o k : Nat) : (⟨b, o, none⟩ : Addr).add k = ⟨b, o + k, none⟩ := by
  unfold Addr.add; by_cases h : k = 0
  · subst h; simp
  · simp [h]
set_option maxRecDepth 100000 in
theorem spots_trod {A : Option Addr} {n c : Nat} (h : DataW.trod enc Tryz.prog w base spare held fuel 22 [.slice A n c] = some x) : n ≤ c ∧ c ≤ 9223372036854775807 ∧ (A = none → c = 0) ∧ ∃ l, SpS w A n l ∧ ∀ q ∈ l, inR q.1 ∧ inR q.2 := by
  rcases open_slice Tryz.underlying22 h with ⟨h1, -⟩ | ⟨a, len, cap, m, k, D, Pl, h1, h2, h3, h4, h5, -, h6⟩
  · simp at h1
    obtain ⟨rfl, rfl, rfl⟩ := h1
    exact ⟨Nat.le_refl _, by omega, fun _ => rfl, [], ⟨rfl, .inl rfl⟩, by simp⟩
  · simp at h1
    obtain ⟨rfl, rfl, rfl⟩ := h1
    refine ⟨h3, by unfold maxLen at h4; exact h4, (fun h => by cases h), ?_⟩
    have hm : n ≤ m := by rw [h5]; split <;> omega
    have hel : ∀ i, i < n → ∃ q : Int × Int, (w.cell? (a.add (i * 2)) = some (.int .i64 q.1) ∧ w.cell? ((a.add (i * 2)).add 1) = some (.int .i64 q.2)) ∧ inR q.1 ∧ inR q.2 := by
      intro i hi
      obtain ⟨cs', g1, g2⟩ := h6 i (by omega)
      rw [cellsSpot] at g1
      obtain ⟨u, v, rfl, wu, wv⟩ := spot_trod g2
      have c0 := cells_at g1 (show 0 < 2 by omega)
      have c1 := cells_at g1 (show 1 < 2 by omega)
      rw [add_zero_] at c0
      exact ⟨(u, v), ⟨c0, c1⟩, wu, wv⟩
    obtain ⟨f, hf⟩ := choose_lt (α := Int × Int) (p := fun i q => (w.cell? (a.add (i * 2)) = some (.int .i64 q.1) ∧ w.cell? ((a.add (i * 2)).add 1) = some (.int .i64 q.2)) ∧ inR q.1 ∧ inR q.2) hel
    refine ⟨(List.range n).map f, ⟨by simp, ?_⟩, fun q hq => ?_⟩
    · rcases Nat.eq_zero_or_pos n with h0 | h0
      · exact .inl h0
      · have c0 := (hf 0 h0).1.1
        rw [Nat.zero_mul, add_zero_] at c0
        have ea := addr_plain c0
        refine .inr ⟨a.block, a.off, by rw [← ea], fun k hk => ?_⟩
        have g := (hf k hk).1
        rw [ea, add_mk, add_mk] at g
        have e : gt ((List.range n).map f) k = f k := by unfold gt; simp [List.getD, hk]
        rw [e]
        exact g
    · simp at hq
      obtain ⟨i, hi, rfl⟩ := hq
      exact (hf i hi).2
end

section
variable {H : Type} {enc : TypeId × Value → H} {w : World} {base b0 : Nat} {spare : Nat → Bool} {held : Bool} {r : Reach} {v : Value} {d : DataW H} {p : List MemPlace}
set_option maxRecDepth 100000 in
theorem open_spots (hv : Value.okWide Tryz.prog w r b0 22 v) (h : DataW.Trod enc Tryz.prog w base spare held 22 v d p) : ∃ A n c L, v = .slice A n c ∧ n ≤ c ∧ c ≤ 9223372036854775807 ∧ (A = none → c = 0) ∧ SpS w A n L ∧ ∀ q ∈ L, inR q.1 ∧ inR q.2 := by
  obtain ⟨A, n, c, rfl⟩ := okWide_slice Tryz.underlying22 hv
  obtain ⟨fuel, hf⟩ := h
  have hf' : DataW.trod enc Tryz.prog w base spare held fuel 22 [.slice A n c] = some (d, p) := by simpa [Value.cells] using hf
  obtain ⟨h1, h2, h3, l, h4, h5⟩ := spots_trod hf'
  exact ⟨A, n, c, l, rfl, h1, h2, h3, h4, h5⟩

set_option maxRecDepth 100000 in
theorem open_spot (hv : Value.okWide Tryz.prog w r b0 30 v) (h : DataW.Trod enc Tryz.prog w base spare held 30 v d p) : ∃ q : Int × Int, v = .agg #[.int .i64 q.1, .int .i64 q.2] ∧ inR q.1 ∧ inR q.2 := by
  obtain ⟨cs, rfl, hsz⟩ := okWide_struct Tryz.underlying30 hv
  obtain ⟨fuel, hf⟩ := h
  obtain ⟨a, b, hcs, wa, wb⟩ := spot_trod hf
  refine ⟨(a, b), ?_, wa, wb⟩
  rw [show cs = cs.toList.toArray by simp]
  have : cs.toList = [.int .i64 a, .int .i64 b] := by simpa [Value.cells] using hcs
  rw [this]
end

end Go.Proofs.YtjnllehnplenaaaGreat

namespace Go.Proofs.YtjnllehnplenaaaGreat
set_option linter.unusedVariables false
set_option linter.unusedSimpArgs false
open Go.RowKit

def lightW (na nb : Nat) : Bool := decide (na ≤ 12) && decide (nb ≤ 12)
set_option maxHeartbeats 400000 in
theorem light_any (A B : Option Addr) (ca cb na nb : Nat) (w : World) :
    Calls Tryz.prog 6 #[.slice A na ca, .slice B nb cb] w fun e w' => e = .returned (.bool (lightW na nb)) ∧ w' = w := by
  by_cases h1 : na ≤ 12
  · have q : (na : Int) ≤ 12 := by omega
    go_enter Tryz.func6, Tryz.ntmps6
    go_wp2_with fail
    go_ret
    exact ⟨ret_bool (by unfold lightW; simp [h1]; omega), rfl⟩
  · have q : ¬ (na : Int) ≤ 12 := by omega
    go_enter Tryz.func6, Tryz.ntmps6
    go_wp2_with fail
    go_ret
    exact ⟨ret_bool (by unfold lightW; simp [h1]), rfl⟩


theorem half3 {w : World} {g : Nat} {t : TypeId} {a b c : Int × Int} (h : BlkS w g t #[.int .i64 a.1, .int .i64 a.2, .int .i64 b.1, .int .i64 b.2, .int .i64 c.1, .int .i64 c.2]) : SpS w (some ⟨g, 0, none⟩) 3 [a, b, c] := by
  refine ⟨rfl, .inr ⟨g, 0, rfl, fun k hk => ?_⟩⟩
  have : k = 0 ∨ k = 1 ∨ k = 2 := by omega
  rcases this with rfl | rfl | rfl <;> exact ⟨(h.cell _).trans rfl, (h.cell _).trans rfl⟩
def halfL : List (Int × Int) := [(0, 0), (2, 0), (0, 2)]
set_option maxHeartbeats 400000 in
theorem half_any (w : World) : Calls Tryz.prog 15 #[] w fun e w' => ∃ g, e = .returned (.slice (some ⟨g, 0, none⟩) 3 3) ∧ SpS w' (some ⟨g, 0, none⟩) 3 halfL ∧ Below w.heap.size w w' := by
  go_enter Tryz.func15, Tryz.ntmps15
  go_wp2_with fail
  go_ret
  exact ⟨_, rfl, half3 (a := (0, 0)) (b := (2, 0)) (c := (0, 2)) (BlkS.new _ _ _), (Bl.alloc (Below.refl _ _) _)⟩

theorem same_any (A B : Option Addr) (ca cb na nb : Nat) (a b : List (Int × Int)) (w : World) (hna : na ≤ 1000000) (hnb : nb ≤ 1000000) (hsA : SpS w A na a) (hsB : SpS w B nb b) :
    Calls Tryz.prog 10 #[.slice A na ca, .slice B nb cb] w fun e w' => e = .returned (.bool (eqL a b)) ∧ Below w.heap.size w w' := by
  have HNA := Lib.hid hsA.1
  have HNB := Lib.hid hsB.1
  by_cases hne : na = nb
  · subst hne
    have q : ((na : Int) != (na : Int)) = false := by simp
    have heq := eqInSpot
    go_enter Tryz.func10, Tryz.ntmps10
    go_wp2_with fail
    go_loopw [5] (fun i wr => ∃ k : Nat, k ≤ na ∧ i = .int .i64 k ∧ Hid (AllB (eqAt a b) k = true) ∧ Below w.heap.size w wr) (fun i _ => na - (intOf i).toNat)
    case atStart => exact ⟨0, Nat.zero_le _, rfl, Lib.hid (AllB.zero _), Below.refl _ _⟩
    case round =>
      obtain ⟨k, hk, rfl, hp, hb⟩ := hrel
      by_cases hlt : k < na
      · obtain ⟨ba, oa, rfl, hbl, hc⟩ := (hsA.keep hb).at_ hlt
        obtain ⟨h1, h2⟩ := hc k hlt
        clear hc
        obtain ⟨bb, ob, rfl, hbl2, hc⟩ := (hsB.keep hb).at_ hlt
        obtain ⟨h3, h4⟩ := hc k hlt
        clear hc
        have hk' : (k : Int) < (na : Int) := by omega
        have hn0 : ¬ na = 0 := by omega
        by_cases hq : eqS ((gt a k).1, (gt a k).2) ((gt b k).1, (gt b k).2) = true
        · have HQ := Lib.hid hq
          go_wp2_with fail
          go_quiet (fail)
          clear h1 h2 h3 h4
          have hb2 := Bl.drewN hb nq
          go_wp2_with fail
          exact ⟨⟨k + 1, by omega, by go_num, Lib.hid (AllB.succ hp.out HQ.out), hb2⟩, by simp [intOf]; omega⟩
        · have hq' : eqS ((gt a k).1, (gt a k).2) ((gt b k).1, (gt b k).2) = false := by simpa using hq
          clear hq
          have HQ := Lib.hid hq'
          go_wp2_with fail
          go_quiet (fail)
          clear h1 h2 h3 h4
          have hb2 := Bl.drewN hb nq
          go_wp2_with fail
          go_ret
          exact ⟨ret_bool (eqL_no (k := k) HQ.out).symm, hb2⟩
      · obtain rfl : na = k := by omega
        go_wp2_with fail
        go_ret
        exact ⟨ret_bool (eqL_yes (by rw [HNA.out, HNB.out]) (by rw [HNA.out]; exact hp.out)).symm, hb⟩
  · have q : ((na : Int) != (nb : Int)) = true := by rw [bne_iff_ne]; omega
    have HE := Lib.hid (eqL_ne (a := a) (b := b) (by rw [HNA.out, HNB.out]; exact hne))
    go_enter Tryz.func10, Tryz.ntmps10
    go_wp2_with fail
    go_ret
    exact ⟨ret_bool HE.out.symm, Below.refl _ _⟩

/-- What Blocks gives: the answer and the error's number. -/
def blocksW (a b : List (Int × Int)) (d : Int × Int) : Bool × Int := if (regionsW a b).1 ≠ 0 then (false, (regionsW a b).1) else (blockedW (regionsW a b).2 d, 0)
set_option maxHeartbeats 1000000 in
theorem blocks_any (A B : Option Addr) (ca cb na nb : Nat) (a b : List (Int × Int)) (x y : Int) (w : World) (hna : na ≤ 9223372036854775807) (hnb : nb ≤ 9223372036854775807) (hca : na ≤ ca) (hcb : nb ≤ cb) (hsA : SpS w A na a) (hsB : SpS w B nb b) :
    Calls Tryz.prog 11 #[.slice A na ca, .slice B nb cb, .agg #[.int .i64 x, .int .i64 y]] w fun e w' => e = .returned (.tuple #[.bool (blocksW a b (x, y)).1, .int .i64 (blocksW a b (x, y)).2]) ∧ Below w.heap.size w w' := by
  have HS := Lib.hid (regionsW_in a b)
  obtain ⟨r, hr⟩ : ∃ r, regionsW a b = r := ⟨_, rfl⟩
  rw [hr] at HS
  by_cases h0 : r.1 = 0
  · have q : (r.1 != 0) = false := by rw [h0]; rfl
    have HB := Lib.hid (show blocksW a b (x, y) = (blockedW r.2 (x, y), 0) by unfold blocksW; rw [hr, if_neg (by rw [h0]; simp)])
    have HR := Lib.hid hr
    clear hr h0
    go_enter Tryz.func11, Tryz.ntmps11
    go_wp2_with (first
      | (go_at_call 30; refine (blocked_any _ _ _ r.2 _ _ _ (by have := HS.out.1; omega) (fun t ht => by have := (HS.out.2 t ht).1; omega) hS1).mono ?_; rintro e w2 ⟨rfl, hb2⟩)
      | (go_at_call 8; refine (regions_any _ _ _ _ _ _ a b _ hna hnb hca hcb (hsA.keep (Bl.alloc (Below.refl _ _) _)) (hsB.keep (Bl.alloc (Below.refl _ _) _))).mono ?_; rintro e w1 ⟨v1, rfl, ho1, hb1⟩; rw [HR.out] at ho1 ⊢; obtain ⟨A1, c1, rfl, hc1, hS1, hz1⟩ := ho1.spss; have hX := Bl.call (Bl.alloc (Below.refl _ _) _) hb1; have g1 := cell_keep hb1 (show (w.alloc (.cells #[.int .i64 x, .int .i64 y] 30)).cell? ⟨w.heap.size, 0, none⟩ = some (.int .i64 x) by go_simp); have g2 := cell_keep hb1 (show (w.alloc (.cells #[.int .i64 x, .int .i64 y] 30)).cell? ⟨w.heap.size, 1, none⟩ = some (.int .i64 y) by go_simp)))
    go_ret2
    exact ⟨by rw [HB.out]; rfl, Bl.call hX hb2⟩
  · have q : (r.1 != 0) = true := by rw [bne_iff_ne]; exact h0
    have HB := Lib.hid (show blocksW a b (x, y) = (false, r.1) by unfold blocksW; rw [hr, if_pos h0])
    have HR := Lib.hid hr
    clear hr h0
    go_enter Tryz.func11, Tryz.ntmps11
    go_wp2_with (go_at_call 8; refine (regions_any _ _ _ _ _ _ a b _ hna hnb hca hcb (hsA.keep (Bl.alloc (Below.refl _ _) _)) (hsB.keep (Bl.alloc (Below.refl _ _) _))).mono ?_; rintro e w1 ⟨v1, rfl, ho1, hb1⟩; rw [HR.out] at ho1 ⊢; have hX := Bl.call (Bl.alloc (Below.refl _ _) _) hb1)
    go_ret2
    exact ⟨by rw [HB.out]; rfl, hX⟩


end Go.Proofs.YtjnllehnplenaaaGreat

namespace Go.Proofs.YtjnllehnplenaaaGreat
set_option linter.unusedVariables false
set_option linter.unusedSimpArgs false
open Go.RowKit

section
variable {α : Type}
def insF (lt : α → α → Bool) (x : α) : List α → List α
  | [] => [x]
  | y :: ys => if lt y x then y :: insF lt x ys else x :: y :: ys
def isortF (lt : α → α → Bool) : List α → List α
  | [] => []
  | x :: xs => insF lt x (isortF lt xs)
theorem insF_perm (lt : α → α → Bool) (x : α) (l : List α) : (insF lt x l).Perm (x :: l) := by
  induction l with
  | nil => exact List.Perm.refl _
  | cons y ys ih =>
    unfold insF
    split
    · exact (List.Perm.cons y ih).trans (List.Perm.swap x y ys)
    · exact List.Perm.refl _
theorem isortF_perm (lt : α → α → Bool) (l : List α) : (isortF lt l).Perm l := by
  induction l with
  | nil => exact List.Perm.refl _
  | cons x xs ih => exact (insF_perm lt x _).trans (List.Perm.cons x ih)
variable {lt : α → α → Bool} (hi : ∀ x, lt x x = false) (ht : ∀ x y z, lt x y = true → lt y z = true → lt x z = true) (hu : ∀ x y, lt x y = false → lt y x = false → x = y)
include hi ht hu
omit hi in
theorem leF_trans (x y z : α) (h1 : (!lt y x) = true) (h2 : (!lt z y) = true) : (!lt z x) = true := by
  simp only [Bool.not_eq_true'] at *
  by_cases h : lt z x = true
  · by_cases h3 : lt x y = true
    · rw [ht z x y h h3] at h2; cases h2
    · have := hu x y (by simpa using h3) h1
      subst this
      rw [h] at h2; cases h2
  · simpa using h
omit hu in
theorem leF_total (x y : α) : (!lt y x || !lt x y) = true := by
  by_cases h : lt y x = true
  · by_cases h2 : lt x y = true
    · have := ht x y x h2 h; rw [hi] at this; cases this
    · simp [h2]
  · simp [h]
theorem isortF_sorted (l : List α) : (isortF lt l).Pairwise fun x y => (!lt y x) = true := by
  induction l with
  | nil => exact List.Pairwise.nil
  | cons x xs ih =>
    unfold isortF
    generalize isortF lt xs = ys at ih
    induction ys with
    | nil => exact List.pairwise_singleton _ _
    | cons y ys ih2 =>
      unfold insF
      rw [List.pairwise_cons] at ih
      split
      · rename_i hyx
        rw [List.pairwise_cons]
        refine ⟨fun z hz => ?_, ih2 ih.2⟩
        rcases List.mem_cons.1 ((insF_perm lt x ys).mem_iff.1 hz) with rfl | hz
        · by_cases h : lt z y = true
          · have := ht z y z h hyx; rw [hi] at this; cases this
          · simpa using h
        · exact ih.1 z hz
      · rename_i hyx
        rw [List.pairwise_cons]
        refine ⟨fun z hz => ?_, List.pairwise_cons.2 ih⟩
        have hxy : (!lt y x) = true := by simpa using hyx
        rcases List.mem_cons.1 hz with rfl | hz
        · exact hxy
        · exact leF_trans ht hu x y z hxy (ih.1 z hz)
theorem msort_isort (l : List α) : l.mergeSort (fun x y => !lt y x) = isortF lt l :=
  List.Perm.eq_of_pairwise (le := fun x y => (!lt y x) = true) (fun x y _ _ h1 h2 => hu x y (by simpa using h2) (by simpa using h1))
    (List.pairwise_mergeSort (le := fun x y => !lt y x) (fun x y z => leF_trans ht hu x y z) (fun x y => leF_total hi ht x y) l)
    (isortF_sorted hi ht hu l) ((List.mergeSort_perm _ _).trans (isortF_perm lt l).symm)
end

def sortF (l : List (Int × Int)) : List (Int × Int) := isortF lessS l
theorem sortW_eq (l : List (Int × Int)) : sortW l = sortF l := by
  have e : ltOf cmpS = lessS := by funext p q; exact ltS p q
  unfold sortW sortF
  have h := msort_isort (lt := ltOf cmpS) swoS.irrefl swoS.trans totS l
  rw [h, e]
def sortLF (l : List (List (Int × Int))) : List (List (Int × Int)) := isortF (fun x y => decide (cmpL x y < 0)) l
theorem sortLW_eq (l : List (List (Int × Int))) : sortLW l = sortLF l :=
  msort_isort (lt := ltOf cmpL) (swoOf id).irrefl (swoOf id).trans totL l

def popF (p : Int × Int) : Nat → List (Int × Int) → List (Int × Int)
  | 0, r => r
  | f + 1, r => if 1 < r.length ∧ crossW (gt r (r.length - 2)) (gt r (r.length - 1)) p ≤ 0 then popF p f (r.take (r.length - 1)) else r
theorem popW_eq (p : Int × Int) : ∀ (f : Nat) (r : List (Int × Int)), r.length ≤ f → popW p r = popF p f r := by
  intro f
  induction f with
  | zero => intro r hr; rw [popW, if_neg (by omega)]; rfl
  | succ f ih =>
    intro r hr
    rw [popW, popF]
    split
    · exact ih _ (by rw [List.length_take]; omega)
    · rfl
def borToF (l : List (Int × Int)) : Nat → List (Int × Int)
  | 0 => []
  | k + 1 => popF (gt l k) k (borToF l k) ++ [gt l k]
theorem borTo_eq (l : List (Int × Int)) : ∀ k, borTo l k = borToF l k := by
  intro k
  induction k with
  | zero => rfl
  | succ k ih => rw [borTo, borToF, popW_eq (gt l k) k _ (borTo_len l k), ih]
def borF (l : List (Int × Int)) : List (Int × Int) := (borToF l l.length).dropLast
theorem borW_eq (l : List (Int × Int)) : borW l = borF l := by
  unfold borW borF; rw [borTo_eq, List.dropLast_eq_take]
def hullF2 (s : List (Int × Int)) : Option (List (Int × Int)) :=
  if s.length < 3 then none else if (borF s ++ borF s.reverse).length < 3 then none else some (borF s ++ borF s.reverse)
def hullF (l : List (Int × Int)) : Option (List (Int × Int)) := hullF2 (compW eqS (0, 0) (sortF l))
theorem hullW_eq (l : List (Int × Int)) : hullW l = hullF l := by
  unfold hullW hullF hullF2
  rw [sortW_eq, borW_eq, borW_eq]
def HullF (l : List (Int × Int)) : Int × List (Int × Int) :=
  if l.length > 160 then (5, []) else if AnyB (fun i => outB 4194304 (gt l i)) l.length then (3, []) else match hullF l with | none => (11, []) | some r => (0, r)
theorem HullW_eq (l : List (Int × Int)) : HullW l = HullF l := by
  unfold HullW HullF; rw [hullW_eq]; rfl
def SumF3 (r : List (Int × Int)) : Int × List (Int × Int) :=
  if AnyB (fun i => outB 4194304 (gt r i)) r.length then (3, []) else if r.length > 160 then (5, []) else (0, r)
def SumF (a b : List (Int × Int)) : Int × List (Int × Int) :=
  match HullF a with
  | (x, p) => if x ≠ 0 then (x, []) else match HullF b with
    | (y, q) => if y ≠ 0 then (y, []) else SumF3 ((hullF (sumTo p q p.length)).getD [])
theorem SumW_eq (a b : List (Int × Int)) : SumW a b = SumF a b := by
  unfold SumW SumF SumF3
  rw [HullW_eq, HullW_eq, hullW_eq]
def regInF (s : List (Int × Int)) (ts acc : List (List (Int × Int))) : Nat → Int × List (List (Int × Int))
  | 0 => (0, acc)
  | j + 1 => match regInF s ts acc j with
    | (x, r) => if x ≠ 0 then (x, r) else match SumF s (negW (lt_ ts j)) with
      | (y, t) => if y ≠ 0 then (y, []) else (0, r ++ [t])
theorem regIn_eq (s : List (Int × Int)) (ts acc : List (List (Int × Int))) : ∀ j, regIn s ts acc j = regInF s ts acc j := by
  intro j
  induction j with
  | zero => rfl
  | succ j ih => rw [regIn, regInF, ih, SumW_eq]
def regToF (ss ts : List (List (Int × Int))) : Nat → Int × List (List (Int × Int))
  | 0 => (0, [])
  | k + 1 => match regToF ss ts k with
    | (x, r) => if x ≠ 0 then (x, r) else regInF (lt_ ss k) ts r ts.length
theorem regTo_eq (ss ts : List (List (Int × Int))) : ∀ k, regTo ss ts k = regToF ss ts k := by
  intro k
  induction k with
  | zero => rfl
  | succ k ih => rw [regTo, regToF, ih, regIn_eq]
def regionsF3 (r : Int × List (List (Int × Int))) : Int × List (List (Int × Int)) :=
  match r with
  | (x, l) => if x ≠ 0 then (x, []) else (0, compW eqL [] (sortLF l))
def regionsF (a b : List (Int × Int)) : Int × List (List (Int × Int)) :=
  match splitAllW a with
  | (x, ss) => if x ≠ 0 then (x, []) else match splitAllW b with
    | (y, ts) => if y ≠ 0 then (y, []) else regionsF3 (regToF ss ts ss.length)
theorem regionsW_eq (a b : List (Int × Int)) : regionsW a b = regionsF a b := by
  unfold regionsW regionsF regionsF3
  rw [regTo_eq, sortLW_eq]
def spotsF3 (r : Int × List (List (Int × Int))) : Int × List (Int × Int) :=
  match r with
  | (x, l) => if x ≠ 0 then (x, []) else (0, sortF ((uniq l.flatten).filter fun p => !blockedW l p))
def spotsF (a b : List (Int × Int)) : Int × List (Int × Int) := spotsF3 (regionsF a b)
theorem spotsW_eq (a b : List (Int × Int)) : spotsW a b = spotsF a b := by
  unfold spotsW spotsF spotsF3 spotsOf
  rw [regionsW_eq, sortW_eq]

end Go.Proofs.YtjnllehnplenaaaGreat

namespace Go.Proofs.YtjnllehnplenaaaGreat
set_option linter.unusedVariables false
set_option linter.unusedSimpArgs false
open Go.RowKit

def hexR : List (Int × Int) := [(-2, 0), (0, -2), (2, -2), (2, 0), (0, 2), (-2, 2)]
def hexS : List (Int × Int) := [(-2, 0), (-2, 2), (0, -2), (0, 2), (2, -2), (2, 0)]
set_option maxRecDepth 100000 in
theorem halfReg : regionsW halfL halfL = (0, [hexR]) := by rw [regionsW_eq]; decide +kernel
set_option maxRecDepth 100000 in
theorem halfBl1 : blocksW halfL halfL (1, 0) = (true, 0) := by unfold blocksW; rw [halfReg]; decide +kernel
set_option maxRecDepth 100000 in
theorem halfBl2 : blocksW halfL halfL (2, 0) = (false, 0) := by unfold blocksW; rw [halfReg]; decide +kernel
set_option maxRecDepth 100000 in
theorem halfSp : spotsW halfL halfL = (0, hexS) := by rw [spotsW_eq]; decide +kernel
set_option maxRecDepth 100000 in
theorem halfBad : spotsW halfL [(0, 0), (2, 0)] = (11, []) := by rw [spotsW_eq]; decide +kernel

theorem six {w : World} {g : Nat} {t : TypeId} {a b c d e f : Int × Int} (h : BlkS w g t #[.int .i64 a.1, .int .i64 a.2, .int .i64 b.1, .int .i64 b.2, .int .i64 c.1, .int .i64 c.2, .int .i64 d.1, .int .i64 d.2, .int .i64 e.1, .int .i64 e.2, .int .i64 f.1, .int .i64 f.2]) : SpS w (some ⟨g, 0, none⟩) 6 [a, b, c, d, e, f] := by
  refine ⟨rfl, .inr ⟨g, 0, rfl, fun k hk => ?_⟩⟩
  have : k = 0 ∨ k = 1 ∨ k = 2 ∨ k = 3 ∨ k = 4 ∨ k = 5 := by omega
  rcases this with rfl | rfl | rfl | rfl | rfl | rfl <;> exact ⟨(h.cell _).trans rfl, (h.cell _).trans rfl⟩

set_option maxHeartbeats 4000000 in
set_option maxRecDepth 100000 in
theorem nalive_any (w : World) : Calls Tryz.prog 7 #[] w fun e w' => e = .returned (.bool true) ∧ Below w.heap.size w w' := by
  go_enter Tryz.func7, Tryz.ntmps7
  go_upto_region 2 with (first
    | (go_at_call 8; refine (regions_any _ _ _ _ _ _ halfL halfL _ (by omega) (by omega) (by omega) (by omega) (hS1.keep hb2) hS2).mono ?_; rintro e w3 ⟨v3, rfl, ho3, hb3⟩; rw [halfReg] at ho3 ⊢; have hX := Bl.call (Bl.call hb1 hb2) hb3; clear hb1 hb2 hb3 hS1 hS2)
    | (go_at_call 15; refine (half_any _).mono ?_; rintro e w2 ⟨g2, rfl, hS2, hb2⟩; have hb1' := hb1)
    | (go_at_call 15; refine (half_any _).mono ?_; rintro e w1 ⟨g1, rfl, hS1, hb1⟩))
  obtain ⟨A3, c3, rfl, hc3, hT, -⟩ := ho3.spss
  have l1 : ([hexR] : List (List (Int × Int))).length = 1 := rfl
  rw [l1] at hT ⊢
  clear l1 hc3 ho3 hb1'
  go_upto_region 3 with (first
    | (go_at_call 11; refine (blocks_any _ _ _ _ _ _ halfL halfL 1 0 _ (by omega) (by omega) (by omega) (by omega) (hS1.keep hb2) hS2).mono ?_; rintro e w4 ⟨rfl, hb3⟩; rw [halfBl1]; have hB := Bl.call (Bl.call hb1 hb2) hb3; have hX4 := Bl.call hX hB; have hT4 := hT.keep hB; clear hB hb1 hb2 hb3 hS1 hS2 hX hT)
    | (go_at_call 15; refine (half_any _).mono ?_; rintro e w2 ⟨g2, rfl, hS2, hb2⟩; have hb1' := hb1)
    | (go_at_call 15; refine (half_any _).mono ?_; rintro e w1 ⟨g1, rfl, hS1, hb1⟩))
  clear hb1'
  go_upto_region 4 with (first
    | (go_at_call 11; refine (blocks_any _ _ _ _ _ _ halfL halfL 2 0 _ (by omega) (by omega) (by omega) (by omega) (hS1.keep hb2) hS2).mono ?_; rintro e w5 ⟨rfl, hb3⟩; rw [halfBl2]; have hB := Bl.call (Bl.call hb1 hb2) hb3; have hX5 := Bl.call hX4 hB; have hT5 := hT4.keep hB; clear hB hb1 hb2 hb3 hS1 hS2 hX4 hT4)
    | (go_at_call 15; refine (half_any _).mono ?_; rintro e w2 ⟨g2, rfl, hS2, hb2⟩; have hb1' := hb1)
    | (go_at_call 15; refine (half_any _).mono ?_; rintro e w1 ⟨g1, rfl, hS1, hb1⟩))
  clear hb1'
  go_upto_region 5 with (first
    | (go_at_call 13; refine (spots_any _ _ _ _ _ _ halfL halfL _ (by omega) (by omega) (by omega) (by omega) (hS1.keep hb2) hS2).mono ?_; rintro e w6 ⟨v6, rfl, ho6, hb3⟩; rw [halfSp] at ho6 ⊢; have hB := Bl.call (Bl.call hb1 hb2) hb3; have hX6 := Bl.call hX5 hB; have hT6 := hT5.keep hB; clear hB hb1 hb2 hb3 hS1 hS2 hX5 hT5)
    | (go_at_call 15; refine (half_any _).mono ?_; rintro e w2 ⟨g2, rfl, hS2, hb2⟩; have hb1' := hb1)
    | (go_at_call 15; refine (half_any _).mono ?_; rintro e w1 ⟨g1, rfl, hS1, hb1⟩))
  obtain ⟨A6, c6, rfl, hc6, hU, -⟩ := ho6.sps
  have l6 : (hexS : List (Int × Int)).length = 6 := rfl
  rw [l6] at hU ⊢
  clear l6 hc6 ho6 hb1'
  go_upto_region 6 with (first
    | (go_at_call 13; refine (spots_any _ _ _ _ _ _ halfL [(0, 0), (2, 0)] _ (by omega) (by omega) (by omega) (by omega) (hS1.keep hb2) (hS2.take (i := 2) (by omega))).mono ?_; rintro e w7 ⟨v7, rfl, -, hb3⟩; rw [halfBad]; have hB := Bl.call (Bl.call hb1 hb2) hb3; have hX7 := Bl.call hX6 hB; have hT7 := hT6.keep hB; have hU7 := hU.keep hB; clear hB hb1 hb2 hb3 hS1 hS2 hX6 hT6 hU)
    | (go_at_call 15; refine (half_any _).mono ?_; rintro e w2 ⟨g2, rfl, hS2, hb2⟩; have hb1' := hb1)
    | (go_at_call 15; refine (half_any _).mono ?_; rintro e w1 ⟨g1, rfl, hS1, hb1⟩))
  clear hb1'
  obtain ⟨b1, o1, Ak, ck, rfl, e0, e1, e2, e3, e4⟩ := hT7.at_ (show 0 < 1 by omega)
  have e1' : w7.cell? ⟨b1, o1, none⟩ = some (.slice Ak 6 ck) := e1
  have e3' : SpS w7 Ak 6 hexR := e3
  clear e1 e2 e3 e4 hT7
  have s1 := Lib.hid (show eqL hexR hexR = true by decide)
  have s2 := Lib.hid (show eqL hexS hexS = true by decide)
  go_wp2_with (first
    | (go_at_call 10; refine (same_any A6 (some ⟨w8.heap.size, 0, none⟩) c6 6 6 6 hexS hexS (w8.alloc (.cells #[.int .i64 (-2), .int .i64 0, .int .i64 (-2), .int .i64 2, .int .i64 0, .int .i64 (-2), .int .i64 0, .int .i64 2, .int .i64 2, .int .i64 (-2), .int .i64 2, .int .i64 0] 30)) (by omega) (by omega) hU8 (six (a := (-2, 0)) (b := (-2, 2)) (c := (0, -2)) (d := (0, 2)) (e := (2, -2)) (f := (2, 0)) (BlkS.new _ _ _))).mono ?_; rintro e w9 ⟨rfl, hb9⟩; rw [s2.out])
    | (go_at_call 10; refine (same_any Ak (some ⟨w7.heap.size, 0, none⟩) ck 6 6 6 hexR hexR (w7.alloc (.cells #[.int .i64 (-2), .int .i64 0, .int .i64 0, .int .i64 (-2), .int .i64 2, .int .i64 (-2), .int .i64 2, .int .i64 0, .int .i64 0, .int .i64 2, .int .i64 (-2), .int .i64 2] 30)) (by omega) (by omega) (e3'.keep (Bl.alloc (Below.refl _ _) _)) (six (a := (-2, 0)) (b := (0, -2)) (c := (2, -2)) (d := (2, 0)) (e := (0, 2)) (f := (-2, 2)) (BlkS.new _ _ _))).mono ?_; rintro e w8 ⟨rfl, hb8⟩; rw [s1.out]; have hU8 := (hU7.keep (Bl.alloc (Below.refl _ _) (.cells #[.int .i64 (-2), .int .i64 0, .int .i64 0, .int .i64 (-2), .int .i64 2, .int .i64 (-2), .int .i64 2, .int .i64 0, .int .i64 0, .int .i64 2, .int .i64 (-2), .int .i64 2] 30))).keep hb8; replace hU8 := hU8.keep (Bl.alloc (Below.refl _ _) (.cells #[.int .i64 (-2), .int .i64 0, .int .i64 (-2), .int .i64 2, .int .i64 0, .int .i64 (-2), .int .i64 0, .int .i64 2, .int .i64 2, .int .i64 (-2), .int .i64 2, .int .i64 0] 30))))
  go_ret
  exact ⟨rfl, Bl.call (Bl.alloc (Bl.call (Bl.alloc hX7 _) hb8) _) hb9⟩

end Go.Proofs.YtjnllehnplenaaaGreat

/- Turning and moving keep a polygon simple. Plain facts for FillFirst: boxes under turns and moves; the first put on an empty bed. Plain facts for FillFirst: the first put on an empty bed. Plain facts for FillFirst: the first put on an empty bed lies in the corner, in the shortest turn. A shape, as a statement's argument. -/
import Derived.Test.YtccpgmneflfhjaaGreatG29
import Derived.Test.YtccpgmneflfhjaaGreatG33
import Derived.Test.YtccpgmneflfhjaaGreatG32
namespace Go.Proofs.YtccpgmneflfhjaaGreat
set_option linter.unusedVariables false
set_option linter.unusedSimpArgs false
open Go.RowKit

theorem mul_bd {x y : Int} (h1 : -2097152 ≤ x) (h2 : x ≤ 2097152) (h3 : -2097152 ≤ y) (h4 : y ≤ 2097152) : -4398046511104 ≤ x * y ∧ x * y ≤ 4398046511104 := by
  have h := Nat.mul_le_mul (show x.natAbs ≤ 2097152 by omega) (show y.natAbs ≤ 2097152 by omega)
  rw [← Int.natAbs_mul] at h
  generalize x * y = z at h ⊢
  omega
theorem wrap_mid {z : Int} (h1 : -100000000000000 ≤ z) (h2 : z ≤ 100000000000000) : wrap64 z = z := by unfold wrap64; omega

def crP (a b c : Int × Int) : Int := (b.1 - a.1) * (c.2 - a.2) - (b.2 - a.2) * (c.1 - a.1)
theorem cross_near {a b c : Int × Int} (ha : nearB 1048576 a) (hb : nearB 1048576 b) (hc : nearB 1048576 c) : crossW a b c = crP a b c := by
  unfold nearB at ha hb hc
  unfold crossW crP
  rw [wrap_near (z := b.1 - a.1) (by omega) (by omega), wrap_near (z := c.2 - a.2) (by omega) (by omega), wrap_near (z := b.2 - a.2) (by omega) (by omega), wrap_near (z := c.1 - a.1) (by omega) (by omega)]
  have m1 := mul_bd (x := b.1 - a.1) (y := c.2 - a.2) (by omega) (by omega) (by omega) (by omega)
  have m2 := mul_bd (x := b.2 - a.2) (y := c.1 - a.1) (by omega) (by omega) (by omega) (by omega)
  generalize (b.1 - a.1) * (c.2 - a.2) = u at m1 ⊢
  generalize (b.2 - a.2) * (c.1 - a.1) = v at m2 ⊢
  rw [wrap_mid (z := u) (by omega) (by omega), wrap_mid (z := v) (by omega) (by omega), wrap_mid (by omega) (by omega)]
def dtP (a b c : Int × Int) : Int := (a.1 - b.1) * (c.1 - b.1) + (a.2 - b.2) * (c.2 - b.2)
theorem folded_near {a b c : Int × Int} (ha : nearB 1048576 a) (hb : nearB 1048576 b) (hc : nearB 1048576 c) : foldedW a b c = ((crP a b c == 0) && decide (dtP a b c > 0)) := by
  unfold foldedW
  rw [cross_near ha hb hc]
  unfold nearB at ha hb hc
  unfold dtP
  rw [wrap_near (z := a.1 - b.1) (by omega) (by omega), wrap_near (z := c.1 - b.1) (by omega) (by omega), wrap_near (z := a.2 - b.2) (by omega) (by omega), wrap_near (z := c.2 - b.2) (by omega) (by omega)]
  have m1 := mul_bd (x := a.1 - b.1) (y := c.1 - b.1) (by omega) (by omega) (by omega) (by omega)
  have m2 := mul_bd (x := a.2 - b.2) (y := c.2 - b.2) (by omega) (by omega) (by omega) (by omega)
  generalize (a.1 - b.1) * (c.1 - b.1) = u at m1 ⊢
  generalize (a.2 - b.2) * (c.2 - b.2) = v at m2 ⊢
  rw [wrap_mid (z := u) (by omega) (by omega), wrap_mid (z := v) (by omega) (by omega), wrap_mid (by omega) (by omega)]

/-- A map that keeps what a polygon's check looks at, on a set D of points. -/
structure Iso (D : Int × Int → Prop) (T : Int × Int → Int × Int) : Prop where
  cr : ∀ a b c, D a → D b → D c → crossW (T a) (T b) (T c) = crossW a b c
  on : ∀ a b c, D a → D b → D c → onW (T a) (T b) (T c) = onW a b c
  fo : ∀ a b c, D a → D b → D c → foldedW (T a) (T b) (T c) = foldedW a b c
  eq : ∀ a b, D a → D b → eqS (T a) (T b) = eqS a b

theorem Iso.simple {D : Int × Int → Prop} {T : Int × Int → Int × Int} (h : Iso D T) {l : List (Int × Int)} (hl : ∀ q ∈ l, D q) (h0 : 0 < l.length) : simpleW (l.map T) l.length = simpleW l l.length := by
  have hg : ∀ i, i < l.length → gt (l.map T) i = T (gt l i) := fun i hi => gt_map hi
  have hD : ∀ i, i < l.length → D (gt l i) := fun i hi => hl _ (gt_in hi)
  have hm : ∀ i, i % l.length < l.length := fun i => Nat.mod_lt _ h0
  have h1 : AllB (fun i => !dupW (l.map T) i) l.length = AllB (fun i => !dupW l i) l.length := by
    apply AllB.congr
    intro i hi
    unfold dupW
    rw [AnyB.congr (g := fun j => eqS (gt l i) (gt l j))]
    intro j hj
    rw [hg i hi, hg j (by omega)]
    exact h.eq _ _ (hD i hi) (hD j (by omega))
  have h2 : AllB (sidW (l.map T) l.length) l.length = AllB (sidW l l.length) l.length := by
    apply AllB.congr
    intro i hi
    unfold sidW
    rw [hg i hi, hg _ (hm (i + 1)), hg _ (hm (i + 2)), h.fo _ _ _ (hD i hi) (hD _ (hm (i + 1))) (hD _ (hm (i + 2)))]
    congr 1
    apply AllB.congr
    intro k hk
    unfold innW
    rw [hg i hi, hg _ (hm (i + 1)), hg k hk, hg _ (hm (k + 1))]
    have d1 := hD i hi
    have d2 := hD _ (hm (i + 1))
    have d3 := hD k hk
    have d4 := hD _ (hm (k + 1))
    unfold meetW partedW
    rw [h.on _ _ _ d1 d2 d3, h.on _ _ _ d1 d2 d4, h.on _ _ _ d3 d4 d1, h.on _ _ _ d3 d4 d2, h.cr _ _ _ d1 d2 d3, h.cr _ _ _ d1 d2 d4, h.cr _ _ _ d3 d4 d1, h.cr _ _ _ d3 d4 d2]
  unfold simpleW
  rw [h1, h2]

theorem Iso.check {T : Int × Int → Int × Int} {D : Int × Int → Prop} (h : Iso D T) {l : List (Int × Int)} (hc : checkW l l.length = 0) (hl : ∀ q ∈ l, D q) (hT : ∀ q ∈ l, nearB 1048576 (T q)) : checkW (l.map T) l.length = 0 := by
  have h3 := check_len hc
  have h0 : 0 < l.length := by omega
  have hs := h.simple hl h0
  unfold checkW at hc ⊢
  split at hc
  · cases hc
  · rename_i g1
    rw [if_neg g1]
    split at hc
    · cases hc
    · rename_i g2
      rw [if_neg g2]
      split at hc
      · cases hc
      · rw [if_neg, hs]
        · exact hc
        · intro e
          obtain ⟨i, hi, he⟩ := AnyB.iff.1 e
          rw [gt_map hi] at he
          have := hT _ (gt_in hi)
          unfold nearB at this
          unfold outB at he
          simp at he
          omega

theorem iso_rot1 : Iso (nearB 1048576) rot1 := by
  have hr : ∀ {q : Int × Int}, nearB 1048576 q → rot1 q = (-q.2, q.1) := fun {q} h => by
    unfold nearB at h; unfold rot1; rw [wrap_near (by omega) (by omega)]
  have hn : ∀ {q : Int × Int}, nearB 1048576 q → nearB 1048576 (rot1 q) := fun h => rot1_near (by omega) h
  have hcr : ∀ a b c, nearB 1048576 a → nearB 1048576 b → nearB 1048576 c → crossW (rot1 a) (rot1 b) (rot1 c) = crossW a b c := fun a b c ha hb hc => by
    rw [cross_near (hn ha) (hn hb) (hn hc), cross_near ha hb hc, hr ha, hr hb, hr hc]
    unfold crP
    dsimp only
    grind
  refine ⟨hcr, fun a b c ha hb hc => ?_, fun a b c ha hb hc => ?_, fun a b ha hb => ?_⟩
  · unfold onW
    rw [hcr a b c ha hb hc, hr ha, hr hb, hr hc]
    dsimp only
    generalize (crossW a b c == 0) = z
    cases z
    · rfl
    · simp only [Bool.true_and]
      rw [Bool.eq_iff_iff]
      simp
      omega
  · rw [folded_near (hn ha) (hn hb) (hn hc), folded_near ha hb hc, ← cross_near (hn ha) (hn hb) (hn hc), hcr a b c ha hb hc, cross_near ha hb hc]
    have : dtP (rot1 a) (rot1 b) (rot1 c) = dtP a b c := by
      rw [hr ha, hr hb, hr hc]
      unfold dtP
      dsimp only
      grind
    rw [this]
  · rw [hr ha, hr hb, Bool.eq_iff_iff]
    unfold eqS
    simp
    omega

def addP (x y : Int) (q : Int × Int) : Int × Int := (q.1 + x, q.2 + y)
theorem iso_mov (x y : Int) : Iso (fun q => nearB 1048576 q ∧ nearB 1048576 (addP x y q)) (addP x y) := by
  have hcr : ∀ a b c, (nearB 1048576 a ∧ nearB 1048576 (addP x y a)) → (nearB 1048576 b ∧ nearB 1048576 (addP x y b)) → (nearB 1048576 c ∧ nearB 1048576 (addP x y c)) → crossW (addP x y a) (addP x y b) (addP x y c) = crossW a b c := fun a b c ha hb hc => by
    rw [cross_near ha.2 hb.2 hc.2, cross_near ha.1 hb.1 hc.1]
    unfold crP addP
    dsimp only
    grind
  refine ⟨hcr, fun a b c ha hb hc => ?_, fun a b c ha hb hc => ?_, fun a b ha hb => ?_⟩
  · unfold onW
    rw [hcr a b c ha hb hc]
    unfold addP
    dsimp only
    generalize (crossW a b c == 0) = z
    cases z
    · rfl
    · simp only [Bool.true_and]
      rw [Bool.eq_iff_iff]
      simp
  · rw [folded_near ha.2 hb.2 hc.2, folded_near ha.1 hb.1 hc.1, ← cross_near ha.2 hb.2 hc.2, hcr a b c ha hb hc, cross_near ha.1 hb.1 hc.1]
    have : dtP (addP x y a) (addP x y b) (addP x y c) = dtP a b c := by
      unfold dtP addP
      dsimp only
      grind
    rw [this]
  · rw [Bool.eq_iff_iff]
    unfold eqS addP
    simp

theorem check_rotN {l : List (Int × Int)} (hc : checkW l l.length = 0) : ∀ n, checkW (l.map (rotN n)) l.length = 0 := by
  intro n
  induction n with
  | zero => rw [show l.map (rotN 0) = l by simp [rotN]]; exact hc
  | succ n ih =>
    have e : l.map (rotN (n + 1)) = (l.map (rotN n)).map rot1 := by rw [List.map_map]; rfl
    have hl : (l.map (rotN n)).length = l.length := List.length_map _
    have hn : ∀ q ∈ l.map (rotN n), nearB 1048576 q := check_near (by rw [hl]; exact ih)
    rw [e]
    have := iso_rot1.check (l := l.map (rotN n)) (by rw [hl]; exact ih) hn (fun q hq => rot1_near (by omega) (hn q hq))
    rw [hl] at this
    exact this

/-- A polygon that is turned by quarters and moved within the limits stays a polygon. -/
theorem check_turn {l : List (Int × Int)} (hc : checkW l l.length = 0) (u : Int) : checkW (tpolW false u l) l.length = 0 := by
  have : tpolW false u l = l.map (rotN (u % 4).toNat) := by
    unfold tpolW; simp only [Bool.false_eq_true, if_false]; rfl
  rw [this]; exact check_rotN hc _
theorem check_mov {l : List (Int × Int)} (hc : checkW l l.length = 0) {x y : Int} (h : ∀ q ∈ movP l x y, nearB 1048576 q) : checkW (movP l x y) l.length = 0 := by
  have hn := check_near hc
  have h' : ∀ q ∈ l, nearB 1048576 (addP x y q) := fun q hq => h _ (List.mem_map.2 ⟨q, hq, rfl⟩)
  exact (iso_mov x y).check hc (fun q hq => ⟨hn q hq, h' q hq⟩) h'

end Go.Proofs.YtccpgmneflfhjaaGreat

namespace Go.Proofs.YtccpgmneflfhjaaGreat
set_option linter.unusedVariables false
set_option linter.unusedSimpArgs false
open Go.RowKit

theorem hiY_ge {l : List (Int × Int)} : ∀ {n i : Nat}, i < n → (gt l i).2 ≤ hiY l n := by
  intro n
  induction n with
  | zero => intro i hi; omega
  | succ n ih =>
    intro i hi
    rw [hiY]
    by_cases h : i < n
    · have := ih h; split <;> omega
    · obtain rfl : i = n := by omega
      split <;> omega
theorem hiY_at {l : List (Int × Int)} : ∀ {n : Nat}, 0 < n → ∃ i, i < n ∧ hiY l n = (gt l i).2 := by
  intro n
  induction n with
  | zero => intro h; omega
  | succ n ih =>
    intro _
    rw [hiY]
    split
    · exact ⟨n, by omega, rfl⟩
    · rcases Nat.eq_zero_or_pos n with h0 | h0
      · subst h0; exact ⟨0, by omega, rfl⟩
      · obtain ⟨i, hi, e⟩ := ih h0; exact ⟨i, by omega, e⟩
theorem loY_le {l : List (Int × Int)} : ∀ {n i : Nat}, i < n → loY l n ≤ (gt l i).2 := by
  intro n
  induction n with
  | zero => intro i hi; omega
  | succ n ih =>
    intro i hi
    rw [loY]
    by_cases h : i < n
    · have := ih h; split <;> omega
    · obtain rfl : i = n := by omega
      split <;> omega
theorem loY_at {l : List (Int × Int)} : ∀ {n : Nat}, 0 < n → ∃ i, i < n ∧ loY l n = (gt l i).2 := by
  intro n
  induction n with
  | zero => intro h; omega
  | succ n ih =>
    intro _
    rw [loY]
    split
    · exact ⟨n, by omega, rfl⟩
    · rcases Nat.eq_zero_or_pos n with h0 | h0
      · subst h0; exact ⟨0, by omega, rfl⟩
      · obtain ⟨i, hi, e⟩ := ih h0; exact ⟨i, by omega, e⟩
theorem gt_movP {l : List (Int × Int)} {x y : Int} {i : Nat} (h : i < l.length) : gt (movP l x y) i = ((gt l i).1 + x, (gt l i).2 + y) := gt_map h
theorem gt_rot {l : List (Int × Int)} (hl : ∀ q ∈ l, nearB 1048576 q) {i : Nat} (h : i < l.length) : gt (l.map rot1) i = (-(gt l i).2, (gt l i).1) := by
  rw [gt_map h]
  have := hl _ (gt_in h)
  unfold nearB at this
  unfold rot1
  rw [wrap_near (by omega) (by omega)]

theorem loX_char {l : List (Int × Int)} {n : Nat} {a : Int} (h1 : ∀ i, i < n → a ≤ (gt l i).1) (h2 : ∃ i, i < n ∧ (gt l i).1 = a) : loX l n = a := by
  obtain ⟨i, hi, e⟩ := h2
  have g1 := loX_le (l := l) hi
  obtain ⟨j, hj, e2⟩ := loX_at (l := l) (n := n) (by omega)
  have g2 := h1 j hj
  omega
theorem loX_mov {l : List (Int × Int)} {n : Nat} {x y : Int} (h0 : 0 < n) (hn : n ≤ l.length) : loX (movP l x y) n = loX l n + x :=
  loX_char (fun i hi => by rw [gt_movP (by omega)]; have := loX_le (l := l) hi; dsimp only; omega) (by
    obtain ⟨i, hi, e⟩ := loX_at (l := l) h0
    exact ⟨i, hi, by rw [gt_movP (by omega)]; dsimp only; omega⟩)
theorem loY_char {l : List (Int × Int)} {n : Nat} {a : Int} (h1 : ∀ i, i < n → a ≤ (gt l i).2) (h2 : ∃ i, i < n ∧ (gt l i).2 = a) : loY l n = a := by
  obtain ⟨i, hi, e⟩ := h2
  have g1 := loY_le (l := l) hi
  obtain ⟨j, hj, e2⟩ := loY_at (l := l) (n := n) (by omega)
  have g2 := h1 j hj
  omega
theorem loY_mov {l : List (Int × Int)} {n : Nat} {x y : Int} (h0 : 0 < n) (hn : n ≤ l.length) : loY (movP l x y) n = loY l n + y :=
  loY_char (fun i hi => by rw [gt_movP (by omega)]; have := loY_le (l := l) hi; dsimp only; omega) (by
    obtain ⟨i, hi, e⟩ := loY_at (l := l) h0
    exact ⟨i, hi, by rw [gt_movP (by omega)]; dsimp only; omega⟩)
theorem hiX_char {l : List (Int × Int)} {n : Nat} {a : Int} (h1 : ∀ i, i < n → (gt l i).1 ≤ a) (h2 : ∃ i, i < n ∧ (gt l i).1 = a) : hiX l n = a := by
  obtain ⟨i, hi, e⟩ := h2
  have g1 := hiX_ge (l := l) hi
  obtain ⟨j, hj, e2⟩ := hiX_at (l := l) (n := n) (by omega)
  have g2 := h1 j hj
  omega
theorem hiX_mov {l : List (Int × Int)} {n : Nat} {x y : Int} (h0 : 0 < n) (hn : n ≤ l.length) : hiX (movP l x y) n = hiX l n + x :=
  hiX_char (fun i hi => by rw [gt_movP (by omega)]; have := hiX_ge (l := l) hi; dsimp only; omega) (by
    obtain ⟨i, hi, e⟩ := hiX_at (l := l) h0
    exact ⟨i, hi, by rw [gt_movP (by omega)]; dsimp only; omega⟩)
theorem hiY_char {l : List (Int × Int)} {n : Nat} {a : Int} (h1 : ∀ i, i < n → (gt l i).2 ≤ a) (h2 : ∃ i, i < n ∧ (gt l i).2 = a) : hiY l n = a := by
  obtain ⟨i, hi, e⟩ := h2
  have g1 := hiY_ge (l := l) hi
  obtain ⟨j, hj, e2⟩ := hiY_at (l := l) (n := n) (by omega)
  have g2 := h1 j hj
  omega
theorem hiY_mov {l : List (Int × Int)} {n : Nat} {x y : Int} (h0 : 0 < n) (hn : n ≤ l.length) : hiY (movP l x y) n = hiY l n + y :=
  hiY_char (fun i hi => by rw [gt_movP (by omega)]; have := hiY_ge (l := l) hi; dsimp only; omega) (by
    obtain ⟨i, hi, e⟩ := hiY_at (l := l) h0
    exact ⟨i, hi, by rw [gt_movP (by omega)]; dsimp only; omega⟩)
theorem loX_rot {l : List (Int × Int)} (hl : ∀ q ∈ l, nearB 1048576 q) {n : Nat} (h0 : 0 < n) (hn : n ≤ l.length) : loX (l.map rot1) n = -hiY l n :=
  loX_char (fun i hi => by rw [gt_rot hl (by omega)]; have := hiY_ge (l := l) hi; dsimp only; omega) (by
    obtain ⟨i, hi, e⟩ := hiY_at (l := l) h0
    exact ⟨i, hi, by rw [gt_rot hl (by omega)]; dsimp only; omega⟩)
theorem hiX_rot {l : List (Int × Int)} (hl : ∀ q ∈ l, nearB 1048576 q) {n : Nat} (h0 : 0 < n) (hn : n ≤ l.length) : hiX (l.map rot1) n = -loY l n :=
  hiX_char (fun i hi => by rw [gt_rot hl (by omega)]; have := loY_le (l := l) hi; dsimp only; omega) (by
    obtain ⟨i, hi, e⟩ := loY_at (l := l) h0
    exact ⟨i, hi, by rw [gt_rot hl (by omega)]; dsimp only; omega⟩)
theorem loY_rot {l : List (Int × Int)} (hl : ∀ q ∈ l, nearB 1048576 q) {n : Nat} (h0 : 0 < n) (hn : n ≤ l.length) : loY (l.map rot1) n = loX l n :=
  loY_char (fun i hi => by rw [gt_rot hl (by omega)]; have := loX_le (l := l) hi; dsimp only; omega) (by
    obtain ⟨i, hi, e⟩ := loX_at (l := l) h0
    exact ⟨i, hi, by rw [gt_rot hl (by omega)]; dsimp only; omega⟩)
theorem hiY_rot {l : List (Int × Int)} (hl : ∀ q ∈ l, nearB 1048576 q) {n : Nat} (h0 : 0 < n) (hn : n ≤ l.length) : hiY (l.map rot1) n = hiX l n :=
  hiY_char (fun i hi => by rw [gt_rot hl (by omega)]; have := hiX_ge (l := l) hi; dsimp only; omega) (by
    obtain ⟨i, hi, e⟩ := hiX_at (l := l) h0
    exact ⟨i, hi, by rw [gt_rot hl (by omega)]; dsimp only; omega⟩)

def Wd (l : List (Int × Int)) : Int := hiX l l.length - loX l l.length
def Hd (l : List (Int × Int)) : Int := hiY l l.length - loY l l.length
theorem wh_rot {l : List (Int × Int)} (hl : ∀ q ∈ l, nearB 1048576 q) (h0 : 0 < l.length) : Wd (l.map rot1) = Hd l ∧ Hd (l.map rot1) = Wd l := by
  unfold Wd Hd
  rw [List.length_map, loX_rot hl h0 (Nat.le_refl _), hiX_rot hl h0 (Nat.le_refl _), loY_rot hl h0 (Nat.le_refl _), hiY_rot hl h0 (Nat.le_refl _)]
  omega
theorem wh_rotN {l : List (Int × Int)} (hc : checkW l l.length = 0) : ∀ n, (Wd (l.map (rotN n)) = Wd l ∧ Hd (l.map (rotN n)) = Hd l) ∨ (Wd (l.map (rotN n)) = Hd l ∧ Hd (l.map (rotN n)) = Wd l) := by
  intro n
  induction n with
  | zero => rw [show l.map (rotN 0) = l by simp [rotN]]; exact .inl ⟨rfl, rfl⟩
  | succ n ih =>
    have e : l.map (rotN (n + 1)) = (l.map (rotN n)).map rot1 := by rw [List.map_map]; rfl
    have hl : (l.map (rotN n)).length = l.length := List.length_map _
    have hn : ∀ q ∈ l.map (rotN n), nearB 1048576 q := check_near (by rw [hl]; exact check_rotN hc n)
    have h0 := check_len hc
    have := wh_rot hn (by omega)
    rw [e]
    omega
/-- Turns in which a polygon is equally long are those in which it is equally high. -/
theorem wh_same {l : List (Int × Int)} (hc : checkW l l.length = 0) (u v : Int) (h : Wd (tpolW false u l) = Wd (tpolW false v l)) : Hd (tpolW false u l) = Hd (tpolW false v l) := by
  have e : ∀ u, tpolW false u l = l.map (rotN (u % 4).toNat) := fun u => by unfold tpolW; simp only [Bool.false_eq_true, if_false]; rfl
  rw [e u, e v] at h ⊢
  have h1 := wh_rotN hc (u % 4).toNat
  have h2 := wh_rotN hc (v % 4).toNat
  omega

end Go.Proofs.YtccpgmneflfhjaaGreat

namespace Go.Proofs.YtccpgmneflfhjaaGreat
set_option linter.unusedVariables false
set_option linter.unusedSimpArgs false
open Go.RowKit

theorem sort_pairwise2 (l : List (Int × Int)) : (sortW l).Pairwise fun x y => x.1 < y.1 ∨ (x.1 = y.1 ∧ x.2 ≤ y.2) := by
  rw [sortW_eq]
  have h := isortF_sorted (lt := ltOf cmpS) swoS.irrefl swoS.trans totS l
  have e : ltOf cmpS = lessS := by funext p q; exact ltS p q
  rw [e] at h
  unfold sortF
  refine List.Pairwise.imp ?_ h
  intro x y hxy
  unfold lessS at hxy
  simp at hxy
  omega
theorem allTo_mem {g : Int} {m : Bool} {t : Trn} : ∀ {n : Nat}, t ∈ allTo g m n → t.1 = m ∧ alwW g m m t.2 = true := by
  intro n
  induction n with
  | zero => intro h; cases h
  | succ n ih =>
    intro h
    rw [allTo] at h
    rcases List.mem_append.1 h with h | h
    · exact ih h
    · split at h
      · rename_i ha
        simp at h
        subst h
        exact ⟨rfl, ha⟩
      · cases h
theorem tr_mem {ts : List Trn} {i : Nat} (h : i < ts.length) : tr ts i ∈ ts := by
  unfold tr; rw [List.getD, List.getElem?_eq_getElem h]; exact List.getElem_mem _

section
variable {s : Shp} {len wid : Int}

theorem poly_put (hc : checkW s.poly s.poly.length = 0) (u x y : Int) (hxy : nearB 1048576 (x, y)) (hn : ∀ q ∈ movP (tpolW false u s.poly) x y, nearB 1048576 q) : polyW [s] ⟨0, false, u, x, y⟩ = (0, movP (tpolW false u s.poly) x y) := by
  have ht := tpol_near (M := 1048576) (by omega) (f := false) (u := u) (check_near hc)
  have hm := mov_plain ht hxy
  have hk := check_mov (l := tpolW false u s.poly) (by rw [tpolW_len]; exact check_turn hc u) hn
  rw [tpolW_len] at hk
  have ho : outB 1048576 (x, y) = false := by
    unfold nearB at hxy
    unfold outB
    simp at hxy ⊢
    omega
  unfold polyW
  rw [if_neg (by rw [ho]; simp)]
  show polyIn s.poly _ = _
  unfold polyIn
  dsimp only
  rw [if_neg (by rw [hc]; simp), hm, if_neg (by rw [hk]; simp)]
theorem movP_zero (l : List (Int × Int)) : movP l 0 0 = l := by
  unfold movP; simp
theorem poly_turn (hc : checkW s.poly s.poly.length = 0) (u : Int) : polyW [s] ⟨0, false, u, 0, 0⟩ = (0, tpolW false u s.poly) := by
  have ht := tpol_near (M := 1048576) (by omega) (f := false) (u := u) (check_near hc)
  have := poly_put hc u 0 0 (by unfold nearB; simp) (by rw [movP_zero]; exact ht)
  rw [movP_zero] at this
  exact this

theorem fits_put (hc : checkW s.poly s.poly.length = 0) (hm : s.mat = false) (hl : 1 ≤ len ∧ len ≤ 1048576) (hw : 1 ≤ wid ∧ wid ≤ 1048576) {u x y : Int} (ha : alwW s.grain false false u = true) (hxy : nearB 1048576 (x, y))
    (hb : ∀ q ∈ movP (tpolW false u s.poly) x y, 0 ≤ q.1 ∧ q.1 ≤ len ∧ 0 ≤ q.2 ∧ q.2 ≤ wid) : fitsW ⟨len, wid, 0, 0⟩ [s] [] ⟨0, false, u, x, y⟩ = 0 := by
  have hp := poly_put hc u x y hxy (fun q hq => by have := hb q hq; unfold nearB; omega)
  unfold fitsW
  rw [if_neg (by unfold bedBad; simp; omega), hp]
  dsimp only
  rw [if_neg (by simp)]
  show fitIn _ _ _ _ s _ = 0
  unfold fitIn
  rw [if_neg (by rw [ha]; simp), if_neg, if_neg (by rw [hm]; simp)]
  · rfl
  · intro e
    obtain ⟨i, hi, he⟩ := AnyB.iff.1 e
    have := hb _ (gt_in hi)
    unfold outBed at he
    simp at he
    omega

theorem kept_mem (rx ry : Int) (hm : s.mat = false) (u : Int) (sp : List (Int × Int)) (a : Int × Int) : ∀ k, a ∈ keptTo rx ry s false u sp k ↔ ∃ i, i < k ∧ gt sp i = a := by
  intro k
  induction k with
  | zero => simp [keptTo]
  | succ k ih =>
    have e : keptTo rx ry s false u sp (k + 1) = addW (keptTo rx ry s false u sp k) [gt sp k] (0, 0) := by
      rw [keptTo]; unfold setlW; rw [hm]; rfl
    rw [e, mem_addW_iff, ih]
    constructor
    · rintro (⟨i, hi, h⟩ | h)
      · exact ⟨i, by omega, h⟩
      · simp at h; exact ⟨k, by omega, h.symm⟩
    · rintro ⟨i, hi, h⟩
      rcases Nat.lt_or_ge i k with h2 | h2
      · exact .inl ⟨i, h2, h⟩
      · obtain rfl : i = k := by omega
        exact .inr (by simp [h])

theorem cand_first (hc : checkW s.poly s.poly.length = 0) (hm : s.mat = false) (hw : 1 ≤ wid ∧ wid ≤ 1048576) (u : Int) : ∃ cs, candW ⟨len, wid, 0, 0⟩ s false u (tpolW false u s.poly) [] = (0, cs) ∧ cs.Pairwise (fun x y => x.1 < y.1 ∨ (x.1 = y.1 ∧ x.2 ≤ y.2)) ∧
    ∀ a, a ∈ cs ↔ a = (-loX (tpolW false u s.poly) s.poly.length, -loY (tpolW false u s.poly) s.poly.length) ∨ a = (-loX (tpolW false u s.poly) s.poly.length, wid - hiY (tpolW false u s.poly) s.poly.length) := by
  have h3 := check_len hc
  have ht := tpol_near (M := 1048576) (by omega) (f := false) (u := u) (check_near hc)
  have hk : checkW (tpolW false u s.poly) (tpolW false u s.poly).length = 0 := by rw [tpolW_len]; exact check_turn hc u
  obtain ⟨T, hT⟩ : ∃ T, tpolW false u s.poly = T := ⟨_, rfl⟩
  have hTl : T.length = s.poly.length := by rw [← hT, tpolW_len]
  rw [hT] at ht hk ⊢
  rw [← hTl]
  have h0 : 0 < T.length := by omega
  have nr : ∀ i, i < T.length → nearB 1048576 (gt T i) := fun i hi => ht _ (gt_in hi)
  obtain ⟨i1, k1, e1⟩ := loX_at (l := T) h0
  obtain ⟨i2, k2, e2⟩ := loY_at (l := T) h0
  obtain ⟨i3, k3, e3⟩ := hiY_at (l := T) h0
  have n1 := nr i1 k1
  have n2 := nr i2 k2
  have n3 := nr i3 k3
  unfold nearB at n1 n2 n3
  have ep : placesW ⟨len, wid, 0, 0⟩ T [] = (0, addW [] [(-loX T T.length, -loY T T.length), (-loX T T.length, wid - hiY T T.length)] (0, 0)) := by
    unfold placesW
    rw [if_neg (by rw [hk]; simp)]
    dsimp only [List.length_nil]
    rw [plcTo, wrap_near (z := -loX T T.length) (by omega) (by omega), wrap_near (z := -loY T T.length) (by omega) (by omega), wrap_near (z := wid - loY T T.length) (by omega) (by omega), wrap_near (z := hiY T T.length - loY T T.length) (by omega) (by omega), wrap_near (by omega) (by omega)]
    rw [show wid - loY T T.length - (hiY T T.length - loY T T.length) = wid - hiY T T.length by omega]
  refine ⟨sortW (keptTo 0 0 s false u (placesW ⟨len, wid, 0, 0⟩ T []).2 (placesW ⟨len, wid, 0, 0⟩ T []).2.length), ?_, sort_pairwise2 _, fun a => ?_⟩
  · unfold candW
    rw [if_neg (by rw [ep]; simp)]
  · unfold sortW
    rw [List.mem_mergeSort, kept_mem 0 0 hm]
    rw [ep]
    dsimp only
    constructor
    · rintro ⟨i, hi, h⟩
      have := gt_in hi
      rw [h] at this
      rcases mem_addW_iff.1 this with h2 | h2
      · cases h2
      · simpa using h2
    · intro h
      have h2 : a ∈ addW ([] : List (Int × Int)) [(-loX T T.length, -loY T T.length), (-loX T T.length, wid - hiY T T.length)] (0, 0) := mem_addW_iff.2 (.inr (by simpa using h))
      exact mem_gt h2

end
end Go.Proofs.YtccpgmneflfhjaaGreat

namespace Go.Proofs.YtccpgmneflfhjaaGreat
set_option linter.unusedVariables false
set_option linter.unusedSimpArgs false
open Go.RowKit

section
variable {s : Shp} {len wid : Int}

theorem fit_turn (hc : checkW s.poly s.poly.length = 0) (hm : s.mat = false) (hl : 1 ≤ len ∧ len ≤ 1048576) (hw : 1 ≤ wid ∧ wid ≤ 1048576) {u : Int} (ha : alwW s.grain false false u = true) (hW : Wd (tpolW false u s.poly) ≤ len) (hH : Hd (tpolW false u s.poly) ≤ wid) :
    fitsW ⟨len, wid, 0, 0⟩ [s] [] ⟨0, false, u, -loX (tpolW false u s.poly) s.poly.length, -loY (tpolW false u s.poly) s.poly.length⟩ = 0 := by
  have h3 := check_len hc
  have ht := tpol_near (M := 1048576) (by omega) (f := false) (u := u) (check_near hc)
  have hTl : (tpolW false u s.poly).length = s.poly.length := tpolW_len _ _ _
  obtain ⟨i1, k1, e1⟩ := loX_at (l := tpolW false u s.poly) (n := s.poly.length) (by omega)
  obtain ⟨i2, k2, e2⟩ := loY_at (l := tpolW false u s.poly) (n := s.poly.length) (by omega)
  have n1 := ht _ (gt_in (i := i1) (by omega))
  have n2 := ht _ (gt_in (i := i2) (by omega))
  unfold nearB at n1 n2
  refine fits_put hc hm hl hw ha (by unfold nearB; dsimp only; omega) fun q hq => ?_
  unfold movP at hq
  obtain ⟨x, hx, rfl⟩ := List.mem_map.1 hq
  obtain ⟨i, hi, rfl⟩ := mem_gt hx
  rw [hTl] at hi
  unfold Wd at hW
  unfold Hd at hH
  rw [hTl] at hW hH
  have g1 := loX_le (l := tpolW false u s.poly) hi
  have g2 := hiX_ge (l := tpolW false u s.poly) hi
  have g3 := loY_le (l := tpolW false u s.poly) hi
  have g4 := hiY_ge (l := tpolW false u s.poly) hi
  dsimp only
  omega

theorem prep_first (hc : checkW s.poly s.poly.length = 0) (hl : 1 ≤ len ∧ len ≤ 1048576) (hw : 1 ≤ wid ∧ wid ≤ 1048576) : prepW ⟨len, wid, 0, 0⟩ [s] [] 0 false 0 = (0, tpolW false 0 s.poly, []) := by
  unfold prepW
  rw [if_neg (by unfold bedBad; simp; omega), poly_turn hc 0]
  rfl

theorem st_first (hc : checkW s.poly s.poly.length = 0) (hm : s.mat = false) (hw : 1 ≤ wid ∧ wid ≤ 1048576) : ∀ k, k ≤ (allW s.grain false).length → (stTo ⟨len, wid, 0, 0⟩ [s] [] 0 [] (allW s.grain false) k).1 = 0 := by
  intro k
  induction k with
  | zero => intro _; rfl
  | succ k ih =>
    intro hk
    have h1 := (allTo_mem (tr_mem (ts := allW s.grain false) (i := k) (by omega))).1
    rw [stTo_succ, if_neg (by rw [ih (by omega)]; simp)]
    obtain ⟨t, ht⟩ : ∃ t, tr (allW s.grain false) k = t := ⟨_, rfl⟩
    rw [ht] at h1 ⊢
    obtain ⟨t1, t2⟩ := t
    dsimp only at h1
    subst h1
    obtain ⟨cs, hcs, -⟩ := cand_first (len := len) hc hm hw t2
    unfold stG
    rw [poly_turn hc t2]
    rw [if_neg (by simp)]
    show (if (candW ⟨len, wid, 0, 0⟩ s false t2 (tpolW false t2 s.poly) []).1 ≠ 0 then _ else _ : Int × List End6).1 = 0
    rw [if_neg (by rw [hcs]; simp)]
    split <;> rfl

theorem first_facts (hc : checkW s.poly s.poly.length = 0) (hm : s.mat = false) (hl : 1 ≤ len ∧ len ≤ 1048576) (hw : 1 ≤ wid ∧ wid ≤ 1048576) {i0 : Nat} (hi0 : i0 < (allW s.grain false).length)
    (hW : Wd (tpolW false (tr (allW s.grain false) i0).2 s.poly) ≤ len) (hH : Hd (tpolW false (tr (allW s.grain false) i0).2 s.poly) ≤ wid) (hmin : ∀ i, i < (allW s.grain false).length → Wd (tpolW false (tr (allW s.grain false) i0).2 s.poly) ≤ Wd (tpolW false (tr (allW s.grain false) i).2 s.poly)) :
    ∃ p r, stepW ⟨len, wid, 0, 0⟩ [s] [] 0 = (0, p) ∧ polyW [s] p = (0, r) ∧ r.length = s.poly.length ∧ checkW r r.length = 0 ∧ loX r r.length = 0 ∧ loY r r.length = 0 ∧ hiX r r.length = Wd (tpolW false (tr (allW s.grain false) i0).2 s.poly) ∧ hiY r r.length = Hd (tpolW false (tr (allW s.grain false) i0).2 s.poly) := by
  have h3 := check_len hc
  have hst := st_first (len := len) hc hm hw _ (Nat.le_refl _)
  have hal : ∀ i, i < (allW s.grain false).length → (tr (allW s.grain false) i).1 = false ∧ alwW s.grain false false (tr (allW s.grain false) i).2 = true := fun i hi => allTo_mem (tr_mem hi)
  obtain ⟨ts, hts⟩ : ∃ ts, allW s.grain false = ts := ⟨_, rfl⟩
  rw [hts] at hi0 hW hH hmin hst hal ⊢
  obtain ⟨hall, hmem⟩ := stTo_mem hst
  obtain ⟨E, hE⟩ : ∃ E, (stTo ⟨len, wid, 0, 0⟩ [s] [] 0 [] ts ts.length).2 = E := ⟨_, rfl⟩
  rw [hE] at hmem
  have hcand : ∀ i, i < ts.length → candW ⟨len, wid, 0, 0⟩ (shp [s] (0 : Int).toNat) (tr ts i).1 (tr ts i).2 (polyW [s] ⟨0, (tr ts i).1, (tr ts i).2, 0, 0⟩).2 [] = candW ⟨len, wid, 0, 0⟩ s false (tr ts i).2 (tpolW false (tr ts i).2 s.poly) [] := fun i hi => by
    rw [(hal i hi).1, poly_turn hc]; rfl
  -- what an ending is
  have hend : ∀ i j, i < ts.length → StE ⟨len, wid, 0, 0⟩ [s] [] 0 [] ts i j → ∃ cs a, candW ⟨len, wid, 0, 0⟩ s false (tr ts i).2 (tpolW false (tr ts i).2 s.poly) [] = (0, cs) ∧ j < cs.length ∧ gt cs j = a ∧ (stEnd ⟨len, wid, 0, 0⟩ [s] 0 [] ts i j).put = ⟨0, false, (tr ts i).2, a.1, a.2⟩ ∧ (stEnd ⟨len, wid, 0, 0⟩ [s] 0 [] ts i j).right = Wd (tpolW false (tr ts i).2 s.poly) ∧ fitsW ⟨len, wid, 0, 0⟩ [s] [] ⟨0, false, (tr ts i).2, a.1, a.2⟩ = 0 ∧ a.1 = -loX (tpolW false (tr ts i).2 s.poly) s.poly.length ∧ (Hd (tpolW false (tr ts i).2 s.poly) ≤ wid → Wd (tpolW false (tr ts i).2 s.poly) ≤ len → a.2 = -loY (tpolW false (tr ts i).2 s.poly) s.poly.length) := by
    intro i j hi hs
    obtain ⟨cs, hcs, hpw, hcm⟩ := cand_first (len := len) hc hm hw (tr ts i).2
    have hff := hs.2.2
    rw [hcand i hi, hcs] at hff
    obtain ⟨f1, f2, f3⟩ := fstFit_some hff
    rw [(hal i hi).1] at f2 f3
    have hin := (hcm _).1 (gt_in f1)
    have hx : (gt cs j).1 = -loX (tpolW false (tr ts i).2 s.poly) s.poly.length := by
      rcases hin with h | h <;> rw [h]
    have hpo := (fits_poly f2).2.1
    have hat := poly_at (S := [s]) (sh := 0) (f := false) (u := (tr ts i).2) (x := (gt cs j).1) (y := (gt cs j).2) (by rw [poly_turn hc]) hpo
    have hput : stEnd ⟨len, wid, 0, 0⟩ [s] 0 [] ts i j = endOf 0 (false, (tr ts i).2) (tpolW false (tr ts i).2 s.poly) (gt cs j) := by
      unfold stEnd
      rw [hcand i hi, hcs, (hal i hi).1, poly_turn hc]
      have : tr ts i = (false, (tr ts i).2) := Prod.ext (hal i hi).1 rfl
      rw [this]
    refine ⟨cs, gt cs j, hcs, f1, rfl, by rw [hput]; rfl, ?_, f2, hx, fun h1 h2 => ?_⟩
    · have h9 := hat.2.2
      rw [poly_turn hc] at h9
      rw [hput]
      refine h9.trans ?_
      rw [hat.2.1, poly_turn hc, hx]
      unfold maxX Wd
      rw [tpolW_len]
      dsimp only
      omega
    · have hfit := fit_turn hc hm hl hw (hal i hi).2 h2 h1
      obtain ⟨j2, hj2, e2⟩ := mem_gt ((hcm (-loX (tpolW false (tr ts i).2 s.poly) s.poly.length, -loY (tpolW false (tr ts i).2 s.poly) s.poly.length)).2 (.inl rfl))
      have hnl : ¬ j2 < j := fun h => f3 j2 h (by rw [e2]; exact hfit)
      unfold Hd at h1
      rw [tpolW_len] at h1
      rcases Nat.eq_or_lt_of_le (Nat.le_of_not_lt hnl) with h | h
      · rw [h, e2]
      · have hp := List.pairwise_iff_getElem.1 hpw j j2 f1 hj2 h
        have g1 : cs[j] = gt cs j := by unfold gt; rw [List.getD, List.getElem?_eq_getElem f1]; rfl
        have g2 : cs[j2] = gt cs j2 := by unfold gt; rw [List.getD, List.getElem?_eq_getElem hj2]; rfl
        rw [g1, g2, e2] at hp
        dsimp only at hp
        rcases hin with h5 | h5
        · rw [h5]
        · rw [h5] at hp ⊢
          dsimp only at hp ⊢
          omega
  -- the shortest turn has an ending
  obtain ⟨j0, hs0⟩ : ∃ j0, StE ⟨len, wid, 0, 0⟩ [s] [] 0 [] ts i0 j0 := by
    obtain ⟨cs, hcs, hpw, hcm⟩ := cand_first (len := len) hc hm hw (tr ts i0).2
    have hfit := fit_turn hc hm hl hw (hal i0 hi0).2 hW hH
    obtain ⟨j2, hj2, e2⟩ := mem_gt ((hcm (-loX (tpolW false (tr ts i0).2 s.poly) s.poly.length, -loY (tpolW false (tr ts i0).2 s.poly) s.poly.length)).2 (.inl rfl))
    cases hff : fstFit ⟨len, wid, 0, 0⟩ [s] [] 0 (tr ts i0) cs with
    | none =>
      exfalso
      unfold fstFit at hff
      have := fnd_none hff j2 hj2
      unfold isFit at this
      rw [e2, (hal i0 hi0).1, hfit] at this
      simp at this
    | some j0 => exact ⟨j0, (hall i0 hi0).1, (hall i0 hi0).2, by rw [hcand i0 hi0, hcs]; exact hff⟩
  have hE0 : stEnd ⟨len, wid, 0, 0⟩ [s] 0 [] ts i0 j0 ∈ E := (hmem _).2 ⟨i0, j0, hi0, hs0, rfl⟩
  have hEne : 0 < E.length := List.length_pos_of_mem hE0
  have hstep : stepW ⟨len, wid, 0, 0⟩ [s] [] 0 = (0, (leastL E).put) := by
    unfold stepW
    rw [prep_first hc hl hw]
    dsimp only
    rw [if_neg (by simp)]
    show stepIn (stTo ⟨len, wid, 0, 0⟩ [s] [] 0 [] (allW s.grain false) (allW s.grain false).length) = _
    rw [hts]
    unfold stepIn
    rw [if_neg (by rw [hst]; simp), hE, if_neg (by omega)]
    rfl
  have hl1 : leastL E ∈ E := leastTo_mem (l := E) (n := E.length) hEne (Nat.le_refl _)
  have hle := leastL_min E _ hE0
  obtain ⟨i, j, hi, hs, he⟩ := (hmem _).1 hl1
  obtain ⟨cs, a, hcs, hj, hga, hput, hright, hfit, hax, hay⟩ := hend i j hi hs
  obtain ⟨_, _, _, _, _, _, hright0, _⟩ := hend i0 j0 hi0 hs0
  rw [he, hright, hright0] at hle
  have hWe : Wd (tpolW false (tr ts i).2 s.poly) = Wd (tpolW false (tr ts i0).2 s.poly) := by have := hmin i hi; omega
  have hHe := wh_same hc _ _ hWe
  have hay2 := hay (by omega) (by omega)
  have hpo := (fits_poly hfit).2.1
  obtain ⟨_, _, hr, hrn, _, _⟩ := poly_plain hpo
  have hr' : (polyW [s] ⟨0, false, (tr ts i).2, a.1, a.2⟩).2 = movP (tpolW false (tr ts i).2 s.poly) a.1 a.2 := hr
  have hlen : (movP (tpolW false (tr ts i).2 s.poly) a.1 a.2).length = s.poly.length := by unfold movP; rw [List.length_map, tpolW_len]
  refine ⟨_, movP (tpolW false (tr ts i).2 s.poly) a.1 a.2, hstep, ?_, hlen, ?_, ?_⟩
  · rw [he, hput]; exact Prod.ext hpo hr'
  · rw [hlen]
    have := check_mov (l := tpolW false (tr ts i).2 s.poly) (by rw [tpolW_len]; exact check_turn hc _) (x := a.1) (y := a.2) (by rw [← hr']; exact hrn)
    rw [tpolW_len] at this
    exact this
  · rw [hlen, loX_mov (by omega) (by rw [tpolW_len]; omega), loY_mov (by omega) (by rw [tpolW_len]; omega), hiX_mov (by omega) (by rw [tpolW_len]; omega), hiY_mov (by omega) (by rw [tpolW_len]; omega), hax, hay2, ← hWe, ← hHe]
    unfold Wd Hd
    rw [tpolW_len]
    omega

end
end Go.Proofs.YtccpgmneflfhjaaGreat

namespace Go.Proofs.YtccpgmneflfhjaaGreat
set_option linter.unusedVariables false
set_option linter.unusedSimpArgs false
open Go.ChangeShapes Go.WideShapes Go.ChangeAt Go.RowKit Go.Deep Go.Joins

section
variable {H : Type} {enc : TypeId × Value → H} {w : World} {base b0 : Nat} {spare : Nat → Bool} {held : Bool} {r : Reach} {v : Value} {d : DataW H} {p : List MemPlace}
set_option maxRecDepth 100000 in
theorem open_shape (hv : Value.okWide Tryz.prog w r b0 39 v) (h : DataW.Trod enc Tryz.prog w base spare held 39 v d p) : ∃ (S : Shp) (A : Option Addr) (c : Nat), v = .agg #[.slice A S.poly.length c, .int .i64 S.grain, .bool S.mat, .int .i64 S.anc.1, .int .i64 S.anc.2] ∧ S.poly.length ≤ c ∧ c ≤ 9223372036854775807 ∧ (A = none → c = 0) ∧ SpS w A S.poly.length S.poly ∧ ShOk S := by
  obtain ⟨cs, rfl, hsz⟩ := okWide_struct Tryz.underlying39 hv
  obtain ⟨fuel, hf⟩ := h
  obtain ⟨A, n, c, g, m, ax, ay, l, hcs, h1, h2, h3, h4, h5⟩ := shape_trod hf
  have hl := h4.1
  subst hl
  refine ⟨⟨l, g, m, (ax, ay)⟩, A, c, ?_, h1, h2, h3, h4, h5⟩
  rw [show cs = cs.toList.toArray by simp]
  have : cs.toList = [.slice A l.length c, .int .i64 g, .bool m, .int .i64 ax, .int .i64 ay] := by simpa [Value.cells] using hcs
  rw [this]
end
end Go.Proofs.YtccpgmneflfhjaaGreat

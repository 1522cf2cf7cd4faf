/- Areas by sample points: sums; the samples to the left of an edge; the samples of a triangle. -/
import Derived.Test.YtmdncaoilegnnaaGreatUG40
namespace Go.Proofs.YtmdncaoilegnnaaGreat
set_option linter.unusedVariables false
set_option linter.unusedSimpArgs false
set_option linter.unusedVariables false
set_option linter.unusedSimpArgs false
namespace Ears
open Go.RowKit

def sN : Nat → (Nat → Int) → Int
  | 0, _ => 0
  | n + 1, f => sN n f + f n
theorem sN_congr {f g : Nat → Int} : ∀ {n : Nat}, (∀ i, i < n → f i = g i) → sN n f = sN n g
  | 0, _ => rfl
  | n + 1, h => by rw [sN, sN, sN_congr (fun i hi => h i (by omega)), h n (by omega)]
theorem sN_add (f g : Nat → Int) : ∀ n, sN n (fun i => f i + g i) = sN n f + sN n g
  | 0 => rfl
  | n + 1 => by rw [sN, sN, sN, sN_add f g n]; omega
theorem sN_mul (c : Int) (f : Nat → Int) : ∀ n, sN n (fun i => c * f i) = c * sN n f
  | 0 => by simp [sN]
  | n + 1 => by rw [sN, sN, sN_mul c f n, Int.mul_add]
theorem sN_zero : ∀ n, sN n (fun _ => 0) = 0
  | 0 => rfl
  | n + 1 => by rw [sN, sN_zero n]; rfl
theorem sN_le {f g : Nat → Int} : ∀ {n : Nat}, (∀ i, i < n → f i ≤ g i) → sN n f ≤ sN n g
  | 0, _ => Int.le_refl _
  | n + 1, h => by
    rw [sN, sN]
    have := sN_le (n := n) (fun i hi => h i (by omega))
    have := h n (by omega)
    omega
theorem sN_const (c : Int) : ∀ n : Nat, sN n (fun _ => c) = (n : Int) * c
  | 0 => by simp [sN]
  | n + 1 => by rw [sN, sN_const c n, show ((n + 1 : Nat) : Int) = (n : Int) + 1 by omega, Int.add_mul, Int.one_mul]
theorem sN_swap (f : Nat → Nat → Int) (m : Nat) : ∀ n, sN n (fun i => sN m (fun j => f i j)) = sN m (fun j => sN n (fun i => f i j))
  | 0 => by simp only [sN]; rw [sN_zero]
  | n + 1 => by
    simp only [sN]
    rw [sN_swap f m n, ← sN_add]
theorem cnt_lt (Y : Int) (h0 : 0 ≤ Y) : ∀ n : Nat, sN n (fun m => if (m : Int) < Y then 1 else 0) = if (n : Int) ≤ Y then (n : Int) else Y
  | 0 => by simp [sN]; omega
  | n + 1 => by
    rw [sN, cnt_lt Y h0 n]
    (repeat' split) <;> omega
/-- A sample point, and the scale at which vertices lie between the samples. -/
def smp (m k : Nat) : P := (2 * (m : Int) + 1, 2 * (k : Int) + 1)
def gs (M : Int) (p : P) : P := (2 * M * p.1, 2 * p.2)
theorem cr_gs (M : Int) (a b c : P) : cr (gs M a) (gs M b) (gs M c) = 4 * M * cr a b c := by unfold cr gs; grind
theorem cr_smp {M M2 : Int} {p q : P} (hM : M = 2 * (q.2 - p.2) * M2) (m k : Nat) :
    cr (gs M p) (gs M q) (smp m k) = 2 * (q.2 - p.2) * (2 * (M * p.1 + M2 * (q.1 - p.1) * (2 * (k : Int) + 1 - 2 * p.2)) - 2 * (m : Int) - 1) := by
  subst hM
  unfold cr gs smp
  grind
/-- The samples don't lie on lines whose height divides the scale. -/
def Fine (M : Int) (p q : P) : Prop := p.2 ≠ q.2 ∧ ∃ M2, M = 2 * (q.2 - p.2) * M2
theorem Fine.symm {M : Int} {p q : P} (h : Fine M p q) : Fine M q p := by
  obtain ⟨h1, M2, h2⟩ := h
  exact ⟨fun e => h1 e.symm, -M2, by rw [h2]; grind⟩
theorem Fine.ne {M : Int} {p q : P} (h : Fine M p q) (m k : Nat) : cr (gs M p) (gs M q) (smp m k) ≠ 0 := by
  obtain ⟨h1, M2, h2⟩ := h
  rw [cr_smp h2]
  intro e
  rcases Int.mul_eq_zero.1 e with g | g
  · omega
  · generalize M * p.1 + M2 * (q.1 - p.1) * (2 * (k : Int) + 1 - 2 * p.2) = Y at g
    omega
theorem ray_up {M M2 : Int} {p q : P} (hd : p.2 < q.2) (hM : M = 2 * (q.2 - p.2) * M2) (m k : Nat) :
    ray (smp m k) (gs M p) (gs M q) = decide (p.2 ≤ (k : Int) ∧ (k : Int) < q.2 ∧ (m : Int) < M * p.1 + M2 * (q.1 - p.1) * (2 * (k : Int) + 1 - 2 * p.2)) := by
  have e := cr_smp hM m k
  unfold ray
  rw [e]
  generalize M * p.1 + M2 * (q.1 - p.1) * (2 * (k : Int) + 1 - 2 * p.2) = Y
  unfold smp gs
  dsimp only
  apply decide_eq_decide.2
  have hp : 0 < 2 * (q.2 - p.2) := by omega
  have key : 0 < 2 * (q.2 - p.2) * (2 * Y - 2 * (m : Int) - 1) ↔ (m : Int) < Y := by
    constructor
    · intro h
      have := sgt hp h
      omega
    · intro h
      exact pos_mul hp (by omega)
  rw [key]
  omega
theorem sum_up {M M2 X : Int} {p q : P} {L N : Nat} (hd : p.2 < q.2) (hM0 : 0 < M) (hM : M = 2 * (q.2 - p.2) * M2) (hL : (L : Int) = M * X) (p1 : 0 ≤ p.1 ∧ p.1 ≤ X) (q1 : 0 ≤ q.1 ∧ q.1 ≤ X) (p2 : 0 ≤ p.2) (q2 : q.2 ≤ N) :
    2 * sN N (fun k => sN L (fun m => if ray (smp m k) (gs M p) (gs M q) then 1 else 0)) = M * ((q.2 - p.2) * (p.1 + q.1)) := by
  have inner : ∀ k : Nat, sN L (fun m => if ray (smp m k) (gs M p) (gs M q) then 1 else 0) = if p.2 ≤ (k : Int) ∧ (k : Int) < q.2 then M * p.1 + M2 * (q.1 - p.1) * (2 * (k : Int) + 1 - 2 * p.2) else 0 := by
    intro k
    by_cases c : p.2 ≤ (k : Int) ∧ (k : Int) < q.2
    · rw [if_pos c]
      obtain ⟨Y, hY⟩ : ∃ Y, M * p.1 + M2 * (q.1 - p.1) * (2 * (k : Int) + 1 - 2 * p.2) = Y := ⟨_, rfl⟩
      have id : 2 * (q.2 - p.2) * Y = M * (p.1 * (2 * (q.2 - p.2) - (2 * (k : Int) + 1 - 2 * p.2)) + q.1 * (2 * (k : Int) + 1 - 2 * p.2)) := by
        rw [← hY, hM]; grind
      have id2 : 2 * (q.2 - p.2) * (M * X - Y) = M * ((X - p.1) * (2 * (q.2 - p.2) - (2 * (k : Int) + 1 - 2 * p.2)) + (X - q.1) * (2 * (k : Int) + 1 - 2 * p.2)) := by
        rw [← hY, hM]; grind
      have h0 : 0 ≤ Y := by
        apply sge (show 0 < 2 * (q.2 - p.2) by omega)
        rw [id]
        have a1 := nn p1.1 (show 0 ≤ 2 * (q.2 - p.2) - (2 * (k : Int) + 1 - 2 * p.2) by omega)
        have a2 := nn q1.1 (show 0 ≤ 2 * (k : Int) + 1 - 2 * p.2 by omega)
        exact nn (by omega) (by omega)
      have h1 : Y ≤ M * X := by
        have : 0 ≤ M * X - Y := by
          apply sge (show 0 < 2 * (q.2 - p.2) by omega)
          rw [id2]
          have a1 := nn (show 0 ≤ X - p.1 by omega) (show 0 ≤ 2 * (q.2 - p.2) - (2 * (k : Int) + 1 - 2 * p.2) by omega)
          have a2 := nn (show 0 ≤ X - q.1 by omega) (show 0 ≤ 2 * (k : Int) + 1 - 2 * p.2 by omega)
          exact nn (by omega) (by omega)
        omega
      rw [hY]
      have := cnt_lt Y h0 L
      rw [sN_congr (g := fun m : Nat => if (m : Int) < Y then 1 else 0), this]
      · split <;> omega
      · intro m _
        rw [ray_up hd hM, hY]
        by_cases c2 : (m : Int) < Y
        · rw [if_pos c2, if_pos]; simp; omega
        · rw [if_neg c2, if_neg]; simp; omega
    · rw [if_neg c, sN_congr (g := fun _ => 0), sN_zero]
      intro m _
      rw [ray_up hd hM, if_neg]
      simp
      omega
  rw [sN_congr (fun k _ => inner k)]
  have F : ∀ n : Nat, ∃ j : Int, (j = if (n : Int) ≤ p.2 then 0 else if (n : Int) ≤ q.2 then (n : Int) - p.2 else q.2 - p.2) ∧
      sN n (fun k => if p.2 ≤ (k : Int) ∧ (k : Int) < q.2 then M * p.1 + M2 * (q.1 - p.1) * (2 * (k : Int) + 1 - 2 * p.2) else 0) = M * p.1 * j + M2 * (q.1 - p.1) * (j * j) := by
    intro n
    induction n with
    | zero => exact ⟨0, by rw [if_pos (by omega)], by simp [sN]⟩
    | succ n ih =>
      obtain ⟨j, hj, ih⟩ := ih
      rw [sN, ih]
      by_cases c1 : (n : Int) < p.2
      · rw [if_pos (by omega)] at hj
        refine ⟨0, by rw [if_pos (by omega)], ?_⟩
        rw [if_neg (by omega), hj]; omega
      · by_cases c2 : (n : Int) < q.2
        · have ej : j = (n : Int) - p.2 := by
            rw [hj]
            (repeat' split) <;> omega
          refine ⟨j + 1, ?_, ?_⟩
          · rw [if_neg (by omega), if_pos (by omega)]; omega
          · rw [if_pos (by omega), show 2 * (n : Int) + 1 - 2 * p.2 = 2 * j + 1 by omega]
            grind
        · refine ⟨j, ?_, ?_⟩
          · rw [hj]
            (repeat' split) <;> omega
          · rw [if_neg (by omega)]; omega
  obtain ⟨j, hj, e⟩ := F N
  have ej : j = q.2 - p.2 := by
    rw [hj]
    (repeat' split) <;> omega
  rw [e, ej, hM]
  grind
/-- The signed crossing of a sample's ray with an edge. -/
def wE (M : Int) (s : P) (e : P × P) : Int := if ray s (gs M e.1) (gs M e.2) then (if e.1.2 < e.2.2 then 1 else -1) else 0
theorem wE_swap {M : Int} {s u w : P} (h : u.2 ≠ w.2) : wE M s (w, u) = - wE M s (u, w) := by
  unfold wE
  dsimp only
  rw [ray_flip]
  (repeat' split) <;> omega
theorem sum_wE {M X : Int} {p q : P} {L N : Nat} (hF : Fine M p q) (hM0 : 0 < M) (hL : (L : Int) = M * X) (p1 : 0 ≤ p.1 ∧ p.1 ≤ X) (q1 : 0 ≤ q.1 ∧ q.1 ≤ X) (p2 : 0 ≤ p.2 ∧ p.2 ≤ N) (q2 : 0 ≤ q.2 ∧ q.2 ≤ N) :
    2 * sN N (fun k => sN L (fun m => wE M (smp m k) (p, q))) = M * ((q.2 - p.2) * (p.1 + q.1)) := by
  obtain ⟨h1, M2, hM⟩ := hF
  rcases Int.lt_or_gt_of_ne h1 with c | c
  · rw [← sum_up c hM0 hM hL p1 q1 p2.1 q2.2]
    congr 1
    apply sN_congr
    intro k _
    apply sN_congr
    intro m _
    unfold wE
    dsimp only
    rw [if_pos c]
  · have hM' : M = 2 * (p.2 - q.2) * (-M2) := by rw [hM]; grind
    have e := sum_up c hM0 hM' hL q1 p1 q2.1 p2.2
    have e2 : sN N (fun k => sN L (fun m => wE M (smp m k) (p, q))) = - sN N (fun k => sN L (fun m => if ray (smp m k) (gs M q) (gs M p) then 1 else 0)) := by
      have neg : ∀ (f : Nat → Int) n, sN n (fun i => - f i) = - sN n f := fun f n => by
        have := sN_mul (-1) f n
        rw [show - sN n f = -1 * sN n f by omega, ← this]
        apply sN_congr
        intro i _
        omega
      rw [← neg]
      apply sN_congr
      intro k _
      rw [← neg]
      apply sN_congr
      intro m _
      unfold wE
      dsimp only
      rw [if_neg (show ¬ p.2 < q.2 by omega), ray_flip]
      split <;> rfl
    rw [e2]
    have : 2 * -sN N (fun k => sN L (fun m => if ray (smp m k) (gs M q) (gs M p) then 1 else 0)) = -(2 * sN N (fun k => sN L (fun m => if ray (smp m k) (gs M q) (gs M p) then 1 else 0))) := by omega
    rw [this, e]
    grind
def wS (M : Int) (s : P) (l : List (P × P)) : Int := (l.map (wE M s)).sum
theorem wS_nil (M : Int) (s : P) : wS M s [] = 0 := rfl
theorem wS_cons (M : Int) (s : P) (e : P × P) (l : List (P × P)) : wS M s (e :: l) = wE M s e + wS M s l := by simp [wS]
theorem wS_append (M : Int) (s : P) (a b : List (P × P)) : wS M s (a ++ b) = wS M s a + wS M s b := by simp [wS]
theorem wS_rot (M : Int) (s : P) (A B : List P) : wS M s (E (A ++ B)) = wS M s (E (B ++ A)) := by
  obtain ⟨X, Y, h1, h2⟩ := E_rot A B
  rw [h1, h2, wS_append, wS_append]; omega
theorem tele (φ : P → Int) : ∀ (k : List P) (x : P), ((ch x k).map (fun e => φ e.2 - φ e.1)).sum = φ (fin x k) - φ x
  | [], x => by simp [ch, fin]
  | y :: k, x => by
    rw [ch, List.map_cons, List.sum_cons, tele φ k y, fin]
    dsimp only
    omega
theorem tele_E (φ : P → Int) (l : List P) : ((E l).map (fun e => φ e.2 - φ e.1)).sum = 0 := by
  cases l with
  | nil => rfl
  | cons x k =>
    simp only [E]
    rw [tele, fin_snoc]; omega
theorem sum_split {α : Type} (f g h : α → Int) (e : ∀ x, f x = g x + h x) : ∀ l : List α, (l.map f).sum = (l.map g).sum + (l.map h).sum
  | [] => rfl
  | x :: l => by
    rw [List.map_cons, List.map_cons, List.map_cons, List.sum_cons, List.sum_cons, List.sum_cons, sum_split f g h e l, e]; omega
theorem ar_trap (l : List P) : ((E l).map (fun e => (e.2.2 - e.1.2) * (e.1.1 + e.2.1))).sum = ar l := by
  rw [sum_split _ vx (fun e => (fun p : P => p.1 * p.2) e.2 - (fun p : P => p.1 * p.2) e.1) (fun e => by unfold vx; grind), tele_E (fun p : P => p.1 * p.2) l]
  unfold ar sm; omega
theorem sum_wS {M X : Int} {L N : Nat} (hM0 : 0 < M) (hL : (L : Int) = M * X) : ∀ (es : List (P × P)), (∀ e ∈ es, Fine M e.1 e.2 ∧ (0 ≤ e.1.1 ∧ e.1.1 ≤ X) ∧ (0 ≤ e.2.1 ∧ e.2.1 ≤ X) ∧ (0 ≤ e.1.2 ∧ e.1.2 ≤ N) ∧ (0 ≤ e.2.2 ∧ e.2.2 ≤ N)) →
    2 * sN N (fun k => sN L (fun m => wS M (smp m k) es)) = M * (es.map (fun e => (e.2.2 - e.1.2) * (e.1.1 + e.2.1))).sum
  | [], _ => by
    simp only [wS_nil]
    rw [sN_congr (g := fun _ => 0) (fun k _ => sN_zero L), sN_zero]; simp
  | e :: es, h => by
    obtain ⟨h1, h2, h3, h4, h5⟩ := h e (by simp)
    have ih := sum_wS hM0 hL es (fun e he => h e (by simp [he]))
    have one := sum_wE h1 hM0 hL h2 h3 h4 h5
    simp only [wS_cons]
    rw [sN_congr (g := fun k => sN L (fun m => wE M (smp m k) (e.1, e.2)) + sN L (fun m => wS M (smp m k) es)) (fun k _ => sN_add _ _ _), sN_add, Int.mul_add, one, ih, List.map_cons, List.sum_cons]
    exact (Int.mul_add _ _ _).symm
/-- The samples of a polygon, counted with the number of times that its border runs round them. -/
theorem sum_poly {M X : Int} {L N : Nat} {l : List P} (hM0 : 0 < M) (hL : (L : Int) = M * X) (hF : ∀ e ∈ E l, Fine M e.1 e.2) (hB : ∀ p ∈ l, 0 ≤ p.1 ∧ p.1 ≤ X ∧ 0 ≤ p.2 ∧ p.2 ≤ N) :
    2 * sN N (fun k => sN L (fun m => wS M (smp m k) (E l))) = M * ar l := by
  rw [← ar_trap l]
  apply sum_wS hM0 hL
  intro e he
  obtain ⟨h1, h2⟩ := E_mem he
  have b1 := hB _ h1
  have b2 := hB _ h2
  exact ⟨hF e he, ⟨b1.1, b1.2.1⟩, ⟨b2.1, b2.2.1⟩, ⟨b1.2.2.1, b1.2.2.2⟩, ⟨b2.2.2.1, b2.2.2.2⟩⟩
theorem sgnf (x y : Int) : (0 < x → 0 < y → 0 < x * y) ∧ (x < 0 → 0 < y → x * y < 0) ∧ (0 < x → y < 0 → x * y < 0) ∧ (x < 0 → y < 0 → 0 < x * y) :=
  ⟨pos_mul, neg_mul, mul_neg_, neg_neg_⟩
set_option maxHeartbeats 4000000 in
theorem tri_num {A B C D u b w : Int} (hu : u ≠ 0) (hb : b ≠ 0) (hw : w ≠ 0) (hA : A ≠ 0) (hB : B ≠ 0) (hC : C ≠ 0) (e1 : A + B + C = D) (e2 : A * u + B * b + C * w = 0) (hD : 0 ≤ D) :
    (if (u < 0 ∧ 0 < b ∧ 0 < C) ∨ (b < 0 ∧ 0 < u ∧ C < 0) then (if u < b then (1 : Int) else -1) else 0) + ((if (b < 0 ∧ 0 < w ∧ 0 < A) ∨ (w < 0 ∧ 0 < b ∧ A < 0) then (if b < w then (1 : Int) else -1) else 0) + (if (w < 0 ∧ 0 < u ∧ 0 < B) ∨ (u < 0 ∧ 0 < w ∧ B < 0) then (if w < u then (1 : Int) else -1) else 0)) =
    if 0 ≤ A ∧ 0 ≤ B ∧ 0 ≤ C then 1 else 0 := by
  obtain ⟨a1, a2, a3, a4⟩ := sgnf A u
  obtain ⟨b1, b2, b3, b4⟩ := sgnf B b
  obtain ⟨c1, c2, c3, c4⟩ := sgnf C w
  generalize A * u = x at *
  generalize B * b = y at *
  generalize C * w = z at *
  rcases Int.lt_or_gt_of_ne hu with u0 | u0 <;> rcases Int.lt_or_gt_of_ne hb with b0 | b0 <;> rcases Int.lt_or_gt_of_ne hw with w0 | w0 <;>
    rcases Int.lt_or_gt_of_ne hA with A0 | A0 <;> rcases Int.lt_or_gt_of_ne hB with B0 | B0 <;> rcases Int.lt_or_gt_of_ne hC with C0 | C0 <;>
    first | (exfalso; omega) | ((repeat' split) <;> omega)
/-- A triangle that turns left runs once round the samples that it holds. -/
theorem tri_wS {M : Int} {u b w : P} (hM0 : 0 < M) (D : 0 ≤ cr u b w) (f1 : Fine M u b) (f2 : Fine M b w) (f3 : Fine M w u) (m k : Nat) :
    wS M (smp m k) [(u, b), (b, w), (w, u)] = if 0 ≤ cr (gs M u) (gs M b) (smp m k) ∧ 0 ≤ cr (gs M b) (gs M w) (smp m k) ∧ 0 ≤ cr (gs M w) (gs M u) (smp m k) then 1 else 0 := by
  have e1 := bary1 (gs M u) (gs M b) (gs M w) (smp m k)
  have e2 := bary2 (gs M u) (gs M b) (gs M w) (smp m k)
  have hD : 0 ≤ cr (gs M u) (gs M b) (gs M w) := by rw [cr_gs]; exact nn (by omega) D
  have n1 := f1.ne m k
  have n2 := f2.ne m k
  have n3 := f3.ne m k
  have key := tri_num (A := cr (gs M b) (gs M w) (smp m k)) (B := cr (gs M w) (gs M u) (smp m k)) (C := cr (gs M u) (gs M b) (smp m k)) (D := cr (gs M u) (gs M b) (gs M w))
    (u := 2 * u.2 - (2 * (k : Int) + 1)) (b := 2 * b.2 - (2 * (k : Int) + 1)) (w := 2 * w.2 - (2 * (k : Int) + 1)) (by omega) (by omega) (by omega) n2 n3 n1 e1 (by
      rw [← e1] at e2
      rw [show (smp m k).2 = 2 * (k : Int) + 1 from rfl, show (gs M u).2 = 2 * u.2 from rfl, show (gs M b).2 = 2 * b.2 from rfl, show (gs M w).2 = 2 * w.2 from rfl] at e2
      grind) hD
  rw [wS_cons, wS_cons, wS_cons, wS_nil, Int.add_zero]
  unfold wE ray
  dsimp only
  generalize cr (gs M b) (gs M w) (smp m k) = A at *
  generalize cr (gs M w) (gs M u) (smp m k) = B at *
  generalize cr (gs M u) (gs M b) (smp m k) = C at *
  unfold smp gs
  dsimp only
  simp only [decide_eq_true_eq]
  have t1 : (2 * u.2 < 2 * (k : Int) + 1 ∧ 2 * (k : Int) + 1 < 2 * b.2 ∧ 0 < C ∨ 2 * b.2 < 2 * (k : Int) + 1 ∧ 2 * (k : Int) + 1 < 2 * u.2 ∧ C < 0) ↔ ((2 * u.2 - (2 * (k : Int) + 1) < 0 ∧ 0 < 2 * b.2 - (2 * (k : Int) + 1) ∧ 0 < C) ∨ (2 * b.2 - (2 * (k : Int) + 1) < 0 ∧ 0 < 2 * u.2 - (2 * (k : Int) + 1) ∧ C < 0)) := by omega
  have t2 : (2 * b.2 < 2 * (k : Int) + 1 ∧ 2 * (k : Int) + 1 < 2 * w.2 ∧ 0 < A ∨ 2 * w.2 < 2 * (k : Int) + 1 ∧ 2 * (k : Int) + 1 < 2 * b.2 ∧ A < 0) ↔ ((2 * b.2 - (2 * (k : Int) + 1) < 0 ∧ 0 < 2 * w.2 - (2 * (k : Int) + 1) ∧ 0 < A) ∨ (2 * w.2 - (2 * (k : Int) + 1) < 0 ∧ 0 < 2 * b.2 - (2 * (k : Int) + 1) ∧ A < 0)) := by omega
  have t3 : (2 * w.2 < 2 * (k : Int) + 1 ∧ 2 * (k : Int) + 1 < 2 * u.2 ∧ 0 < B ∨ 2 * u.2 < 2 * (k : Int) + 1 ∧ 2 * (k : Int) + 1 < 2 * w.2 ∧ B < 0) ↔ ((2 * w.2 - (2 * (k : Int) + 1) < 0 ∧ 0 < 2 * u.2 - (2 * (k : Int) + 1) ∧ 0 < B) ∨ (2 * u.2 - (2 * (k : Int) + 1) < 0 ∧ 0 < 2 * w.2 - (2 * (k : Int) + 1) ∧ B < 0)) := by omega
  have s1 : u.2 < b.2 ↔ 2 * u.2 - (2 * (k : Int) + 1) < 2 * b.2 - (2 * (k : Int) + 1) := by omega
  have s2 : b.2 < w.2 ↔ 2 * b.2 - (2 * (k : Int) + 1) < 2 * w.2 - (2 * (k : Int) + 1) := by omega
  have s3 : w.2 < u.2 ↔ 2 * w.2 - (2 * (k : Int) + 1) < 2 * u.2 - (2 * (k : Int) + 1) := by omega
  have t4 : (0 ≤ C ∧ 0 ≤ A ∧ 0 ≤ B) ↔ (0 ≤ A ∧ 0 ≤ B ∧ 0 ≤ C) := by omega
  simp only [t1, t2, t3, s1, s2, s3, t4]
  exact key
end Ears
end Go.Proofs.YtmdncaoilegnnaaGreat

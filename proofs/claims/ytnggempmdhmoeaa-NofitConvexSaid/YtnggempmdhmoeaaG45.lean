/- Plain geometry of simple polygons. Plain geometry of simple polygons. -/
import Derived.Test.YtnggempmdhmoeaaG41
import Derived.Test.YtnggempmdhmoeaaG40
namespace Go.Proofs.Ytnggempmdhmoeaa
set_option linter.unusedVariables false
set_option linter.unusedSimpArgs false
namespace Ears

theorem exists_min_ratio' {α : Type} {l : List α} {a s : α → Int} (h : l ≠ []) (ha : ∀ q ∈ l, 0 < a q) : ∃ v ∈ l, ∀ q ∈ l, s v * a q ≤ s q * a v := by
  induction l with
  | nil => exact absurd rfl h
  | cons x l ih =>
    by_cases hl : l = []
    · subst hl; exact ⟨x, by simp, fun q hq => by simp at hq; rw [hq]; omega⟩
    · obtain ⟨v, hv, h1⟩ := ih hl (fun q hq => ha q (by simp [hq]))
      by_cases c : s x * a v ≤ s v * a x
      · refine ⟨x, by simp, fun q hq => ?_⟩
        rcases List.mem_cons.1 hq with e | e
        · rw [e]; omega
        · have h2 := h1 q e
          have av := ha v (by simp [hv]); have ax := ha x (by simp); have aq := ha q (by simp [e])
          have x1 := Int.mul_le_mul_of_nonneg_right c (Int.le_of_lt aq)
          have x2 := Int.mul_le_mul_of_nonneg_right h2 (Int.le_of_lt ax)
          have : 0 ≤ a v * (s q * a x - s x * a q) := by grind
          have := sge av this
          omega
      · refine ⟨v, by simp [hv], fun q hq => ?_⟩
        rcases List.mem_cons.1 hq with e | e
        · rw [e]; omega
        · exact h1 q e

def xp (u v : P) : Int := u.1 * v.2 - u.2 * v.1
def sc {α : Type} (R : List (Int × α)) (f : α → Int) : Int := (R.map fun x => x.1 * f x.2).sum
theorem sc_append {α : Type} (R S : List (Int × α)) (f : α → Int) : sc (R ++ S) f = sc R f + sc S f := by simp [sc]
theorem sc_nil {α : Type} (f : α → Int) : sc [] f = 0 := rfl
theorem sc_cons {α : Type} (x : Int × α) (R : List (Int × α)) (f : α → Int) : sc (x :: R) f = x.1 * f x.2 + sc R f := by simp [sc]

theorem lag (v x y : P) : dt v v * xp x y = dt v x * xp v y - xp v x * dt v y := by unfold dt xp; grind
theorem jac (v x y : P) : xp x y * v.1 + xp y v * x.1 + xp v x * y.1 = 0 := by unfold xp; grind
theorem jac2 (v x y : P) : xp x y * v.2 + xp y v * x.2 + xp v x * y.2 = 0 := by unfold xp; grind
theorem xp_id (v x y z : P) : xp x z * xp v y = xp x y * xp v z + xp y z * xp v x := by unfold xp; grind

theorem dt_pos {v : P} (h : v ≠ (0, 0)) : 0 < dt v v := by
  unfold dt
  have s1 : 0 ≤ v.1 * v.1 := by rcases lt_ge v.1 0 with c | c; exact Int.le_of_lt (neg_neg_ c c); exact nn c c
  have s2 : 0 ≤ v.2 * v.2 := by rcases lt_ge v.2 0 with c | c; exact Int.le_of_lt (neg_neg_ c c); exact nn c c
  rcases Int.lt_or_eq_of_le (show 0 ≤ v.1 * v.1 + v.2 * v.2 by omega) with c | c
  · exact c
  · exfalso
    have e1 : v.1 * v.1 = 0 := by omega
    have e2 : v.2 * v.2 = 0 := by omega
    have f1 : v.1 = 0 := by rcases Int.mul_eq_zero.1 e1 with z | z <;> exact z
    have f2 : v.2 = 0 := by rcases Int.mul_eq_zero.1 e2 with z | z <;> exact z
    exact h (Prod.ext f1 f2)

/-- A combination of weights that are not negative gives nothing, with a positive weight at i0. -/
theorem one_rel {α : Type} {D : List α} {f : α → P} (hD : ∀ u : P, u ≠ (0, 0) → ∃ i ∈ D, 0 < dt u (f i)) {i0 : α} (h0 : i0 ∈ D) :
    ∃ R : List (Int × α), (∀ x ∈ R, 0 ≤ x.1 ∧ x.2 ∈ D) ∧ sc R (fun i => (f i).1) = 0 ∧ sc R (fun i => (f i).2) = 0 ∧ ∃ c, 0 < c ∧ (c, i0) ∈ R := by
  classical
  generalize hv : f i0 = v
  by_cases z : v = (0, 0)
  · refine ⟨[(1, i0)], ?_, ?_, ?_, 1, by omega, by simp⟩
    · intro x hx; simp at hx; subst hx; exact ⟨by simp, h0⟩
    · rw [sc_cons, sc_nil, hv, z]; rfl
    · rw [sc_cons, sc_nil, hv, z]; rfl
  · have vv := dt_pos z
    by_cases opp0 : ∃ w ∈ D, xp v (f w) = 0 ∧ dt v (f w) < 0
    · obtain ⟨w, hw, e1, e2⟩ := opp0
      have l1 : dt (f w) (f w) * v.1 = dt v (f w) * (f w).1 := by
        have : dt (f w) (f w) * v.1 - dt v (f w) * (f w).1 = xp v (f w) * (f w).2 := by unfold dt xp; grind
        rw [e1] at this; omega
      have l2 : dt (f w) (f w) * v.2 = dt v (f w) * (f w).2 := by
        have : dt (f w) (f w) * v.2 - dt v (f w) * (f w).2 = - (xp v (f w) * (f w).1) := by unfold dt xp; grind
        rw [e1] at this; omega
      have wne : f w ≠ (0, 0) := by intro e; rw [e] at e2; unfold dt at e2; simp at e2
      have ww := dt_pos wne
      refine ⟨[(dt (f w) (f w), i0), (- dt v (f w), w)], ?_, ?_, ?_, _, ww, by simp⟩
      · intro x hx; simp at hx; rcases hx with rfl | rfl
        · exact ⟨Int.le_of_lt ww, h0⟩
        · exact ⟨by simp only; omega, hw⟩
      · rw [sc_cons, sc_cons, sc_nil]; simp only [hv]; rw [Int.neg_mul]; omega
      · rw [sc_cons, sc_cons, sc_nil]; simp only [hv]; rw [Int.neg_mul]; omega
    · have nopp : ∀ w ∈ D, xp v (f w) = 0 → 0 ≤ dt v (f w) := by
        intro w hw e
        rcases lt_ge (dt v (f w)) 0 with c | c
        · exact absurd ⟨w, hw, e, c⟩ opp0
        · exact c
      have sideL : D.filter (fun i => decide (0 < xp v (f i))) ≠ [] := by
        obtain ⟨i, hi, hd⟩ := hD (-v.2, v.1) (by intro e; injection e with e1 e2; exact z (Prod.ext e2 (by omega)))
        intro e
        have : i ∈ D.filter (fun i => decide (0 < xp v (f i))) := by
          rw [List.mem_filter]; refine ⟨hi, decide_eq_true ?_⟩
          have : xp v (f i) = dt (-v.2, v.1) (f i) := by unfold xp dt; grind
          omega
        rw [e] at this; simp at this
      have sideR : D.filter (fun i => decide (xp v (f i) < 0)) ≠ [] := by
        obtain ⟨i, hi, hd⟩ := hD (v.2, -v.1) (by intro e; injection e with e1 e2; exact z (Prod.ext (by omega) e1))
        intro e
        have : i ∈ D.filter (fun i => decide (xp v (f i) < 0)) := by
          rw [List.mem_filter]; refine ⟨hi, decide_eq_true ?_⟩
          have : xp v (f i) = - dt (v.2, -v.1) (f i) := by unfold xp dt; grind
          omega
        rw [e] at this; simp at this
      obtain ⟨w1, hw1, m1⟩ := exists_min_ratio' (a := fun i => xp v (f i)) (s := fun i => dt v (f i)) sideL (fun q hq => by
        rw [List.mem_filter] at hq; exact of_decide_eq_true hq.2)
      obtain ⟨w2, hw2, m2⟩ := exists_min_ratio' (a := fun i => - xp v (f i)) (s := fun i => dt v (f i)) sideR (fun q hq => by
        rw [List.mem_filter] at hq; have := of_decide_eq_true hq.2; omega)
      rw [List.mem_filter] at hw1 hw2
      have g1 := of_decide_eq_true hw1.2
      have g2 := of_decide_eq_true hw2.2
      have k : 0 < xp (f w1) (f w2) := by
        rcases lt_ge 0 (xp (f w1) (f w2)) with c | c
        · exact c
        · exfalso
          have w1ne : f w1 ≠ (0, 0) := by intro e; rw [e] at g1; unfold xp at g1; simp at g1
          obtain ⟨w, hw, hd⟩ := hD (-(f w1).2, (f w1).1) (by intro e; injection e with e1 e2; exact w1ne (Prod.ext e2 (by omega)))
          have hx : 0 < xp (f w1) (f w) := by
            have : xp (f w1) (f w) = dt (-(f w1).2, (f w1).1) (f w) := by unfold xp dt; grind
            omega
          have L := lag v (f w1) (f w)
          rcases Int.lt_trichotomy (xp v (f w)) 0 with q | q | q
          · have mm := m2 w (by rw [List.mem_filter]; exact ⟨hw, decide_eq_true q⟩)
            have L2 := lag v (f w) (f w2)
            have c2 : 0 ≤ xp (f w2) (f w) := by
              have e : xp (f w2) (f w) = - xp (f w) (f w2) := by unfold xp; grind
              rw [e]
              rcases lt_ge 0 (xp (f w) (f w2)) with r | r
              · have := pos_mul vv r
                rw [Int.mul_neg, Int.mul_neg] at mm
                rw [Int.mul_comm (xp v (f w))] at L2
                omega
              · omega
            have id := xp_id v (f w1) (f w2) (f w)
            have t1 := mul_neg_ hx g2
            have t2 := Int.mul_nonneg_of_nonpos_of_nonpos c (Int.le_of_lt q)
            have t3 := nn c2 (Int.le_of_lt g1)
            omega
          · rw [q] at L
            have := nopp w hw q
            have t1 := pos_mul vv hx
            have t2 := nn (Int.le_of_lt g1) this
            omega
          · have mm := m1 w (by rw [List.mem_filter]; exact ⟨hw, decide_eq_true q⟩)
            have t1 := pos_mul vv hx
            rw [Int.mul_comm (xp v (f w1))] at L
            omega
      refine ⟨[(xp (f w1) (f w2), i0), (xp (f w2) v, w1), (xp v (f w1), w2)], ?_, ?_, ?_, _, k, by simp⟩
      · have e : xp (f w2) v = - xp v (f w2) := by unfold xp; grind
        intro x hx; simp at hx; rcases hx with rfl | rfl | rfl
        · exact ⟨Int.le_of_lt k, h0⟩
        · exact ⟨by simp only; omega, hw1.1⟩
        · exact ⟨Int.le_of_lt g1, hw2.1⟩
      · rw [sc_cons, sc_cons, sc_cons, sc_nil]; simp only [hv]
        have := jac v (f w1) (f w2); omega
      · rw [sc_cons, sc_cons, sc_cons, sc_nil]; simp only [hv]
        have := jac2 v (f w1) (f w2); omega

/-- The same with a positive weight everywhere. -/
theorem all_rel {α : Type} {D : List α} {f : α → P} (hD : ∀ u : P, u ≠ (0, 0) → ∃ i ∈ D, 0 < dt u (f i)) :
    ∃ R : List (Int × α), (∀ x ∈ R, 0 ≤ x.1 ∧ x.2 ∈ D) ∧ sc R (fun i => (f i).1) = 0 ∧ sc R (fun i => (f i).2) = 0 ∧ ∀ i ∈ D, ∃ c, 0 < c ∧ (c, i) ∈ R := by
  have key : ∀ L : List α, (∀ i ∈ L, i ∈ D) → ∃ R : List (Int × α), (∀ x ∈ R, 0 ≤ x.1 ∧ x.2 ∈ D) ∧ sc R (fun i => (f i).1) = 0 ∧ sc R (fun i => (f i).2) = 0 ∧ ∀ i ∈ L, ∃ c, 0 < c ∧ (c, i) ∈ R := by
    intro L
    induction L with
    | nil => intro _; exact ⟨[], by simp, rfl, rfl, by simp⟩
    | cons i L ih =>
      intro h
      obtain ⟨R, r1, r2, r3, r4⟩ := ih (fun j hj => h j (by simp [hj]))
      obtain ⟨S, s1, s2, s3, c, hc, hs⟩ := one_rel hD (h i (by simp))
      refine ⟨S ++ R, ?_, by rw [sc_append, s2, r2]; rfl, by rw [sc_append, s3, r3]; rfl, ?_⟩
      · intro x hx
        rcases List.mem_append.1 hx with g | g
        · exact s1 x g
        · exact r1 x g
      · intro j hj
        rcases List.mem_cons.1 hj with e | e
        · subst e; exact ⟨c, hc, by simp [hs]⟩
        · obtain ⟨c', hc', hm⟩ := r4 j e; exact ⟨c', hc', by simp [hm]⟩
  exact key D (fun i hi => hi)

/-- The side of a scaled point X / N with respect to the line ab. -/
def crN (a b X : P) (N : Int) : Int := (b.1 - a.1) * (X.2 - N * a.2) - (b.2 - a.2) * (X.1 - N * a.1)

theorem sc_pos {α : Type} {R : List (Int × α)} {g : α → Int} (h : ∀ x ∈ R, 0 ≤ x.1 ∧ 0 ≤ g x.2) {c : Int} {i : α} (hc : 0 < c) (hi : (c, i) ∈ R) (hg : 0 < g i) : 0 < sc R g := by
  induction R with
  | nil => simp at hi
  | cons x R ih =>
    rw [sc_cons]
    have nnR : ∀ R : List (Int × α), (∀ x ∈ R, 0 ≤ x.1 ∧ 0 ≤ g x.2) → 0 ≤ sc R g := by
      intro R
      induction R with
      | nil => intro _; rw [sc_nil]; omega
      | cons y R ih2 =>
        intro h
        rw [sc_cons]
        have := ih2 (fun x hx => h x (by simp [hx]))
        have hy := h y (by simp)
        have := nn hy.1 hy.2
        omega
    rcases List.mem_cons.1 hi with e | e
    · subst e
      have := pos_mul hc hg
      have := nnR R (fun x hx => h x (by simp [hx]))
      simp only; omega
    · have := ih (fun x hx => h x (by simp [hx])) e
      have hx := h x (by simp)
      have := nn hx.1 hx.2
      omega

theorem sc_lin {α : Type} (R : List (Int × α)) (f g h : α → Int) (A B C : Int) (e : ∀ i, h i = A * f i + B * g i + C) : sc R h = A * sc R f + B * sc R g + C * sc R (fun _ => 1) := by
  induction R with
  | nil => simp [sc_nil]
  | cons x R ih => rw [sc_cons, sc_cons, sc_cons, sc_cons, ih, e]; grind

theorem crN_sc {α : Type} (R : List (Int × α)) (p : α → P) (a b : P) : crN a b (sc R (fun i => (p i).1), sc R (fun i => (p i).2)) (sc R fun _ => 1) = sc R (fun i => cr a b (p i)) := by
  rw [sc_lin R (fun i => (p i).1) (fun i => (p i).2) (fun i => cr a b (p i)) (-(b.2 - a.2)) (b.1 - a.1) ((b.2 - a.2) * a.1 - (b.1 - a.1) * a.2) (fun i => by unfold cr; grind)]
  unfold crN; grind

/-- A common inner point of two polygons, seen from all sides. -/
theorem common {a b : List P} {d : P} (hB : Blk a b d) : ∃ (X : P) (N : Int), 0 < N ∧
    (∀ x y : P, (∀ p ∈ a, 0 ≤ cr x y p) → (∃ p ∈ a, 0 < cr x y p) → 0 < crN x y X N) ∧
    (∀ x y : P, (∀ q ∈ b, 0 ≤ cr x y (ad q d)) → (∃ q ∈ b, 0 < cr x y (ad q d)) → 0 < crN x y X N) := by
  obtain ⟨D, hDm⟩ : ∃ D : List (P × P), ∀ i, i ∈ D ↔ i.1 ∈ a ∧ i.2 ∈ b := ⟨a.flatMap (fun p => b.map fun q => (p, q)), fun i => by
    rw [List.mem_flatMap]
    constructor
    · rintro ⟨p, hp, h⟩; obtain ⟨q, hq, rfl⟩ := List.mem_map.1 h; exact ⟨hp, hq⟩
    · rintro ⟨h1, h2⟩; exact ⟨i.1, h1, List.mem_map.2 ⟨i.2, h2, rfl⟩⟩⟩
  obtain ⟨R, r1, r2, r3, r4⟩ := all_rel (D := D) (f := fun i => sb (sb i.1 i.2) d) (fun u hu => by
    obtain ⟨p, hp, q, hq, h⟩ := hB u hu
    exact ⟨(p, q), (hDm _).2 ⟨hp, hq⟩, h⟩)
  have e1 : sc R (fun i => (i.1).1) = sc R (fun i => (ad i.2 d).1) := by
    have h := sc_lin R (fun i => (i.1).1) (fun i => (ad i.2 d).1) (fun i => (sb (sb i.1 i.2) d).1) 1 (-1) 0 (fun i => by unfold sb ad; simp only; omega)
    rw [r2] at h; omega
  have e2 : sc R (fun i => (i.1).2) = sc R (fun i => (ad i.2 d).2) := by
    have h := sc_lin R (fun i => (i.1).2) (fun i => (ad i.2 d).2) (fun i => (sb (sb i.1 i.2) d).2) 1 (-1) 0 (fun i => by unfold sb ad; simp only; omega)
    rw [r3] at h; omega
  obtain ⟨p0, hp0, q0, hq0, _⟩ := hB (1, 0) (by simp)
  refine ⟨(sc R (fun i => (i.1).1), sc R (fun i => (i.1).2)), sc R (fun _ => 1), ?_, ?_, ?_⟩
  · obtain ⟨c, hc, hm⟩ := r4 (p0, q0) ((hDm _).2 ⟨hp0, hq0⟩)
    exact sc_pos (fun x hx => ⟨(r1 x hx).1, by omega⟩) hc hm (by omega)
  · intro x y h1 ⟨p, hp, h2⟩
    rw [crN_sc R (fun i => i.1)]
    obtain ⟨c, hc, hm⟩ := r4 (p, q0) ((hDm _).2 ⟨hp, hq0⟩)
    exact sc_pos (fun z hz => ⟨(r1 z hz).1, h1 _ ((hDm _).1 (r1 z hz).2).1⟩) hc hm h2
  · intro x y h1 ⟨q, hq, h2⟩
    rw [e1, e2, crN_sc R (fun i => ad i.2 d)]
    obtain ⟨c, hc, hm⟩ := r4 (p0, q) ((hDm _).2 ⟨hp0, hq⟩)
    exact sc_pos (fun z hz => ⟨(r1 z hz).1, h1 _ ((hDm _).1 (r1 z hz).2).2⟩) hc hm h2
end Ears
end Go.Proofs.Ytnggempmdhmoeaa

namespace Go.Proofs.Ytnggempmdhmoeaa
set_option linter.unusedVariables false
set_option linter.unusedSimpArgs false
namespace Ears
open Go.RowKit

theorem mul_b {x y : Int} {A B : Nat} (h1 : x.natAbs ≤ A) (h2 : y.natAbs ≤ B) : (x * y).natAbs ≤ A * B := by
  rw [Int.natAbs_mul]; exact Nat.mul_le_mul h1 h2

/-- A point nearby that lies on no line through two of the points. -/
theorem generic {X : P} {N : Int} (hN : 0 < N) : ∃ (X' : P) (N' : Int), 0 < N' ∧
    (∀ x y : P, (y.1 - x.1).natAbs ≤ 2097152 → (y.2 - x.2).natAbs ≤ 2097152 → 0 < crN x y X N → 0 < crN x y X' N') ∧
    (∀ x y : P, (y.1 - x.1).natAbs ≤ 2097152 → (y.2 - x.2).natAbs ≤ 2097152 → x ≠ y → crN x y X' N' ≠ 0) := by
  refine ⟨(17592186044416 * X.1 + 1, 17592186044416 * X.2 + 4194304), 17592186044416 * N, by omega, ?_, ?_⟩
  · intro x y h1 h2 h
    have e : crN x y (17592186044416 * X.1 + 1, 17592186044416 * X.2 + 4194304) (17592186044416 * N) = 17592186044416 * crN x y X N + ((y.1 - x.1) * 4194304 - (y.2 - x.2)) := by unfold crN; grind
    rw [e]
    generalize crN x y X N = c at h
    omega
  · intro x y h1 h2 hne
    have e : crN x y (17592186044416 * X.1 + 1, 17592186044416 * X.2 + 4194304) (17592186044416 * N) = 17592186044416 * crN x y X N + ((y.1 - x.1) * 4194304 - (y.2 - x.2)) := by unfold crN; grind
    rw [e]
    intro z
    generalize crN x y X N = c at z
    have d : y.1 - x.1 = 0 ∧ y.2 - x.2 = 0 := by omega
    exact hne (Prod.ext (by omega) (by omega))

theorem crN_sum (u b w X : P) (N : Int) : crN u b X N + crN b w X N + crN w u X N = N * cr u b w := by unfold crN cr; grind
theorem crN_swap (u w X : P) (N : Int) : crN u w X N = - crN w u X N := by unfold crN; grind

theorem erase_edges {cur : List P} {k : Nat} (h3 : 3 ≤ cur.length) (hk : k < cur.length) :
    (gt cur ((k + cur.length - 1) % cur.length), gt cur k) ∈ E cur ∧ (gt cur k, gt cur ((k + 1) % cur.length)) ∈ E cur ∧
    ∀ e ∈ E (cur.eraseIdx k), e ∈ E cur ∨ e = (gt cur ((k + cur.length - 1) % cur.length), gt cur ((k + 1) % cur.length)) := by
  obtain ⟨m, h1, h2⟩ := idx_rot h3 hk
  have e1 : cur = cur.take k ++ cur.drop k := (List.take_append_drop k cur).symm
  have up : ∀ e, e ∈ E (cur.drop k ++ cur.take k) → e ∈ E cur := fun e he => by
    have := E_rot_mem he; rwa [← e1] at this
  refine ⟨up _ (by rw [h1]; exact T.ub), up _ (by rw [h1]; exact T.bw), fun e he => ?_⟩
  rw [erase_rot] at he
  have he2 := E_rot_mem he
  rw [h2, E_cut, List.mem_append] at he2
  rcases he2 with g | g
  · left; exact up e (by rw [h1]; exact T.che g)
  · right; simpa using g

/-- A point to the left of all sides lies in one of the triangles. -/
theorem split_cover {X : P} {N : Int} (hN : 0 < N) : ∀ (f : Nat) (cur : List P) (ts r : List (List P)), Good cur → cur.length ≤ f + 3 → (∀ e ∈ E cur, 0 < crN e.1 e.2 X N) → (∀ p ∈ cur, ∀ q ∈ cur, p ≠ q → crN p q X N ≠ 0) → splitW f cur ts = some r → ∃ t ∈ r, ∀ e ∈ E t, 0 < crN e.1 e.2 X N
  | f, cur, ts, r, h, hf, hX, hG, hs => by
    by_cases h3 : cur.length ≤ 3
    · rw [splitW_end h3] at hs
      injection hs with hs
      exact ⟨cur, by rw [← hs]; simp, hX⟩
    · cases f with
      | zero => omega
      | succ f =>
        have near : ∀ j, j < cur.length → nearB 1048576 (gt cur j) := fun j hj => h.near _ (gt_in hj)
        have sub : ∀ i, ∀ q ∈ cur.eraseIdx i, q ∈ cur := fun i q hq => List.mem_of_mem_eraseIdx hq
        rcases idxOf_cases (strW cur cur.length) cur.length with g | ⟨k, hk, g⟩
        · rcases idxOf_cases (freeW cur cur.length) cur.length with g2 | ⟨k, hk, g2⟩
          · rw [splitW_none rfl h3 (by rw [g]; omega) (by rw [g2]; omega)] at hs; cases hs
          · rw [splitW_ear rfl h3 (by rw [g]; omega) g2] at hs
            have hE := (free_iff h hk).1 (idx_found g2).2
            have len : (cur.eraseIdx k).length = cur.length - 1 := by rw [List.length_eraseIdx, if_pos hk]
            obtain ⟨e1, e2, e3⟩ := erase_edges (by omega) hk
            generalize hu : gt cur ((k + cur.length - 1) % cur.length) = u at *
            generalize hb : gt cur k = b at *
            generalize hw : gt cur ((k + 1) % cur.length) = w at *
            have uw : u ≠ w := by rintro rfl; have := hE.1; rw [cr_same1] at this; omega
            have gen := hG w (E_mem e2).2 u (E_mem e1).1 (Ne.symm uw)
            rcases Int.lt_or_gt_of_ne gen with c | c
            · have gE := good_ear h hk (by omega) (by rw [hu, hb, hw]; exact hE.1) (by rw [hu, hb, hw]; exact hE.2)
              exact split_cover hN f (cur.eraseIdx k) _ r gE (by omega) (fun e he => by
                rcases e3 e he with q | q
                · exact hX e q
                · rw [q]; simp only; rw [crN_swap]; omega) (fun p hp q hq => hG p (sub k p hp) q (sub k q hq)) hs
            · have mem : ∀ (f : Nat) (cur : List P) (ts r : List (List P)), splitW f cur ts = some r → ∀ t ∈ ts, t ∈ r := by
                intro f
                induction f with
                | zero => intro cur ts r h t ht; rw [splitW] at h; injection h with h; rw [← h]; simp [ht]
                | succ f ih =>
                  intro cur ts r h t ht
                  rw [splitW] at h
                  split at h
                  · injection h with h; rw [← h]; simp [ht]
                  · split at h
                    · exact ih _ _ _ h t ht
                    · split at h
                      · cases h
                      · exact ih _ _ _ h t (by simp [ht])
              refine ⟨[u, b, w], mem _ _ _ _ hs _ (by unfold triW; rw [hu, hb, hw]; simp), ?_⟩
              intro e he
              rw [show E [u, b, w] = [(u, b), (b, w), (w, u)] from rfl] at he
              simp only [List.mem_cons, List.not_mem_nil, or_false] at he
              rcases he with rfl | rfl | rfl
              · exact hX _ e1
              · exact hX _ e2
              · exact c
        · rw [splitW_str rfl h3 g] at hs
          have hz := (idx_found g).2
          unfold strW at hz
          rw [cross_near (near _ (Nat.mod_lt _ (by omega))) (near _ hk) (near _ (Nat.mod_lt _ (by omega))), crP_eq, beq_iff_eq] at hz
          have len : (cur.eraseIdx k).length = cur.length - 1 := by rw [List.length_eraseIdx, if_pos hk]
          obtain ⟨e1, e2, e3⟩ := erase_edges (by omega) hk
          have x1 := hX _ e1
          have x2 := hX _ e2
          have sm := crN_sum (gt cur ((k + cur.length - 1) % cur.length)) (gt cur k) (gt cur ((k + 1) % cur.length)) X N
          rw [hz, Int.mul_zero] at sm
          exact split_cover hN f (cur.eraseIdx k) ts r (good_flat h hk (by omega) hz) (by omega) (fun e he => by
            rcases e3 e he with q | q
            · exact hX e q
            · rw [q]; simp only at x1 x2 ⊢; rw [crN_swap]; omega) (fun p hp q hq => hG p (sub k p hp) q (sub k q hq)) hs
end Ears
end Go.Proofs.Ytnggempmdhmoeaa

/- Plain geometry of simple polygons. Plain geometry of simple polygons. Plain geometry of simple polygons. Plain geometry of simple polygons. -/
import Derived.Test.YtmdncaoilegnnaaGreatUG41
import Derived.Test.YtmdncaoilegnnaaGreatUG40
namespace Go.Proofs.YtmdncaoilegnnaaGreat
set_option linter.unusedVariables false
set_option linter.unusedSimpArgs false
set_option linter.unusedVariables false
set_option linter.unusedSimpArgs false
namespace Ears

theorem exists_min_ratio' {α : Type} {l : List α} {a s : α → Int} (h : l ≠ []) (ha : ∀ q ∈ l, 0 < a q) : ∃ v ∈ l, ∀ q ∈ l, s v * a q ≤ s q * a v := by
  induction l with
  | nil => exact absurd rfl h
  | cons x l ih =>
    by_cases hl : l = []
    · subst hl; exact ⟨x, by simp, fun q hq => by simp at hq; rw [hq]; omega⟩
    · obtain ⟨v, hv, h1⟩ := ih hl (fun q hq => ha q (by simp [hq]))
      by_cases c : s x * a v ≤ s v * a x
      · refine ⟨x, by simp, fun q hq => ?_⟩
        rcases List.mem_cons.1 hq with e | e
        · rw [e]; omega
        · have h2 := h1 q e
          have av := ha v (by simp [hv]); have ax := ha x (by simp); have aq := ha q (by simp [e])
          have x1 := Int.mul_le_mul_of_nonneg_right c (Int.le_of_lt aq)
          have x2 := Int.mul_le_mul_of_nonneg_right h2 (Int.le_of_lt ax)
          have : 0 ≤ a v * (s q * a x - s x * a q) := by grind
          have := sge av this
          omega
      · refine ⟨v, by simp [hv], fun q hq => ?_⟩
        rcases List.mem_cons.1 hq with e | e
        · rw [e]; omega
        · exact h1 q e
def xp (u v : P) : Int := u.1 * v.2 - u.2 * v.1
def sc {α : Type} (R : List (Int × α)) (f : α → Int) : Int := (R.map fun x => x.1 * f x.2).sum
theorem sc_append {α : Type} (R S : List (Int × α)) (f : α → Int) : sc (R ++ S) f = sc R f + sc S f := by simp [sc]
theorem sc_nil {α : Type} (f : α → Int) : sc [] f = 0 := rfl
theorem sc_cons {α : Type} (x : Int × α) (R : List (Int × α)) (f : α → Int) : sc (x :: R) f = x.1 * f x.2 + sc R f := by simp [sc]
theorem lag (v x y : P) : dt v v * xp x y = dt v x * xp v y - xp v x * dt v y := by unfold dt xp; grind
theorem jac (v x y : P) : xp x y * v.1 + xp y v * x.1 + xp v x * y.1 = 0 := by unfold xp; grind
theorem jac2 (v x y : P) : xp x y * v.2 + xp y v * x.2 + xp v x * y.2 = 0 := by unfold xp; grind
theorem xp_id (v x y z : P) : xp x z * xp v y = xp x y * xp v z + xp y z * xp v x := by unfold xp; grind
theorem dt_pos {v : P} (h : v ≠ (0, 0)) : 0 < dt v v := by
  unfold dt
  have s1 : 0 ≤ v.1 * v.1 := by rcases lt_ge v.1 0 with c | c; exact Int.le_of_lt (neg_neg_ c c); exact nn c c
  have s2 : 0 ≤ v.2 * v.2 := by rcases lt_ge v.2 0 with c | c; exact Int.le_of_lt (neg_neg_ c c); exact nn c c
  rcases Int.lt_or_eq_of_le (show 0 ≤ v.1 * v.1 + v.2 * v.2 by omega) with c | c
  · exact c
  · exfalso
    have e1 : v.1 * v.1 = 0 := by omega
    have e2 : v.2 * v.2 = 0 := by omega
    have f1 : v.1 = 0 := by rcases Int.mul_eq_zero.1 e1 with z | z <;> exact z
    have f2 : v.2 = 0 := by rcases Int.mul_eq_zero.1 e2 with z | z <;> exact z
    exact h (Prod.ext f1 f2)
/-- A combination of weights that are not negative gives nothing, with a positive weight at i0. -/
theorem one_rel {α : Type} {D : List α} {f : α → P} (hD : ∀ u : P, u ≠ (0, 0) → ∃ i ∈ D, 0 < dt u (f i)) {i0 : α} (h0 : i0 ∈ D) :
    ∃ R : List (Int × α), (∀ x ∈ R, 0 ≤ x.1 ∧ x.2 ∈ D) ∧ sc R (fun i => (f i).1) = 0 ∧ sc R (fun i => (f i).2) = 0 ∧ ∃ c, 0 < c ∧ (c, i0) ∈ R := by
  classical
  generalize hv : f i0 = v
  by_cases z : v = (0, 0)
  · refine ⟨[(1, i0)], ?_, ?_, ?_, 1, by omega, by simp⟩
    · intro x hx; simp at hx; subst hx; exact ⟨by simp, h0⟩
    · rw [sc_cons, sc_nil, hv, z]; rfl
    · rw [sc_cons, sc_nil, hv, z]; rfl
  · have vv := dt_pos z
    by_cases opp0 : ∃ w ∈ D, xp v (f w) = 0 ∧ dt v (f w) < 0
    · obtain ⟨w, hw, e1, e2⟩ := opp0
      have l1 : dt (f w) (f w) * v.1 = dt v (f w) * (f w).1 := by
        have : dt (f w) (f w) * v.1 - dt v (f w) * (f w).1 = xp v (f w) * (f w).2 := by unfold dt xp; grind
        rw [e1] at this; omega
      have l2 : dt (f w) (f w) * v.2 = dt v (f w) * (f w).2 := by
        have : dt (f w) (f w) * v.2 - dt v (f w) * (f w).2 = - (xp v (f w) * (f w).1) := by unfold dt xp; grind
        rw [e1] at this; omega
      have wne : f w ≠ (0, 0) := by intro e; rw [e] at e2; unfold dt at e2; simp at e2
      have ww := dt_pos wne
      refine ⟨[(dt (f w) (f w), i0), (- dt v (f w), w)], ?_, ?_, ?_, _, ww, by simp⟩
      · intro x hx; simp at hx; rcases hx with rfl | rfl
        · exact ⟨Int.le_of_lt ww, h0⟩
        · exact ⟨by simp only; omega, hw⟩
      · rw [sc_cons, sc_cons, sc_nil]; simp only [hv]; rw [Int.neg_mul]; omega
      · rw [sc_cons, sc_cons, sc_nil]; simp only [hv]; rw [Int.neg_mul]; omega
    · have nopp : ∀ w ∈ D, xp v (f w) = 0 → 0 ≤ dt v (f w) := by
        intro w hw e
        rcases lt_ge (dt v (f w)) 0 with c | c
        · exact absurd ⟨w, hw, e, c⟩ opp0
        · exact c
      have sideL : D.filter (fun i => decide (0 < xp v (f i))) ≠ [] := by
        obtain ⟨i, hi, hd⟩ := hD (-v.2, v.1) (by intro e; injection e with e1 e2; exact z (Prod.ext e2 (by omega)))
        intro e
        have : i ∈ D.filter (fun i => decide (0 < xp v (f i))) := by
          rw [List.mem_filter]; refine ⟨hi, decide_eq_true ?_⟩
          have : xp v (f i) = dt (-v.2, v.1) (f i) := by unfold xp dt; grind
          omega
        rw [e] at this; simp at this
      have sideR : D.filter (fun i => decide (xp v (f i) < 0)) ≠ [] := by
        obtain ⟨i, hi, hd⟩ := hD (v.2, -v.1) (by intro e; injection e with e1 e2; exact z (Prod.ext (by omega) e1))
        intro e
        have : i ∈ D.filter (fun i => decide (xp v (f i) < 0)) := by
          rw [List.mem_filter]; refine ⟨hi, decide_eq_true ?_⟩
          have : xp v (f i) = - dt (v.2, -v.1) (f i) := by unfold xp dt; grind
          omega
        rw [e] at this; simp at this
      obtain ⟨w1, hw1, m1⟩ := exists_min_ratio' (a := fun i => xp v (f i)) (s := fun i => dt v (f i)) sideL (fun q hq => by
        rw [List.mem_filter] at hq; exact of_decide_eq_true hq.2)
      obtain ⟨w2, hw2, m2⟩ := exists_min_ratio' (a := fun i => - xp v (f i)) (s := fun i => dt v (f i)) sideR (fun q hq => by
        rw [List.mem_filter] at hq; have := of_decide_eq_true hq.2; omega)
      rw [List.mem_filter] at hw1 hw2
      have g1 := of_decide_eq_true hw1.2
      have g2 := of_decide_eq_true hw2.2
      have k : 0 < xp (f w1) (f w2) := by
        rcases lt_ge 0 (xp (f w1) (f w2)) with c | c
        · exact c
        · exfalso
          have w1ne : f w1 ≠ (0, 0) := by intro e; rw [e] at g1; unfold xp at g1; simp at g1
          obtain ⟨w, hw, hd⟩ := hD (-(f w1).2, (f w1).1) (by intro e; injection e with e1 e2; exact w1ne (Prod.ext e2 (by omega)))
          have hx : 0 < xp (f w1) (f w) := by
            have : xp (f w1) (f w) = dt (-(f w1).2, (f w1).1) (f w) := by unfold xp dt; grind
            omega
          have L := lag v (f w1) (f w)
          rcases Int.lt_trichotomy (xp v (f w)) 0 with q | q | q
          · have mm := m2 w (by rw [List.mem_filter]; exact ⟨hw, decide_eq_true q⟩)
            have L2 := lag v (f w) (f w2)
            have c2 : 0 ≤ xp (f w2) (f w) := by
              have e : xp (f w2) (f w) = - xp (f w) (f w2) := by unfold xp; grind
              rw [e]
              rcases lt_ge 0 (xp (f w) (f w2)) with r | r
              · have := pos_mul vv r
                rw [Int.mul_neg, Int.mul_neg] at mm
                rw [Int.mul_comm (xp v (f w))] at L2
                omega
              · omega
            have id := xp_id v (f w1) (f w2) (f w)
            have t1 := mul_neg_ hx g2
            have t2 := Int.mul_nonneg_of_nonpos_of_nonpos c (Int.le_of_lt q)
            have t3 := nn c2 (Int.le_of_lt g1)
            omega
          · rw [q] at L
            have := nopp w hw q
            have t1 := pos_mul vv hx
            have t2 := nn (Int.le_of_lt g1) this
            omega
          · have mm := m1 w (by rw [List.mem_filter]; exact ⟨hw, decide_eq_true q⟩)
            have t1 := pos_mul vv hx
            rw [Int.mul_comm (xp v (f w1))] at L
            omega
      refine ⟨[(xp (f w1) (f w2), i0), (xp (f w2) v, w1), (xp v (f w1), w2)], ?_, ?_, ?_, _, k, by simp⟩
      · have e : xp (f w2) v = - xp v (f w2) := by unfold xp; grind
        intro x hx; simp at hx; rcases hx with rfl | rfl | rfl
        · exact ⟨Int.le_of_lt k, h0⟩
        · exact ⟨by simp only; omega, hw1.1⟩
        · exact ⟨Int.le_of_lt g1, hw2.1⟩
      · rw [sc_cons, sc_cons, sc_cons, sc_nil]; simp only [hv]
        have := jac v (f w1) (f w2); omega
      · rw [sc_cons, sc_cons, sc_cons, sc_nil]; simp only [hv]
        have := jac2 v (f w1) (f w2); omega
/-- The same with a positive weight everywhere. -/
theorem all_rel {α : Type} {D : List α} {f : α → P} (hD : ∀ u : P, u ≠ (0, 0) → ∃ i ∈ D, 0 < dt u (f i)) :
    ∃ R : List (Int × α), (∀ x ∈ R, 0 ≤ x.1 ∧ x.2 ∈ D) ∧ sc R (fun i => (f i).1) = 0 ∧ sc R (fun i => (f i).2) = 0 ∧ ∀ i ∈ D, ∃ c, 0 < c ∧ (c, i) ∈ R := by
  have key : ∀ L : List α, (∀ i ∈ L, i ∈ D) → ∃ R : List (Int × α), (∀ x ∈ R, 0 ≤ x.1 ∧ x.2 ∈ D) ∧ sc R (fun i => (f i).1) = 0 ∧ sc R (fun i => (f i).2) = 0 ∧ ∀ i ∈ L, ∃ c, 0 < c ∧ (c, i) ∈ R := by
    intro L
    induction L with
    | nil => intro _; exact ⟨[], by simp, rfl, rfl, by simp⟩
    | cons i L ih =>
      intro h
      obtain ⟨R, r1, r2, r3, r4⟩ := ih (fun j hj => h j (by simp [hj]))
      obtain ⟨S, s1, s2, s3, c, hc, hs⟩ := one_rel hD (h i (by simp))
      refine ⟨S ++ R, ?_, by rw [sc_append, s2, r2]; rfl, by rw [sc_append, s3, r3]; rfl, ?_⟩
      · intro x hx
        rcases List.mem_append.1 hx with g | g
        · exact s1 x g
        · exact r1 x g
      · intro j hj
        rcases List.mem_cons.1 hj with e | e
        · subst e; exact ⟨c, hc, by simp [hs]⟩
        · obtain ⟨c', hc', hm⟩ := r4 j e; exact ⟨c', hc', by simp [hm]⟩
  exact key D (fun i hi => hi)
/-- The side of a scaled point X / N with respect to the line ab. -/
def crN (a b X : P) (N : Int) : Int := (b.1 - a.1) * (X.2 - N * a.2) - (b.2 - a.2) * (X.1 - N * a.1)
theorem sc_pos {α : Type} {R : List (Int × α)} {g : α → Int} (h : ∀ x ∈ R, 0 ≤ x.1 ∧ 0 ≤ g x.2) {c : Int} {i : α} (hc : 0 < c) (hi : (c, i) ∈ R) (hg : 0 < g i) : 0 < sc R g := by
  induction R with
  | nil => simp at hi
  | cons x R ih =>
    rw [sc_cons]
    have nnR : ∀ R : List (Int × α), (∀ x ∈ R, 0 ≤ x.1 ∧ 0 ≤ g x.2) → 0 ≤ sc R g := by
      intro R
      induction R with
      | nil => intro _; rw [sc_nil]; omega
      | cons y R ih2 =>
        intro h
        rw [sc_cons]
        have := ih2 (fun x hx => h x (by simp [hx]))
        have hy := h y (by simp)
        have := nn hy.1 hy.2
        omega
    rcases List.mem_cons.1 hi with e | e
    · subst e
      have := pos_mul hc hg
      have := nnR R (fun x hx => h x (by simp [hx]))
      simp only; omega
    · have := ih (fun x hx => h x (by simp [hx])) e
      have hx := h x (by simp)
      have := nn hx.1 hx.2
      omega
theorem sc_lin {α : Type} (R : List (Int × α)) (f g h : α → Int) (A B C : Int) (e : ∀ i, h i = A * f i + B * g i + C) : sc R h = A * sc R f + B * sc R g + C * sc R (fun _ => 1) := by
  induction R with
  | nil => simp [sc_nil]
  | cons x R ih => rw [sc_cons, sc_cons, sc_cons, sc_cons, ih, e]; grind
theorem crN_sc {α : Type} (R : List (Int × α)) (p : α → P) (a b : P) : crN a b (sc R (fun i => (p i).1), sc R (fun i => (p i).2)) (sc R fun _ => 1) = sc R (fun i => cr a b (p i)) := by
  rw [sc_lin R (fun i => (p i).1) (fun i => (p i).2) (fun i => cr a b (p i)) (-(b.2 - a.2)) (b.1 - a.1) ((b.2 - a.2) * a.1 - (b.1 - a.1) * a.2) (fun i => by unfold cr; grind)]
  unfold crN; grind
/-- A common inner point of two polygons, seen from all sides. -/
theorem common {a b : List P} {d : P} (hB : Blk a b d) : ∃ (X : P) (N : Int), 0 < N ∧
    (∀ x y : P, (∀ p ∈ a, 0 ≤ cr x y p) → (∃ p ∈ a, 0 < cr x y p) → 0 < crN x y X N) ∧
    (∀ x y : P, (∀ q ∈ b, 0 ≤ cr x y (ad q d)) → (∃ q ∈ b, 0 < cr x y (ad q d)) → 0 < crN x y X N) := by
  obtain ⟨D, hDm⟩ : ∃ D : List (P × P), ∀ i, i ∈ D ↔ i.1 ∈ a ∧ i.2 ∈ b := ⟨a.flatMap (fun p => b.map fun q => (p, q)), fun i => by
    rw [List.mem_flatMap]
    constructor
    · rintro ⟨p, hp, h⟩; obtain ⟨q, hq, rfl⟩ := List.mem_map.1 h; exact ⟨hp, hq⟩
    · rintro ⟨h1, h2⟩; exact ⟨i.1, h1, List.mem_map.2 ⟨i.2, h2, rfl⟩⟩⟩
  obtain ⟨R, r1, r2, r3, r4⟩ := all_rel (D := D) (f := fun i => sb (sb i.1 i.2) d) (fun u hu => by
    obtain ⟨p, hp, q, hq, h⟩ := hB u hu
    exact ⟨(p, q), (hDm _).2 ⟨hp, hq⟩, h⟩)
  have e1 : sc R (fun i => (i.1).1) = sc R (fun i => (ad i.2 d).1) := by
    have h := sc_lin R (fun i => (i.1).1) (fun i => (ad i.2 d).1) (fun i => (sb (sb i.1 i.2) d).1) 1 (-1) 0 (fun i => by unfold sb ad; simp only; omega)
    rw [r2] at h; omega
  have e2 : sc R (fun i => (i.1).2) = sc R (fun i => (ad i.2 d).2) := by
    have h := sc_lin R (fun i => (i.1).2) (fun i => (ad i.2 d).2) (fun i => (sb (sb i.1 i.2) d).2) 1 (-1) 0 (fun i => by unfold sb ad; simp only; omega)
    rw [r3] at h; omega
  obtain ⟨p0, hp0, q0, hq0, _⟩ := hB (1, 0) (by simp)
  refine ⟨(sc R (fun i => (i.1).1), sc R (fun i => (i.1).2)), sc R (fun _ => 1), ?_, ?_, ?_⟩
  · obtain ⟨c, hc, hm⟩ := r4 (p0, q0) ((hDm _).2 ⟨hp0, hq0⟩)
    exact sc_pos (fun x hx => ⟨(r1 x hx).1, by omega⟩) hc hm (by omega)
  · intro x y h1 ⟨p, hp, h2⟩
    rw [crN_sc R (fun i => i.1)]
    obtain ⟨c, hc, hm⟩ := r4 (p, q0) ((hDm _).2 ⟨hp, hq0⟩)
    exact sc_pos (fun z hz => ⟨(r1 z hz).1, h1 _ ((hDm _).1 (r1 z hz).2).1⟩) hc hm h2
  · intro x y h1 ⟨q, hq, h2⟩
    rw [e1, e2, crN_sc R (fun i => ad i.2 d)]
    obtain ⟨c, hc, hm⟩ := r4 (p0, q) ((hDm _).2 ⟨hp0, hq⟩)
    exact sc_pos (fun z hz => ⟨(r1 z hz).1, h1 _ ((hDm _).1 (r1 z hz).2).2⟩) hc hm h2
end Ears
end Go.Proofs.YtmdncaoilegnnaaGreat

namespace Go.Proofs.YtmdncaoilegnnaaGreat
set_option linter.unusedVariables false
set_option linter.unusedSimpArgs false
set_option linter.unusedVariables false
set_option linter.unusedSimpArgs false
namespace Ears
open Go.RowKit

/-- A point nearby that lies on no line through two of the points. -/
theorem generic {X : P} {N : Int} (hN : 0 < N) : ∃ (X' : P) (N' : Int), 0 < N' ∧
    (∀ x y : P, (y.1 - x.1).natAbs ≤ 2097152 → (y.2 - x.2).natAbs ≤ 2097152 → 0 < crN x y X N → 0 < crN x y X' N') ∧
    (∀ x y : P, (y.1 - x.1).natAbs ≤ 2097152 → (y.2 - x.2).natAbs ≤ 2097152 → x ≠ y → crN x y X' N' ≠ 0) := by
  refine ⟨(17592186044416 * X.1 + 1, 17592186044416 * X.2 + 4194304), 17592186044416 * N, by omega, ?_, ?_⟩
  · intro x y h1 h2 h
    have e : crN x y (17592186044416 * X.1 + 1, 17592186044416 * X.2 + 4194304) (17592186044416 * N) = 17592186044416 * crN x y X N + ((y.1 - x.1) * 4194304 - (y.2 - x.2)) := by unfold crN; grind
    rw [e]
    generalize crN x y X N = c at h
    omega
  · intro x y h1 h2 hne
    have e : crN x y (17592186044416 * X.1 + 1, 17592186044416 * X.2 + 4194304) (17592186044416 * N) = 17592186044416 * crN x y X N + ((y.1 - x.1) * 4194304 - (y.2 - x.2)) := by unfold crN; grind
    rw [e]
    intro z
    generalize crN x y X N = c at z
    have d : y.1 - x.1 = 0 ∧ y.2 - x.2 = 0 := by omega
    exact hne (Prod.ext (by omega) (by omega))
theorem crN_sum (u b w X : P) (N : Int) : crN u b X N + crN b w X N + crN w u X N = N * cr u b w := by unfold crN cr; grind
theorem crN_swap (u w X : P) (N : Int) : crN u w X N = - crN w u X N := by unfold crN; grind
theorem erase_edges {cur : List P} {k : Nat} (h3 : 3 ≤ cur.length) (hk : k < cur.length) :
    (gt cur ((k + cur.length - 1) % cur.length), gt cur k) ∈ E cur ∧ (gt cur k, gt cur ((k + 1) % cur.length)) ∈ E cur ∧
    ∀ e ∈ E (cur.eraseIdx k), e ∈ E cur ∨ e = (gt cur ((k + cur.length - 1) % cur.length), gt cur ((k + 1) % cur.length)) := by
  obtain ⟨m, h1, h2⟩ := idx_rot h3 hk
  have e1 : cur = cur.take k ++ cur.drop k := (List.take_append_drop k cur).symm
  have up : ∀ e, e ∈ E (cur.drop k ++ cur.take k) → e ∈ E cur := fun e he => by
    have := E_rot_mem he; rwa [← e1] at this
  refine ⟨up _ (by rw [h1]; exact T.ub), up _ (by rw [h1]; exact T.bw), fun e he => ?_⟩
  rw [erase_rot] at he
  have he2 := E_rot_mem he
  rw [h2, E_cut, List.mem_append] at he2
  rcases he2 with g | g
  · left; exact up e (by rw [h1]; exact T.che g)
  · right; simpa using g
/-- A point to the left of all sides lies in one of the triangles. -/
theorem split_cover {X : P} {N : Int} (hN : 0 < N) : ∀ (f : Nat) (cur : List P) (ts r : List (List P)), Good cur → cur.length ≤ f + 3 → (∀ e ∈ E cur, 0 < crN e.1 e.2 X N) → (∀ p ∈ cur, ∀ q ∈ cur, p ≠ q → crN p q X N ≠ 0) → splitW f cur ts = some r → ∃ t ∈ r, ∀ e ∈ E t, 0 < crN e.1 e.2 X N
  | f, cur, ts, r, h, hf, hX, hG, hs => by
    by_cases h3 : cur.length ≤ 3
    · rw [splitW_end h3] at hs
      injection hs with hs
      exact ⟨cur, by rw [← hs]; simp, hX⟩
    · cases f with
      | zero => omega
      | succ f =>
        have near : ∀ j, j < cur.length → nearB 1048576 (gt cur j) := fun j hj => h.near _ (gt_in hj)
        have sub : ∀ i, ∀ q ∈ cur.eraseIdx i, q ∈ cur := fun i q hq => List.mem_of_mem_eraseIdx hq
        rcases idxOf_cases (strW cur cur.length) cur.length with g | ⟨k, hk, g⟩
        · rcases idxOf_cases (freeW cur cur.length) cur.length with g2 | ⟨k, hk, g2⟩
          · rw [splitW_none rfl h3 (by rw [g]; omega) (by rw [g2]; omega)] at hs; cases hs
          · rw [splitW_ear rfl h3 (by rw [g]; omega) g2] at hs
            have hE := (free_iff h hk).1 (idx_found g2).2
            have len : (cur.eraseIdx k).length = cur.length - 1 := by rw [List.length_eraseIdx, if_pos hk]
            obtain ⟨e1, e2, e3⟩ := erase_edges (by omega) hk
            generalize hu : gt cur ((k + cur.length - 1) % cur.length) = u at *
            generalize hb : gt cur k = b at *
            generalize hw : gt cur ((k + 1) % cur.length) = w at *
            have uw : u ≠ w := by rintro rfl; have := hE.1; rw [cr_same1] at this; omega
            have gen := hG w (E_mem e2).2 u (E_mem e1).1 (Ne.symm uw)
            rcases Int.lt_or_gt_of_ne gen with c | c
            · have gE := good_ear h hk (by omega) (by rw [hu, hb, hw]; exact hE.1) (by rw [hu, hb, hw]; exact hE.2)
              exact split_cover hN f (cur.eraseIdx k) _ r gE (by omega) (fun e he => by
                rcases e3 e he with q | q
                · exact hX e q
                · rw [q]; simp only; rw [crN_swap]; omega) (fun p hp q hq => hG p (sub k p hp) q (sub k q hq)) hs
            · have mem : ∀ (f : Nat) (cur : List P) (ts r : List (List P)), splitW f cur ts = some r → ∀ t ∈ ts, t ∈ r := by
                intro f
                induction f with
                | zero => intro cur ts r h t ht; rw [splitW] at h; injection h with h; rw [← h]; simp [ht]
                | succ f ih =>
                  intro cur ts r h t ht
                  rw [splitW] at h
                  split at h
                  · injection h with h; rw [← h]; simp [ht]
                  · split at h
                    · exact ih _ _ _ h t ht
                    · split at h
                      · cases h
                      · exact ih _ _ _ h t (by simp [ht])
              refine ⟨[u, b, w], mem _ _ _ _ hs _ (by unfold triW; rw [hu, hb, hw]; simp), ?_⟩
              intro e he
              rw [show E [u, b, w] = [(u, b), (b, w), (w, u)] from rfl] at he
              simp only [List.mem_cons, List.not_mem_nil, or_false] at he
              rcases he with rfl | rfl | rfl
              · exact hX _ e1
              · exact hX _ e2
              · exact c
        · rw [splitW_str rfl h3 g] at hs
          have hz := (idx_found g).2
          unfold strW at hz
          rw [cross_near (near _ (Nat.mod_lt _ (by omega))) (near _ hk) (near _ (Nat.mod_lt _ (by omega))), crP_eq, beq_iff_eq] at hz
          have len : (cur.eraseIdx k).length = cur.length - 1 := by rw [List.length_eraseIdx, if_pos hk]
          obtain ⟨e1, e2, e3⟩ := erase_edges (by omega) hk
          have x1 := hX _ e1
          have x2 := hX _ e2
          have sm := crN_sum (gt cur ((k + cur.length - 1) % cur.length)) (gt cur k) (gt cur ((k + 1) % cur.length)) X N
          rw [hz, Int.mul_zero] at sm
          exact split_cover hN f (cur.eraseIdx k) ts r (good_flat h hk (by omega) hz) (by omega) (fun e he => by
            rcases e3 e he with q | q
            · exact hX e q
            · rw [q]; simp only at x1 x2 ⊢; rw [crN_swap]; omega) (fun p hp q hq => hG p (sub k p hp) q (sub k q hq)) hs
end Ears
end Go.Proofs.YtmdncaoilegnnaaGreat

namespace Go.Proofs.YtmdncaoilegnnaaGreat
set_option linter.unusedVariables false
set_option linter.unusedSimpArgs false
set_option linter.unusedVariables false
set_option linter.unusedSimpArgs false
namespace Ears

theorem turn_u {p u b w : P} (h1 : 0 < cr p u b) (D : 0 < cr u b w) (hT : ¬ InT u b w p) (hx : ¬ Crs p u b w) (ho : ¬ On p u w) : 0 < cr p u w := by
  rcases lt_ge 0 (cr p u w) with c | c
  · exact c
  · exfalso
    have r1 : cr u b p = cr p u b := cr_rot p u b
    have r2 : cr w u p = - cr p u w := by unfold cr; grind
    have r3 : cr b w u = cr u b w := cr_rot u b w
    have hn : cr b w p < 0 := by
      rcases lt_ge (cr b w p) 0 with q | q
      · exact q
      · exact absurd ⟨by omega, q, by omega⟩ hT
    rcases Int.lt_or_eq_of_le c with q | q
    · exact hx ⟨.inr ⟨h1, q⟩, .inl ⟨hn, by omega⟩⟩
    · exact ho (on_of_opp (p := b) (q := w) (s := p) (t := u) (.inl ⟨hn, by omega⟩) q)
theorem turn_w {u b w s : P} (h1 : 0 < cr b w s) (D : 0 < cr u b w) (hT : ¬ InT u b w s) (hx : ¬ Crs w s u b) (ho : ¬ On w s u) : 0 < cr u w s := by
  rcases lt_ge 0 (cr u w s) with c | c
  · exact c
  · exfalso
    have r2 : cr w u s = - cr u w s := by unfold cr; grind
    have hn : cr u b s < 0 := by
      rcases lt_ge (cr u b s) 0 with q | q
      · exact q
      · exact absurd ⟨q, by omega, by omega⟩ hT
    have r4 : cr w s b = cr b w s := cr_rot b w s
    have r5 : cr w s u = cr u w s := cr_rot u w s
    rcases Int.lt_or_eq_of_le c with q | q
    · exact hx ⟨.inl ⟨by omega, by omega⟩, .inr ⟨D, hn⟩⟩
    · refine ho (on_of_opp (p := b) (q := u) (s := w) (t := s) ?_ (by omega))
      rw [cr_swap u b w, cr_swap u b s]; exact .inl ⟨by omega, by omega⟩
theorem side_u (p u b w r : P) : cr u b r * cr p u w = cr u b w * cr p u r + cr u w r * cr p u b := by unfold cr; grind
theorem side_w (u b w s r : P) : cr b w r * cr u w s = cr u b w * cr w s r + cr u w r * cr b w s := by unfold cr; grind
theorem ch_last {x u p : P} {m : List P} (nd : (x :: (m ++ [u])).Nodup) (h : (p, u) ∈ ch x (m ++ [u])) : p = fin x m := by
  rw [ch_snoc, List.mem_append] at h
  rcases h with h | h
  · have := (ch_mem h).2
    rw [List.nodup_cons, List.nodup_append] at nd
    exact absurd rfl (nd.2.2.2 u this u (by simp))
  · simp at h; exact h
theorem ch_head {x s : P} {k : List P} (nd : (x :: k).Nodup) (h : (x, s) ∈ ch x k) : ∃ k', k = s :: k' := by
  cases k with
  | nil => simp [ch] at h
  | cons y k =>
    simp only [ch, List.mem_cons, Prod.mk.injEq] at h
    rcases h with ⟨_, e⟩ | h
    · exact ⟨k, by rw [e]⟩
    · have := (ch_mem h).1
      rw [List.nodup_cons] at nd
      exact absurd this nd.1
/-- A simple polygon that turns to the left at every vertex lies to the left of all its sides. -/
theorem strict : ∀ (n : Nat) (l : List P), l.length ≤ n → 3 ≤ l.length → Sim l → lam l = true → (∀ p q r, (p, q) ∈ E l → (q, r) ∈ E l → 0 < cr p q r) → ∀ e ∈ E l, ∀ r ∈ l, r ≠ e.1 → r ≠ e.2 → 0 < cr e.1 e.2 r := by
  intro n
  induction n with
  | zero => intro l h1 h2; omega
  | succ n ih =>
    intro l0 hn h3 hs0 hl0 hb0
    suffices H : ∃ A B, l0 = A ++ B ∧ ∀ e ∈ E (B ++ A), ∀ r ∈ B ++ A, r ≠ e.1 → r ≠ e.2 → 0 < cr e.1 e.2 r by
      obtain ⟨A, B, rfl, H⟩ := H
      exact fun e he r hr => H e (E_rot_mem he) r (mem_rot hr)
    obtain ⟨x, y, hxy⟩ : ∃ x y, (x, y) ∈ E l0 := by
      match l0, h3 with
      | x :: y :: l, _ => exact ⟨x, y, by rw [E_two]; simp⟩
    obtain ⟨u, b, w, ⟨e1, e2, D, emp0⟩, _⟩ := ears l0.length l0 (Nat.le_refl _) h3 hs0 hl0 x y hxy
    obtain ⟨A, B, m, j1, j2⟩ := rot_edges hs0.nd h3 e1 e2
    refine ⟨A, B, j1, ?_⟩
    subst j1
    have lR := lam_rot A B h3 hs0
    have h := hs0.rot
    have hb : ∀ p q r, (p, q) ∈ E (B ++ A) → (q, r) ∈ E (B ++ A) → 0 < cr p q r := fun p q r k1 k2 => hb0 p q r (E_rot_mem k1) (E_rot_mem k2)
    have emp1 : ∀ q ∈ B ++ A, q ≠ u → q ≠ b → q ≠ w → ¬ InT u b w q := fun q hq => emp0 q (mem_rot hq)
    have hlen : (B ++ A).length = (A ++ B).length := by simp; omega
    rw [j2] at lR h hb emp1 hlen ⊢
    obtain ⟨n1, n2, n3, n4, n5, n6, n7, n8⟩ := nd_tri h.nd
    have emp : ∀ r ∈ m, ¬ InT u b w r := fun r hr => emp1 r (by simp [hr]) (by rintro rfl; exact n6 hr) (by rintro rfl; exact n4 hr) (by rintro rfl; exact n5 hr)
    by_cases hm : m = []
    · subst hm
      simp only [List.nil_append]
      intro e he r hr r1 r2
      have hE : E [b, w, u] = [(b, w), (w, u), (u, b)] := rfl
      have D1 : 0 < cr b w u := by rw [cr_rot u b w]; exact D
      have D2 : 0 < cr w u b := by rw [cr_rot b w u, cr_rot u b w]; exact D
      rw [hE] at he
      simp only [List.mem_cons, List.not_mem_nil, or_false] at he hr
      rcases he with rfl | rfl | rfl <;> rcases hr with rfl | rfl | rfl <;> simp_all
    · obtain ⟨h', hl'⟩ := ear_cut h D emp hm
      -- the neighbours of u and w
      obtain ⟨p, hp⟩ : ∃ p, fin w m = p := ⟨_, rfl⟩
      have pm : p ∈ m := by
        rw [← hp]
        cases m with
        | nil => exact absurd rfl hm
        | cons y m => simp only [fin]; exact fin_mem y m
      obtain ⟨s, k, hk⟩ : ∃ s k, m = s :: k := by
        cases m with
        | nil => exact absurd rfl hm
        | cons y m => exact ⟨y, m, rfl⟩
      have sm : s ∈ m := by rw [hk]; simp
      have epu : (p, u) ∈ ch w (m ++ [u]) := by rw [ch_snoc, hp]; simp
      have ews : (w, s) ∈ ch w (m ++ [u]) := by rw [hk]; simp [ch]
      have inE : ∀ e ∈ ch w (m ++ [u]), e ∈ E (b :: w :: (m ++ [u])) := fun e he => T.che he
      have tp : 0 < cr p u b := hb p u b (inE _ epu) T.ub
      have ts : 0 < cr b w s := hb b w s T.bw (inE _ ews)
      have pu : p ≠ u := by rintro rfl; exact n6 pm
      have pw : p ≠ w := by rintro rfl; exact n5 pm
      have su : s ≠ u := by rintro rfl; exact n6 sm
      have sw' : s ≠ w := by rintro rfl; exact n5 sm
      have tu : 0 < cr p u w := turn_u tp D (emp p pm) (h.cx (p, u) (inE _ epu) (b, w) T.bw) (fun o => by
        rcases h.on (p, u) (inE _ epu) w T.mw o with g | g
        · exact pw g.symm
        · exact n3 g)
      have tw : 0 < cr u w s := turn_w ts D (emp s sm) (h.cx (w, s) (inE _ ews) (u, b) T.ub) (fun o => by
        rcases h.on (w, s) (inE _ ews) u T.mu o with g | g
        · exact n3 g.symm
        · exact su g.symm)
      have hE' := E_cut w u m
      have bend' : ∀ x y z, (x, y) ∈ E (w :: (m ++ [u])) → (y, z) ∈ E (w :: (m ++ [u])) → 0 < cr x y z := by
        intro x y z k1 k2
        rw [hE', List.mem_append] at k1 k2
        simp only [List.mem_cons, List.not_mem_nil, or_false, Prod.mk.injEq] at k1 k2
        rcases k1 with k1 | ⟨rfl, rfl⟩ <;> rcases k2 with k2 | ⟨e1, e2⟩
        · exact hb x y z (inE _ k1) (inE _ k2)
        · subst e1; subst e2
          have := ch_last n7 k1
          rw [hp] at this; rw [this]; exact tu
        · obtain ⟨k', hk'⟩ := ch_head n7 k2
          rw [hk, List.cons_append] at hk'
          injection hk' with g1 _
          rw [← g1]; exact tw
        · exact absurd e1 n3
      have IH := ih (w :: (m ++ [u])) (by simp at hlen hn ⊢; omega) (by rw [hk]; simp) h' (by rw [hl', ← lR, hl0]) bend'
      have cuw : (u, w) ∈ E (w :: (m ++ [u])) := by rw [hE']; simp
      have inE' : ∀ e ∈ ch w (m ++ [u]), e ∈ E (w :: (m ++ [u])) := fun e he => by rw [hE']; simp [he]
      have mp : p ∈ w :: (m ++ [u]) := by simp [pm]
      have ms : s ∈ w :: (m ++ [u]) := by simp [sm]
      -- the sides ub and bw
      have su_ : ∀ r ∈ w :: (m ++ [u]), r ≠ u → 0 < cr u b r := by
        intro r hr ru
        by_cases rw_ : r = w
        · rw [rw_]; exact D
        · have i1 := IH _ cuw r hr ru rw_
          simp only at i1
          have i2 : 0 ≤ cr p u r := by
            by_cases rp : r = p
            · rw [rp, cr_same1]; omega
            · exact Int.le_of_lt (IH _ (inE' _ epu) r hr rp ru)
          have id := side_u p u b w r
          have x1 := nn (Int.le_of_lt D) i2
          have x2 := pos_mul i1 tp
          exact sg tu (by omega)
      have sw_ : ∀ r ∈ w :: (m ++ [u]), r ≠ w → 0 < cr b w r := by
        intro r hr rw_
        by_cases ru : r = u
        · rw [ru, cr_rot u b w]; exact D
        · have i1 := IH _ cuw r hr ru rw_
          simp only at i1
          have i2 : 0 ≤ cr w s r := by
            by_cases rs : r = s
            · rw [rs, cr_same2]; omega
            · exact Int.le_of_lt (IH _ (inE' _ ews) r hr rw_ rs)
          have id := side_w u b w s r
          have x1 := nn (Int.le_of_lt D) i2
          have x2 := pos_mul i1 ts
          exact sg tw (by omega)
      intro e he r hr r1 r2
      rw [E_tri, List.mem_cons, List.mem_append] at he
      simp only [List.mem_cons, List.not_mem_nil, or_false] at he
      rcases he with rfl | he | rfl
      · rcases List.mem_cons.1 hr with g | g
        · exact absurd g r1
        · exact sw_ r g r2
      · rcases List.mem_cons.1 hr with g | g
        · -- the vertex b and an old side
          subst g
          obtain ⟨a, c⟩ := e
          have mm := ch_mem he
          simp only at *
          by_cases aw : a = w
          · subst aw
            obtain ⟨k', hk'⟩ := ch_head n7 he
            rw [hk, List.cons_append] at hk'
            injection hk' with g1 _
            rw [← g1, cr_rot r a s]; exact ts
          · by_cases cu : c = u
            · subst cu
              have := ch_last n7 he
              rw [hp] at this; rw [this]; exact tp
            · have au : a ≠ u := by
                rintro rfl
                rw [ch_snoc, List.mem_append] at he
                rcases he with g | g
                · have := (ch_mem g).1
                  rcases List.mem_cons.1 this with q | q
                  · exact aw q
                  · exact n6 q
                · simp at g; exact cu g.2
              have cw : c ≠ w := by
                rintro rfl
                have := mm.2
                rw [List.nodup_cons] at n7
                exact n7.1 this
              have Fu := IH _ (inE' _ he) u (by simp) (Ne.symm au) (Ne.symm cu)
              have Fw := IH _ (inE' _ he) w (by simp) (Ne.symm aw) (Ne.symm cw)
              simp only at Fu Fw
              have ma : a ∈ w :: (m ++ [u]) := mm.1
              have k1 := su_ a ma au
              have k2 := sw_ a ma aw
              have k3 := IH _ cuw a ma au aw
              simp only at k3
              have B := bary u r w a a c
              rw [cr_same1 a c] at B
              rcases lt_ge 0 (cr a c r) with q | q
              · exact q
              · exfalso
                have r3 : cr w u a = - cr u w a := by unfold cr; grind
                have y1 := pos_mul k2 Fu
                have y2 := pos_mul k1 Fw
                have y3 := Int.mul_nonneg_of_nonpos_of_nonpos (show cr w u a ≤ 0 by omega) q
                omega
        · exact IH e (inE' e he) r g r1 r2
      · rcases List.mem_cons.1 hr with g | g
        · exact absurd g r2
        · exact su_ r g r1
end Ears
end Go.Proofs.YtmdncaoilegnnaaGreat

namespace Go.Proofs.YtmdncaoilegnnaaGreat
set_option linter.unusedVariables false
set_option linter.unusedSimpArgs false
set_option linter.unusedVariables false
set_option linter.unusedSimpArgs false
namespace Ears

theorem ge_of {x y a b : Int} (h : a * x = b * y) (hs : (0 < a ∧ 0 < b) ∨ (a < 0 ∧ b < 0)) (hx : 0 ≤ x) : 0 ≤ y := by
  rcases hs with ⟨ha, hb⟩ | ⟨ha, hb⟩
  · have := nn (Int.le_of_lt ha) hx
    exact sge hb (by omega)
  · have := np hx (Int.le_of_lt ha)
    rw [Int.mul_comm] at this
    rcases lt_ge y 0 with c | c
    · have := neg_neg_ hb c; omega
    · exact c
theorem flat_bend {b w u : P} {m : List P} (h : Sim (b :: w :: (m ++ [u]))) (D : cr u b w = 0) (hb : ∀ p q r, (p, q) ∈ E (b :: w :: (m ++ [u])) → (q, r) ∈ E (b :: w :: (m ++ [u])) → 0 ≤ cr p q r) :
    ∀ p q r, (p, q) ∈ E (w :: (m ++ [u])) → (q, r) ∈ E (w :: (m ++ [u])) → 0 ≤ cr p q r := by
  obtain ⟨n1, n2, n3, n4, n5, n6, n7, n8⟩ := nd_tri h.nd
  have mid := flat_mid h D
  have i1 : ∀ r : P, (w.2 - u.2) * cr u b r = (b.2 - u.2) * cr u w r := by
    intro r
    have : (w.2 - u.2) * cr u b r = (b.2 - u.2) * cr u w r + (r.2 - u.2) * cr u b w := by unfold cr; grind
    rw [this, D]; omega
  have i2 : ∀ r : P, (w.2 - u.2) * cr b w r = (w.2 - b.2) * cr u w r := by
    intro r
    have : (w.2 - u.2) * cr b w r = (w.2 - b.2) * cr u w r + (w.2 - r.2) * cr u b w := by unfold cr; grind
    rw [this, D]; omega
  intro p q r h1 h2
  rw [E_cut] at h1 h2
  simp only [List.mem_append, List.mem_cons, List.not_mem_nil, or_false, Prod.mk.injEq] at h1 h2
  rcases h1 with g1 | ⟨rfl, rfl⟩ <;> rcases h2 with g2 | ⟨e1, e2⟩
  · exact hb p q r (T.che g1) (T.che g2)
  · subst e1; subst e2
    have k := hb p q b (T.che g1) T.ub
    rw [← cr_rot p q b] at k
    rw [← cr_rot p q r]
    exact ge_of (i1 p) (by omega) k
  · have k := hb b q r T.bw (T.che g2)
    exact ge_of (i2 r) (by omega) k
  · exact absurd e1 n3
/-- Leaving the flat vertices out keeps the turns and the hull. -/
theorem nf_more : ∀ (n : Nat) (l : List P) (F : P → Bool), l.length ≤ n → 3 ≤ l.length → Sim l → (∀ q ∈ l, F q = true ↔ flat l q) → (∀ p q r, (p, q) ∈ E l → (q, r) ∈ E l → 0 ≤ cr p q r) →
    (∀ p q r, (p, q) ∈ E (l.filter fun q => !F q) → (q, r) ∈ E (l.filter fun q => !F q) → 0 ≤ cr p q r) ∧ ∀ x y : P, (∀ r ∈ l.filter (fun q => !F q), 0 ≤ cr x y r) → ∀ r ∈ l, 0 ≤ cr x y r := by
  intro n
  induction n with
  | zero => intro l F h1 h2; omega
  | succ n ih =>
    intro l F hn h3 hs hF hB
    by_cases hx : ∃ b ∈ l, F b = true
    · obtain ⟨b, hb, hFb⟩ := hx
      have hfl := (hF b hb).1 hFb
      obtain ⟨A, B, e⟩ := rot_at hb
      subst e
      have sR := hs.rot
      have k2 : 2 ≤ (B ++ A).length := by simp at h3 ⊢; omega
      have kn : (B ++ A).length ≤ n := by simp at hn ⊢; omega
      obtain ⟨w, m, u, hBA⟩ : ∃ w m u, B ++ A = w :: (m ++ [u]) := by
        generalize B ++ A = k at k2
        match k, k2 with
        | w :: x :: k, _ =>
          obtain ⟨m, u, e⟩ := snoc_of (l := x :: k) (by simp)
          exact ⟨w, m, u, by rw [e]⟩
      have e2 : (b :: B) ++ A = b :: w :: (m ++ [u]) := by rw [List.cons_append, hBA]
      have hfl2 := flat_rot.1 hfl
      have hB2 : ∀ p q r, (p, q) ∈ E ((b :: B) ++ A) → (q, r) ∈ E ((b :: B) ++ A) → 0 ≤ cr p q r := fun p q r k1 k2 => hB p q r (E_rot_mem k1) (E_rot_mem k2)
      rw [e2] at sR hfl2 hB2
      have D := (flat_tri sR.nd).1 hfl2
      have mid := flat_mid sR D
      obtain ⟨n1, n2, n3, _⟩ := nd_tri sR.nd
      have hm : m ≠ [] := by
        rintro rfl
        have : On w u b := ⟨by rw [cr_rot b w u, cr_rot u b w]; exact D, by omega⟩
        rcases sR.on (w, u) (by rw [E_tri]; simp [ch]) b T.mb this with z | z
        · exact n1 z
        · exact n2 z
      obtain ⟨s', l'⟩ := flat_cut sR D hm
      have b' := flat_bend sR D hB2
      rw [← hBA] at s' b'
      have s'' := s'.rot
      have len3 : 3 ≤ (B ++ A).length := by
        rw [hBA]; cases m with
        | nil => exact absurd rfl hm
        | cons y m => simp
      have hfilt : (A ++ b :: B).filter (fun q => !F q) = (A ++ B).filter (fun q => !F q) := by
        rw [List.filter_append, List.filter_append, List.filter_cons_of_neg (by rw [hFb]; simp)]
      have := ih (A ++ B) F (by simp at kn ⊢; omega) (by simp at len3 ⊢; omega) s'' (fun q hq => by
        have hq2 : q ∈ w :: (m ++ [u]) := by rw [← hBA]; exact mem_rot hq
        rw [hF q (by simp at hq ⊢; grind), flat_rot (A := A) (B := b :: B), e2, flat_keep sR D hq2, ← hBA]
        exact flat_rot) (fun p q r k1 k2 => b' p q r (E_rot_mem k1) (E_rot_mem k2))
      rw [← hfilt] at this
      refine ⟨this.1, fun x y hr r hr2 => ?_⟩
      have old := this.2 x y hr
      by_cases rb : r = b
      · subst rb
        have hu := old u (mem_rot (by rw [hBA]; simp))
        have hw := old w (mem_rot (by rw [hBA]; simp))
        have o : On u w r := ⟨by rw [← cr_rot u w r]; have : cr w r u = - cr u r w := by unfold cr; grind
                                 rw [this, D]; rfl, by omega⟩
        exact aff_ge o (by omega) hu hw
      · exact old r (by simp at hr2 ⊢; grind)
    · have hall : ∀ q ∈ l, F q = false := fun q hq => by
        cases hc : F q with
        | false => rfl
        | true => exact absurd ⟨q, hq, hc⟩ hx
      have : l.filter (fun q => !F q) = l := by
        rw [List.filter_eq_self]; intro q hq; rw [hall q hq]; rfl
      rw [this]
      exact ⟨hB, fun x y h => h⟩
def scl (N : Int) (p : P) : P := (N * p.1, N * p.2)
/-- Triangles with a common inner point block the move. -/
theorem cover_blk {s t : List P} {d X : P} {N : Int} (hN : 0 < N) (ls : 2 ≤ s.length) (lt' : 2 ≤ t.length) (hs : ∀ e ∈ E s, 0 < crN e.1 e.2 X N) (ht : ∀ e ∈ E t, 0 < crN e.1 e.2 (sb X (scl N d)) N) : Blk s t d := by
  have key : ∀ (s : List P) (X : P), 2 ≤ s.length → (∀ e ∈ E s, 0 < crN e.1 e.2 X N) → Inn (s.map (scl N)) X := by
    intro s X h2 h
    refine left_inn (by rw [List.length_map]; exact h2) (fun e he => ?_)
    rw [E_map] at he
    obtain ⟨f, hf, rfl⟩ := List.mem_map.1 he
    have id : cr (scl N f.1) (scl N f.2) X = N * crN f.1 f.2 X N := by unfold cr scl crN; grind
    simp only
    rw [id]
    exact pos_mul hN (h f hf)
  intro u hu
  obtain ⟨p', hp', d1⟩ := key s X ls hs u hu
  obtain ⟨q', hq', d2⟩ := key t _ lt' ht (-u.1, -u.2) (by intro z; injection z with z1 z2; exact hu (Prod.ext (by omega) (by omega)))
  obtain ⟨p, hp, rfl⟩ := List.mem_map.1 hp'
  obtain ⟨q, hq, rfl⟩ := List.mem_map.1 hq'
  refine ⟨p, hp, q, hq, ?_⟩
  have id : N * dt u (sb (sb p q) d) = dt u (sb (scl N p) X) + dt (-u.1, -u.2) (sb (scl N q) (sb X (scl N d))) := by unfold dt sb scl; grind
  exact sgt hN (by omega)
theorem ratio_trans {sv sw sq tv tw tq : Int} (e1 : sv * tw = sw * tv) (m : sv * tq ≤ sq * tv) (av : 0 < tv) (aw : 0 < tw) : sw * tq ≤ sq * tw := by
  have x1 := nn (Int.le_of_lt aw) (show 0 ≤ sq * tv - sv * tq by omega)
  have e : tw * (sq * tv - sv * tq) = tv * (sq * tw) - (sv * tw) * tq := by grind
  rw [e, e1] at x1
  have : 0 ≤ tv * (sq * tw - sw * tq) := by grind
  have := sge av this
  omega
/-- Every vertex supports the hull: no point lies beyond all vertices. -/
theorem support {l r : List P} (h : HullCvx l r) (u : P) {p : P} (hp : p ∈ l) : ∃ v ∈ r, dt u p ≤ dt u v := by
  apply Classical.byContradiction
  intro hc
  have hlt : ∀ v ∈ r, 0 < - dt u (sb v p) := by
    intro v hv
    rcases lt_ge (dt u v) (dt u p) with c | c
    · have : dt u (sb v p) = dt u v - dt u p := by unfold dt sb; grind
      omega
    · exact absurd ⟨v, hv, c⟩ hc
  have h2 : 2 ≤ r.length := by have := h.len; omega
  have hid : ∀ x y : P, dt u u * cr x y p = (u.1 * (sb x p).2 - u.2 * (sb x p).1) * (- dt u (sb y p)) - (u.1 * (sb y p).2 - u.2 * (sb y p).1) * (- dt u (sb x p)) := by
    intro x y; unfold dt sb cr; grind
  obtain ⟨v, hv, hmin⟩ := exists_min_ratio (l := r) (a := fun v => - dt u (sb v p)) (s := fun v => u.1 * (sb v p).2 - u.2 * (sb v p).1) (by intro e; rw [e] at h2; simp at h2) hlt
  have uu : 0 < dt u u := by
    apply dt_pos
    intro z
    have := hlt v hv
    rw [z] at this; unfold dt at this; simp at this
  have nexts : ∀ v ∈ r, (∀ q ∈ r, (u.1 * (sb v p).2 - u.2 * (sb v p).1) * (- dt u (sb q p)) ≤ (u.1 * (sb q p).2 - u.2 * (sb q p).1) * (- dt u (sb v p))) → ∀ w, (v, w) ∈ E r → cr v w p = 0 ∧ (u.1 * (sb v p).2 - u.2 * (sb v p).1) * (- dt u (sb w p)) = (u.1 * (sb w p).2 - u.2 * (sb w p).1) * (- dt u (sb v p)) := by
    intro v hv hm w hw
    have g := h.left _ hw p hp
    simp only at g
    have i := hid v w
    have m := hm w (E_mem hw).2
    have := nn (Int.le_of_lt uu) g
    have e : (u.1 * (sb v p).2 - u.2 * (sb v p).1) * (- dt u (sb w p)) = (u.1 * (sb w p).2 - u.2 * (sb w p).1) * (- dt u (sb v p)) := by omega
    refine ⟨?_, e⟩
    rcases Int.mul_eq_zero.1 (show dt u u * cr v w p = 0 by omega) with q | q
    · omega
    · exact q
  obtain ⟨w, hw⟩ := E_next h2 hv
  obtain ⟨z1, e1⟩ := nexts v hv hmin w hw
  obtain ⟨x, hx⟩ := E_next h2 (E_mem hw).2
  have mw : ∀ q ∈ r, (u.1 * (sb w p).2 - u.2 * (sb w p).1) * (- dt u (sb q p)) ≤ (u.1 * (sb q p).2 - u.2 * (sb q p).1) * (- dt u (sb w p)) := by
    intro q hq
    have m := hmin q hq
    exact ratio_trans e1 m (hlt v hv) (hlt w (E_mem hw).2)
  obtain ⟨z2, _⟩ := nexts w (E_mem hw).2 mw x hx
  have t := h.turn _ _ _ hw hx
  have wp : w = p := by
    have j1 : (p.1 - w.1) * cr v w x = cr v w p * (x.1 - w.1) - cr w x p * (w.1 - v.1) := by unfold cr; grind
    have j2 : (p.2 - w.2) * cr v w x = cr v w p * (x.2 - w.2) - cr w x p * (w.2 - v.2) := by unfold cr; grind
    rw [z1, z2] at j1 j2
    have k1 : p.1 - w.1 = 0 := by rcases Int.mul_eq_zero.1 (show (p.1 - w.1) * cr v w x = 0 by omega) with q | q <;> omega
    have k2 : p.2 - w.2 = 0 := by rcases Int.mul_eq_zero.1 (show (p.2 - w.2) * cr v w x = 0 by omega) with q | q <;> omega
    exact Prod.ext (by omega) (by omega)
  have := hlt w (E_mem hw).2
  rw [wp] at this; unfold dt sb at this; simp at this
end Ears
end Go.Proofs.YtmdncaoilegnnaaGreat

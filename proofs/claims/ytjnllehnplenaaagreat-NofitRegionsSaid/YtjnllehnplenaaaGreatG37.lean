/- Points within the limits: exact cross products; the reference's form of 'simple' is the code's. -/
import Derived.Test.YtjnllehnplenaaaGreatG10
namespace Go.Proofs.YtjnllehnplenaaaGreat
set_option linter.unusedVariables false
set_option linter.unusedSimpArgs false
open Go.RowKit

theorem gt_map {l : List (Int × Int)} {g : Int × Int → Int × Int} {p : Nat} (hp : p < l.length) : gt (l.map g) p = g (gt l p) := by
  unfold gt; rw [List.getD, List.getElem?_map, List.getD, List.getElem?_eq_getElem hp]; rfl
theorem gt_mem {l : List (Int × Int)} {p : Int × Int} (h : p ∈ l) : ∃ i, i < l.length ∧ gt l i = p := by
  obtain ⟨i, hi, rfl⟩ := List.getElem_of_mem h
  exact ⟨i, hi, by unfold gt; simp [hi]⟩
def nearB (M : Int) (q : Int × Int) : Prop := -M ≤ q.1 ∧ q.1 ≤ M ∧ -M ≤ q.2 ∧ q.2 ≤ M
theorem near_of_out {M : Int} {q : Int × Int} (h : outB M q = false) : nearB M q := by
  unfold outB at h; simp at h; unfold nearB; omega
theorem mem_gt {l : List (Int × Int)} {q : Int × Int} (h : q ∈ l) : ∃ i, i < l.length ∧ gt l i = q := gt_mem h
theorem gt_in {l : List (Int × Int)} {i : Nat} (h : i < l.length) : gt l i ∈ l := by
  unfold gt; rw [List.getD, List.getElem?_eq_getElem h]; exact List.getElem_mem h
theorem check_near {l : List (Int × Int)} (h : checkW l l.length = 0) : ∀ q ∈ l, nearB 1048576 q := by
  intro q hq
  obtain ⟨i, hi, rfl⟩ := mem_gt hq
  unfold checkW at h
  split at h
  · cases h
  · split at h
    · cases h
    · split at h
      · cases h
      · rename_i h3
        have h3' : AnyB (fun i => outB 1048576 (gt l i)) l.length = false := by simpa using h3
        apply near_of_out
        cases ho : outB 1048576 (gt l i) with
        | false => rfl
        | true => rw [AnyB.yes hi ho] at h3'; cases h3'
theorem wrap_near {z : Int} (h1 : -100000000 ≤ z) (h2 : z ≤ 100000000) : wrap64 z = z := by unfold wrap64; omega
theorem mul_bd {x y : Int} (h1 : -2097152 ≤ x) (h2 : x ≤ 2097152) (h3 : -2097152 ≤ y) (h4 : y ≤ 2097152) : -4398046511104 ≤ x * y ∧ x * y ≤ 4398046511104 := by
  have h := Nat.mul_le_mul (show x.natAbs ≤ 2097152 by omega) (show y.natAbs ≤ 2097152 by omega)
  rw [← Int.natAbs_mul] at h
  generalize x * y = z at h ⊢
  omega
theorem wrap_mid {z : Int} (h1 : -100000000000000 ≤ z) (h2 : z ≤ 100000000000000) : wrap64 z = z := by unfold wrap64; omega
def crP (a b c : Int × Int) : Int := (b.1 - a.1) * (c.2 - a.2) - (b.2 - a.2) * (c.1 - a.1)
theorem cross_near {a b c : Int × Int} (ha : nearB 1048576 a) (hb : nearB 1048576 b) (hc : nearB 1048576 c) : crossW a b c = crP a b c := by
  unfold nearB at ha hb hc
  unfold crossW crP
  rw [wrap_near (z := b.1 - a.1) (by omega) (by omega), wrap_near (z := c.2 - a.2) (by omega) (by omega), wrap_near (z := b.2 - a.2) (by omega) (by omega), wrap_near (z := c.1 - a.1) (by omega) (by omega)]
  have m1 := mul_bd (x := b.1 - a.1) (y := c.2 - a.2) (by omega) (by omega) (by omega) (by omega)
  have m2 := mul_bd (x := b.2 - a.2) (y := c.1 - a.1) (by omega) (by omega) (by omega) (by omega)
  generalize (b.1 - a.1) * (c.2 - a.2) = u at m1 ⊢
  generalize (b.2 - a.2) * (c.1 - a.1) = v at m2 ⊢
  rw [wrap_mid (z := u) (by omega) (by omega), wrap_mid (z := v) (by omega) (by omega), wrap_mid (by omega) (by omega)]
def dtP (a b c : Int × Int) : Int := (a.1 - b.1) * (c.1 - b.1) + (a.2 - b.2) * (c.2 - b.2)
theorem folded_near {a b c : Int × Int} (ha : nearB 1048576 a) (hb : nearB 1048576 b) (hc : nearB 1048576 c) : foldedW a b c = ((crP a b c == 0) && decide (dtP a b c > 0)) := by
  unfold foldedW
  rw [cross_near ha hb hc]
  unfold nearB at ha hb hc
  unfold dtP
  rw [wrap_near (z := a.1 - b.1) (by omega) (by omega), wrap_near (z := c.1 - b.1) (by omega) (by omega), wrap_near (z := a.2 - b.2) (by omega) (by omega), wrap_near (z := c.2 - b.2) (by omega) (by omega)]
  have m1 := mul_bd (x := a.1 - b.1) (y := c.1 - b.1) (by omega) (by omega) (by omega) (by omega)
  have m2 := mul_bd (x := a.2 - b.2) (y := c.2 - b.2) (by omega) (by omega) (by omega) (by omega)
  generalize (a.1 - b.1) * (c.1 - b.1) = u at m1 ⊢
  generalize (a.2 - b.2) * (c.2 - b.2) = v at m2 ⊢
  rw [wrap_mid (z := u) (by omega) (by omega), wrap_mid (z := v) (by omega) (by omega), wrap_mid (by omega) (by omega)]
def rsidW (l : List (Int × Int)) (n i : Nat) : Bool := !(eqS (gt l i) (gt l ((i + 1) % n)) || onW (gt l i) (gt l ((i + 1) % n)) (gt l ((i + 2) % n)) || onW (gt l ((i + 1) % n)) (gt l ((i + 2) % n)) (gt l i)) && AllB (innW l n i) n
def rsimW (l : List (Int × Int)) (n : Nat) : Bool := AllB (rsidW l n) n

theorem on_near {a b c : Int × Int} (ha : nearB 1048576 a) (hb : nearB 1048576 b) (hc : nearB 1048576 c) : onW a b c = true ↔ crP a b c = 0 ∧ min a.1 b.1 ≤ c.1 ∧ c.1 ≤ max a.1 b.1 ∧ min a.2 b.2 ≤ c.2 ∧ c.2 ≤ max a.2 b.2 := by
  unfold onW
  rw [cross_near ha hb hc]
  simp [and_assoc]

theorem mul_same {x y : Int} (h : (0 ≤ x ∧ 0 ≤ y) ∨ (x ≤ 0 ∧ y ≤ 0)) : 0 ≤ x * y := by
  rcases h with ⟨h1, h2⟩ | ⟨h1, h2⟩
  · exact Int.mul_nonneg h1 h2
  · have := Int.mul_nonneg (a := -x) (b := -y) (by omega) (by omega)
    rw [Int.neg_mul_neg] at this
    exact this
theorem mul_ne {x y : Int} (h : x * y = 0) : x = 0 ∨ y = 0 := Int.mul_eq_zero.1 h

/-- c on ab, c not b: the way back from b is folded. -/
theorem fold_of_on {a b c : Int × Int} (hcr : crP a b c = 0) (h1 : min a.1 b.1 ≤ c.1 ∧ c.1 ≤ max a.1 b.1) (h2 : min a.2 b.2 ≤ c.2 ∧ c.2 ≤ max a.2 b.2) (hne : ¬ (c.1 = b.1 ∧ c.2 = b.2)) : dtP a b c > 0 := by
  unfold dtP
  have p1 : 0 ≤ (a.1 - b.1) * (c.1 - b.1) := mul_same (by omega)
  have p2 : 0 ≤ (a.2 - b.2) * (c.2 - b.2) := mul_same (by omega)
  rcases Int.lt_or_le 0 ((a.1 - b.1) * (c.1 - b.1) + (a.2 - b.2) * (c.2 - b.2)) with h | h
  · exact h
  · exfalso
    have e1 : (a.1 - b.1) * (c.1 - b.1) = 0 := by omega
    have e2 : (a.2 - b.2) * (c.2 - b.2) = 0 := by omega
    have f1 := mul_ne e1
    have f2 := mul_ne e2
    omega
theorem crP_turn {a b c : Int × Int} : crP b c a = crP a b c := by unfold crP; grind
theorem dtP_swap {a b c : Int × Int} : dtP c b a = dtP a b c := by unfold dtP; grind

theorem abs_mix {u1 u2 v1 v2 : Int} (h : u1 * v2 = u2 * v1) (h1 : u1.natAbs > v1.natAbs) (h2 : v2.natAbs > u2.natAbs) : False := by
  have e : u1.natAbs * v2.natAbs = u2.natAbs * v1.natAbs := by rw [← Int.natAbs_mul, ← Int.natAbs_mul, h]
  have g1 : (v1.natAbs + 1) * (u2.natAbs + 1) ≤ u1.natAbs * v2.natAbs := Nat.mul_le_mul h1 h2
  rw [e] at g1
  have : u2.natAbs * v1.natAbs = v1.natAbs * u2.natAbs := Nat.mul_comm _ _
  rw [this, Nat.add_mul, Nat.mul_add] at g1
  omega
theorem on_of_fold {a b c : Int × Int} (hcr : crP a b c = 0) (hd : dtP a b c > 0) : ((min a.1 b.1 ≤ c.1 ∧ c.1 ≤ max a.1 b.1) ∧ (min a.2 b.2 ≤ c.2 ∧ c.2 ≤ max a.2 b.2)) ∨ ((min b.1 c.1 ≤ a.1 ∧ a.1 ≤ max b.1 c.1) ∧ (min b.2 c.2 ≤ a.2 ∧ a.2 ≤ max b.2 c.2)) := by
  obtain ⟨u1, hu1⟩ : ∃ u1, a.1 - b.1 = u1 := ⟨_, rfl⟩
  obtain ⟨u2, hu2⟩ : ∃ u2, a.2 - b.2 = u2 := ⟨_, rfl⟩
  obtain ⟨v1, hv1⟩ : ∃ v1, c.1 - b.1 = v1 := ⟨_, rfl⟩
  obtain ⟨v2, hv2⟩ : ∃ v2, c.2 - b.2 = v2 := ⟨_, rfl⟩
  have hx : u1 * v2 = u2 * v1 := by
    have : crP a b c = u2 * v1 - u1 * v2 := by rw [← hu1, ← hu2, ← hv1, ← hv2]; unfold crP; grind
    omega
  have hdd : 0 < u1 * v1 + u2 * v2 := by
    have : dtP a b c = u1 * v1 + u2 * v2 := by rw [← hu1, ← hu2, ← hv1, ← hv2]; rfl
    omega
  have hpq : 0 ≤ (u1 * v1) * (u2 * v2) := by
    have e : (u1 * v1) * (u2 * v2) = (u1 * v2) * (u1 * v2) := by rw [show (u1 * v1) * (u2 * v2) = (u1 * v2) * (u2 * v1) by grind, ← hx]
    rw [e]
    exact mul_same (by omega)
  have hs : ∀ {x y : Int}, 0 ≤ x * y → 0 < x + y → 0 ≤ x := fun {x y} h1 h2 => by
    rcases Int.lt_or_le x 0 with h | h
    · exfalso
      have : 0 < -x * y := Int.mul_pos (by omega) (by omega)
      rw [Int.neg_mul] at this
      omega
    · exact h
  have hP : 0 ≤ u1 * v1 := hs hpq hdd
  have hQ : 0 ≤ u2 * v2 := hs (x := u2 * v2) (y := u1 * v1) (by rw [Int.mul_comm]; exact hpq) (by omega)
  have hsg : ∀ {x y : Int}, 0 ≤ x * y → (0 ≤ x ∧ 0 ≤ y) ∨ (x ≤ 0 ∧ y ≤ 0) := fun {x y} h => by
    rcases Int.lt_or_le x 0 with h1 | h1
    · rcases Int.lt_or_le 0 y with h2 | h2
      · exfalso
        have : 0 < -x * y := Int.mul_pos (by omega) h2
        rw [Int.neg_mul] at this
        omega
      · exact .inr ⟨by omega, h2⟩
    · rcases Int.lt_or_le y 0 with h2 | h2
      · rcases Int.lt_or_le 0 x with h3 | h3
        · exfalso
          have : 0 < x * -y := Int.mul_pos h3 (by omega)
          rw [Int.mul_neg] at this
          omega
        · exact .inr ⟨h3, by omega⟩
      · exact .inl ⟨h1, h2⟩
  have s1 := hsg hP
  have s2 := hsg hQ
  by_cases k1 : u1.natAbs > v1.natAbs
  · have : ¬ v2.natAbs > u2.natAbs := fun h => abs_mix hx k1 h
    left; omega
  · by_cases k2 : u2.natAbs > v2.natAbs
    · by_cases k3 : v1.natAbs > u1.natAbs
      · exact (abs_mix (u1 := u2) (u2 := u1) (v1 := v2) (v2 := v1) hx.symm k2 k3).elim
      · left; omega
    · right; omega

theorem rsim_eq {l : List (Int × Int)} (hl : ∀ q ∈ l, nearB 1048576 q) (h3 : 3 ≤ l.length) : rsimW l l.length = simpleW l l.length := by
  obtain ⟨n, hn⟩ : ∃ n, l.length = n := ⟨_, rfl⟩
  have hN : ∀ i, i < n → nearB 1048576 (gt l i) := fun i hi => hl _ (gt_in (by omega))
  rw [hn] at h3 ⊢
  have hm : ∀ i, i % n < n := fun i => Nat.mod_lt _ (by omega)
  have hfo : ∀ i, i < n → (foldedW (gt l i) (gt l ((i + 1) % n)) (gt l ((i + 2) % n)) = true ↔ crP (gt l i) (gt l ((i + 1) % n)) (gt l ((i + 2) % n)) = 0 ∧ dtP (gt l i) (gt l ((i + 1) % n)) (gt l ((i + 2) % n)) > 0) := fun i hi => by
    rw [folded_near (hN i hi) (hN _ (hm _)) (hN _ (hm _))]; simp
  have hself : ∀ a b : Int × Int, nearB 1048576 a → nearB 1048576 b → onW a b a = true := fun a b ha hb => by
    rw [on_near ha hb ha]
    refine ⟨by unfold crP; grind, by omega, by omega, by omega, by omega⟩
  rw [Bool.eq_iff_iff]
  unfold rsimW simpleW
  rw [Bool.and_eq_true, AllB.iff, AllB.iff, AllB.iff]
  constructor
  · intro h
    have hr : ∀ i, i < n → eqS (gt l i) (gt l ((i + 1) % n)) = false ∧ onW (gt l i) (gt l ((i + 1) % n)) (gt l ((i + 2) % n)) = false ∧ onW (gt l ((i + 1) % n)) (gt l ((i + 2) % n)) (gt l i) = false ∧ AllB (innW l n i) n = true := fun i hi => by
      have := h i hi
      unfold rsidW at this
      simp only [Bool.and_eq_true, Bool.not_eq_true', Bool.or_eq_false_iff] at this
      exact ⟨this.1.1.1, this.1.1.2, this.1.2, this.2⟩
    refine ⟨fun i hi => ?_, fun i hi => ?_⟩
    · -- no vertex twice
      rw [Bool.not_eq_true']
      cases hd : dupW l i with
      | false => rfl
      | true =>
        exfalso
        unfold dupW at hd
        obtain ⟨j, hj, he⟩ := AnyB.iff.1 hd
        have heq := (eqS_iff _ _).1 he
        by_cases k1 : i = j + 1
        · have := (hr j (by omega)).1
          rw [show (j + 1) % n = i by rw [← k1]; exact Nat.mod_eq_of_lt hi, heq, (eqS_iff _ _).2 rfl] at this
          cases this
        · by_cases k2 : (i + 1) % n = j
          · have := (hr i hi).1
            rw [k2, heq, (eqS_iff _ _).2 rfl] at this
            cases this
          · have := AllB.iff.1 (hr j (by omega)).2.2.2 i hi
            unfold innW at this
            have hme : meetW (gt l j) (gt l ((j + 1) % n)) (gt l i) (gt l ((i + 1) % n)) = true := by
              unfold meetW
              rw [heq, hself _ _ (hN j (by omega)) (hN _ (hm _))]
              rfl
            rw [hme] at this
            simp at this
            omega
    · unfold sidW
      rw [Bool.and_eq_true, Bool.not_eq_true']
      refine ⟨?_, (hr i hi).2.2.2⟩
      cases hf : foldedW (gt l i) (gt l ((i + 1) % n)) (gt l ((i + 2) % n)) with
      | false => rfl
      | true =>
        exfalso
        obtain ⟨c1, c2⟩ := (hfo i hi).1 hf
        rcases on_of_fold c1 c2 with ⟨g1, g2⟩ | ⟨g1, g2⟩
        · have := (on_near (hN i hi) (hN _ (hm (i + 1))) (hN _ (hm (i + 2)))).2 ⟨c1, g1.1, g1.2, g2.1, g2.2⟩
          rw [(hr i hi).2.1] at this; cases this
        · have := (on_near (hN _ (hm (i + 1))) (hN _ (hm (i + 2))) (hN i hi)).2 ⟨by rw [crP_turn]; exact c1, g1.1, g1.2, g2.1, g2.2⟩
          rw [(hr i hi).2.2.1] at this; cases this
  · rintro ⟨h1, h2⟩ i hi
    have hd : ∀ i j, i < n → j < i → ¬ gt l i = gt l j := fun i j hi hj e => by
      have := h1 i hi
      rw [Bool.not_eq_true'] at this
      unfold dupW at this
      rw [AnyB.yes hj ((eqS_iff _ _).2 e)] at this
      cases this
    have hd2 : ∀ i j, i < n → j < n → i ≠ j → ¬ gt l i = gt l j := fun i j hi hj hij e => by
      rcases Nat.lt_or_gt_of_ne hij with h | h
      · exact hd j i hj h e.symm
      · exact hd i j hi h e
    have hs := h2 i hi
    unfold sidW at hs
    rw [Bool.and_eq_true, Bool.not_eq_true'] at hs
    have m1 : (i + 1) % n ≠ i := fun e => by
      rcases Nat.lt_or_ge (i + 1) n with h | h
      · rw [Nat.mod_eq_of_lt h] at e; omega
      · rw [show i + 1 = n by omega, Nat.mod_self] at e; omega
    have m2 : (i + 2) % n ≠ (i + 1) % n := fun e => by
      rcases Nat.lt_or_ge (i + 2) n with h | h
      · rw [Nat.mod_eq_of_lt h, Nat.mod_eq_of_lt (by omega)] at e; omega
      · rcases Nat.lt_or_ge (i + 1) n with h' | h'
        · rw [show i + 2 = n by omega, Nat.mod_self, Nat.mod_eq_of_lt h'] at e; omega
        · rw [show i + 2 = n + 1 by omega, show i + 1 = n by omega, Nat.mod_self, Nat.add_mod_left, Nat.mod_eq_of_lt (by omega)] at e; omega
    have nf : ¬ (crP (gt l i) (gt l ((i + 1) % n)) (gt l ((i + 2) % n)) = 0 ∧ dtP (gt l i) (gt l ((i + 1) % n)) (gt l ((i + 2) % n)) > 0) := fun h => by
      have := (hfo i hi).2 h
      rw [hs.1] at this; cases this
    have ne1 := hd2 _ _ (hm (i + 1)) hi m1
    have ne2 := hd2 _ _ (hm (i + 2)) (hm (i + 1)) m2
    unfold rsidW
    simp only [Bool.and_eq_true, Bool.not_eq_true', Bool.or_eq_false_iff]
    refine ⟨⟨⟨?_, ?_⟩, ?_⟩, hs.2⟩
    · cases he : eqS (gt l i) (gt l ((i + 1) % n)) with
      | false => rfl
      | true => exact absurd ((eqS_iff _ _).1 he).symm ne1
    · cases ho : onW (gt l i) (gt l ((i + 1) % n)) (gt l ((i + 2) % n)) with
      | false => rfl
      | true =>
        exfalso
        obtain ⟨q1, q2, q3, q4, q5⟩ := (on_near (hN i hi) (hN _ (hm (i + 1))) (hN _ (hm (i + 2)))).1 ho
        exact nf ⟨q1, fold_of_on q1 ⟨q2, q3⟩ ⟨q4, q5⟩ (fun e => ne2 (Prod.ext e.1 e.2))⟩
    · cases ho : onW (gt l ((i + 1) % n)) (gt l ((i + 2) % n)) (gt l i) with
      | false => rfl
      | true =>
        exfalso
        obtain ⟨q1, q2, q3, q4, q5⟩ := (on_near (hN _ (hm (i + 1))) (hN _ (hm (i + 2))) (hN i hi)).1 ho
        have c1 : crP (gt l i) (gt l ((i + 1) % n)) (gt l ((i + 2) % n)) = 0 := by rw [← crP_turn]; exact q1
        refine nf ⟨c1, ?_⟩
        rw [← dtP_swap]
        refine fold_of_on (a := gt l ((i + 2) % n)) (b := gt l ((i + 1) % n)) (c := gt l i) ?_ (by omega) (by omega) (fun e => ne1 (Prod.ext e.1.symm e.2.symm))
        unfold crP at c1 ⊢
        grind

end Go.Proofs.YtjnllehnplenaaaGreat

/- Plain geometry of simple polygons. Plain geometry of simple polygons. Plain geometry of simple polygons. -/
import Derived.Test.YtmdncaoilegnnaaGreatUG39
import Derived.Test.YtmdncaoilegnnaaGreatUD
import Derived.Test.YtmdncaoilegnnaaGreatUG13
namespace Go.Proofs.YtmdncaoilegnnaaGreat
set_option linter.unusedVariables false
set_option linter.unusedSimpArgs false
set_option linter.unusedVariables false
set_option linter.unusedSimpArgs false
namespace Ears

/-- A linear map that gives different heights to different points within the limits. -/
def shr (p : P) : P := (p.1, 4194304 * p.2 + p.1)
theorem cr_shr (a b c : P) : cr (shr a) (shr b) (shr c) = 4194304 * cr a b c := by unfold cr shr; grind
theorem shr_ht {a b : P} (ha : nearB 1048576 a) (hb : nearB 1048576 b) (h : (shr a).2 = (shr b).2) : a = b := by
  unfold nearB at ha hb; unfold shr at h; simp only at h
  exact Prod.ext (by omega) (by omega)
theorem crP_eq (a b c : P) : crP a b c = cr a b c := rfl
theorem between_of {H k x y : Int} (h0 : 0 < H) (h1 : 0 ≤ k) (h2 : k ≤ H) (h : H * x = k * y) : (0 ≤ y → 0 ≤ x ∧ x ≤ y) ∧ (y ≤ 0 → y ≤ x ∧ x ≤ 0) := by
  constructor
  · intro hy
    have z1 := nn h1 hy
    have z2 := nn (show 0 ≤ H - k by omega) hy
    rw [Int.sub_mul] at z2
    refine ⟨sge h0 (by omega), ?_⟩
    have : 0 ≤ y - x := sge h0 (by rw [Int.mul_sub]; omega)
    omega
  · intro hy
    have z1 := np h1 hy
    have z2 := np (show 0 ≤ H - k by omega) hy
    rw [Int.sub_mul] at z2
    have w1 : 0 ≤ -x := sge h0 (by rw [Int.mul_neg]; omega)
    have w2 : 0 ≤ x - y := sge h0 (by rw [Int.mul_sub]; omega)
    omega
theorem on_shr {a b c : P} (ha : nearB 1048576 a) (hb : nearB 1048576 b) (hne : a ≠ b) (h : On (shr a) (shr b) (shr c)) :
    cr a b c = 0 ∧ min a.1 b.1 ≤ c.1 ∧ c.1 ≤ max a.1 b.1 ∧ min a.2 b.2 ≤ c.2 ∧ c.2 ≤ max a.2 b.2 := by
  obtain ⟨h1, h2⟩ := h
  rw [cr_shr] at h1
  have h0 : cr a b c = 0 := by omega
  have hH : (shr a).2 ≠ (shr b).2 := fun e => hne (shr_ht ha hb e)
  have i1 : ((shr b).2 - (shr a).2) * (c.1 - a.1) = ((shr c).2 - (shr a).2) * (b.1 - a.1) := by
    have : ((shr b).2 - (shr a).2) * (c.1 - a.1) - ((shr c).2 - (shr a).2) * (b.1 - a.1) = - (4194304 * cr a b c) := by unfold shr cr; grind
    rw [h0] at this; omega
  have i2 : ((shr b).2 - (shr a).2) * (c.2 - a.2) = ((shr c).2 - (shr a).2) * (b.2 - a.2) := by
    have : ((shr b).2 - (shr a).2) * (c.2 - a.2) - ((shr c).2 - (shr a).2) * (b.2 - a.2) = cr a b c := by unfold shr cr; grind
    rw [h0] at this; omega
  generalize (shr a).2 = p at *
  generalize (shr b).2 = q at *
  generalize (shr c).2 = r at *
  rcases Int.lt_or_gt_of_ne hH with g | g
  · have b1 := between_of (H := q - p) (k := r - p) (by omega) (by omega) (by omega) i1
    have b2 := between_of (H := q - p) (k := r - p) (by omega) (by omega) (by omega) i2
    refine ⟨h0, by omega, by omega, by omega, by omega⟩
  · have b1 := between_of (H := p - q) (k := p - r) (x := c.1 - a.1) (y := b.1 - a.1) (by omega) (by omega) (by omega) (by rw [show p - q = -(q - p) by omega, show p - r = -(r - p) by omega, Int.neg_mul, Int.neg_mul, i1])
    have b2 := between_of (H := p - q) (k := p - r) (x := c.2 - a.2) (y := b.2 - a.2) (by omega) (by omega) (by omega) (by rw [show p - q = -(q - p) by omega, show p - r = -(r - p) by omega, Int.neg_mul, Int.neg_mul, i2])
    refine ⟨h0, by omega, by omega, by omega, by omega⟩
theorem Crs.apart {p q s t : P} (h : Crs p q s t) : p ≠ s ∧ p ≠ t ∧ q ≠ s ∧ q ≠ t := by
  obtain ⟨h1, h2⟩ := h
  refine ⟨?_, ?_, ?_, ?_⟩
  · rintro rfl; rw [cr_same1] at h1; unfold opp at h1; omega
  · rintro rfl; rw [cr_same1 p q] at h1; unfold opp at h1; omega
  · rintro rfl; rw [cr_same2 p q] at h1; unfold opp at h1; omega
  · rintro rfl; rw [cr_same2 p q] at h1; unfold opp at h1; omega
theorem opp_scale {x y : Int} (h : opp (4194304 * x) (4194304 * y)) : opp x y := by unfold opp at *; omega
/- Lists by their indices. -/
theorem gt_cons_succ (x : P) (k : List P) (i : Nat) : gt (x :: k) (i + 1) = gt k i := by unfold gt; simp
theorem gt_cons_zero (x : P) (k : List P) : gt (x :: k) 0 = x := by unfold gt; simp
theorem gt_append_left {a b : List P} {i : Nat} (h : i < a.length) : gt (a ++ b) i = gt a i := by unfold gt; simp [List.getD, List.getElem?_append_left h]
theorem gt_append_right {a b : List P} {i : Nat} (h : a.length ≤ i) : gt (a ++ b) i = gt b (i - a.length) := by unfold gt; simp [List.getD, List.getElem?_append_right h]
theorem ch_idx (k : List P) : ∀ x e, e ∈ ch x k ↔ ∃ i, i < k.length ∧ e = (gt (x :: k) i, gt k i) := by
  induction k with
  | nil => intro x e; simp [ch]
  | cons y k ih =>
    intro x e
    simp only [ch, List.mem_cons]
    constructor
    · rintro (rfl | h)
      · exact ⟨0, by simp, by rw [gt_cons_zero, gt_cons_zero]⟩
      · obtain ⟨i, hi, he⟩ := (ih y e).1 h
        exact ⟨i + 1, by simp; omega, by rw [gt_cons_succ, gt_cons_succ]; exact he⟩
    · rintro ⟨i, hi, rfl⟩
      cases i with
      | zero => left; rw [gt_cons_zero, gt_cons_zero]
      | succ i => right; exact (ih y _).2 ⟨i, by simp at hi; omega, by rw [gt_cons_succ, gt_cons_succ]⟩
theorem E_idx {l : List P} (h0 : 0 < l.length) (e : P × P) : e ∈ E l ↔ ∃ i, i < l.length ∧ e = (gt l i, gt l ((i + 1) % l.length)) := by
  cases l with
  | nil => simp at h0
  | cons x k =>
    simp only [E]
    rw [ch_idx]
    have key : ∀ i, i < (x :: k).length → gt (x :: (k ++ [x])) i = gt (x :: k) i ∧ gt (k ++ [x]) i = gt (x :: k) ((i + 1) % (x :: k).length) := by
      intro i hi
      constructor
      · rw [← List.cons_append, gt_append_left hi]
      · simp only [List.length_cons] at hi ⊢
        by_cases c : i < k.length
        · rw [gt_append_left c, Nat.mod_eq_of_lt (by omega), gt_cons_succ]
        · have : i = k.length := by omega
          rw [this, gt_append_right (by omega), Nat.sub_self, Nat.mod_self, gt_cons_zero, gt_cons_zero]
    constructor
    · rintro ⟨i, hi, rfl⟩
      have hi' : i < (x :: k).length := by simp at hi ⊢; omega
      exact ⟨i, hi', by rw [(key i hi').1, (key i hi').2]⟩
    · rintro ⟨i, hi, rfl⟩
      exact ⟨i, by simp at hi ⊢; omega, by rw [(key i hi).1, (key i hi).2]⟩
theorem gt_map_shr {l : List P} {i : Nat} (h : i < l.length) : gt (l.map shr) i = shr (gt l i) := gt_map h
/-- What the code's test of a simple polygon says. -/
theorem simple_facts {l : List P} (hl : ∀ q ∈ l, nearB 1048576 q) (h3 : 3 ≤ l.length) (hs : simpleW l l.length = true) :
    (∀ i j, i < l.length → j < l.length → i ≠ j → gt l i ≠ gt l j) ∧
    (∀ i, i < l.length → onW (gt l i) (gt l ((i + 1) % l.length)) (gt l ((i + 2) % l.length)) = false ∧ onW (gt l ((i + 1) % l.length)) (gt l ((i + 2) % l.length)) (gt l i) = false) ∧
    (∀ i k, i < l.length → k < l.length → i + 2 ≤ k → (k + 1) % l.length ≠ i → meetW (gt l i) (gt l ((i + 1) % l.length)) (gt l k) (gt l ((k + 1) % l.length)) = false) := by
  have hr := rsim_eq hl h3
  rw [hs] at hr
  unfold rsimW at hr
  rw [AllB.iff] at hr
  refine ⟨?_, fun i hi => ?_, fun i k hi hk h2 h4 => ?_⟩
  · unfold simpleW at hs
    rw [Bool.and_eq_true, AllB.iff] at hs
    have hd : ∀ i j, i < l.length → j < i → ¬ gt l i = gt l j := fun i j hi hj e => by
      have := hs.1 i hi
      rw [Bool.not_eq_true'] at this
      unfold dupW at this
      rw [AnyB.yes hj ((eqS_iff _ _).2 e)] at this
      cases this
    intro i j hi hj hij e
    rcases Nat.lt_or_gt_of_ne hij with h | h
    · exact hd j i hj h e.symm
    · exact hd i j hi h e
  · have := hr i hi
    unfold rsidW at this
    simp only [Bool.and_eq_true, Bool.not_eq_true', Bool.or_eq_false_iff] at this
    exact ⟨this.1.1.2, this.1.2⟩
  · have := hr i hi
    unfold rsidW at this
    simp only [Bool.and_eq_true] at this
    have := AllB.iff.1 this.2 k hk
    unfold innW at this
    simp only [Bool.or_eq_true, decide_eq_true_eq, Bool.not_eq_true'] at this
    rcases this with (g | g) | g
    · omega
    · exact absurd g h4
    · exact g
theorem on_intro {a b c : P} (ha : nearB 1048576 a) (hb : nearB 1048576 b) (hc : nearB 1048576 c) (hne : a ≠ b) (h : On (shr a) (shr b) (shr c)) : onW a b c = true := (on_near ha hb hc).2 (on_shr ha hb hne h)
theorem parted_intro {a b c d : P} (ha : nearB 1048576 a) (hb : nearB 1048576 b) (hc : nearB 1048576 c) (hd : nearB 1048576 d) (h : opp (cr a b c) (cr a b d)) : partedW a b c d = true := by
  unfold partedW
  rw [cross_near ha hb hc, cross_near ha hb hd, crP_eq, crP_eq]
  unfold cmpI
  rcases h with ⟨h1, h2⟩ | ⟨h1, h2⟩
  · rw [if_pos h1, if_neg (by omega), if_pos (by omega)]; rfl
  · rw [if_neg (by omega), if_pos (by omega), if_pos h2]; rfl
theorem mod_succ {i n : Nat} (h : i < n) : (i + 1) % n = i + 1 ∨ (i + 1 = n ∧ (i + 1) % n = 0) := by
  rcases Nat.lt_or_ge (i + 1) n with g | g
  · exact .inl (Nat.mod_eq_of_lt g)
  · have : i + 1 = n := by omega
    exact .inr ⟨this, by rw [this, Nat.mod_self]⟩
theorem sim_of_simple {l : List P} (hl : ∀ q ∈ l, nearB 1048576 q) (h3 : 3 ≤ l.length) (hs : simpleW l l.length = true) : Sim (l.map shr) := by
  obtain ⟨f1, f2, f3⟩ := simple_facts hl h3 hs
  obtain ⟨n, hn⟩ : ∃ n, n = l.length := ⟨_, rfl⟩
  rw [← hn] at f1 f2 f3 h3
  have hN : ∀ i, i < n → nearB 1048576 (gt l i) := fun i hi => hl _ (gt_in (by omega))
  have hm : ∀ i, i % n < n := fun i => Nat.mod_lt _ (by omega)
  have len : (l.map shr).length = n := by rw [List.length_map, hn]
  have hE : ∀ e ∈ E (l.map shr), ∃ i, i < n ∧ e = (shr (gt l i), shr (gt l ((i + 1) % n))) := by
    intro e he
    obtain ⟨i, hi, rfl⟩ := (E_idx (by omega) e).1 he
    rw [len] at hi ⊢
    exact ⟨i, hi, by rw [gt_map_shr (by omega), gt_map_shr (by rw [← hn]; exact hm _)]⟩
  have hV : ∀ r ∈ l.map shr, ∃ j, j < n ∧ r = shr (gt l j) := by
    intro r hr
    obtain ⟨q, hq, rfl⟩ := List.mem_map.1 hr
    obtain ⟨j, hj, rfl⟩ := mem_gt hq
    exact ⟨j, by omega, rfl⟩
  have ne1 : ∀ i, i < n → i ≠ (i + 1) % n := by
    intro i hi; rcases mod_succ hi with g | ⟨g1, g2⟩ <;> omega
  have ht : ∀ p ∈ l.map shr, ∀ q ∈ l.map shr, p.2 = q.2 → p = q := by
    intro p hp q hq e
    obtain ⟨i, hi, rfl⟩ := hV p hp
    obtain ⟨j, hj, rfl⟩ := hV q hq
    rw [shr_ht (hN i hi) (hN j hj) e]
  -- edges i and j far from each other
  have far : ∀ i j, i < n → j < n → i ≠ j → (i + 1) % n ≠ j → (j + 1) % n ≠ i → meetW (gt l i) (gt l ((i + 1) % n)) (gt l j) (gt l ((j + 1) % n)) = false ∨ meetW (gt l j) (gt l ((j + 1) % n)) (gt l i) (gt l ((i + 1) % n)) = false := by
    intro i j hi hj h1 h2 h4
    rcases Nat.lt_or_gt_of_ne h1 with g | g
    · left
      refine f3 i j hi hj ?_ h4
      rcases mod_succ hi with k | ⟨k1, k2⟩ <;> omega
    · right
      refine f3 j i hj hi ?_ h2
      rcases mod_succ hj with k | ⟨k1, k2⟩ <;> omega
  refine ⟨?_, ht, ?_, ?_⟩
  · refine List.pairwise_iff_getElem.2 fun i j hi hj hij e => ?_
    rw [len] at hi hj
    have g1 : gt (l.map shr) i = gt (l.map shr) j := by
      unfold gt; rw [List.getD_eq_getElem?_getD, List.getD_eq_getElem?_getD, List.getElem?_eq_getElem (by omega), List.getElem?_eq_getElem (by omega), e]
    rw [gt_map_shr (by omega), gt_map_shr (by omega)] at g1
    have := shr_ht (hN i (by omega)) (hN j hj) (by rw [g1])
    exact f1 i j (by omega) hj (by omega) this
  · intro e he r hr o
    obtain ⟨i, hi, rfl⟩ := hE e he
    obtain ⟨j, hj, rfl⟩ := hV r hr
    simp only at o ⊢
    have hon := on_intro (hN i hi) (hN _ (hm _)) (hN j hj) (f1 i _ hi (hm _) (ne1 i hi)) o
    by_cases c1 : i = j
    · left; rw [c1]
    · by_cases c2 : (i + 1) % n = j
      · right; rw [c2]
      · exfalso
        by_cases c3 : (j + 1) % n = i
        · -- j is the vertex before the edge
          have := (f2 j hj).2
          rw [c3] at this
          have e : (j + 2) % n = (i + 1) % n := by
            rcases mod_succ hj with k | ⟨k1, k2⟩
            · rw [← c3, k]
            · rw [← c3, k2, show j + 2 = n + 1 by omega, Nat.add_mod_left]
          rw [e, hon] at this; cases this
        · rcases far i j hi hj c1 c2 c3 with g | g
          · unfold meetW at g; rw [hon] at g; simp at g
          · unfold meetW at g; rw [hon] at g; simp at g
  · intro e he f hf x
    obtain ⟨i, hi, rfl⟩ := hE e he
    obtain ⟨j, hj, rfl⟩ := hE f hf
    simp only at x
    obtain ⟨a1, a2, a3, a4⟩ := x.apart
    have c1 : i ≠ j := by rintro rfl; exact a1 rfl
    have c2 : (i + 1) % n ≠ j := by rintro rfl; exact a3 rfl
    have c3 : (j + 1) % n ≠ i := by rintro rfl; exact a2 rfl
    obtain ⟨x1, x2⟩ := x
    rw [cr_shr, cr_shr] at x1 x2
    have p1 := parted_intro (hN i hi) (hN _ (hm _)) (hN j hj) (hN _ (hm _)) (opp_scale x1)
    have p2 := parted_intro (hN j hj) (hN _ (hm _)) (hN i hi) (hN _ (hm _)) (opp_scale x2)
    rcases far i j hi hj c1 c2 c3 with g | g
    · unfold meetW at g; rw [p1, p2] at g; simp at g
    · unfold meetW at g; rw [p1, p2] at g; simp at g
end Ears
end Go.Proofs.YtmdncaoilegnnaaGreat

namespace Go.Proofs.YtmdncaoilegnnaaGreat
set_option linter.unusedVariables false
set_option linter.unusedSimpArgs false
set_option linter.unusedVariables false
set_option linter.unusedSimpArgs false
namespace Ears

theorem decomp2 {k : List P} (h : 2 ≤ k.length) : ∃ m, k = gt k 0 :: (m ++ [gt k (k.length - 1)]) := by
  match k, h with
  | w :: x :: k, _ =>
    obtain ⟨m, u, e⟩ := snoc_of (l := x :: k) (by simp)
    refine ⟨m, ?_⟩
    rw [gt_cons_zero]
    have : gt (w :: x :: k) ((w :: x :: k).length - 1) = u := by
      rw [e]
      simp only [List.length_cons, List.length_append, List.length_nil]
      rw [show m.length + (0 + 1) + 1 - 1 = m.length + 1 by omega, gt_cons_succ, gt_append_right (Nat.le_refl _), Nat.sub_self, gt_cons_zero]
    rw [this, ← e]
/-- The list read from vertex i on. -/
theorem idx_rot {l : List P} {i : Nat} (h3 : 3 ≤ l.length) (hi : i < l.length) :
    ∃ m, l.drop i ++ l.take i = gt l i :: gt l ((i + 1) % l.length) :: (m ++ [gt l ((i + l.length - 1) % l.length)]) ∧
      l.drop (i + 1) ++ l.take i = gt l ((i + 1) % l.length) :: (m ++ [gt l ((i + l.length - 1) % l.length)]) := by
  obtain ⟨k, hk⟩ : ∃ k, k = l.drop (i + 1) ++ l.take i := ⟨_, rfl⟩
  have hlen : k.length = l.length - 1 := by rw [hk, List.length_append, List.length_drop, List.length_take]; omega
  have hg : ∀ j, j < l.length - 1 → gt k j = gt l ((i + 1 + j) % l.length) := by
    intro j hj
    rw [hk]
    by_cases c : j < l.length - (i + 1)
    · rw [gt_append_left (by rw [List.length_drop]; exact c), gt_drop, Nat.mod_eq_of_lt (by omega)]
    · rw [gt_append_right (by rw [List.length_drop]; omega), List.length_drop, gt_take (by omega)]
      congr 1
      rw [show i + 1 + j = (j - (l.length - (i + 1))) + l.length by omega, Nat.add_mod_right, Nat.mod_eq_of_lt (by omega)]
  obtain ⟨m, hm⟩ := decomp2 (k := k) (by omega)
  rw [hg 0 (by omega), hlen, hg (l.length - 1 - 1) (by omega)] at hm
  rw [show i + 1 + 0 = i + 1 by omega, show i + 1 + (l.length - 1 - 1) = i + l.length - 1 by omega] at hm
  refine ⟨m, ?_, ?_⟩
  · have : l.drop i = gt l i :: l.drop (i + 1) := by
      rw [List.drop_eq_getElem_cons hi]
      congr 1
      unfold gt; rw [List.getD_eq_getElem?_getD, List.getElem?_eq_getElem hi]; rfl
    rw [this, List.cons_append, ← hk, hm]
  · rw [← hk, hm]
theorem erase_rot (l : List P) (i : Nat) : l.eraseIdx i = l.take i ++ l.drop (i + 1) := List.eraseIdx_eq_take_drop_succ l i
/-- A polygon that is simple, turns to the left and lies within the limits. -/
structure Good (l : List P) : Prop where
  sim : Sim (l.map shr)
  lam : lam (l.map shr) = true
  len : 3 ≤ l.length
  near : ∀ q ∈ l, nearB 1048576 q
theorem inT_shr (u b w q : P) : InT (shr u) (shr b) (shr w) (shr q) ↔ InT u b w q := by
  unfold InT; rw [cr_shr, cr_shr, cr_shr]; omega
section
variable {l : List P} {i : Nat}

theorem good_rot (h : Good l) (hi : i < l.length) : ∃ m, l.drop i ++ l.take i = gt l i :: gt l ((i + 1) % l.length) :: (m ++ [gt l ((i + l.length - 1) % l.length)]) ∧
    l.drop (i + 1) ++ l.take i = gt l ((i + 1) % l.length) :: (m ++ [gt l ((i + l.length - 1) % l.length)]) ∧
    Sim (shr (gt l i) :: shr (gt l ((i + 1) % l.length)) :: (m.map shr ++ [shr (gt l ((i + l.length - 1) % l.length))])) ∧
    Ears.lam (shr (gt l i) :: shr (gt l ((i + 1) % l.length)) :: (m.map shr ++ [shr (gt l ((i + l.length - 1) % l.length))])) = true := by
  obtain ⟨m, h1, h2⟩ := idx_rot h.len hi
  refine ⟨m, h1, h2, ?_⟩
  have e : l.map shr = (l.take i).map shr ++ (l.drop i).map shr := by rw [← List.map_append, List.take_append_drop]
  have s := h.sim
  have la := h.lam
  rw [e] at s la
  have s2 := s.rot
  have l2 := lam_rot _ _ (by rw [← e, List.length_map]; exact h.len) s
  rw [la] at l2
  rw [← List.map_append, h1] at s2 l2
  simp only [List.map_cons, List.map_append, List.map_nil] at s2 l2
  exact ⟨s2, l2.symm⟩
theorem good_erase (h : Good l) (hi : i < l.length) (h4 : 4 ≤ l.length) {m : List P} (h2 : l.drop (i + 1) ++ l.take i = gt l ((i + 1) % l.length) :: (m ++ [gt l ((i + l.length - 1) % l.length)]))
    (hs : Sim (shr (gt l ((i + 1) % l.length)) :: (m.map shr ++ [shr (gt l ((i + l.length - 1) % l.length))])))
    (hl : Ears.lam (shr (gt l ((i + 1) % l.length)) :: (m.map shr ++ [shr (gt l ((i + l.length - 1) % l.length))])) = true) : Good (l.eraseIdx i) := by
  have len : (l.eraseIdx i).length = l.length - 1 := by rw [List.length_eraseIdx, if_pos hi]
  have e : shr (gt l ((i + 1) % l.length)) :: (m.map shr ++ [shr (gt l ((i + l.length - 1) % l.length))]) = (l.drop (i + 1)).map shr ++ (l.take i).map shr := by
    rw [← List.map_append, h2]; simp
  rw [e] at hs hl
  have s2 := hs.rot
  have l2 := lam_rot _ _ (by rw [← List.map_append, List.length_map, List.length_append, List.length_drop, List.length_take]; omega) hs
  rw [hl] at l2
  have e2 : (l.take i).map shr ++ (l.drop (i + 1)).map shr = (l.eraseIdx i).map shr := by rw [erase_rot, List.map_append]
  rw [e2] at s2 l2
  exact ⟨s2, l2.symm, by omega, fun q hq => h.near q (List.mem_of_mem_eraseIdx hq)⟩
theorem mid_ne (h4 : 4 ≤ l.length) (hi : i < l.length) {m : List P} (h2 : l.drop (i + 1) ++ l.take i = gt l ((i + 1) % l.length) :: (m ++ [gt l ((i + l.length - 1) % l.length)])) : m.map shr ≠ [] := by
  intro e
  have : m = [] := by simpa using e
  subst this
  have := congrArg List.length h2
  rw [List.length_append, List.length_drop, List.length_take] at this
  simp at this; omega
theorem good_flat (h : Good l) (hi : i < l.length) (h4 : 4 ≤ l.length) (hz : cr (gt l ((i + l.length - 1) % l.length)) (gt l i) (gt l ((i + 1) % l.length)) = 0) : Good (l.eraseIdx i) := by
  obtain ⟨m, h1, h2, s, la⟩ := good_rot h hi
  obtain ⟨s', l'⟩ := flat_cut s (by rw [cr_shr, hz]; rfl) (mid_ne h4 hi h2)
  exact good_erase h hi h4 h2 s' (by rw [l', la])
theorem good_ear (h : Good l) (hi : i < l.length) (h4 : 4 ≤ l.length) (hp : 0 < cr (gt l ((i + l.length - 1) % l.length)) (gt l i) (gt l ((i + 1) % l.length)))
    (hf : ∀ q ∈ l, q ≠ gt l ((i + l.length - 1) % l.length) → q ≠ gt l i → q ≠ gt l ((i + 1) % l.length) → ¬ InT (gt l ((i + l.length - 1) % l.length)) (gt l i) (gt l ((i + 1) % l.length)) q) : Good (l.eraseIdx i) := by
  obtain ⟨m, h1, h2, s, la⟩ := good_rot h hi
  obtain ⟨k1, k2, k3, k4, k5, k6, k7, k8⟩ := nd_tri s.nd
  obtain ⟨s', l'⟩ := ear_cut s (by rw [cr_shr]; omega) (fun r hr => by
    obtain ⟨q, hq, rfl⟩ := List.mem_map.1 hr
    rw [inT_shr]
    refine hf q ?_ ?_ ?_ ?_
    · have : q ∈ l.drop i ++ l.take i := by rw [h1]; simp [hq]
      rcases List.mem_append.1 this with g | g
      · exact List.mem_of_mem_drop g
      · exact List.mem_of_mem_take g
    · rintro rfl; exact k6 hr
    · rintro rfl; exact k4 hr
    · rintro rfl; exact k5 hr) (mid_ne h4 hi h2)
  exact good_erase h hi h4 h2 s' (by rw [l', la])
theorem good_has_ear (h : Good l) : ∃ i, i < l.length ∧ 0 < cr (gt l ((i + l.length - 1) % l.length)) (gt l i) (gt l ((i + 1) % l.length)) ∧
    ∀ q ∈ l, q ≠ gt l ((i + l.length - 1) % l.length) → q ≠ gt l i → q ≠ gt l ((i + 1) % l.length) → ¬ InT (gt l ((i + l.length - 1) % l.length)) (gt l i) (gt l ((i + 1) % l.length)) q := by
  have h3 := h.len
  obtain ⟨x, y, hxy⟩ : ∃ x y, (x, y) ∈ E (l.map shr) := ⟨_, _, (E_idx (by rw [List.length_map]; omega) _).2 ⟨0, by rw [List.length_map]; omega, rfl⟩⟩
  obtain ⟨u, b, w, ⟨e1, e2, D, emp⟩, _⟩ := ears _ (l.map shr) (Nat.le_refl _) (by rw [List.length_map]; exact h3) h.sim h.lam x y hxy
  obtain ⟨b', hb', rfl⟩ := List.mem_map.1 (E_mem e2).1
  obtain ⟨i, hi, rfl⟩ := mem_gt hb'
  obtain ⟨m, h1, h2, s, la⟩ := good_rot h hi
  have e : l.map shr = (l.take i).map shr ++ (l.drop i).map shr := by rw [← List.map_append, List.take_append_drop]
  have er : (l.drop i).map shr ++ (l.take i).map shr = shr (gt l i) :: shr (gt l ((i + 1) % l.length)) :: (m.map shr ++ [shr (gt l ((i + l.length - 1) % l.length))]) := by
    rw [← List.map_append, h1]; simp
  rw [e] at e1 e2
  have f1 := E_rot_mem e1
  have f2 := E_rot_mem e2
  rw [er] at f1 f2
  have gu := (edges_tri s.nd).2 f1
  have gw := (edges_tri s.nd).1 f2
  subst gu; subst gw
  refine ⟨i, hi, by rw [cr_shr] at D; omega, fun q hq n1 n2 n3 hT => ?_⟩
  have near : ∀ j, j < l.length → nearB 1048576 (gt l j) := fun j hj => h.near _ (gt_in hj)
  have inj : ∀ j, j < l.length → q ≠ gt l j → shr q ≠ shr (gt l j) := fun j hj hne e => hne (shr_ht (h.near q hq) (near j hj) (by rw [e]))
  exact emp (shr q) (List.mem_map.2 ⟨q, hq, rfl⟩) (inj _ (Nat.mod_lt _ (by omega)) n1) (inj _ hi n2) (inj _ (Nat.mod_lt _ (by omega)) n3) ((inT_shr _ _ _ _).2 hT)
end

/-- The triangles of a good polygon of three vertices turn to the left. -/
theorem good_tri {a b c : P} (h : Good [a, b, c]) : 0 < cr a b c := by
  have := tri3 h.sim h.lam
  rw [cr_shr] at this; omega
theorem holds_neg {a b c q : P} (ha : nearB 1048576 a) (hb : nearB 1048576 b) (hc : nearB 1048576 c) (hq : nearB 1048576 q) (D : 0 < cr a b c) : holdsW a b c q < 0 ↔ ¬ InT a b c q := by
  have out : ∀ {p : P}, nearB 1048576 p → outB 1048576 p = false := by
    intro p hp; unfold nearB at hp; unfold outB; simp; omega
  have cD : crossW a b c = cr a b c := cross_near ha hb hc
  rw [holdsW_pos (by rw [out hq, out ha, out hb, out hc]; rfl) (by rw [cD]; omega) (by rw [cD]; omega), cross_near ha hb hq, cross_near hb hc hq, cross_near hc ha hq]
  show sgn3 (min3 (cr a b q) (cr b c q) (cr c a q)) < 0 ↔ _
  unfold InT sgn3 min3
  generalize cr a b q = x
  generalize cr b c q = y
  generalize cr c a q = z
  repeat' split <;> omega
theorem free_iff {l : List P} (h : Good l) {i : Nat} (hi : i < l.length) : freeW l l.length i = true ↔ 0 < cr (gt l ((i + l.length - 1) % l.length)) (gt l i) (gt l ((i + 1) % l.length)) ∧
    ∀ q ∈ l, q ≠ gt l ((i + l.length - 1) % l.length) → q ≠ gt l i → q ≠ gt l ((i + 1) % l.length) → ¬ InT (gt l ((i + l.length - 1) % l.length)) (gt l i) (gt l ((i + 1) % l.length)) q := by
  have near : ∀ j, j < l.length → nearB 1048576 (gt l j) := fun j hj => h.near _ (gt_in hj)
  have m1 : (i + 1) % l.length < l.length := Nat.mod_lt _ (by omega)
  have m2 : (i + l.length - 1) % l.length < l.length := Nat.mod_lt _ (by omega)
  unfold freeW
  rw [Bool.and_eq_true, decide_eq_true_eq, cross_near (near _ m2) (near _ hi) (near _ m1), crP_eq, AllB.iff]
  constructor
  · rintro ⟨D, hf⟩
    refine ⟨D, fun q hq n1 n2 n3 => ?_⟩
    obtain ⟨j, hj, rfl⟩ := mem_gt hq
    have := hf j hj
    unfold frW at this
    simp only [Bool.or_eq_true, eqS_iff, decide_eq_true_eq] at this
    rcases this with ((g | g) | g) | g
    · exact absurd g n1
    · exact absurd g n2
    · exact absurd g n3
    · exact (holds_neg (near _ m2) (near _ hi) (near _ m1) (near _ hj) D).1 g
  · rintro ⟨D, hf⟩
    refine ⟨D, fun j hj => ?_⟩
    unfold frW
    simp only [Bool.or_eq_true, eqS_iff, decide_eq_true_eq]
    by_cases c1 : gt l j = gt l ((i + l.length - 1) % l.length)
    · exact .inl (.inl (.inl c1))
    · by_cases c2 : gt l j = gt l i
      · exact .inl (.inl (.inr c2))
      · by_cases c3 : gt l j = gt l ((i + 1) % l.length)
        · exact .inl (.inr c3)
        · exact .inr ((holds_neg (near _ m2) (near _ hi) (near _ m1) (near _ hj) D).2 (hf _ (gt_in hj) c1 c2 c3))
theorem idx_found {f : Nat → Bool} {n k : Nat} (h : idxOf f n = (k : Int)) : k < n ∧ f k = true := by
  unfold idxOf at h
  cases hf : (List.range n).find? f with
  | none => rw [hf] at h; simp only at h; omega
  | some i =>
    rw [hf] at h
    simp only at h
    have : i = k := by omega
    subst this
    exact ⟨by simpa using List.mem_of_find?_eq_some hf, List.find?_some hf⟩
/-- A proper triangle within the limits with vertices of l. -/
def TriOf (l t : List P) : Prop := ∃ a b c, t = [a, b, c] ∧ 0 < cr a b c ∧ a ∈ l ∧ b ∈ l ∧ c ∈ l
theorem split_good : ∀ (f : Nat) (cur : List P) (ts : List (List P)) (l : List P), Good cur → cur.length ≤ f + 3 → (∀ q ∈ cur, q ∈ l) → (∀ t ∈ ts, TriOf l t) → ∃ r, splitW f cur ts = some r ∧ (∀ t ∈ r, TriOf l t) ∧ ts.length < r.length
  | f, cur, ts, l, h, hf, hsub, hts => by
    by_cases h3 : cur.length ≤ 3
    · rw [splitW_end h3]
      refine ⟨_, rfl, fun t ht => ?_, by simp⟩
      rcases List.mem_append.1 ht with g | g
      · exact hts t g
      · simp at g; subst g
        have hl := h.len
        match t, h3, hl with
        | [a, b, c], _, _ => exact ⟨a, b, c, rfl, good_tri h, hsub a (by simp), hsub b (by simp), hsub c (by simp)⟩
    · cases f with
      | zero => omega
      | succ f =>
        have near : ∀ j, j < cur.length → nearB 1048576 (gt cur j) := fun j hj => h.near _ (gt_in hj)
        have esub : ∀ i, ∀ q ∈ cur.eraseIdx i, q ∈ l := fun i q hq => hsub q (List.mem_of_mem_eraseIdx hq)
        rcases idxOf_cases (strW cur cur.length) cur.length with g | ⟨k, hk, g⟩
        · rcases idxOf_cases (freeW cur cur.length) cur.length with g2 | ⟨k, hk, g2⟩
          · exfalso
            obtain ⟨i, hi, hE⟩ := good_has_ear h
            have := idxOf_any (freeW cur cur.length) cur.length
            rw [AnyB.yes hi ((free_iff h hi).2 hE), g2] at this
            simp at this
          · rw [splitW_ear rfl h3 (by rw [g]; omega) g2]
            have hE := (free_iff h hk).1 (idx_found g2).2
            have len : (cur.eraseIdx k).length = cur.length - 1 := by rw [List.length_eraseIdx, if_pos hk]
            obtain ⟨r, r1, r2, r3⟩ := split_good f (cur.eraseIdx k) (ts ++ [triW cur cur.length k]) l (good_ear h hk (by omega) hE.1 hE.2) (by omega) (esub k) (fun t ht => by
              rcases List.mem_append.1 ht with q | q
              · exact hts t q
              · simp at q; subst q
                exact ⟨_, _, _, rfl, hE.1, hsub _ (gt_in (Nat.mod_lt _ (by omega))), hsub _ (gt_in hk), hsub _ (gt_in (Nat.mod_lt _ (by omega)))⟩)
            exact ⟨r, r1, r2, by simp at r3; omega⟩
        · rw [splitW_str rfl h3 g]
          have hz := (idx_found g).2
          unfold strW at hz
          rw [cross_near (near _ (Nat.mod_lt _ (by omega))) (near _ hk) (near _ (Nat.mod_lt _ (by omega))), crP_eq, beq_iff_eq] at hz
          have len : (cur.eraseIdx k).length = cur.length - 1 := by rw [List.length_eraseIdx, if_pos hk]
          exact split_good f (cur.eraseIdx k) ts l (good_flat h hk (by omega) hz) (by omega) (esub k) hts
end Ears
end Go.Proofs.YtmdncaoilegnnaaGreat

namespace Go.Proofs.YtmdncaoilegnnaaGreat
set_option linter.unusedVariables false
set_option linter.unusedSimpArgs false
set_option linter.unusedVariables false
set_option linter.unusedSimpArgs false
namespace Ears
open Go.RowKit

theorem ch_range (k : List P) : ∀ x, ch x k = (List.range k.length).map (fun i => (gt (x :: k) i, gt k i)) := by
  induction k with
  | nil => intro x; rfl
  | cons y k ih =>
    intro x
    rw [ch, ih y, List.length_cons, List.range_succ_eq_map, List.map_cons, List.map_map]
    rw [gt_cons_zero, gt_cons_zero]
    congr 1
theorem E_range {l : List P} (h0 : 0 < l.length) : E l = (List.range l.length).map (fun i => (gt l i, gt l ((i + 1) % l.length))) := by
  cases l with
  | nil => simp at h0
  | cons x k =>
    simp only [E]
    rw [ch_range]
    rw [show (k ++ [x]).length = (x :: k).length by simp]
    apply List.map_congr_left
    intro i hi
    have hi : i < (x :: k).length := by simpa using hi
    congr 1
    · rw [← List.cons_append, gt_append_left hi]
    · simp only [List.length_cons] at hi ⊢
      by_cases c : i < k.length
      · rw [gt_append_left c, Nat.mod_eq_of_lt (by omega), gt_cons_succ]
      · have : i = k.length := by omega
        rw [this, gt_append_right (by omega), Nat.sub_self, Nat.mod_self, gt_cons_zero, gt_cons_zero]
theorem mul_bd20 {x y : Int} (h1 : -1048576 ≤ x) (h2 : x ≤ 1048576) (h3 : -1048576 ≤ y) (h4 : y ≤ 1048576) : -1099511627776 ≤ x * y ∧ x * y ≤ 1099511627776 := by
  have h := Nat.mul_le_mul (show x.natAbs ≤ 1048576 by omega) (show y.natAbs ≤ 1048576 by omega)
  rw [← Int.natAbs_mul] at h
  generalize x * y = z at h ⊢
  omega
theorem area_range {l : List P} (hl : ∀ q ∈ l, nearB 1048576 q) (hn : l.length ≤ 45) : ∀ k, k ≤ l.length → areaW l l.length k = sm ((List.range k).map (fun i => (gt l i, gt l ((i + 1) % l.length)))) ∧ -(k : Int) * 2199023255552 ≤ areaW l l.length k ∧ areaW l l.length k ≤ (k : Int) * 2199023255552
  | 0, _ => by simp [areaW, sm]
  | k + 1, hk => by
    obtain ⟨ih, b1, b2⟩ := area_range hl hn k (by omega)
    have n1 := hl _ (gt_in (l := l) (i := k) (by omega))
    have n2 := hl _ (gt_in (l := l) (i := (k + 1) % l.length) (Nat.mod_lt _ (by omega)))
    unfold nearB at n1 n2
    have m1 := mul_bd20 (x := (gt l k).1) (y := (gt l ((k + 1) % l.length)).2) (by omega) (by omega) (by omega) (by omega)
    have m2 := mul_bd20 (x := (gt l k).2) (y := (gt l ((k + 1) % l.length)).1) (by omega) (by omega) (by omega) (by omega)
    rw [areaW, List.range_succ, List.map_append, sm_append, ← ih, List.map_cons, List.map_nil, sm_cons, sm_nil]
    unfold vx
    simp only
    generalize (gt l k).1 * (gt l ((k + 1) % l.length)).2 = u at *
    generalize (gt l k).2 * (gt l ((k + 1) % l.length)).1 = v at *
    generalize areaW l l.length k = a at *
    have kk : (k : Int) ≤ 45 := by omega
    rw [show wrap64 u = u by unfold wrap64; omega, show wrap64 v = v by unfold wrap64; omega, show wrap64 (u - v) = u - v by unfold wrap64; omega, show wrap64 (a + (u - v)) = a + (u - v) by unfold wrap64; omega]
    refine ⟨by omega, by omega, by omega⟩
theorem area_ar {l : List P} (hl : ∀ q ∈ l, nearB 1048576 q) (h0 : 0 < l.length) (hn : l.length ≤ 45) : areaW l l.length l.length = ar l := by
  rw [(area_range hl hn l.length (Nat.le_refl _)).1]; unfold ar; rw [E_range h0]
theorem ch_map (f : P → P) (k : List P) : ∀ x, ch (f x) (k.map f) = (ch x k).map (fun e => (f e.1, f e.2)) := by
  induction k with
  | nil => intro x; rfl
  | cons y k ih => intro x; simp only [List.map_cons, ch, ih y]
theorem E_map (f : P → P) (l : List P) : E (l.map f) = (E l).map (fun e => (f e.1, f e.2)) := by
  cases l with
  | nil => rfl
  | cons x k =>
    simp only [List.map_cons, E]
    rw [← ch_map, List.map_append]; rfl
theorem ar_shr (l : List P) : ar (l.map shr) = 4194304 * ar l := by
  unfold ar
  rw [E_map]
  generalize E l = L
  induction L with
  | nil => rfl
  | cons e L ih =>
    rw [List.map_cons, sm_cons, sm_cons, ih]
    have : vx (shr e.1, shr e.2) = 4194304 * vx e := by unfold vx shr; grind
    omega
theorem sim_rot_at {l : List P} {i : Nat} (h3 : 3 ≤ l.length) (hi : i < l.length) : ∃ m,
    (l.drop i).map shr ++ (l.take i).map shr = shr (gt l i) :: shr (gt l ((i + 1) % l.length)) :: (m ++ [shr (gt l ((i + l.length - 1) % l.length))]) ∧ l.map shr = (l.take i).map shr ++ (l.drop i).map shr := by
  obtain ⟨m, h1, h2⟩ := idx_rot h3 hi
  refine ⟨m.map shr, ?_, by rw [← List.map_append, List.take_append_drop]⟩
  rw [← List.map_append, h1]; simp
theorem flat_idx {l : List P} {i : Nat} (h : Sim (l.map shr)) (h3 : 3 ≤ l.length) (hi : i < l.length) : flat (l.map shr) (shr (gt l i)) ↔ cr (gt l ((i + l.length - 1) % l.length)) (gt l i) (gt l ((i + 1) % l.length)) = 0 := by
  obtain ⟨m, e1, e2⟩ := sim_rot_at h3 hi
  have nd : ((l.drop i).map shr ++ (l.take i).map shr).Nodup := nodup_rot (by rw [← e2]; exact h.nd)
  rw [e2, flat_rot, e1, flat_tri (by rw [← e1]; exact nd), cr_shr]; omega
open Classical in
theorem corn_filter {l : List P} (h : Sim (l.map shr)) (h3 : 3 ≤ l.length) (hl : ∀ q ∈ l, nearB 1048576 q) : ∀ k, k ≤ l.length → corn l l.length k = (l.take k).filter (fun q => !decide (flat (l.map shr) (shr q)))
  | 0, _ => by simp [corn]
  | k + 1, hk => by
    have ih := corn_filter h h3 hl k (by omega)
    have tk : l.take (k + 1) = l.take k ++ [gt l k] := by
      rw [List.take_add_one, List.getElem?_eq_getElem (by omega)]
      unfold gt; rw [List.getD_eq_getElem?_getD, List.getElem?_eq_getElem (by omega)]; rfl
    have nr : ∀ j, j < l.length → nearB 1048576 (gt l j) := fun j hj => hl _ (gt_in hj)
    have bz : bendW l l.length k = cr (gt l ((k + l.length - 1) % l.length)) (gt l k) (gt l ((k + 1) % l.length)) := cross_near (nr _ (Nat.mod_lt _ (by omega))) (nr _ (by omega)) (nr _ (Nat.mod_lt _ (by omega)))
    have fi := flat_idx h h3 (i := k) (by omega)
    rw [tk, List.filter_append, ← ih]
    rw [show corn l l.length (k + 1) = if bendW l l.length k != 0 then corn l l.length k ++ [gt l k] else corn l l.length k from rfl]
    by_cases c : bendW l l.length k = 0
    · rw [if_neg (by rw [c]; simp)]
      have : flat (l.map shr) (shr (gt l k)) := fi.2 (by rw [← bz]; exact c)
      simp [this]
    · rw [if_pos (by simpa using c)]
      have : ¬ flat (l.map shr) (shr (gt l k)) := fun g => c (by rw [bz]; exact fi.1 g)
      simp [this]
/-- The corners of a checked polygon. -/
theorem corn_good {l : List P} (hc : checkW l l.length = 0) : Sim ((corn l l.length l.length).map shr) ∧ 3 ≤ (corn l l.length l.length).length ∧ lam ((corn l l.length l.length).map shr) = lam (l.map shr) ∧ ar (corn l l.length l.length) = ar l ∧ (∀ q ∈ corn l l.length l.length, q ∈ l) ∧
    Sim (l.map shr) ∧ ∀ q ∈ corn l l.length l.length, ¬ flat ((corn l l.length l.length).map shr) (shr q) := by
  classical
  have hl := check_near hc
  have h3 := (check_len hc).1
  have hsim : simpleW l l.length = true := by
    unfold checkW at hc
    split at hc
    · cases hc
    · split at hc
      · cases hc
      · split at hc
        · cases hc
        · split at hc
          · assumption
          · cases hc
  have s := sim_of_simple hl h3 hsim
  have nf := nf_good _ (l.map shr) (fun q => decide (flat (l.map shr) q)) (Nat.le_refl _) (by rw [List.length_map]; exact h3) s (fun q _ => by simp)
  have e : (l.map shr).filter (fun q => !decide (flat (l.map shr) q)) = (corn l l.length l.length).map shr := by
    rw [corn_filter s h3 hl l.length (Nat.le_refl _), List.take_length, List.filter_map]; rfl
  rw [e] at nf
  obtain ⟨n1, n2, n3, n4, n5⟩ := nf
  rw [ar_shr, ar_shr] at n4
  refine ⟨n1, by rw [List.length_map] at n2; exact n2, n3, by omega, fun q hq => ?_, s, fun q hq => n5 _ (List.mem_map.2 ⟨q, hq, rfl⟩)⟩
  rw [corn_filter s h3 hl l.length (Nat.le_refl _), List.take_length] at hq
  exact (List.mem_filter.1 hq).1
theorem normal_good {l : List P} (hc : checkW l l.length = 0) : Good (normalW l l.length) ∧ ∀ q ∈ normalW l l.length, q ∈ l := by
  obtain ⟨s, h3, hlam, har, hsub, hs0, _⟩ := corn_good hc
  have hl := check_near hc
  have hlen := check_len hc
  have key : Sim ((cornR l l.length).map shr) ∧ lam ((cornR l l.length).map shr) = true ∧ 3 ≤ (cornR l l.length).length ∧ ∀ q ∈ cornR l l.length, q ∈ l := by
    unfold cornR
    rw [area_ar hl (by omega) (by omega)]
    have o := orient hs0 (by rw [List.length_map]; exact hlen.1)
    rw [ar_shr] at o
    split
    · rename_i g
      rw [List.map_reverse]
      have lf : lam (l.map shr) = false := by
        cases hz : lam (l.map shr) with
        | false => rfl
        | true => have := o.1 hz; omega
      refine ⟨s.rev, by rw [lam_rev s (by rw [List.length_map]; exact h3), hlam, lf]; rfl, by rw [List.length_reverse]; exact h3, fun q hq => hsub q (List.mem_reverse.1 hq)⟩
    · rename_i g
      have lt' : lam (l.map shr) = true := by
        cases hz : lam (l.map shr) with
        | true => rfl
        | false => have := o.2 hz; omega
      exact ⟨s, by rw [hlam, lt'], h3, hsub⟩
  obtain ⟨k1, k2, k3, k4⟩ := key
  unfold normalW rot
  generalize hf : frst (cornR l l.length) (cornR l l.length).length = f
  generalize cornR l l.length = c at *
  have e : c.map shr = (c.take f).map shr ++ (c.drop f).map shr := by rw [← List.map_append, List.take_append_drop]
  have mem : ∀ q ∈ c.drop f ++ c.take f, q ∈ c := by
    intro q hq
    rcases List.mem_append.1 hq with g | g
    · exact List.mem_of_mem_drop g
    · exact List.mem_of_mem_take g
  have len : (c.drop f ++ c.take f).length = c.length := by rw [List.length_append, List.length_drop, List.length_take]; omega
  refine ⟨⟨?_, ?_, by omega, fun q hq => hl q (k4 q (mem q hq))⟩, fun q hq => k4 q (mem q hq)⟩
  · rw [List.map_append]; rw [e] at k1; exact k1.rot
  · rw [List.map_append, lam_rot _ _ (by rw [← List.map_append, List.length_map]; omega) (by rw [e] at k1; exact k1.rot), ← e]; exact k2
/-- A checked polygon is divided into proper triangles with its vertices. -/
theorem split_ok {l : List P} (hc : checkW l l.length = 0) : (splitAllW l).1 = 0 ∧ (∀ t ∈ (splitAllW l).2, TriOf l t) ∧ 0 < (splitAllW l).2.length := by
  obtain ⟨g, sub⟩ := normal_good hc
  obtain ⟨r, r1, r2, r3⟩ := split_good (normalW l l.length).length (normalW l l.length) [] l g (by omega) sub (by simp)
  unfold splitAllW
  rw [if_pos hc, r1]
  exact ⟨rfl, r2, by simpa using r3⟩
theorem split_bad {l : List P} (hc : checkW l l.length ≠ 0) : splitAllW l = (checkW l l.length, []) := by
  unfold splitAllW; rw [if_neg hc]
end Ears
end Go.Proofs.YtmdncaoilegnnaaGreat

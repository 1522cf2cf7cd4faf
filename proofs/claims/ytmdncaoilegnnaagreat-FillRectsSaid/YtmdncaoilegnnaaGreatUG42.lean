/- The hulls, sums and regions of the program in plain words. -/
import Derived.Test.YtmdncaoilegnnaaGreatUG17
import Derived.Test.YtmdncaoilegnnaaGreatUG40
import Derived.Test.YtmdncaoilegnnaaGreatUG41
namespace Go.Proofs.YtmdncaoilegnnaaGreat
set_option linter.unusedVariables false
set_option linter.unusedSimpArgs false
set_option linter.unusedVariables false
set_option linter.unusedSimpArgs false
namespace Ears
open Go.RowKit

theorem mul_bd23 {x y : Int} (h1 : -8388608 ≤ x) (h2 : x ≤ 8388608) (h3 : -8388608 ≤ y) (h4 : y ≤ 8388608) : -70368744177664 ≤ x * y ∧ x * y ≤ 70368744177664 := by
  have h := Nat.mul_le_mul (show x.natAbs ≤ 8388608 by omega) (show y.natAbs ≤ 8388608 by omega)
  rw [← Int.natAbs_mul] at h
  generalize x * y = z at h ⊢
  omega
theorem cross_wide {a b c : P} (ha : nearB 4194304 a) (hb : nearB 4194304 b) (hc : nearB 4194304 c) : crossW a b c = cr a b c := by
  unfold nearB at ha hb hc
  unfold crossW cr
  rw [wrap_near (z := b.1 - a.1) (by omega) (by omega), wrap_near (z := c.2 - a.2) (by omega) (by omega), wrap_near (z := b.2 - a.2) (by omega) (by omega), wrap_near (z := c.1 - a.1) (by omega) (by omega)]
  have m1 := mul_bd23 (x := b.1 - a.1) (y := c.2 - a.2) (by omega) (by omega) (by omega) (by omega)
  have m2 := mul_bd23 (x := b.2 - a.2) (y := c.1 - a.1) (by omega) (by omega) (by omega) (by omega)
  generalize (b.1 - a.1) * (c.2 - a.2) = u at m1 ⊢
  generalize (b.2 - a.2) * (c.1 - a.1) = v at m2 ⊢
  rw [show wrap64 u = u by unfold wrap64; omega, show wrap64 v = v by unfold wrap64; omega, show wrap64 (u - v) = u - v by unfold wrap64; omega]
theorem near_mono {M N : Int} {q : P} (h : nearB M q) (hM : M ≤ N) : nearB N q := by unfold nearB at *; omega
theorem sort_mem {l : List P} {q : P} : q ∈ sortW l ↔ q ∈ l := List.mem_mergeSort
theorem sort_pw (l : List P) : (sortW l).Pairwise (fun x y => lessS y x = false) := by
  have : (sortW l).Pairwise (fun x y => (!ltOf cmpS y x) = true) := List.pairwise_mergeSort (fun a b c h1 h2 => by
      have := swoS.ntrans c b a (by simpa using h2) (by simpa using h1)
      simpa using this) (fun a b => by
      rw [ltS, ltS]; unfold lessS; simp; omega) _
  exact this.imp (fun {x y} h => by rw [ltS] at h; simpa using h)
theorem less_tri (p q : P) : p = q ∨ lessS p q = true ∨ lessS q p = true := by
  obtain ⟨a, b⟩ := p; obtain ⟨c, d⟩ := q
  unfold lessS; simp; omega
section
variable {α : Type} {eq : α → α → Bool} {l : List α} {d : α}
theorem cp_mem (heq : ∀ x y, eq x y = true → x = y) : ∀ k, k ≤ l.length → ∀ q, q ∈ cpTo eq l d k ↔ q ∈ l.take k
  | 0, _, q => by simp [cpTo]
  | k + 1, hk, q => by
    have ih := cp_mem heq k (by omega) q
    rw [take_succ_getD (d := d) (by omega), List.mem_append]
    by_cases c : 0 < k ∧ eq (l.getD k d) (l.getD (k - 1) d) = true
    · rw [cpTo, if_pos c, ih]
      constructor
      · exact .inl
      · rintro (h | h)
        · exact h
        · simp only [List.mem_cons, List.not_mem_nil, or_false] at h
          rw [h, heq _ _ c.2]
          have : l.getD (k - 1) d = l[k - 1]'(by omega) := by rw [List.getD_eq_getElem?_getD, List.getElem?_eq_getElem (by omega)]; rfl
          rw [this]
          exact List.mem_take_iff_getElem.2 ⟨k - 1, by omega, rfl⟩
    · rw [cpTo, if_neg c, List.mem_append, ih]
theorem comp_mem (heq : ∀ x y, eq x y = true → x = y) {q : α} : q ∈ compW eq d l ↔ q ∈ l := by
  unfold compW; rw [cp_mem heq l.length (Nat.le_refl _), List.take_length]
end

theorem cp_pw {s : List P} (hs : s.Pairwise (fun x y => lessS y x = false)) : ∀ k, k ≤ s.length → (cpTo eqS s (0, 0) k).Pairwise (fun x y => lessS x y = true)
  | 0, _ => by simp [cpTo]
  | k + 1, hk => by
    have ih := cp_pw hs k (by omega)
    by_cases c : 0 < k ∧ eqS (s.getD k (0, 0)) (s.getD (k - 1) (0, 0)) = true
    · rw [cpTo, if_pos c]; exact ih
    · rw [cpTo, if_neg c, List.pairwise_append]
      refine ⟨ih, by simp, fun q hq y hy => ?_⟩
      simp only [List.mem_cons, List.not_mem_nil, or_false] at hy
      subst hy
      have hq' := (cp_mem (fun x y h => (eqS_iff x y).1 h) k (by omega) q).1 hq
      obtain ⟨j, hj, rfl⟩ := List.mem_take_iff_getElem.1 hq'
      have g : ∀ i (h : i < s.length), s.getD i (0, 0) = s[i] := fun i h => by rw [List.getD_eq_getElem?_getD, List.getElem?_eq_getElem h]; rfl
      rw [g k (by omega)]
      have le := List.pairwise_iff_getElem.1 hs j k (by omega) (by omega) (by omega)
      rcases less_tri s[j] s[k] with e | e | e
      · exfalso
        have ne : s[k] ≠ s[k - 1] := by
          intro z; apply c; refine ⟨by omega, ?_⟩
          rw [g k (by omega), g (k - 1) (by omega)]; exact (eqS_iff _ _).2 z
        by_cases cj : j = k - 1
        · subst cj; exact ne e.symm
        · have l1 := List.pairwise_iff_getElem.1 hs j (k - 1) (by omega) (by omega) (by omega)
          have l2 := List.pairwise_iff_getElem.1 hs (k - 1) k (by omega) (by omega) (by omega)
          rcases less_tri s[k - 1] s[k] with f | f | f
          · exact ne f.symm
          · rw [← e] at f; rw [l1] at f; cases f
          · rw [l2] at f; cases f
      · exact e
      · rw [le] at e; cases e
/-- The sorted list of the different points of l. -/
def ulist (l : List P) : List P := compW eqS (0, 0) (sortW l)
theorem ulist_mem {l : List P} {q : P} : q ∈ ulist l ↔ q ∈ l := by
  unfold ulist; rw [comp_mem (fun x y h => (eqS_iff x y).1 h), sort_mem]
theorem ulist_pw (l : List P) : (ulist l).Pairwise (fun x y => lessS x y = true) := cp_pw (sort_pw l) _ (Nat.le_refl _)
theorem pop_rev {p : P} (hp : nearB 4194304 p) : ∀ (st : List P), (∀ q ∈ st, nearB 4194304 q) → popW p st.reverse = (popR p st).reverse
  | [], _ => by rw [popW_no rfl (.inl (by simp))]; rfl
  | [y], _ => by rw [popW_no rfl (.inl (by simp))]; rfl
  | y :: x :: s, h => by
    have len : (y :: x :: s).reverse.length = s.length + 2 := by simp
    have e : (y :: x :: s).reverse = (s.reverse ++ [x]) ++ [y] := by simp
    have g1 : gt (y :: x :: s).reverse (s.length + 2 - 1) = y := by
      rw [e, gt_append_right (by simp)]; simp [gt_cons_zero]
    have g2 : gt (y :: x :: s).reverse (s.length + 2 - 2) = x := by
      rw [e, gt_append_left (by simp), gt_append_right (by simp)]; simp [gt_cons_zero]
    have hc : crossW (gt (y :: x :: s).reverse (s.length + 2 - 2)) (gt (y :: x :: s).reverse (s.length + 2 - 1)) p = cr x y p := by
      rw [g1, g2]; exact cross_wide (h x (by simp)) (h y (by simp)) hp
    by_cases c : cr x y p ≤ 0
    · rw [popW_yes len (by omega) (by rw [hc]; exact c), popR, if_pos c]
      have : (y :: x :: s).reverse.take (s.length + 2 - 1) = (x :: s).reverse := by
        rw [e, List.take_append_of_le_length (by simp), List.take_of_length_le (by simp)]; simp
      rw [this]
      exact pop_rev hp (x :: s) (fun q hq => h q (List.mem_cons_of_mem _ hq))
    · rw [popW_no len (.inr (by rw [hc]; exact c)), popR, if_neg c]
theorem borR_snoc (p : P) : ∀ (l st : List P), borR st (l ++ [p]) = p :: popR p (borR st l)
  | [], st => rfl
  | x :: l, st => by simp only [List.cons_append, borR]; exact borR_snoc p l _
theorem popR_sub (p : P) : ∀ (st : List P), ∀ q ∈ popR p st, q ∈ st
  | [], q, h => h
  | [y], q, h => h
  | y :: x :: s, q, h => by
    rw [popR] at h
    split at h
    · exact List.mem_cons_of_mem _ (popR_sub p (x :: s) q h)
    · exact h
theorem borR_sub : ∀ (l st : List P), ∀ q ∈ borR st l, q ∈ st ∨ q ∈ l
  | [], st, q, h => .inl h
  | x :: l, st, q, h => by
    rw [borR] at h
    rcases borR_sub l _ q h with g | g
    · rcases List.mem_cons.1 g with e | e
      · right; simp [e]
      · left; exact popR_sub x st q e
    · right; simp [g]
theorem bor_rev {l : List P} (hl : ∀ q ∈ l, nearB 4194304 q) : ∀ k, k ≤ l.length → borTo l k = (borR [] (l.take k)).reverse
  | 0, _ => by simp [borTo, borR]
  | k + 1, hk => by
    have ih := bor_rev hl k (by omega)
    have tk : l.take (k + 1) = l.take k ++ [gt l k] := take_succ_getD (d := (0, 0)) (by omega)
    rw [borTo, ih, tk, borR_snoc, pop_rev (hl _ (gt_in (by omega))) _ (fun q hq => by
      rcases borR_sub _ _ q hq with g | g
      · simp at g
      · exact hl q (List.mem_of_mem_take g)), List.reverse_cons]
theorem bor_chain {l : List P} (hl : ∀ q ∈ l, nearB 4194304 q) (h0 : l ≠ []) : borW l = chainR l := by
  unfold borW
  rw [bor_rev hl l.length (Nat.le_refl _), List.take_length]
  cases l with
  | nil => exact absurd rfl h0
  | cons a l =>
    show _ = (borR [a] l).tail.reverse
    rw [show borR [] (a :: l) = borR [a] l from rfl]
    have ne : borR [a] l ≠ [] := by
      have : ∀ (l st : List P), st ≠ [] → borR st l ≠ [] := by
        intro l
        induction l with
        | nil => intro st h; exact h
        | cons x l ih => intro st h; rw [borR]; exact ih _ (by simp)
      exact this l [a] (by simp)
    cases h : borR [a] l with
    | nil => exact absurd h ne
    | cons t s => simp
def K (p : P) : Int := key 16777216 1 p
theorem K_less {p q : P} (hp : nearB 4194304 p) (hq : nearB 4194304 q) : lessS p q = true ↔ K p < K q := by
  unfold nearB at hp hq; unfold lessS K key; simp; omega
theorem K_inj {p q : P} (hp : nearB 4194304 p) (hq : nearB 4194304 q) (h : K p = K q) : p = q := by
  unfold nearB at hp hq; unfold K key at h; exact Prod.ext (by omega) (by omega)
theorem HullSpec.congr {l l' r : List P} {a b : P} (h : HullSpec l r a b) (e : ∀ q, q ∈ l ↔ q ∈ l') : HullSpec l' r a b :=
  ⟨fun q hq => (e q).1 (h.sub q hq), fun x hx q hq => h.left x hx q ((e q).2 hq), h.ha, h.hb, h.len, h.ne⟩
theorem HullCvx.congr {l l' r : List P} (h : HullCvx l r) (e : ∀ q, q ∈ l ↔ q ∈ l') : HullCvx l' r :=
  ⟨fun q hq => (e q).1 (h.sub q hq), fun x hx q hq => h.left x hx q ((e q).2 hq), h.turn, h.nd, h.len⟩
theorem cr_ne {x y z : P} (h : cr x y z ≠ 0) : x ≠ y ∧ x ≠ z ∧ y ≠ z := by
  refine ⟨?_, ?_, ?_⟩
  · rintro rfl; rw [cr_same3] at h; exact h rfl
  · rintro rfl; rw [cr_same1] at h; exact h rfl
  · rintro rfl; rw [cr_same2] at h; exact h rfl
/-- The hull of points that don't lie on a line. -/
theorem hull_w {l : List P} (hn : ∀ q ∈ l, nearB 4194304 q) (nc : ∃ x ∈ l, ∃ y ∈ l, ∃ z ∈ l, cr x y z ≠ 0) :
    ∃ r a b k, hullW l = some r ∧ HullSpec l r a b ∧ HullCvx l r ∧ r = a :: k ∧ (∀ q ∈ l, q = a ∨ lessS a q = true) ∧ (∀ q ∈ l, q = b ∨ lessS q b = true) := by
  obtain ⟨s, hs⟩ : ∃ s, s = ulist l := ⟨_, rfl⟩
  have mem : ∀ q, q ∈ s ↔ q ∈ l := fun q => by rw [hs]; exact ulist_mem
  have pw : s.Pairwise (fun x y => lessS x y = true) := by rw [hs]; exact ulist_pw l
  have sn : ∀ q ∈ s, nearB 4194304 q := fun q hq => hn q ((mem q).1 hq)
  have nc' : ∃ x ∈ s, ∃ y ∈ s, ∃ z ∈ s, cr x y z ≠ 0 := by
    obtain ⟨x, hx, y, hy, z, hz, h⟩ := nc
    exact ⟨x, (mem x).2 hx, y, (mem y).2 hy, z, (mem z).2 hz, h⟩
  have len3 : 3 ≤ s.length := by
    obtain ⟨x, hx, y, hy, z, hz, h⟩ := nc'
    obtain ⟨d1, d2, d3⟩ := cr_ne h
    have := len_le_of_sub (r := [x, y, z]) (l := s) (by simp [d1, d2, d3]) (by intro q hq; simp at hq; rcases hq with rfl | rfl | rfl <;> assumption)
    simpa using this
  match s, len3 with
  | a :: s', l3 =>
    obtain ⟨m, b, hm⟩ := snoc_of (l := a :: s') (by simp)
    have h2 : s' ≠ [] := by rintro rfl; simp at l3
    have inj : ∀ q ∈ a :: s', ∀ r ∈ a :: s', key 16777216 1 q = key 16777216 1 r → q = r := fun q hq r hr e => K_inj (sn q hq) (sn r hr) e
    have kpw : (a :: s').Pairwise (fun q r => key 16777216 1 q < key 16777216 1 r) := by
      refine List.pairwise_iff_getElem.2 fun i j hi hj hij => ?_
      have := List.pairwise_iff_getElem.1 pw i j hi hj hij
      exact (K_less (sn _ (List.getElem_mem _)) (sn _ (List.getElem_mem _))).1 this
    obtain ⟨hc, k, hk⟩ := hull_cvx hm h2 inj kpw nc'
    obtain ⟨hsp, _⟩ := hull_spec hm h2 inj kpw
    have eb : borW (a :: s') ++ borW (a :: s').reverse = hullR (a :: s') := by
      rw [bor_chain sn (by simp), bor_chain (fun q hq => sn q (List.mem_reverse.1 hq)) (by simp)]; rfl
    refine ⟨hullR (a :: s'), a, b, k, ?_, hsp.congr mem, hc.congr mem, hk, fun q hq => ?_, fun q hq => ?_⟩
    · unfold hullW
      rw [show compW eqS (0, 0) (sortW l) = a :: s' from hs.symm, if_neg (by omega), eb, if_neg (by have := hc.len; omega)]
    · rcases List.mem_cons.1 ((mem q).2 hq) with e | e
      · exact .inl e
      · exact .inr ((List.pairwise_cons.1 pw).1 q e)
    · have := (mem q).2 hq
      rw [hm, List.mem_append] at this
      rcases this with g | g
      · right
        rw [hm, List.pairwise_append] at pw
        exact pw.2.2 q g b (by simp)
      · simp at g; exact .inl g
/-- A proper triangle within M. -/
def Tri (M : Int) (t : List P) : Prop := ∃ a b c, t = [a, b, c] ∧ 0 < cr a b c ∧ nearB M a ∧ nearB M b ∧ nearB M c
theorem Tri.near {M : Int} {t : List P} (h : Tri M t) : ∀ q ∈ t, nearB M q := by
  obtain ⟨a, b, c, rfl, _, h1, h2, h3⟩ := h
  intro q hq; simp at hq; rcases hq with rfl | rfl | rfl <;> assumption
theorem out_near {M : Int} {q : P} (h : nearB M q) : outB M q = false := by unfold nearB at h; unfold outB; simp; omega
theorem any_out {M : Int} {l : List P} (h : ∀ q ∈ l, nearB M q) : AnyB (fun i => outB M (gt l i)) l.length = false := by
  cases hc : AnyB (fun i => outB M (gt l i)) l.length with
  | false => rfl
  | true =>
    obtain ⟨i, hi, ho⟩ := AnyB.iff.1 hc
    rw [out_near (h _ (gt_in hi))] at ho; cases ho
theorem Hull_tri {t : List P} (h : Tri 1048576 t) : ∃ r, HullW t = (0, r) ∧ (∀ q, q ∈ r ↔ q ∈ t) ∧ r.length = 3 := by
  have hn := h.near
  obtain ⟨a, b, c, rfl, D, _⟩ := h
  obtain ⟨r, x, y, k, h1, h2, h3, _⟩ := hull_w (l := [a, b, c]) (fun q hq => near_mono (hn q hq) (by omega)) ⟨a, by simp, b, by simp, c, by simp, by omega⟩
  have l1 := h3.len
  have l2 := len_le_of_sub h3.nd h3.sub
  simp only [List.length_cons, List.length_nil] at l2
  refine ⟨r, ?_, fun q => ⟨h3.sub q, fun hq => ?_⟩, by omega⟩
  · unfold HullW
    rw [if_neg (by simp), any_out (fun q hq => near_mono (hn q hq) (by omega)), h1]; rfl
  · apply Classical.byContradiction
    intro hc
    have := len_le_of_sub (r := q :: r) (l := [a, b, c]) (List.nodup_cons.2 ⟨hc, h3.nd⟩) (fun x hx => by
      rcases List.mem_cons.1 hx with e | e
      · rw [e]; exact hq
      · exact h3.sub x e)
    simp only [List.length_cons, List.length_nil] at this; omega
theorem neg_tri {t : List P} (h : Tri 1048576 t) : Tri 1048576 (negW t) ∧ ∀ q, q ∈ negW t ↔ ∃ p ∈ t, q = (-p.1, -p.2) := by
  have hn := h.near
  have e : negW t = t.map (fun p => (-p.1, -p.2)) := by
    unfold negW
    refine List.map_congr_left fun p hp => ?_
    have := hn p hp; unfold nearB at this
    rw [wrap_near (by omega) (by omega), wrap_near (by omega) (by omega)]
  constructor
  · rw [e]
    obtain ⟨a, b, c, rfl, D, h1, h2, h3⟩ := h
    refine ⟨_, _, _, rfl, ?_, ?_, ?_, ?_⟩
    · have : cr (-a.1, -a.2) (-b.1, -b.2) (-c.1, -c.2) = cr a b c := by unfold cr; grind
      show 0 < cr (-a.1, -a.2) (-b.1, -b.2) (-c.1, -c.2)
      omega
    all_goals unfold nearB at *; simp only; omega
  · intro q; rw [e, List.mem_map]
    constructor
    · rintro ⟨p, hp, rfl⟩; exact ⟨p, hp, rfl⟩
    · rintro ⟨p, hp, rfl⟩; exact ⟨p, hp, rfl⟩
theorem sumIn_mem {p : P} {g c0 : List P} : ∀ j, j ≤ g.length → ∀ q, q ∈ sumIn p g c0 j ↔ q ∈ c0 ∨ ∃ i, i < j ∧ q = addS p (gt g i)
  | 0, _, q => by simp [sumIn]
  | j + 1, hj, q => by
    rw [sumIn, List.mem_append, sumIn_mem j (by omega) q]
    simp only [List.mem_cons, List.not_mem_nil, or_false]
    constructor
    · rintro ((h | ⟨i, hi, h⟩) | h)
      · exact .inl h
      · exact .inr ⟨i, by omega, h⟩
      · exact .inr ⟨j, by omega, h⟩
    · rintro (h | ⟨i, hi, h⟩)
      · exact .inl (.inl h)
      · by_cases c : i = j
        · subst c; exact .inr h
        · exact .inl (.inr ⟨i, by omega, h⟩)
theorem sumTo_mem {f g : List P} : ∀ k, k ≤ f.length → ∀ q, q ∈ sumTo f g k ↔ ∃ i, i < k ∧ ∃ j, j < g.length ∧ q = addS (gt f i) (gt g j)
  | 0, _, q => by simp [sumTo]
  | k + 1, hk, q => by
    rw [sumTo, sumIn_mem _ (Nat.le_refl _), sumTo_mem k (by omega) q]
    constructor
    · rintro (⟨i, hi, j, hj, h⟩ | ⟨j, hj, h⟩)
      · exact ⟨i, by omega, j, hj, h⟩
      · exact ⟨k, by omega, j, hj, h⟩
    · rintro ⟨i, hi, j, hj, h⟩
      by_cases c : i = k
      · subst c; exact .inr ⟨j, hj, h⟩
      · exact .inl ⟨i, by omega, j, hj, h⟩
theorem sums_mem {f g : List P} {q : P} : q ∈ sumTo f g f.length ↔ ∃ x ∈ f, ∃ y ∈ g, q = addS x y := by
  rw [sumTo_mem _ (Nat.le_refl _)]
  constructor
  · rintro ⟨i, hi, j, hj, h⟩; exact ⟨_, gt_in hi, _, gt_in hj, h⟩
  · rintro ⟨x, hx, y, hy, h⟩
    obtain ⟨i, hi, rfl⟩ := mem_gt hx
    obtain ⟨j, hj, rfl⟩ := mem_gt hy
    exact ⟨i, hi, j, hj, h⟩
/-- The region of two triangles. -/
structure Region (s t L r : List P) (a b : P) : Prop where
  diff : Diff s t L
  spec : HullSpec L r a b
  cvx : HullCvx L r
  near : ∀ q ∈ L, nearB 2097152 q
  small : r.length ≤ 9
  least : ∀ q ∈ L, q = a ∨ lessS a q = true
  most : ∀ q ∈ L, q = b ∨ lessS q b = true
  head : ∃ k, r = a :: k
theorem Sum_tri {s t : List P} (hs : Tri 1048576 s) (ht : Tri 1048576 t) : ∃ L a b, (SumW s (negW t)).1 = 0 ∧ Region s t L (SumW s (negW t)).2 a b := by
  obtain ⟨f, f1, f2, f3⟩ := Hull_tri hs
  obtain ⟨nt, nm⟩ := neg_tri ht
  obtain ⟨g, g1, g2, g3⟩ := Hull_tri nt
  obtain ⟨L, hL⟩ : ∃ L, L = sumTo f g f.length := ⟨_, rfl⟩
  have sn := hs.near
  have tn := ht.near
  have add_eq : ∀ p ∈ s, ∀ q ∈ t, addS p (-q.1, -q.2) = sb p q := by
    intro p hp q hq
    have h1 := sn p hp; have h2 := tn q hq
    unfold nearB at h1 h2
    unfold addS sb
    rw [wrap_near (by simp only; omega) (by simp only; omega), wrap_near (by simp only; omega) (by simp only; omega)]
    exact Prod.ext (by simp only; omega) (by simp only; omega)
  have diff : Diff s t L := by
    constructor
    · intro x hx
      rw [hL, sums_mem] at hx
      obtain ⟨p, hp, q, hq, rfl⟩ := hx
      obtain ⟨q', hq', rfl⟩ := (nm q).1 ((g2 q).1 hq)
      exact ⟨p, (f2 p).1 hp, q', hq', add_eq p ((f2 p).1 hp) q' hq'⟩
    · intro p hp q hq
      rw [hL, sums_mem]
      exact ⟨p, (f2 p).2 hp, _, (g2 _).2 ((nm _).2 ⟨q, hq, rfl⟩), (add_eq p hp q hq).symm⟩
  have near : ∀ q ∈ L, nearB 2097152 q := by
    intro x hx
    obtain ⟨p, hp, q, hq, rfl⟩ := diff.into x hx
    have h1 := sn p hp; have h2 := tn q hq
    unfold nearB at *; unfold sb; simp only; omega
  have nc : ∃ x ∈ L, ∃ y ∈ L, ∃ z ∈ L, cr x y z ≠ 0 := by
    obtain ⟨a, b, c, rfl, D, _⟩ := hs
    obtain ⟨a', b', c', rfl, D', _⟩ := ht
    refine ⟨_, diff.all a (by simp) a' (by simp), _, diff.all b (by simp) a' (by simp), _, diff.all c (by simp) a' (by simp), ?_⟩
    have : cr (sb a a') (sb b a') (sb c a') = cr a b c := by unfold cr sb; grind
    omega
  obtain ⟨r, a, b, k, h1, h2, h3, h4, h5, h6⟩ := hull_w (l := L) (fun q hq => near_mono (near q hq) (by omega)) nc
  have len : r.length ≤ 9 := by
    have := len_le_of_sub h3.nd h3.sub
    rw [hL, sumTo_len, f3, g3] at this; omega
  have e : SumW s (negW t) = (0, r) := by
    unfold SumW
    rw [f1, g1]
    simp only
    rw [← hL, h1]
    simp only [Option.getD_some]
    rw [if_neg (by simp), if_neg (by simp), if_neg (by rw [any_out (fun q hq => near_mono (near q (h3.sub q hq)) (by omega))]; simp), if_neg (by omega)]
  refine ⟨L, a, b, by rw [e], ?_⟩
  rw [e]
  exact ⟨diff, h2, h3, near, len, h5, h6, k, h4⟩
theorem tri_of {l t : List P} (hl : ∀ q ∈ l, nearB 1048576 q) (h : TriOf l t) : Tri 1048576 t := by
  obtain ⟨a, b, c, rfl, D, ha, hb, hc⟩ := h
  exact ⟨a, b, c, rfl, D, hl a ha, hl b hb, hl c hc⟩
theorem lt_in {ls : List (List P)} {i : Nat} (h : i < ls.length) : lt_ ls i ∈ ls := by
  unfold lt_; rw [List.getD_eq_getElem?_getD, List.getElem?_eq_getElem h]; exact List.getElem_mem h
theorem mem_lt {ls : List (List P)} {t : List P} (h : t ∈ ls) : ∃ i, i < ls.length ∧ lt_ ls i = t := by
  obtain ⟨i, hi, e⟩ := List.mem_iff_getElem.1 h
  exact ⟨i, hi, by unfold lt_; rw [List.getD_eq_getElem?_getD, List.getElem?_eq_getElem hi]; exact e⟩
theorem regIn_ok {s : List P} {ts acc : List (List P)} (hs : Tri 1048576 s) (ht : ∀ t ∈ ts, Tri 1048576 t) : ∀ j, j ≤ ts.length → (regIn s ts acc j).1 = 0 ∧ ∀ r, r ∈ (regIn s ts acc j).2 ↔ r ∈ acc ∨ ∃ i, i < j ∧ r = (SumW s (negW (lt_ ts i))).2
  | 0, _ => by simp [regIn]
  | j + 1, hj => by
    obtain ⟨i1, i2⟩ := regIn_ok (acc := acc) hs ht j (by omega)
    obtain ⟨L, a, b, e, _⟩ := Sum_tri hs (ht _ (lt_in (i := j) (by omega)))
    rw [regIn, if_neg (by rw [i1]; simp), if_neg (by rw [e]; simp)]
    refine ⟨rfl, fun r => ?_⟩
    simp only [List.mem_append, List.mem_cons, List.not_mem_nil, or_false]
    rw [i2 r]
    constructor
    · rintro ((h | ⟨i, hi, h⟩) | h)
      · exact .inl h
      · exact .inr ⟨i, by omega, h⟩
      · exact .inr ⟨j, by omega, h⟩
    · rintro (h | ⟨i, hi, h⟩)
      · exact .inl (.inl h)
      · by_cases c : i = j
        · subst c; exact .inr h
        · exact .inl (.inr ⟨i, by omega, h⟩)
theorem regTo_ok {ss ts : List (List P)} (hs : ∀ s ∈ ss, Tri 1048576 s) (ht : ∀ t ∈ ts, Tri 1048576 t) : ∀ k, k ≤ ss.length → (regTo ss ts k).1 = 0 ∧ ∀ r, r ∈ (regTo ss ts k).2 ↔ ∃ i, i < k ∧ ∃ j, j < ts.length ∧ r = (SumW (lt_ ss i) (negW (lt_ ts j))).2
  | 0, _ => by simp [regTo]
  | k + 1, hk => by
    obtain ⟨i1, i2⟩ := regTo_ok hs ht k (by omega)
    obtain ⟨j1, j2⟩ := regIn_ok (acc := (regTo ss ts k).2) (hs _ (lt_in (i := k) (by omega))) ht ts.length (Nat.le_refl _)
    rw [regTo, if_neg (by rw [i1]; simp)]
    refine ⟨j1, fun r => ?_⟩
    rw [j2 r, i2 r]
    constructor
    · rintro (⟨i, hi, j, hj, h⟩ | ⟨j, hj, h⟩)
      · exact ⟨i, by omega, j, hj, h⟩
      · exact ⟨k, by omega, j, hj, h⟩
    · rintro ⟨i, hi, j, hj, h⟩
      by_cases c : i = k
      · subst c; exact .inr ⟨j, hj, h⟩
      · exact .inl ⟨i, by omega, j, hj, h⟩
theorem sortL_mem {ls : List (List P)} {r : List P} : r ∈ sortLW ls ↔ r ∈ ls := List.mem_mergeSort
theorem eqL_eq {x y : List P} (h : eqL x y = true) : x = y := of_decide_eq_true h
/-- The regions of two checked polygons. -/
theorem regions_ok {a b : List P} (ha : checkW a a.length = 0) (hb : checkW b b.length = 0) : (regionsW a b).1 = 0 ∧ ∀ r, r ∈ (regionsW a b).2 ↔ ∃ s ∈ (splitAllW a).2, ∃ t ∈ (splitAllW b).2, r = (SumW s (negW t)).2 := by
  obtain ⟨a1, a2, _⟩ := split_ok ha
  obtain ⟨b1, b2, _⟩ := split_ok hb
  obtain ⟨i1, i2⟩ := regTo_ok (ss := (splitAllW a).2) (ts := (splitAllW b).2) (fun s hs => tri_of (check_near ha) (a2 s hs)) (fun t ht => tri_of (check_near hb) (b2 t ht)) _ (Nat.le_refl _)
  unfold regionsW
  rw [if_neg (by rw [a1]; simp), if_neg (by rw [b1]; simp), if_neg (by rw [i1]; simp)]
  refine ⟨rfl, fun r => ?_⟩
  rw [comp_mem (fun x y h => eqL_eq h), sortL_mem, i2 r]
  constructor
  · rintro ⟨i, hi, j, hj, h⟩; exact ⟨_, lt_in hi, _, lt_in hj, h⟩
  · rintro ⟨s, hs, t, ht, h⟩
    obtain ⟨i, hi, rfl⟩ := mem_lt hs
    obtain ⟨j, hj, rfl⟩ := mem_lt ht
    exact ⟨i, hi, j, hj, h⟩
theorem interior_iff {r : List P} {d : P} (hr : ∀ q ∈ r, nearB 4194304 q) (hd : nearB 4194304 d) (h0 : 0 < r.length) : interiorW r d = true ↔ ∀ e ∈ E r, 0 < cr e.1 e.2 d := by
  unfold interiorW
  rw [Bool.and_eq_true, AllB.iff, decide_eq_true_eq]
  constructor
  · rintro ⟨h, _⟩ e he
    obtain ⟨i, hi, rfl⟩ := (E_idx h0 e).1 he
    have := h i hi
    unfold intW at this
    rw [decide_eq_true_eq, cross_wide (hr _ (gt_in hi)) (hr _ (gt_in (Nat.mod_lt _ h0))) hd] at this
    exact this
  · intro h
    refine ⟨fun i hi => ?_, h0⟩
    unfold intW
    rw [decide_eq_true_eq, cross_wide (hr _ (gt_in hi)) (hr _ (gt_in (Nat.mod_lt _ h0))) hd]
    exact h _ ((E_idx h0 _).2 ⟨i, hi, rfl⟩)
theorem Region.inside {s t L r : List P} {a b : P} (h : Region s t L r a b) {d : P} (hd : nearB 4194304 d) : interiorW r d = true ↔ Blk s t d := by
  rw [interior_iff (fun q hq => near_mono (h.near q (h.cvx.sub q hq)) (by omega)) hd (by have := h.cvx.len; omega), inn_iff h.spec, inn_blk h.diff]
theorem blk_near {s t : List P} {d : P} (hs : ∀ q ∈ s, nearB 1048576 q) (ht : ∀ q ∈ t, nearB 1048576 q) (h : Blk s t d) : nearB 2097152 d := by
  have f : ∀ u : P, u ≠ (0, 0) → ∃ p, nearB 1048576 p ∧ ∃ q, nearB 1048576 q ∧ 0 < dt u (sb (sb p q) d) := fun u hu => by
    obtain ⟨p, hp, q, hq, hd⟩ := h u hu
    exact ⟨p, hs p hp, q, ht q hq, hd⟩
  obtain ⟨p1, a1, q1, b1, c1⟩ := f (1, 0) (by simp)
  obtain ⟨p2, a2, q2, b2, c2⟩ := f (-1, 0) (by simp)
  obtain ⟨p3, a3, q3, b3, c3⟩ := f (0, 1) (by simp)
  obtain ⟨p4, a4, q4, b4, c4⟩ := f (0, -1) (by simp)
  unfold nearB dt sb at *
  simp only at *
  omega
/-- A move is blocked just if two triangles block it. -/
theorem blocked_iff {a b : List P} (ha : checkW a a.length = 0) (hb : checkW b b.length = 0) (d : P) : blockedW (regionsW a b).2 d = true ↔ ∃ s ∈ (splitAllW a).2, ∃ t ∈ (splitAllW b).2, Blk s t d := by
  obtain ⟨_, hr⟩ := regions_ok ha hb
  have ta : ∀ s ∈ (splitAllW a).2, Tri 1048576 s := fun s hs => tri_of (check_near ha) ((split_ok ha).2.1 s hs)
  have tb : ∀ s ∈ (splitAllW b).2, Tri 1048576 s := fun s hs => tri_of (check_near hb) ((split_ok hb).2.1 s hs)
  unfold blockedW
  rw [Bool.and_eq_true, Bool.not_eq_true', AnyB.iff]
  constructor
  · rintro ⟨ho, i, hi, h⟩
    obtain ⟨s, hs, t, ht, e⟩ := (hr _).1 (lt_in hi)
    obtain ⟨L, x, y, _, reg⟩ := Sum_tri (ta s hs) (tb t ht)
    rw [e] at h
    exact ⟨s, hs, t, ht, (reg.inside (near_mono (near_of_out ho) (by omega))).1 h⟩
  · rintro ⟨s, hs, t, ht, h⟩
    have nd := blk_near (ta s hs).near (tb t ht).near h
    obtain ⟨L, x, y, _, reg⟩ := Sum_tri (ta s hs) (tb t ht)
    obtain ⟨i, hi, e⟩ := mem_lt ((hr _).2 ⟨s, hs, t, ht, rfl⟩)
    exact ⟨out_near nd, i, hi, by rw [e]; exact (reg.inside (near_mono nd (by omega))).2 h⟩
end Ears
end Go.Proofs.YtmdncaoilegnnaaGreat

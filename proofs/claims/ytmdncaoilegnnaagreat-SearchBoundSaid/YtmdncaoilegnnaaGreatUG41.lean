/- Plain geometry of simple polygons. Plain geometry of simple polygons. Plain geometry of simple polygons. Plain geometry of simple polygons. Plain geometry of simple polygons. -/
import Derived.Test.YtmdncaoilegnnaaGreatUG39
namespace Go.Proofs.YtmdncaoilegnnaaGreat
set_option linter.unusedVariables false
set_option linter.unusedSimpArgs false
set_option linter.unusedVariables false
set_option linter.unusedSimpArgs false
namespace Ears

/-- The key by which points are sorted: linear. -/
def key (α β : Int) (p : P) : Int := α * p.1 + β * p.2
/-- The stack (its top in front), what p turns away taken off. -/
def popR (p : P) : List P → List P
  | y :: x :: s => if cr x y p ≤ 0 then popR p (x :: s) else y :: x :: s
  | s => s
/-- The edges of a stack, from below to above. -/
def es : List P → List (P × P)
  | y :: x :: s => (x, y) :: es (x :: s)
  | _ => []
def Cvx : List P → Prop
  | z :: y :: x :: s => 0 < cr x y z ∧ Cvx (y :: x :: s)
  | _ => True
def Dec (α β : Int) : List P → Prop
  | y :: x :: s => key α β x < key α β y ∧ Dec α β (x :: s)
  | _ => True
def Cov (st : List P) (q : P) : Prop := ∀ e ∈ es st, 0 ≤ cr e.1 e.2 q
theorem k1 (α β : Int) (x y p q : P) : (key α β y - key α β x) * cr x p q = - cr x y p * (key α β q - key α β x) + cr x y q * (key α β p - key α β x) := by unfold key cr; grind
theorem k2 (α β : Int) (x y p q : P) : (key α β y - key α β x) * cr y p q = cr x y q * (key α β p - key α β y) + cr x y p * (key α β y - key α β q) := by unfold key cr; grind
theorem k3 (α β : Int) (w x y p : P) : (key α β y - key α β x) * cr w x p = cr w x y * (key α β p - key α β x) + cr x y p * (key α β x - key α β w) := by unfold key cr; grind
theorem above {α β : Int} {p : P} : ∀ {s : List P} {x y : P}, Cvx (y :: x :: s) → Dec α β (y :: x :: s) → key α β y < key α β p → 0 < cr x y p → ∀ e ∈ es (y :: x :: s), 0 < cr e.1 e.2 p
  | [], x, y, _, _, _, h, e, he => by
    simp [es] at he; subst he; exact h
  | w :: s, x, y, hc, hd, hk, h, e, he => by
    simp only [es, List.mem_cons] at he
    simp only [Cvx, Dec] at hc hd
    rcases he with rfl | he
    · exact h
    · refine above (s := s) (x := w) (y := x) hc.2 hd.2 (by omega) ?_ e (by simp only [es, List.mem_cons]; exact he)
      have e := k3 α β w x y p
      have x1 := pos_mul hc.1 (show 0 < key α β p - key α β x by omega)
      have x2 := pos_mul h (show 0 < key α β x - key α β w by omega)
      exact sgt (show 0 < key α β y - key α β x by omega) (by omega)
/-- What popping leaves. -/
theorem pop_spec {α β : Int} {p : P} {pts : List P} (inj : ∀ q ∈ pts, ∀ r ∈ pts, key α β q = key α β r → q = r) :
    ∀ (st : List P) (y : P) (s : List P), st = y :: s → (∀ q ∈ st, q ∈ pts) → Cvx st → Dec α β st → key α β y < key α β p → (∀ q ∈ pts, Cov st q) → (∀ q ∈ pts, key α β (fin y s) ≤ key α β q) → (∀ q ∈ pts, key α β q < key α β p) →
      (∀ q ∈ pts, key α β q ≤ key α β y ∨ 0 ≤ cr y p q) →
      ∃ t s', popR p st = t :: s' ∧ (∀ q ∈ t :: s', q ∈ st) ∧ Cvx (p :: t :: s') ∧ Dec α β (p :: t :: s') ∧ (∀ q ∈ pts, Cov (p :: t :: s') q) ∧ Cov (p :: t :: s') p ∧ fin t s' = fin y s
  | _, y, [], rfl, hsub, hc, hd, hk, hcov, hmin, hpts, H => by
    refine ⟨y, [], rfl, fun q hq => hq, by simp [Cvx], by simp [Dec, hk], ?_, ?_, rfl⟩
    · intro q hq e he
      simp [es] at he; subst he
      rcases H q hq with h | h
      · have := hmin q hq
        simp only [fin] at this
        have e := inj q hq y (hsub y (by simp)) (by omega)
        subst e; simp only; rw [cr_same1]; omega
      · exact h
    · intro e he
      simp [es] at he; subst he; simp only; rw [cr_same2]; omega
  | _, y, x :: s, rfl, hsub, hc, hd, hk, hcov, hmin, hpts, H => by
    have hd' := hd
    simp only [Dec] at hd'
    by_cases c : cr x y p ≤ 0
    · have hpop : popR p (y :: x :: s) = popR p (x :: s) := by rw [popR, if_pos c]
      rw [hpop]
      have hcx : Cvx (x :: s) := by
        cases s with
        | nil => simp [Cvx]
        | cons w s => simp only [Cvx] at hc; exact hc.2
      obtain ⟨t, s', r1, r2, r3⟩ := pop_spec inj (x :: s) x s rfl (fun q hq => hsub q (List.mem_cons_of_mem _ hq)) hcx hd'.2 (by omega) (fun q hq e he => hcov q hq e (by simp only [es, List.mem_cons]; exact .inr he)) hmin hpts (fun q hq => by
        by_cases g : key α β q ≤ key α β x
        · exact .inl g
        · right
          have cq := hcov q hq (x, y) (by simp [es])
          have e := k1 α β x y p q
          have x1 := nn (show 0 ≤ - cr x y p by omega) (show 0 ≤ key α β q - key α β x by omega)
          have x2 := nn cq (show 0 ≤ key α β p - key α β x by omega)
          exact sge (show 0 < key α β y - key α β x by omega) (by simp only at x2; omega))
      exact ⟨t, s', r1, fun q hq => List.mem_cons_of_mem _ (r2 q hq), r3⟩
    · have hpop : popR p (y :: x :: s) = y :: x :: s := by rw [popR, if_neg c]
      refine ⟨y, x :: s, hpop, fun q hq => hq, by simp only [Cvx]; exact ⟨by omega, hc⟩, by simp only [Dec]; exact ⟨hk, hd'⟩, ?_, ?_, rfl⟩
      · intro q hq e he
        rw [es, List.mem_cons] at he
        rcases he with rfl | he
        · simp only
          rcases H q hq with h | h
          · have cq := hcov q hq (x, y) (by simp [es])
            have e := k2 α β x y p q
            have x1 := nn cq (show 0 ≤ key α β p - key α β y by omega)
            have x2 := nn (show 0 ≤ cr x y p by omega) (show 0 ≤ key α β y - key α β q by omega)
            exact sge (show 0 < key α β y - key α β x by omega) (by simp only at x1; omega)
          · exact h
        · exact hcov q hq e he
      · intro e he
        rw [es, List.mem_cons] at he
        rcases he with rfl | he
        · simp only; rw [cr_same2]; omega
        · exact Int.le_of_lt (above hc hd hk (by omega) e he)
/-- The stack behind the first points of a list. -/
def borR : List P → List P → List P
  | st, [] => st
  | st, p :: l => borR (p :: popR p st) l
theorem bor_spec {α β : Int} : ∀ (l pts : List P) (y : P) (s : List P), (∀ q ∈ pts ++ l, ∀ r ∈ pts ++ l, key α β q = key α β r → q = r) → (∀ q ∈ y :: s, q ∈ pts) → Cvx (y :: s) → Dec α β (y :: s) → (∀ q ∈ pts, Cov (y :: s) q) →
    (∀ q ∈ pts, key α β (fin y s) ≤ key α β q) → (∀ q ∈ pts, key α β q ≤ key α β y) → (∀ q ∈ pts, ∀ r ∈ l, key α β q < key α β r) → l.Pairwise (fun q r => key α β q < key α β r) →
    ∃ t s', borR (y :: s) l = t :: s' ∧ (∀ q ∈ t :: s', q ∈ pts ++ l) ∧ Cvx (t :: s') ∧ Dec α β (t :: s') ∧ (∀ q ∈ pts ++ l, Cov (t :: s') q) ∧ t = fin y l ∧ fin t s' = fin y s
  | [], pts, y, s, inj, hsub, hc, hd, hcov, hmin, hmax, hlt, hpw => ⟨y, s, rfl, by simpa using hsub, hc, hd, by simpa using hcov, rfl, rfl⟩
  | p :: l, pts, y, s, inj, hsub, hc, hd, hcov, hmin, hmax, hlt, hpw => by
    have yin : y ∈ pts := hsub y (by simp)
    obtain ⟨t, s', r1, r2, r3, r4, r5, r6, r7⟩ := pop_spec (α := α) (β := β) (p := p) (pts := pts) (fun q hq r hr => inj q (by simp [hq]) r (by simp [hr])) (y :: s) y s rfl hsub hc hd (hlt y yin p (by simp)) hcov hmin (fun q hq => hlt q hq p (by simp)) (fun q hq => .inl (hmax q hq))
    have hpw' := List.pairwise_cons.1 hpw
    obtain ⟨t2, s2, g1, g2, g3, g4, g5, g6, g7⟩ := bor_spec (α := α) (β := β) l (pts ++ [p]) p (t :: s') (by
        intro q hq r hr; exact inj q (by simp at hq ⊢; grind) r (by simp at hr ⊢; grind))
      (fun q hq => by
        rcases List.mem_cons.1 hq with e | e
        · simp [e]
        · have := hsub q (r2 q e); simp [this]) r3 r4
      (fun q hq => by
        rcases List.mem_append.1 hq with e | e
        · exact r5 q e
        · simp at e; subst e; exact r6)
      (fun q hq => by
        simp only [fin]; rw [r7]
        rcases List.mem_append.1 hq with e | e
        · exact hmin q e
        · simp at e; subst e
          have h1 := hmin y yin
          have h2 := hlt y yin q (by simp)
          omega)
      (fun q hq => by
        rcases List.mem_append.1 hq with e | e
        · have := hlt q e p (by simp); omega
        · simp at e; subst e; omega)
      (fun q hq r hr => by
        rcases List.mem_append.1 hq with e | e
        · exact hlt q e r (by simp [hr])
        · simp at e; subst e; exact hpw'.1 r hr)
      hpw'.2
    refine ⟨t2, s2, ?_, ?_, g3, g4, ?_, ?_, ?_⟩
    · rw [borR, r1]; exact g1
    · intro q hq; have := g2 q hq; simp at this ⊢; grind
    · intro q hq; exact g5 q (by simp at hq ⊢; grind)
    · rw [g6]; rfl
    · rw [g7]; simp only [fin]; exact r7
/-- The stack of a strictly ascending list. -/
theorem bor_all {α β : Int} {a : P} {l : List P} (inj : ∀ q ∈ a :: l, ∀ r ∈ a :: l, key α β q = key α β r → q = r) (hpw : (a :: l).Pairwise (fun q r => key α β q < key α β r)) :
    ∃ s', borR [a] l = fin a l :: s' ∧ (∀ q ∈ fin a l :: s', q ∈ a :: l) ∧ Cvx (fin a l :: s') ∧ Dec α β (fin a l :: s') ∧ (∀ q ∈ a :: l, Cov (fin a l :: s') q) ∧ fin (fin a l) s' = a := by
  have h := List.pairwise_cons.1 hpw
  obtain ⟨t, s', g1, g2, g3, g4, g5, g6, g7⟩ := bor_spec (α := α) (β := β) l [a] a [] (by simpa using inj) (by simp) (by simp [Cvx]) (by simp [Dec]) (by intro q hq e he; simp [es] at he) (by simp [fin]) (by simp) (by simpa using h.1) h.2
  subst g6
  exact ⟨s', g1, by simpa using g2, g3, g4, by simpa using g5, by rw [g7]; rfl⟩
theorem ch_es : ∀ (s : List P) (y x : P), ∀ e, e ∈ ch x (s.reverse ++ [y]) ↔ e ∈ es (y :: s ++ [x])
  | [], y, x, e => by simp [ch, es]
  | z :: s, y, x, e => by
    rw [List.reverse_cons, ch_snoc x (s.reverse ++ [z]) y, fin_snoc, List.mem_append, ch_es s z x e]
    simp only [List.cons_append, es, List.mem_cons, List.not_mem_nil, or_false]
    exact Or.comm
end Ears
end Go.Proofs.YtmdncaoilegnnaaGreat

namespace Go.Proofs.YtmdncaoilegnnaaGreat
set_option linter.unusedVariables false
set_option linter.unusedSimpArgs false
set_option linter.unusedVariables false
set_option linter.unusedSimpArgs false
namespace Ears

/-- The chain of the hull of an ascending list, without its last point. -/
def chainR : List P → List P
  | [] => []
  | a :: l => (borR [a] l).tail.reverse
def hullR (l : List P) : List P := chainR l ++ chainR l.reverse
theorem key_neg (α β : Int) (p : P) : key (-α) (-β) p = - key α β p := by unfold key; grind
theorem fin_last (a : P) (l : List P) : ∃ m, a :: l = m ++ [fin a l] := by
  induction l generalizing a with
  | nil => exact ⟨[], rfl⟩
  | cons b l ih => obtain ⟨m, hm⟩ := ih b; exact ⟨a :: m, by simp only [fin, List.cons_append]; rw [← hm]⟩
structure HullSpec (l r : List P) (a b : P) : Prop where
  sub : ∀ q ∈ r, q ∈ l
  left : ∀ e ∈ E r, ∀ q ∈ l, 0 ≤ cr e.1 e.2 q
  ha : a ∈ r
  hb : b ∈ r
  len : 2 ≤ r.length
  ne : ∀ e ∈ E r, e.1 ≠ e.2
theorem es_dec {α β : Int} : ∀ {st : List P}, Dec α β st → ∀ e ∈ es st, key α β e.1 < key α β e.2
  | [], _, e, he => by simp [es] at he
  | [x], _, e, he => by simp [es] at he
  | y :: x :: s, h, e, he => by
    simp only [es, List.mem_cons] at he
    simp only [Dec] at h
    rcases he with rfl | he
    · exact h.1
    · exact es_dec h.2 e he
/-- The two chains of an ascending list. -/
theorem chains {α β : Int} {a b : P} {l m : List P} (hl : a :: l = m ++ [b]) (h2 : l ≠ []) (inj : ∀ q ∈ a :: l, ∀ r ∈ a :: l, key α β q = key α β r → q = r) (hpw : (a :: l).Pairwise (fun q r => key α β q < key α β r)) :
    ∃ s1 s2 : List P, chainR (a :: l) = a :: s1.reverse ∧ chainR (a :: l).reverse = b :: s2.reverse ∧
      (∀ q ∈ b :: s1 ++ [a], q ∈ a :: l) ∧ Cvx (b :: s1 ++ [a]) ∧ Dec α β (b :: s1 ++ [a]) ∧ (∀ q ∈ a :: l, Cov (b :: s1 ++ [a]) q) ∧
      (∀ q ∈ a :: s2 ++ [b], q ∈ a :: l) ∧ Cvx (a :: s2 ++ [b]) ∧ Dec (-α) (-β) (a :: s2 ++ [b]) ∧ (∀ q ∈ a :: l, Cov (a :: s2 ++ [b]) q) := by
  have one : ∀ {α β : Int} {a b : P} {l m : List P}, a :: l = m ++ [b] → l ≠ [] → (∀ q ∈ a :: l, ∀ r ∈ a :: l, key α β q = key α β r → q = r) → (a :: l).Pairwise (fun q r => key α β q < key α β r) →
      ∃ s1 : List P, chainR (a :: l) = a :: s1.reverse ∧ (∀ q ∈ b :: s1 ++ [a], q ∈ a :: l) ∧ Cvx (b :: s1 ++ [a]) ∧ Dec α β (b :: s1 ++ [a]) ∧ (∀ q ∈ a :: l, Cov (b :: s1 ++ [a]) q) := by
    intro α β a b l m hl h2 inj hpw
    have hb : fin a l = b := by
      obtain ⟨m', hm'⟩ := fin_last a l
      rw [hl] at hm'
      have := congrArg List.getLast? hm'
      simp at this; exact this.symm
    obtain ⟨s', g1, g2, g3, g4, g5, g6⟩ := bor_all inj hpw
    rw [hb] at g1 g2 g3 g4 g5 g6
    have hne : s' ≠ [] := by
      intro e; subst e
      simp only [fin] at g6
      subst g6
      have hlt : key α β b < key α β b := by
        have := (List.pairwise_cons.1 hpw).1 (fin b l) (by
          cases l with
          | nil => exact absurd rfl h2
          | cons x l => simp only [fin]; exact fin_mem x l)
        rw [hb] at this; exact this
      omega
    obtain ⟨s1, x, rfl⟩ := snoc_of hne
    rw [fin_snoc] at g6
    subst g6
    refine ⟨s1, ?_, g2, g3, g4, g5⟩
    show (borR [x] l).tail.reverse = _
    rw [g1]; simp
  obtain ⟨s1, p1, p2, p3, p4, p5⟩ := one hl h2 inj hpw
  have hrev : (a :: l).reverse = b :: m.reverse := by rw [hl]; simp
  have hm2 : m.reverse ≠ [] := by
    intro e
    have : m = [] := by simpa using e
    subst this
    have := congrArg List.length hl
    simp at this; exact h2 this
  obtain ⟨m', hm'⟩ : ∃ m', b :: m.reverse = m' ++ [a] := ⟨l.reverse, by rw [← hrev]; simp⟩
  have mem : ∀ q, q ∈ b :: m.reverse ↔ q ∈ a :: l := by intro q; rw [← hrev]; exact List.mem_reverse
  obtain ⟨s2, q1, q2, q3, q4, q5⟩ := one (α := -α) (β := -β) hm' hm2 (fun q hq r hr e => inj q ((mem q).1 hq) r ((mem r).1 hr) (by rw [key_neg, key_neg] at e; omega))
    (by
      rw [← hrev, List.pairwise_reverse]
      exact hpw.imp (fun {q r} h => by rw [key_neg, key_neg]; omega))
  refine ⟨s1, s2, p1, by rw [hrev]; exact q1, p2, p3, p4, p5, fun q hq => (mem q).1 (q2 q hq), q3, q4, fun q hq => q5 q ((mem q).2 hq)⟩
theorem hull_spec {α β : Int} {a b : P} {l m : List P} (hl : a :: l = m ++ [b]) (h2 : l ≠ []) (inj : ∀ q ∈ a :: l, ∀ r ∈ a :: l, key α β q = key α β r → q = r) (hpw : (a :: l).Pairwise (fun q r => key α β q < key α β r)) :
    HullSpec (a :: l) (hullR (a :: l)) a b ∧ ((∃ x ∈ a :: l, ∃ y ∈ a :: l, ∃ z ∈ a :: l, cr x y z ≠ 0) → 3 ≤ (hullR (a :: l)).length) := by
  obtain ⟨s1, s2, c1, c2, p2, p3, p4, p5, q2, q3, q4, q5⟩ := chains hl h2 inj hpw
  have hr : hullR (a :: l) = (a :: s1.reverse) ++ (b :: s2.reverse) := by unfold hullR; rw [c1, c2]
  have hE : ∀ e, e ∈ E (hullR (a :: l)) → e ∈ es (b :: s1 ++ [a]) ∨ e ∈ es (a :: s2 ++ [b]) := by
    intro e he
    rw [hr] at he
    have : E ((a :: s1.reverse) ++ (b :: s2.reverse)) = ch a (s1.reverse ++ [b]) ++ ch b (s2.reverse ++ [a]) := by
      simp only [E, List.cons_append, List.append_assoc]; rw [ch_append]
    rw [this, List.mem_append, ch_es, ch_es] at he
    exact he
  refine ⟨⟨?_, ?_, ?_, ?_, ?_, ?_⟩, ?_⟩
  · intro q hq
    rw [hr] at hq
    simp only [List.cons_append, List.mem_cons, List.mem_append, List.mem_reverse] at hq
    rcases hq with e | e | e | e
    · exact p2 q (by simp [e])
    · exact p2 q (by simp [e])
    · exact p2 q (by simp [e])
    · exact q2 q (by simp [e])
  · intro e he q hq
    rcases hE e he with k | k
    · exact p5 q hq e k
    · exact q5 q hq e k
  · rw [hr]; simp
  · rw [hr]; simp
  · rw [hr]; simp; omega
  · intro e he z
    rcases hE e he with k | k
    · have := es_dec p4 e k; rw [z] at this; omega
    · have := es_dec q4 e k; rw [z] at this; omega
  · rintro ⟨x, hx, y, hy, z, hz, hne⟩
    rw [hr]
    rcases Nat.lt_or_ge ((a :: s1.reverse) ++ (b :: s2.reverse)).length 3 with c | c
    · exfalso
      have e1 : s1 = [] := by
        cases s1 with
        | nil => rfl
        | cons x s => simp at c; omega
      have e2 : s2 = [] := by
        cases s2 with
        | nil => rfl
        | cons x s => simp at c; omega
      subst e1; subst e2
      have col : ∀ q ∈ a :: l, cr a b q = 0 := by
        intro q hq
        have u1 := p5 q hq (a, b) (by simp [es])
        have u2 := q5 q hq (b, a) (by simp [es])
        simp only at u1 u2
        rw [cr_swap a b q] at u2
        omega
      have kab : key α β a < key α β b := es_dec p4 (a, b) (by simp [es])
      -- three points on the line ab
      have g : ∀ q ∈ a :: l, ∀ r ∈ a :: l, ∀ t ∈ a :: l, cr q r t = 0 := by
        intro q hq r hr t ht
        have w1 := col q hq; have w2 := col r hr; have w3 := col t ht
        have id : (key α β b - key α β a) * cr q r t = (key α β t - key α β r) * cr a b q + (key α β q - key α β t) * cr a b r + (key α β r - key α β q) * cr a b t := by unfold key cr; grind
        rw [w1, w2, w3] at id
        rcases Int.mul_eq_zero.1 (show (key α β b - key α β a) * cr q r t = 0 by omega) with h | h
        · omega
        · exact h
      exact hne (g x hx y hy z hz)
    · exact c
def dt (u v : P) : Int := u.1 * v.1 + u.2 * v.2
def sb (p q : P) : P := (p.1 - q.1, p.2 - q.2)
/-- d lies in the interior of the hull of l: in every direction some point of l lies beyond d. -/
def Inn (l : List P) (d : P) : Prop := ∀ u : P, u ≠ (0, 0) → ∃ p ∈ l, 0 < dt u (sb p d)
theorem inn_left {l r : List P} (hs : ∀ e ∈ E r, ∀ q ∈ l, 0 ≤ cr e.1 e.2 q) (hne : ∀ e ∈ E r, e.1 ≠ e.2) {d : P} (h : Inn l d) : ∀ e ∈ E r, 0 < cr e.1 e.2 d := by
  intro e he
  have ne := hne e he
  obtain ⟨p, hp, hd⟩ := h (e.2.2 - e.1.2, -(e.2.1 - e.1.1)) (by
    intro z
    injection z with z1 z2
    exact ne (Prod.ext (by omega) (by omega)))
  have := hs e he p hp
  have id : dt (e.2.2 - e.1.2, -(e.2.1 - e.1.1)) (sb p d) = cr e.1 e.2 d - cr e.1 e.2 p := by unfold dt sb cr; grind
  omega
theorem exists_min_ratio {l : List P} {a s : P → Int} (h : l ≠ []) (ha : ∀ q ∈ l, 0 < a q) : ∃ v ∈ l, ∀ q ∈ l, s v * a q ≤ s q * a v := by
  induction l with
  | nil => exact absurd rfl h
  | cons x l ih =>
    by_cases hl : l = []
    · subst hl; exact ⟨x, by simp, fun q hq => by simp at hq; rw [hq]; omega⟩
    · obtain ⟨v, hv, h1⟩ := ih hl (fun q hq => ha q (by simp [hq]))
      by_cases c : s x * a v ≤ s v * a x
      · refine ⟨x, by simp, fun q hq => ?_⟩
        rcases List.mem_cons.1 hq with e | e
        · rw [e]; omega
        · have h2 := h1 q e
          have av := ha v (by simp [hv]); have ax := ha x (by simp); have aq := ha q (by simp [e])
          have x1 := Int.mul_le_mul_of_nonneg_right c (Int.le_of_lt aq)
          have x2 := Int.mul_le_mul_of_nonneg_right h2 (Int.le_of_lt ax)
          have : 0 ≤ a v * (s q * a x - s x * a q) := by grind
          have := sge av this
          omega
      · refine ⟨v, by simp [hv], fun q hq => ?_⟩
        rcases List.mem_cons.1 hq with e | e
        · rw [e]; omega
        · exact h1 q e
theorem left_inn {r : List P} (h2 : 2 ≤ r.length) {d : P} (h : ∀ e ∈ E r, 0 < cr e.1 e.2 d) : Inn r d := by
  intro u hu
  apply Classical.byContradiction
  intro hc
  have hle : ∀ v ∈ r, 0 ≤ - dt u (sb v d) := by
    intro v hv
    rcases lt_ge 0 (dt u (sb v d)) with c | c
    · exact absurd ⟨v, hv, c⟩ hc
    · omega
  have hid : ∀ p q : P, dt u u * cr p q d = (u.1 * (sb p d).2 - u.2 * (sb p d).1) * (- dt u (sb q d)) - (u.1 * (sb q d).2 - u.2 * (sb q d).1) * (- dt u (sb p d)) := by
    intro p q; unfold dt sb cr; grind
  have uu : 0 < dt u u := by
    unfold dt
    have s1 : 0 ≤ u.1 * u.1 := by rcases lt_ge u.1 0 with c | c; exact Int.le_of_lt (neg_neg_ c c); exact nn c c
    have s2 : 0 ≤ u.2 * u.2 := by rcases lt_ge u.2 0 with c | c; exact Int.le_of_lt (neg_neg_ c c); exact nn c c
    rcases Int.lt_or_eq_of_le (show 0 ≤ u.1 * u.1 + u.2 * u.2 by omega) with c | c
    · exact c
    · exfalso
      have e1 : u.1 * u.1 = 0 := by omega
      have e2 : u.2 * u.2 = 0 := by omega
      have f1 : u.1 = 0 := by rcases Int.mul_eq_zero.1 e1 with z | z <;> exact z
      have f2 : u.2 = 0 := by rcases Int.mul_eq_zero.1 e2 with z | z <;> exact z
      exact hu (Prod.ext f1 f2)
  have hedge : ∀ e ∈ E r, (u.1 * (sb e.2 d).2 - u.2 * (sb e.2 d).1) * (- dt u (sb e.1 d)) < (u.1 * (sb e.1 d).2 - u.2 * (sb e.1 d).1) * (- dt u (sb e.2 d)) := by
    intro e he
    have := pos_mul uu (h e he)
    rw [hid] at this
    omega
  have next : ∀ v ∈ r, ∃ w, (v, w) ∈ E r := by
    intro v hv
    obtain ⟨A, B, rfl⟩ := rot_at hv
    cases hBA : B ++ A with
    | nil => have := congrArg List.length hBA; rw [List.length_append] at this h2; simp only [List.length_nil, List.length_cons] at this h2; omega
    | cons w k =>
      refine ⟨w, E_rot_mem (A := v :: B) (B := A) ?_⟩
      rw [List.cons_append, hBA, E_two]; simp
  have prev : ∀ v ∈ r, ∃ w, (w, v) ∈ E r := by
    intro v hv
    obtain ⟨A, B, rfl⟩ := rot_at hv
    cases hBA : B ++ A with
    | nil => have := congrArg List.length hBA; rw [List.length_append] at this h2; simp only [List.length_nil, List.length_cons] at this h2; omega
    | cons w k =>
      refine ⟨fin w k, E_rot_mem (A := v :: B) (B := A) ?_⟩
      rw [List.cons_append, hBA, E_two]; simp
  have pos : ∀ v ∈ r, 0 < - dt u (sb v d) := by
    intro v hv
    rcases Int.lt_or_eq_of_le (hle v hv) with c | c
    · exact c
    · exfalso
      obtain ⟨w, hw⟩ := next v hv
      obtain ⟨x, hx⟩ := prev v hv
      have e1 := hedge _ hw
      have e2 := hedge _ hx
      simp only at e1 e2
      rw [← c, Int.mul_zero] at e1 e2
      have w0 := hle w (E_mem hw).2
      have x0 := hle x (E_mem hx).1
      have s0 : 0 < u.1 * (sb v d).2 - u.2 * (sb v d).1 := by
        rcases lt_ge 0 (u.1 * (sb v d).2 - u.2 * (sb v d).1) with z | z
        · exact z
        · have := np w0 z; rw [Int.mul_comm] at this; omega
      have := nn (Int.le_of_lt s0) x0
      omega
  obtain ⟨v, hv, hmin⟩ := exists_min_ratio (l := r) (a := fun v => - dt u (sb v d)) (s := fun v => u.1 * (sb v d).2 - u.2 * (sb v d).1) (by intro e; rw [e] at h2; simp at h2) pos
  obtain ⟨w, hw⟩ := next v hv
  have e1 := hedge _ hw
  have e2 := hmin w (E_mem hw).2
  simp only at e1 e2
  omega
/-- The interior test of a hull. -/
theorem inn_iff {l r : List P} {a b : P} (h : HullSpec l r a b) {d : P} : (∀ e ∈ E r, 0 < cr e.1 e.2 d) ↔ Inn l d := by
  constructor
  · intro k u hu
    obtain ⟨p, hp, hd⟩ := left_inn h.len k u hu
    exact ⟨p, h.sub p hp, hd⟩
  · exact inn_left h.left h.ne
end Ears
end Go.Proofs.YtmdncaoilegnnaaGreat

namespace Go.Proofs.YtmdncaoilegnnaaGreat
set_option linter.unusedVariables false
set_option linter.unusedSimpArgs false
set_option linter.unusedVariables false
set_option linter.unusedSimpArgs false
namespace Ears

def ad (p q : P) : P := (p.1 + q.1, p.2 + q.2)
def nrm (w x : P) : Int := w.1 * x.2 - w.2 * x.1
/-- L holds just the differences of points of s and t. -/
structure Diff (s t L : List P) : Prop where
  into : ∀ x ∈ L, ∃ p ∈ s, ∃ q ∈ t, x = sb p q
  all : ∀ p ∈ s, ∀ q ∈ t, sb p q ∈ L
def Blk (s t : List P) (d : P) : Prop := ∀ u : P, u ≠ (0, 0) → ∃ p ∈ s, ∃ q ∈ t, 0 < dt u (sb (sb p q) d)
theorem inn_blk {s t L : List P} (h : Diff s t L) {d : P} : Inn L d ↔ Blk s t d := by
  constructor
  · intro k u hu
    obtain ⟨x, hx, hd⟩ := k u hu
    obtain ⟨p, hp, q, hq, rfl⟩ := h.into x hx
    exact ⟨p, hp, q, hq, hd⟩
  · intro k u hu
    obtain ⟨p, hp, q, hq, hd⟩ := k u hu
    exact ⟨_, h.all p hp q hq, hd⟩
theorem E3 (A B C : P) : E [A, B, C] = [(A, B), (B, C), (C, A)] := rfl
theorem blk_edges {s t : List P} {d : P} (hs : ∀ e ∈ E s, e.1 ≠ e.2 ∧ ∀ q ∈ s, 0 ≤ cr e.1 e.2 q) (ht : ∀ e ∈ E t, e.1 ≠ e.2 ∧ ∀ q ∈ t, 0 ≤ cr e.1 e.2 q) (h : Blk s t d) :
    (∀ e ∈ E s, ∃ v ∈ t, 0 < cr e.1 e.2 (ad v d)) ∧ (∀ e ∈ E t, ∃ v ∈ s, 0 < cr (ad e.1 d) (ad e.2 d) v) := by
  constructor
  · intro e he
    obtain ⟨ne, hl⟩ := hs e he
    obtain ⟨p, hp, q, hq, hd⟩ := h (e.2.2 - e.1.2, -(e.2.1 - e.1.1)) (by
      intro z; injection z with z1 z2; exact ne (Prod.ext (by omega) (by omega)))
    refine ⟨q, hq, ?_⟩
    have := hl p hp
    have id : dt (e.2.2 - e.1.2, -(e.2.1 - e.1.1)) (sb (sb p q) d) = cr e.1 e.2 (ad q d) - cr e.1 e.2 p := by unfold dt sb ad cr; grind
    omega
  · intro e he
    obtain ⟨ne, hl⟩ := ht e he
    obtain ⟨p, hp, q, hq, hd⟩ := h (-(e.2.2 - e.1.2), (e.2.1 - e.1.1)) (by
      intro z; injection z with z1 z2; exact ne (Prod.ext (by omega) (by omega)))
    refine ⟨p, hp, ?_⟩
    have := hl q hq
    have id : dt (-(e.2.2 - e.1.2), (e.2.1 - e.1.1)) (sb (sb p q) d) = cr (ad e.1 d) (ad e.2 d) p - cr e.1 e.2 q := by unfold dt sb ad cr; grind
    omega
/-- Two vertices of a triangle are the ends of a side. -/
theorem two_of {A B C x y : P} (hx : x ∈ [A, B, C]) (hy : y ∈ [A, B, C]) (ne : x ≠ y) : ∃ p q r, (p, q) ∈ E [A, B, C] ∧ r ∈ [A, B, C] ∧ cr p q r = cr A B C ∧ ((p = x ∧ q = y) ∨ (p = y ∧ q = x)) := by
  rw [E3]
  have r1 : cr B C A = cr A B C := cr_rot A B C
  have r2 : cr C A B = cr A B C := by rw [cr_rot B C A, cr_rot A B C]
  simp only [List.mem_cons, List.not_mem_nil, or_false] at hx hy
  rcases hx with rfl | rfl | rfl <;> rcases hy with rfl | rfl | rfl
  · exact absurd rfl ne
  · exact ⟨x, y, C, by simp, by simp, rfl, .inl ⟨rfl, rfl⟩⟩
  · exact ⟨y, x, B, by simp, by simp, r2, .inr ⟨rfl, rfl⟩⟩
  · exact ⟨y, x, C, by simp, by simp, rfl, .inr ⟨rfl, rfl⟩⟩
  · exact absurd rfl ne
  · exact ⟨x, y, A, by simp, by simp, r1, .inl ⟨rfl, rfl⟩⟩
  · exact ⟨x, y, B, by simp, by simp, r2, .inl ⟨rfl, rfl⟩⟩
  · exact ⟨y, x, A, by simp, by simp, r1, .inr ⟨rfl, rfl⟩⟩
  · exact absurd rfl ne
theorem nrm_id (w x y z v : P) : nrm w (sb v x) * cr x y z = nrm w (sb z x) * cr x y v + nrm w (sb y x) * nrm (sb v x) (sb z x) := by unfold nrm sb cr; grind
theorem nrm_sub (w x y : P) : nrm w (sb x y) = nrm w x - nrm w y := by unfold nrm sb; grind
theorem nrm_add (w x y : P) : nrm w (ad x y) = nrm w x + nrm w y := by unfold nrm ad; grind
theorem nrm_zero {w x y z : P} (h : 0 < cr x y z) (h1 : nrm w (sb y x) = 0) (h2 : nrm w (sb z x) = 0) : w = (0, 0) := by
  have i1 : w.1 * cr x y z = nrm w (sb z x) * (y.1 - x.1) - nrm w (sb y x) * (z.1 - x.1) := by unfold nrm sb cr; grind
  have i2 : w.2 * cr x y z = nrm w (sb z x) * (y.2 - x.2) - nrm w (sb y x) * (z.2 - x.2) := by unfold nrm sb cr; grind
  rw [h1, h2] at i1 i2
  have e1 : w.1 = 0 := by
    rcases Int.mul_eq_zero.1 (show w.1 * cr x y z = 0 by omega) with q | q
    · exact q
    · omega
  have e2 : w.2 = 0 := by
    rcases Int.mul_eq_zero.1 (show w.2 * cr x y z = 0 by omega) with q | q
    · exact q
    · omega
  exact Prod.ext e1 e2
/-- Triangles whose sides don't part them: d lies inside of the region. -/
theorem edges_inn {A B C A' B' C' : P} {L r : List P} {a b d : P} (D1 : 0 < cr A B C) (D2 : 0 < cr A' B' C') (hD : Diff [A, B, C] [A', B', C'] L) (h : HullSpec L r a b)
    (h1 : ∀ e ∈ E [A, B, C], ∃ v ∈ [A', B', C'], 0 < cr e.1 e.2 (ad v d)) (h2 : ∀ e ∈ E [A', B', C'], ∃ v ∈ [A, B, C], 0 < cr (ad e.1 d) (ad e.2 d) v) : ∀ e ∈ E r, 0 < cr e.1 e.2 d := by
  intro e he
  rcases lt_ge 0 (cr e.1 e.2 d) with c | c
  · exact c
  · exfalso
    have ne := h.ne e he
    obtain ⟨p1, hp1, q1, hq1, e1⟩ := hD.into _ (h.sub _ (E_mem he).1)
    obtain ⟨p2, hp2, q2, hq2, e2⟩ := hD.into _ (h.sub _ (E_mem he).2)
    obtain ⟨w, hw⟩ : ∃ w, w = sb e.2 e.1 := ⟨_, rfl⟩
    have crn : ∀ x : P, cr e.1 e.2 x = nrm w x - nrm w e.1 := by intro x; rw [hw]; unfold cr nrm sb; grind
    have w0 : w ≠ (0, 0) := by
      intro z; rw [hw] at z; unfold sb at z; injection z with z1 z2; exact ne (Prod.ext (by omega) (by omega))
    have all : ∀ p ∈ [A, B, C], ∀ q ∈ [A', B', C'], nrm w p1 - nrm w q1 ≤ nrm w p - nrm w q := by
      intro p hp q hq
      have := h.left e he _ (hD.all p hp q hq)
      rw [crn, nrm_sub, e1, nrm_sub] at this
      omega
    have dd : nrm w d ≤ nrm w p1 - nrm w q1 := by rw [crn, e1, nrm_sub] at c; omega
    have e12 : nrm w e.2 = nrm w e.1 := by rw [hw]; unfold nrm sb; grind
    rw [e1, e2, nrm_sub, nrm_sub] at e12
    have a1 := all p2 hp2 q1 hq1
    have a2 := all p1 hp1 q2 hq2
    by_cases hp : p1 = p2
    · have hq : q1 ≠ q2 := by
        intro z; apply ne; rw [e1, e2, hp, z]
      obtain ⟨x, y, z, k1, k2, k3, k4⟩ := two_of hq1 hq2 hq
      have nx : nrm w x = nrm w q1 := by rcases k4 with ⟨g1, g2⟩ | ⟨g1, g2⟩ <;> rw [g1] <;> omega
      have ny : nrm w y = nrm w q1 := by rcases k4 with ⟨g1, g2⟩ | ⟨g1, g2⟩ <;> rw [g2] <;> omega
      have D3 : 0 < cr x y z := by rw [k3]; exact D2
      have zy : nrm w (sb y x) = 0 := by rw [nrm_sub]; omega
      have zz : nrm w (sb z x) < 0 := by
        have az := all p1 hp1 z k2
        rcases Int.lt_trichotomy (nrm w (sb z x)) 0 with g | g | g
        · exact g
        · exact absurd (nrm_zero D3 zy g) w0
        · rw [nrm_sub] at g; omega
      obtain ⟨v, hv, hc⟩ := h2 (x, y) k1
      simp only at hc
      have id := nrm_id w x y z (sb v d)
      rw [zy] at id
      have av := all v hv q1 hq1
      have cv : cr x y (sb v d) = cr (ad x d) (ad y d) v := by unfold cr sb ad; grind
      rw [cv] at id
      have n1 : 0 ≤ nrm w (sb (sb v d) x) := by rw [nrm_sub, nrm_sub]; omega
      have g1 := nn n1 (Int.le_of_lt D3)
      have g2 := neg_mul zz hc
      omega
    · obtain ⟨x, y, z, k1, k2, k3, k4⟩ := two_of hp1 hp2 hp
      have nx : nrm w x = nrm w p1 := by rcases k4 with ⟨g1, g2⟩ | ⟨g1, g2⟩ <;> rw [g1] <;> omega
      have ny : nrm w y = nrm w p1 := by rcases k4 with ⟨g1, g2⟩ | ⟨g1, g2⟩ <;> rw [g2] <;> omega
      have D3 : 0 < cr x y z := by rw [k3]; exact D1
      have zy : nrm w (sb y x) = 0 := by rw [nrm_sub]; omega
      have zz : 0 < nrm w (sb z x) := by
        have az := all z k2 q1 hq1
        rcases Int.lt_trichotomy (nrm w (sb z x)) 0 with g | g | g
        · rw [nrm_sub] at g; omega
        · exact absurd (nrm_zero D3 zy g) w0
        · exact g
      obtain ⟨v, hv, hc⟩ := h1 (x, y) k1
      simp only at hc
      have id := nrm_id w x y z (ad v d)
      rw [zy] at id
      have av := all p1 hp1 v hv
      have n1 : nrm w (sb (ad v d) x) ≤ 0 := by rw [nrm_sub, nrm_add]; omega
      have g1 := np (Int.le_of_lt D3) n1
      rw [Int.mul_comm] at g1
      have g2 := pos_mul zz hc
      omega
theorem tri_left {A B C : P} (D : 0 < cr A B C) : ∀ e ∈ E [A, B, C], e.1 ≠ e.2 ∧ ∀ q ∈ [A, B, C], 0 ≤ cr e.1 e.2 q := by
  have r1 : cr B C A = cr A B C := cr_rot A B C
  have r2 : cr C A B = cr A B C := by rw [cr_rot B C A, cr_rot A B C]
  have n1 : A ≠ B := by rintro rfl; rw [cr_same3] at D; omega
  have n2 : B ≠ C := by rintro rfl; rw [cr_same2] at D; omega
  have n3 : C ≠ A := by rintro rfl; rw [cr_same1] at D; omega
  intro e he
  rw [E3] at he
  simp only [List.mem_cons, List.not_mem_nil, or_false] at he
  rcases he with rfl | rfl | rfl
  · refine ⟨n1, fun q hq => ?_⟩
    simp only [List.mem_cons, List.not_mem_nil, or_false] at hq
    rcases hq with rfl | rfl | rfl
    · simp only; rw [cr_same1]; omega
    · simp only; rw [cr_same2]; omega
    · exact Int.le_of_lt D
  · refine ⟨n2, fun q hq => ?_⟩
    simp only [List.mem_cons, List.not_mem_nil, or_false] at hq
    rcases hq with rfl | rfl | rfl
    · simp only; omega
    · simp only; rw [cr_same1]; omega
    · simp only; rw [cr_same2]; omega
  · refine ⟨n3, fun q hq => ?_⟩
    simp only [List.mem_cons, List.not_mem_nil, or_false] at hq
    rcases hq with rfl | rfl | rfl
    · simp only; rw [cr_same2]; omega
    · simp only; omega
    · simp only; rw [cr_same1]; omega
/-- The two tests agree. -/
theorem sat {A B C A' B' C' : P} {L r : List P} {a b d : P} (D1 : 0 < cr A B C) (D2 : 0 < cr A' B' C') (hD : Diff [A, B, C] [A', B', C'] L) (h : HullSpec L r a b) :
    (∀ e ∈ E r, 0 < cr e.1 e.2 d) ↔ (∀ e ∈ E [A, B, C], ∃ v ∈ [A', B', C'], 0 < cr e.1 e.2 (ad v d)) ∧ (∀ e ∈ E [A', B', C'], ∃ v ∈ [A, B, C], 0 < cr (ad e.1 d) (ad e.2 d) v) := by
  constructor
  · intro k; exact blk_edges (tri_left D1) (tri_left D2) ((inn_blk hD).1 ((inn_iff h).1 k))
  · rintro ⟨h1, h2⟩; exact edges_inn D1 D2 hD h h1 h2
end Ears
end Go.Proofs.YtmdncaoilegnnaaGreat

namespace Go.Proofs.YtmdncaoilegnnaaGreat
set_option linter.unusedVariables false
set_option linter.unusedSimpArgs false
set_option linter.unusedVariables false
set_option linter.unusedSimpArgs false
namespace Ears

theorem nodup_rev {l : List P} (h : l.Nodup) : l.reverse.Nodup := List.pairwise_reverse.2 (h.imp Ne.symm)
theorem es_mem {st : List P} {e : P × P} (h : e ∈ es st) : e.1 ∈ st ∧ e.2 ∈ st := by
  match st with
  | [] => simp [es] at h
  | [x] => simp [es] at h
  | y :: x :: s =>
    simp only [es, List.mem_cons] at h
    rcases h with rfl | h
    · simp
    · have := es_mem (st := x :: s) (by simpa [es] using h)
      exact ⟨List.mem_cons_of_mem _ this.1, List.mem_cons_of_mem _ this.2⟩
theorem dec_head {α β : Int} : ∀ {s : List P} {y : P}, Dec α β (y :: s) → ∀ q ∈ s, key α β q < key α β y
  | [], y, _, q, hq => by simp at hq
  | x :: s, y, h, q, hq => by
    simp only [Dec] at h
    rcases List.mem_cons.1 hq with e | e
    · rw [e]; exact h.1
    · have := dec_head h.2 q e; omega
theorem dec_nodup {α β : Int} : ∀ {st : List P}, Dec α β st → st.Nodup
  | [], _ => by simp
  | [x], _ => by simp
  | y :: x :: s, h => by
    have hh := dec_head h
    rw [List.nodup_cons]
    refine ⟨fun hy => ?_, dec_nodup (st := x :: s) (by simp only [Dec] at h; exact h.2)⟩
    have := hh y hy; omega
theorem cvx_es {α β : Int} : ∀ {st : List P}, Cvx st → Dec α β st → ∀ {p q s : P}, (p, q) ∈ es st → (q, s) ∈ es st → 0 < cr p q s
  | [], _, _, p, q, s, h, _ => by simp [es] at h
  | [x], _, _, p, q, s, h, _ => by simp [es] at h
  | [y, x], _, hd, p, q, s, h1, h2 => by
    simp [es] at h1 h2
    simp only [Dec] at hd
    rw [← h1.2, h2.1] at hd; omega
  | z :: y :: x :: st, hc, hd, p, q, s, h1, h2 => by
    have hd' := hd
    simp only [Cvx, Dec] at hc hd'
    rw [es, List.mem_cons, Prod.mk.injEq] at h1 h2
    rcases h2 with ⟨a2, b2⟩ | h2
    · -- (q, s) is the top edge
      rcases h1 with ⟨a1, b1⟩ | h1
      · rw [b1] at a2; rw [a2] at hd'; omega
      · rw [es, List.mem_cons, Prod.mk.injEq] at h1
        rcases h1 with ⟨a1, b1⟩ | h1
        · rw [a1, a2, b2]; exact hc.1
        · have m := (es_mem h1).2
          have := dec_head (α := α) (β := β) (y := y) (s := x :: st) hd'.2 q m
          rw [a2] at this; omega
    · rcases h1 with ⟨a1, b1⟩ | h1
      · have m := (es_mem h2).1
        have := dec_head hd q m
        rw [b1] at this; omega
      · exact cvx_es (st := y :: x :: st) hc.2 hd'.2 h1 h2
theorem opp_id (α β : Int) (p q s s' : P) : (key α β s - key α β q) * cr p q s' = (key α β s' - key α β q) * cr p q s + (key α β q - key α β p) * cr q s s' := by unfold key cr; grind
section
variable {α β : Int} {a b : P} {l : List P} {s1 s2 : List P}

/-- What is known of the two stacks. -/
structure Two (α β : Int) (l : List P) (a b : P) (s1 s2 : List P) : Prop where
  p2 : ∀ q ∈ b :: s1 ++ [a], q ∈ l
  p3 : Cvx (b :: s1 ++ [a])
  p4 : Dec α β (b :: s1 ++ [a])
  p5 : ∀ q ∈ l, Cov (b :: s1 ++ [a]) q
  q2 : ∀ q ∈ a :: s2 ++ [b], q ∈ l
  q3 : Cvx (a :: s2 ++ [b])
  q4 : Dec (-α) (-β) (a :: s2 ++ [b])
  q5 : ∀ q ∈ l, Cov (a :: s2 ++ [b]) q
  nc : ∃ x ∈ l, ∃ y ∈ l, ∃ z ∈ l, cr x y z ≠ 0
theorem Two.swap (h : Two α β l a b s1 s2) : Two (-α) (-β) l b a s2 s1 :=
  ⟨h.q2, h.q3, h.q4, h.q5, h.p2, h.p3, by rw [Int.neg_neg, Int.neg_neg]; exact h.p4, h.p5, h.nc⟩
theorem col3 {α β : Int} {l : List P} {p q : P} (hk : key α β p ≠ key α β q) (h : ∀ x ∈ l, cr p q x = 0) : ∀ x ∈ l, ∀ y ∈ l, ∀ z ∈ l, cr x y z = 0 := by
  intro x hx y hy z hz
  have id : (key α β q - key α β p) * cr x y z = (key α β z - key α β y) * cr p q x + (key α β x - key α β z) * cr p q y + (key α β y - key α β x) * cr p q z := by unfold key cr; grind
  rw [h x hx, h y hy, h z hz] at id
  rcases Int.mul_eq_zero.1 (show (key α β q - key α β p) * cr x y z = 0 by omega) with g | g
  · omega
  · exact g
/-- the joint at b -/
theorem Two.joint (h : Two α β l a b s1 s2) {p s : P} (h1 : (p, b) ∈ es (b :: s1 ++ [a])) (h2 : (b, s) ∈ es (a :: s2 ++ [b])) : 0 < cr p b s := by
  have k1 := es_dec h.p4 _ h1
  have k2 := es_dec h.q4 _ h2
  simp only at k1 k2
  rw [key_neg, key_neg] at k2
  have sl : s ∈ l := h.q2 _ (es_mem h2).2
  have g := h.p5 s sl _ h1
  simp only at g
  rcases Int.lt_or_eq_of_le g with c | c
  · exact c
  · exfalso
    obtain ⟨x, hx, y, hy, z, hz, hne⟩ := h.nc
    refine hne (col3 (α := α) (β := β) (p := p) (q := b) (by omega) (fun x hx => ?_) x hx y hy z hz)
    have u1 := h.p5 x hx _ h1
    have u2 := h.q5 x hx _ h2
    simp only at u1 u2
    have id : (key α β b - key α β p) * cr b s x = (key α β s - key α β b) * cr p b x + (key α β b - key α β x) * cr p b s := by unfold key cr; grind
    rw [← c] at id
    have v1 := nn (show 0 ≤ key α β b - key α β p by omega) u2
    have v2 := np u1 (show key α β s - key α β b ≤ 0 by omega)
    rw [Int.mul_comm] at v2
    have v3 : cr p b x * (key α β s - key α β b) = 0 := by rw [Int.mul_comm]; omega
    rcases Int.mul_eq_zero.1 v3 with t | t
    · exact t
    · omega
/-- an inner vertex of one chain is none of the other -/
theorem Two.apart (h : Two α β l a b s1 s2) {p q s s' : P} (h1 : (p, q) ∈ es (b :: s1 ++ [a])) (h2 : (q, s) ∈ es (b :: s1 ++ [a])) (h4 : (q, s') ∈ es (a :: s2 ++ [b])) : False := by
  have k2 := es_dec h.p4 _ h2
  have k4 := es_dec h.q4 _ h4
  have kk1 := es_dec h.p4 _ h1
  simp only at k2 k4 kk1
  rw [key_neg, key_neg] at k4
  have sl : s ∈ l := h.p2 _ (es_mem h2).2
  have sl' : s' ∈ l := h.q2 _ (es_mem h4).2
  have g1 := h.p5 s' sl' _ h2
  have g2 := h.q5 s sl _ h4
  have g3 := h.p5 s' sl' _ h1
  simp only at g1 g2 g3
  have g4 : cr q s' s = - cr q s s' := by unfold cr; grind
  have z : cr q s s' = 0 := by omega
  have c := cvx_es h.p3 h.p4 h1 h2
  have id := opp_id α β p q s s'
  rw [z] at id
  have v1 := nn (show 0 ≤ key α β s - key α β q by omega) g3
  have v2 := neg_mul (show key α β s' - key α β q < 0 by omega) c
  omega
theorem es_above {α β : Int} : ∀ {st : List P}, Dec α β st → ∀ {x : P} {s : List P}, st = s ++ [x] → ∀ q ∈ s, ∃ p, (p, q) ∈ es st
  | [], _, x, s, e, q, hq => by have := congrArg List.length e; simp at this
  | [y], _, x, s, e, q, hq => by
    have : s = [] := by
      cases s with
      | nil => rfl
      | cons z s => have := congrArg List.length e; simp at this
    subst this; simp at hq
  | y :: z :: st, hd, x, s, e, q, hq => by
    cases s with
    | nil => simp at hq
    | cons y' s =>
      rw [List.cons_append] at e
      injection e with e1 e2
      subst e1
      rcases List.mem_cons.1 hq with g | g
      · rw [g]; exact ⟨z, by simp [es]⟩
      · simp only [Dec] at hd
        obtain ⟨p, hp⟩ := es_above hd.2 e2 q g
        exact ⟨p, by rw [es]; exact List.mem_cons_of_mem _ hp⟩
theorem es_below : ∀ {s : List P} {y : P}, ∀ q ∈ s, ∃ r, (q, r) ∈ es (y :: s)
  | [], y, q, hq => by simp at hq
  | x :: s, y, q, hq => by
    rcases List.mem_cons.1 hq with g | g
    · rw [g]; exact ⟨y, by simp [es]⟩
    · obtain ⟨r, hr⟩ := es_below (y := x) q g
      exact ⟨r, by rw [es]; exact List.mem_cons_of_mem _ hr⟩
theorem Two.both (h : Two α β l a b s1 s2) {q : P} (h1 : q ∈ b :: s1 ++ [a]) (h2 : q ∈ a :: s2 ++ [b]) : q = a ∨ q = b := by
  by_cases ea : q = a
  · exact .inl ea
  · by_cases eb : q = b
    · exact .inr eb
    · exfalso
      have i1 : q ∈ s1 := by simp at h1; grind
      have i2 : q ∈ s2 := by simp at h2; grind
      obtain ⟨p, hp⟩ := es_above h.p4 (x := a) (s := b :: s1) rfl q (by simp [i1])
      obtain ⟨s, hs⟩ := es_below (y := b) (s := s1 ++ [a]) q (by simp [i1])
      obtain ⟨s', hs'⟩ := es_below (y := a) (s := s2 ++ [b]) q (by simp [i2])
      exact h.apart hp hs hs'
theorem Two.turn (h : Two α β l a b s1 s2) {p q s : P} (h1 : (p, q) ∈ es (b :: s1 ++ [a]) ∨ (p, q) ∈ es (a :: s2 ++ [b])) (h2 : (q, s) ∈ es (b :: s1 ++ [a]) ∨ (q, s) ∈ es (a :: s2 ++ [b])) : 0 < cr p q s := by
  have topA : ∀ {α β : Int} {a b : P} {s1 : List P}, Dec α β (b :: s1 ++ [a]) → ∀ {p q : P}, (p, q) ∈ es (b :: s1 ++ [a]) → q ≠ a ∧ p ≠ b := by
    intro α β a b s1 hd p q hpq
    have k := es_dec hd _ hpq
    have m := es_mem hpq
    have hb := dec_head hd
    constructor
    · rintro rfl
      -- a is the least
      have : ∀ r ∈ b :: s1 ++ [q], key α β q ≤ key α β r := by
        have hgen : ∀ (t : List P), Dec α β (t ++ [q]) → ∀ r ∈ t ++ [q], key α β q ≤ key α β r := by
          intro t
          induction t with
          | nil => intro _ r hr; simp at hr; rw [hr]; omega
          | cons x t ih =>
            intro hd r hr
            rcases List.mem_cons.1 hr with e | e
            · have := dec_head hd q (by simp); rw [e]; omega
            · refine ih ?_ r e
              cases t with
              | nil => simp [Dec]
              | cons y t => simp only [List.cons_append, Dec] at hd ⊢; exact hd.2
        exact hgen (b :: s1) hd
      have := this p m.1
      simp only at k; omega
    · rintro rfl
      have : ∀ r ∈ p :: s1 ++ [a], key α β r ≤ key α β p := by
        intro r hr
        rcases List.mem_cons.1 hr with e | e
        · rw [e]; omega
        · have := hb r e; omega
      have := this q m.2
      simp only at k; omega
  rcases h1 with h1 | h1 <;> rcases h2 with h2 | h2
  · exact cvx_es h.p3 h.p4 h1 h2
  · have t1 := topA h.p4 h1
    rcases h.both (es_mem h1).2 (es_mem h2).1 with e | e
    · exact absurd e t1.1
    · simp only at e; subst e; exact h.joint h1 h2
  · have t1 := topA h.q4 h1
    rcases h.both (es_mem h2).1 (es_mem h1).2 with e | e
    · simp only at e; subst e; exact h.swap.joint h1 h2
    · exact absurd e t1.1
  · exact cvx_es h.q3 h.q4 h1 h2
end

/-- A strictly convex hull of the points of l. -/
structure HullCvx (l r : List P) : Prop where
  sub : ∀ q ∈ r, q ∈ l
  left : ∀ e ∈ E r, ∀ q ∈ l, 0 ≤ cr e.1 e.2 q
  turn : ∀ p q s, (p, q) ∈ E r → (q, s) ∈ E r → 0 < cr p q s
  nd : r.Nodup
  len : 3 ≤ r.length
theorem hull_cvx {α β : Int} {a b : P} {l m : List P} (hl : a :: l = m ++ [b]) (h2 : l ≠ []) (inj : ∀ q ∈ a :: l, ∀ r ∈ a :: l, key α β q = key α β r → q = r) (hpw : (a :: l).Pairwise (fun q r => key α β q < key α β r))
    (nc : ∃ x ∈ a :: l, ∃ y ∈ a :: l, ∃ z ∈ a :: l, cr x y z ≠ 0) : HullCvx (a :: l) (hullR (a :: l)) ∧ ∃ k, hullR (a :: l) = a :: k := by
  obtain ⟨s1, s2, c1, c2, p2, p3, p4, p5, q2, q3, q4, q5⟩ := chains hl h2 inj hpw
  obtain ⟨hs, hlen⟩ := hull_spec hl h2 inj hpw
  have two : Two α β (a :: l) a b s1 s2 := ⟨p2, p3, p4, p5, q2, q3, q4, q5, nc⟩
  have hr : hullR (a :: l) = (a :: s1.reverse) ++ (b :: s2.reverse) := by unfold hullR; rw [c1, c2]
  have hE : ∀ e, e ∈ E (hullR (a :: l)) → e ∈ es (b :: s1 ++ [a]) ∨ e ∈ es (a :: s2 ++ [b]) := by
    intro e he
    rw [hr] at he
    have : E ((a :: s1.reverse) ++ (b :: s2.reverse)) = ch a (s1.reverse ++ [b]) ++ ch b (s2.reverse ++ [a]) := by
      simp only [E, List.cons_append, List.append_assoc]; rw [ch_append]
    rw [this, List.mem_append, ch_es, ch_es] at he
    exact he
  refine ⟨⟨hs.sub, hs.left, fun p q s k1 k2 => two.turn (hE _ k1) (hE _ k2), ?_, hlen nc⟩, ⟨_, by rw [hr, List.cons_append]⟩⟩
  have n1 := dec_nodup p4
  have n2 := dec_nodup q4
  rw [hr, List.nodup_append]
  refine ⟨?_, ?_, ?_⟩
  · have : (s1 ++ [a]).Nodup := (List.nodup_cons.1 (by simpa using n1)).2
    have h2 := nodup_rev this
    rwa [List.reverse_append] at h2
  · have : (s2 ++ [b]).Nodup := (List.nodup_cons.1 (by simpa using n2)).2
    have h2 := nodup_rev this
    rwa [List.reverse_append] at h2
  · rintro x hx y hy rfl
    have e1 : x ∈ s1 ++ [a] := by
      rcases List.mem_cons.1 hx with g | g
      · rw [g]; simp
      · have := List.mem_reverse.1 g; simp [this]
    have e2 : x ∈ s2 ++ [b] := by
      rcases List.mem_cons.1 hy with g | g
      · rw [g]; simp
      · have := List.mem_reverse.1 g; simp [this]
    rcases two.both (q := x) (List.mem_cons_of_mem b e1) (List.mem_cons_of_mem a e2) with e | e
    · subst e; exact (List.nodup_cons.1 (by simpa using n2)).1 e2
    · subst e; exact (List.nodup_cons.1 (by simpa using n1)).1 e1
end Ears
end Go.Proofs.YtmdncaoilegnnaaGreat

namespace Go.Proofs.YtmdncaoilegnnaaGreat
set_option linter.unusedVariables false
set_option linter.unusedSimpArgs false
set_option linter.unusedVariables false
set_option linter.unusedSimpArgs false
namespace Ears

theorem E_next {r : List P} (h2 : 2 ≤ r.length) {v : P} (hv : v ∈ r) : ∃ w, (v, w) ∈ E r := by
  obtain ⟨A, B, rfl⟩ := rot_at hv
  cases hBA : B ++ A with
  | nil => have := congrArg List.length hBA; rw [List.length_append] at this h2; simp only [List.length_nil, List.length_cons] at this h2; omega
  | cons w k =>
    refine ⟨w, E_rot_mem (A := v :: B) (B := A) ?_⟩
    rw [List.cons_append, hBA, E_two]; simp
theorem len_le_of_sub : ∀ {r l : List P}, r.Nodup → (∀ q ∈ r, q ∈ l) → r.length ≤ l.length
  | [], l, _, _ => by simp
  | x :: r, l, nd, h => by
    rw [List.nodup_cons] at nd
    have hx : x ∈ l := h x (by simp)
    have ih := len_le_of_sub (r := r) (l := l.erase x) nd.2 (fun q hq => by
      have ne : q ≠ x := by rintro rfl; exact nd.1 hq
      exact (List.mem_erase_of_ne ne).2 (h q (by simp [hq])))
    rw [List.length_erase_of_mem hx] at ih
    have : 0 < l.length := List.length_pos_of_mem hx
    simp only [List.length_cons]; omega
end Ears
end Go.Proofs.YtmdncaoilegnnaaGreat

/- Plain geometry: the edge lemma of parities. Closed chains, parities, and the orientation lam of a simple polygon. Segments and triangles. Parity of triangles, diagonals. -/
import Derived.Test.YtmdncaoilegnnaaGreatRows
namespace Go.Proofs.YtmdncaoilegnnaaGreat
set_option linter.unusedVariables false
set_option linter.unusedSimpArgs false
set_option linter.unusedVariables false
set_option linter.unusedSimpArgs false
namespace Ears
abbrev P := Int × Int
def cr (a b c : P) : Int := (b.1 - a.1) * (c.2 - a.2) - (b.2 - a.2) * (c.1 - a.1)
def On (a b p : P) : Prop := cr a b p = 0 ∧ ((a.2 ≤ p.2 ∧ p.2 ≤ b.2) ∨ (b.2 ≤ p.2 ∧ p.2 ≤ a.2))
def opp (x y : Int) : Prop := (x < 0 ∧ 0 < y) ∨ (0 < x ∧ y < 0)
def Crs (p q s t : P) : Prop := opp (cr p q s) (cr p q t) ∧ opp (cr s t p) (cr s t q)
def ray (s p q : P) : Bool := decide ((p.2 < s.2 ∧ s.2 < q.2 ∧ 0 < cr p q s) ∨ (q.2 < s.2 ∧ s.2 < p.2 ∧ cr p q s < 0))
def gg (s t p : P) : Bool := decide ((s.2 < p.2 ∧ p.2 < t.2 ∧ cr s t p < 0) ∨ (t.2 < p.2 ∧ p.2 < s.2 ∧ 0 < cr s t p))
def loc (u b w : P) : Bool := decide ((u.2 < b.2 ∧ b.2 < w.2) ∨ (¬ (w.2 < b.2 ∧ b.2 < u.2) ∧ 0 < cr u b w))
theorem cr_rot (a b c : P) : cr b c a = cr a b c := by unfold cr; grind
theorem cr_swap (a b c : P) : cr b a c = - cr a b c := by unfold cr; grind
theorem cr_same1 (a b : P) : cr a b a = 0 := by unfold cr; grind
theorem cr_same2 (a b : P) : cr a b b = 0 := by unfold cr; grind
theorem cr_same3 (a b : P) : cr a a b = 0 := by unfold cr; grind
theorem dep1 (p q s t : P) : cr s t q - cr s t p + cr p q t - cr p q s = 0 := by unfold cr; grind
theorem dep2 (p q s t : P) : cr s t q * p.2 - cr s t p * q.2 + cr p q t * s.2 - cr p q s * t.2 = 0 := by unfold cr; grind
theorem idp {A1 A2 B1 B2 hp hq hs ht : Int} (e1 : B2 * hp - B1 * hq + A2 * hs - A1 * ht = 0) (e2 : B2 - B1 + A2 - A1 = 0) : B1 * (hq - hp) = A2 * (hs - hp) - A1 * (ht - hp) := by grind
theorem idq {A1 A2 B1 B2 hp hq hs ht : Int} (e1 : B2 * hp - B1 * hq + A2 * hs - A1 * ht = 0) (e2 : B2 - B1 + A2 - A1 = 0) : B2 * (hq - hp) = A2 * (hs - hq) - A1 * (ht - hq) := by grind
theorem ids {A1 A2 B1 B2 hp hq hs ht : Int} (e1 : B2 * hp - B1 * hq + A2 * hs - A1 * ht = 0) (e2 : B2 - B1 + A2 - A1 = 0) : A1 * (ht - hs) = B2 * (hp - hs) - B1 * (hq - hs) := by grind
theorem pos_mul {a b : Int} (ha : 0 < a) (hb : 0 < b) : 0 < a * b := Int.mul_pos ha hb
theorem neg_mul {a b : Int} (ha : a < 0) (hb : 0 < b) : a * b < 0 := Int.mul_neg_of_neg_of_pos ha hb
theorem mul_neg_ {a b : Int} (ha : 0 < a) (hb : b < 0) : a * b < 0 := Int.mul_neg_of_pos_of_neg ha hb
theorem neg_neg_ {a b : Int} (ha : a < 0) (hb : b < 0) : 0 < a * b := Int.mul_pos_of_neg_of_neg ha hb
theorem sg {a b : Int} (hb : 0 < b) (h : 0 < a * b) : 0 < a := by
  rcases Int.lt_trichotomy a 0 with h1 | h1 | h1
  · have := neg_mul h1 hb; omega
  · subst h1; omega
  · exact h1
theorem sl {a b : Int} (hb : 0 < b) (h : a * b < 0) : a < 0 := by
  rcases Int.lt_trichotomy a 0 with h1 | h1 | h1
  · exact h1
  · subst h1; omega
  · have := pos_mul h1 hb; omega
theorem sgn_ {a b : Int} (hb : b < 0) (h : 0 < a * b) : a < 0 := by
  rcases Int.lt_trichotomy a 0 with h1 | h1 | h1
  · exact h1
  · subst h1; omega
  · have := mul_neg_ h1 hb; omega
theorem sln {a b : Int} (hb : b < 0) (h : a * b < 0) : 0 < a := by
  rcases Int.lt_trichotomy a 0 with h1 | h1 | h1
  · have := neg_neg_ h1 hb; omega
  · subst h1; omega
  · exact h1
-- p below s below t below q: s and t lie on one side of pq
theorem core_in {A1 A2 B1 B2 hp hq hs ht : Int} (e1 : B2 * hp - B1 * hq + A2 * hs - A1 * ht = 0) (e2 : B2 - B1 + A2 - A1 = 0)
    (h1 : hp < hs) (h2 : hs < ht) (h3 : ht < hq) (n1 : ¬ A1 = 0) (n2 : ¬ A2 = 0) (n : ¬ (opp A1 A2 ∧ opp B1 B2)) : (0 < A1 ↔ 0 < A2) := by
  have ip := idp e1 e2
  have iq := idq e1 e2
  have hpq : 0 < hq - hp := by omega
  have key : opp A1 A2 → opp B1 B2 := by
    rintro (⟨a, b⟩ | ⟨a, b⟩)
    · have x1 := pos_mul b (show 0 < hs - hp by omega)
      have x2 := neg_mul a (show 0 < ht - hp by omega)
      have x3 := mul_neg_ b (show hs - hq < 0 by omega)
      have x4 := neg_neg_ a (show ht - hq < 0 by omega)
      exact .inr ⟨sg hpq (by omega), sl hpq (by omega)⟩
    · have x1 := neg_mul b (show 0 < hs - hp by omega)
      have x2 := pos_mul a (show 0 < ht - hp by omega)
      have x3 := neg_neg_ b (show hs - hq < 0 by omega)
      have x4 := mul_neg_ a (show ht - hq < 0 by omega)
      exact .inl ⟨sl hpq (by omega), sg hpq (by omega)⟩
  have : ¬ opp A1 A2 := fun h => n ⟨h, key h⟩
  unfold opp at this
  omega
-- p below s below q below t
theorem core_x {A1 A2 B1 B2 hp hq hs ht : Int} (e1 : B2 * hp - B1 * hq + A2 * hs - A1 * ht = 0) (e2 : B2 - B1 + A2 - A1 = 0)
    (h1 : hp < hs) (h2 : hs < hq) (h3 : hq < ht) (n1 : ¬ A1 = 0) (n2 : ¬ B2 = 0) (n : ¬ (opp A1 A2 ∧ opp B1 B2)) : (0 < A1 ↔ B2 < 0) := by
  have is := ids e1 e2
  have iq := idq e1 e2
  have c1 : 0 < ht - hs := by omega
  have c2 : 0 < hq - hs := by omega
  have c3 : hp - hs < 0 := by omega
  have c4 : 0 < hq - hp := by omega
  have c5 : hs - hq < 0 := by omega
  have c6 : 0 < ht - hq := by omega
  have k1 : ¬ (0 < A1 ∧ 0 < B2) := by
    rintro ⟨a, b⟩
    have x1 := pos_mul a c1
    have x2 := mul_neg_ b c3
    have x3 := pos_mul b c4
    have x4 := pos_mul a c6
    exact n ⟨.inr ⟨a, sgn_ c5 (by omega)⟩, .inl ⟨sl c2 (by omega), b⟩⟩
  have k2 : ¬ (A1 < 0 ∧ B2 < 0) := by
    rintro ⟨a, b⟩
    have x1 := neg_mul a c1
    have x2 := neg_neg_ b c3
    have x3 := neg_mul b c4
    have x4 := neg_mul a c6
    exact n ⟨.inl ⟨a, sln c5 (by omega)⟩, .inr ⟨sg c2 (by omega), b⟩⟩
  omega
theorem core_xx {A1 A2 B1 B2 hp hq hs ht : Int} (e1 : B2 * hp - B1 * hq + A2 * hs - A1 * ht = 0) (e2 : B2 - B1 + A2 - A1 = 0)
    (h1 : hs < hp) (h2 : hp < ht) (h3 : ht < hq) (n1 : ¬ A2 = 0) (n2 : ¬ B1 = 0) (n : ¬ (opp A1 A2 ∧ opp B1 B2)) : (0 < A2 ↔ B1 < 0) := by
  have := core_x (A1 := B1) (A2 := B2) (B1 := A1) (B2 := A2) (hp := hs) (hq := ht) (hs := hp) (ht := hq) (by omega) (by omega) h1 h2 h3 n2 n1 (fun h => n ⟨h.2, h.1⟩)
  omega
theorem core_out {A1 A2 B1 B2 hp hq hs ht : Int} (e1 : B2 * hp - B1 * hq + A2 * hs - A1 * ht = 0) (e2 : B2 - B1 + A2 - A1 = 0)
    (h1 : hs < hp) (h2 : hp < hq) (h3 : hq < ht) (n1 : ¬ B1 = 0) (n2 : ¬ B2 = 0) (n : ¬ (opp A1 A2 ∧ opp B1 B2)) : (0 < B1 ↔ 0 < B2) :=
  core_in (A1 := B1) (A2 := B2) (B1 := A1) (B2 := A2) (hp := hs) (hq := ht) (hs := hp) (ht := hq) (by omega) (by omega) h1 h2 h3 n1 n2 (fun h => n ⟨h.2, h.1⟩)
/-- two segments that don't meet -/
structure NM (p q s t : P) : Prop where
  ns : ¬ On p q s
  nt : ¬ On p q t
  np : ¬ On s t p
  nq : ¬ On s t q
  nx : ¬ Crs p q s t
theorem On.symm {a b p : P} (h : On a b p) : On b a p := by
  obtain ⟨h1, h2⟩ := h
  exact ⟨by rw [cr_swap, h1]; rfl, h2.symm⟩
theorem opp.symm {x y : Int} (h : opp x y) : opp y x := by unfold opp at *; omega
theorem opp.neg {x y : Int} (h : opp x y) : opp (-x) (-y) := by unfold opp at *; omega
theorem Crs.swap {p q s t : P} (h : Crs p q s t) : Crs s t p q := ⟨h.2, h.1⟩
theorem Crs.flip {p q s t : P} (h : Crs p q s t) : Crs q p s t := by
  obtain ⟨h1, h2⟩ := h
  exact ⟨by rw [cr_swap p q s, cr_swap p q t]; exact h1.neg, h2.symm⟩
theorem NM.swap {p q s t : P} (h : NM p q s t) : NM s t p q := ⟨h.np, h.nq, h.ns, h.nt, fun x => h.nx x.swap⟩
theorem NM.flip {p q s t : P} (h : NM p q s t) : NM q p s t := ⟨fun x => h.ns x.symm, fun x => h.nt x.symm, h.nq, h.np, fun x => h.nx x.flip⟩
theorem NM.flip2 {p q s t : P} (h : NM p q s t) : NM p q t s := h.swap.flip.swap
theorem ray_flip (s p q : P) : ray s q p = ray s p q := by
  unfold ray; rw [cr_swap p q s]; rw [decide_eq_decide]; omega
theorem gg_flip (s t p : P) : gg t s p = gg s t p := by
  unfold gg; rw [cr_swap s t p]; rw [decide_eq_decide]; omega
theorem xor_iff {a b c d : Prop} [Decidable a] [Decidable b] [Decidable c] [Decidable d] (h : (a ↔ b) ↔ (c ↔ d)) : (decide a ^^ decide b) = (decide c ^^ decide d) := by
  by_cases a <;> by_cases b <;> by_cases c <;> by_cases d <;> simp_all
theorem edge_up {p q s t : P} (h : NM p q s t) (hpq : p.2 < q.2) (hst : s.2 < t.2) (d1 : p.2 ≠ s.2) (d2 : p.2 ≠ t.2) (d3 : q.2 ≠ s.2) (d4 : q.2 ≠ t.2) :
    (ray s p q ^^ ray t p q) = (gg s t p ^^ gg s t q) := by
  have e1 := dep2 p q s t
  have e2 := dep1 p q s t
  obtain ⟨n1, n2, n3, n4, n⟩ := h
  unfold On at n1 n2 n3 n4
  unfold Crs at n
  unfold ray gg
  generalize cr p q s = A1 at *
  generalize cr p q t = A2 at *
  generalize cr s t p = B1 at *
  generalize cr s t q = B2 at *
  generalize p.2 = hp at *
  generalize q.2 = hq at *
  generalize s.2 = hs at *
  generalize t.2 = ht at *
  have key : (((hp < hs ∧ hs < hq ∧ 0 < A1) ↔ (hp < ht ∧ ht < hq ∧ 0 < A2)) ↔ ((hs < hp ∧ hp < ht ∧ B1 < 0) ↔ (hs < hq ∧ hq < ht ∧ B2 < 0))) := by
    by_cases c1 : hp < hs
    · by_cases c2 : ht < hq
      · have := core_in e1 e2 c1 hst c2 (by omega) (by omega) n
        omega
      · by_cases c3 : hs < hq
        · have := core_x e1 e2 c1 c3 (by omega) (by omega) (by omega) n
          omega
        · omega
    · by_cases c2 : ht < hq
      · by_cases c3 : hp < ht
        · have := core_xx e1 e2 (by omega) c3 c2 (by omega) (by omega) n
          omega
        · omega
      · have := core_out e1 e2 (by omega) hpq (by omega) (by omega) (by omega) n
        omega
  have r1 : ¬ (hq < hs ∧ hs < hp ∧ A1 < 0) := by omega
  have r2 : ¬ (hq < ht ∧ ht < hp ∧ A2 < 0) := by omega
  have r3 : ¬ (ht < hp ∧ hp < hs ∧ 0 < B1) := by omega
  have r4 : ¬ (ht < hq ∧ hq < hs ∧ 0 < B2) := by omega
  simp only [r1, r2, r3, r4, or_false]
  exact xor_iff key
theorem edge {p q s t : P} (h : NM p q s t) (d0 : p.2 ≠ q.2) (d5 : s.2 ≠ t.2) (d1 : p.2 ≠ s.2) (d2 : p.2 ≠ t.2) (d3 : q.2 ≠ s.2) (d4 : q.2 ≠ t.2) :
    (ray s p q ^^ ray t p q) = (gg s t p ^^ gg s t q) := by
  rcases Int.lt_or_gt_of_ne d0 with c | c <;> rcases Int.lt_or_gt_of_ne d5 with e | e
  · exact edge_up h c e d1 d2 d3 d4
  · have := edge_up h.flip2 c e d2 d1 d4 d3
    rw [gg_flip s t p, gg_flip s t q, Bool.xor_comm] at this; exact this
  · have := edge_up h.flip c e d3 d4 d1 d2
    rw [ray_flip s p q, ray_flip t p q, Bool.xor_comm (gg s t q)] at this; exact this
  · have := edge_up h.flip.flip2 c e d4 d3 d2 d1
    rw [gg_flip s t p, gg_flip s t q, ray_flip s p q, ray_flip t p q, Bool.xor_comm, Bool.xor_comm (gg s t q)] at this; exact this
theorem xor3 {a b c d : Prop} [Decidable a] [Decidable b] [Decidable c] [Decidable d] (h : (a ↔ (b ↔ c)) ↔ d) : (decide a ^^ decide b ^^ decide c) = decide d := by
  by_cases a <;> by_cases b <;> by_cases c <;> by_cases d <;> simp_all
theorem partA {u b w : P} (d1 : u.2 ≠ b.2) (d2 : b.2 ≠ w.2) (d3 : u.2 ≠ w.2) (n1 : ¬ On b w u) (n2 : ¬ On u b w) :
    (gg b w u ^^ ray w u b ^^ loc u b w) = decide (b.2 < w.2) := by
  unfold gg ray loc
  unfold On at n1 n2
  rw [cr_rot u b w] at *
  generalize cr u b w = D at *
  generalize u.2 = hu at *
  generalize b.2 = hb at *
  generalize w.2 = hw at *
  exact xor3 (by omega)
theorem partB {b w x : P} (d1 : b.2 ≠ w.2) (d2 : w.2 ≠ x.2) (d3 : b.2 ≠ x.2) (n1 : ¬ On b w x) (n2 : ¬ On w x b) :
    (gg b w x ^^ ray b w x ^^ loc b w x) = decide (b.2 < w.2) := by
  unfold gg ray loc
  unfold On at n1 n2
  rw [cr_rot b w x] at *
  generalize cr b w x = D at *
  generalize b.2 = hu at *
  generalize w.2 = hb at *
  generalize x.2 = hw at *
  exact xor3 (by omega)
end Ears
end Go.Proofs.YtmdncaoilegnnaaGreat

namespace Go.Proofs.YtmdncaoilegnnaaGreat
set_option linter.unusedVariables false
set_option linter.unusedSimpArgs false
set_option linter.unusedVariables false
set_option linter.unusedSimpArgs false
namespace Ears
def ch (x : P) : List P → List (P × P)
  | [] => []
  | y :: l => (x, y) :: ch y l
def E : List P → List (P × P)
  | [] => []
  | x :: l => ch x (l ++ [x])
def fin (x : P) : List P → P
  | [] => x
  | y :: l => fin y l
def par (f : P × P → Bool) : List (P × P) → Bool
  | [] => false
  | e :: l => f e ^^ par f l
theorem par_append (f : P × P → Bool) (a b : List (P × P)) : par f (a ++ b) = (par f a ^^ par f b) := by
  induction a with
  | nil => simp [par]
  | cons e a ih => simp [par, ih]
theorem par_xor (f g : P × P → Bool) (a : List (P × P)) : par (fun e => f e ^^ g e) a = (par f a ^^ par g a) := by
  induction a with
  | nil => rfl
  | cons e a ih =>
    simp only [par, ih]
    cases f e <;> cases g e <;> cases par f a <;> cases par g a <;> rfl
theorem par_congr {f g : P × P → Bool} {a : List (P × P)} (h : ∀ e ∈ a, f e = g e) : par f a = par g a := by
  induction a with
  | nil => rfl
  | cons e a ih =>
    simp only [par]
    rw [h e (by simp), ih fun x hx => h x (by simp [hx])]
theorem par_false {f : P × P → Bool} {a : List (P × P)} (h : ∀ e ∈ a, f e = false) : par f a = false := by
  rw [par_congr h]
  induction a with
  | nil => rfl
  | cons e a ih => simp only [par]; rw [ih fun x hx => h x (by simp [hx])]; rfl
theorem ch_append (x : P) (l : List P) (y : P) (m : List P) : ch x (l ++ y :: m) = ch x (l ++ [y]) ++ ch y m := by
  induction l generalizing x with
  | nil => simp [ch]
  | cons z l ih => simp only [List.cons_append, ch, ih z]
theorem ch_snoc (x : P) (l : List P) (y : P) : ch x (l ++ [y]) = ch x l ++ [(fin x l, y)] := by
  induction l generalizing x with
  | nil => simp [ch, fin]
  | cons z l ih => simp only [List.cons_append, ch, fin, ih z]
theorem fin_snoc (x : P) (l : List P) (y : P) : fin x (l ++ [y]) = y := by
  induction l generalizing x with
  | nil => rfl
  | cons z l ih => exact ih z
theorem fin_mem (x : P) (l : List P) : fin x l ∈ x :: l := by
  induction l generalizing x with
  | nil => simp [fin]
  | cons z l ih => have := ih z; simp only [fin]; exact List.mem_cons_of_mem _ this
theorem par_tel {f : P × P → Bool} {a : P → Bool} {x : P} {l : List P} (h : ∀ e ∈ ch x l, f e = (a e.1 ^^ a e.2)) : par f (ch x l) = (a x ^^ a (fin x l)) := by
  induction l generalizing x with
  | nil => simp [ch, par, fin]
  | cons y l ih =>
    simp only [ch, par, fin]
    rw [h (x, y) (by simp [ch]), ih fun e he => h e (by simp [ch, he])]
    cases a x <;> cases a y <;> cases a (fin y l) <;> rfl
theorem ch_mem {x : P} {l : List P} {e : P × P} (h : e ∈ ch x l) : e.1 ∈ x :: l ∧ e.2 ∈ l := by
  induction l generalizing x with
  | nil => simp [ch] at h
  | cons y l ih =>
    simp only [ch, List.mem_cons] at h
    rcases h with rfl | h
    · simp
    · have := ih h
      exact ⟨List.mem_cons_of_mem _ this.1, List.mem_cons_of_mem _ this.2⟩
theorem E_mem {l : List P} {e : P × P} (h : e ∈ E l) : e.1 ∈ l ∧ e.2 ∈ l := by
  cases l with
  | nil => simp [E] at h
  | cons x l =>
    have := ch_mem h
    simp only [List.mem_cons, List.mem_append, List.not_mem_nil, or_false] at this ⊢
    exact ⟨by grind, by grind⟩
theorem E_rot (A B : List P) : ∃ X Y, E (A ++ B) = X ++ Y ∧ E (B ++ A) = Y ++ X := by
  cases A with
  | nil => exact ⟨[], E B, by simp, by simp⟩
  | cons x a =>
    cases B with
    | nil => exact ⟨E (x :: a), [], by simp, by simp⟩
    | cons y b =>
      refine ⟨ch x (a ++ [y]), ch y (b ++ [x]), ?_, ?_⟩
      · simp only [E, List.cons_append, List.append_assoc]; rw [ch_append]
      · simp only [E, List.cons_append, List.append_assoc]; rw [ch_append]
theorem E_rot_mem {A B : List P} {e : P × P} (h : e ∈ E (A ++ B)) : e ∈ E (B ++ A) := by
  obtain ⟨X, Y, h1, h2⟩ := E_rot A B
  rw [h1] at h; rw [h2]
  simp only [List.mem_append] at h ⊢; exact h.symm
theorem par_rot (f : P × P → Bool) (A B : List P) : par f (E (A ++ B)) = par f (E (B ++ A)) := by
  obtain ⟨X, Y, h1, h2⟩ := E_rot A B
  rw [h1, h2, par_append, par_append, Bool.xor_comm]
/-- A simple polygon all of whose vertices have different heights. -/
structure Sim (l : List P) : Prop where
  nd : l.Nodup
  ht : ∀ p ∈ l, ∀ q ∈ l, p.2 = q.2 → p = q
  on : ∀ e ∈ E l, ∀ r ∈ l, On e.1 e.2 r → r = e.1 ∨ r = e.2
  cx : ∀ e ∈ E l, ∀ f ∈ E l, ¬ Crs e.1 e.2 f.1 f.2
theorem mem_rot {A B : List P} {r : P} (h : r ∈ A ++ B) : r ∈ B ++ A := by
  simp only [List.mem_append] at h ⊢; exact h.symm
theorem Sim.rot {A B : List P} (h : Sim (A ++ B)) : Sim (B ++ A) := by
  refine ⟨?_, fun p hp q hq => h.ht p (mem_rot hp) q (mem_rot hq), fun e he r hr => h.on e (E_rot_mem he) r (mem_rot hr), fun e he f hf => h.cx e (E_rot_mem he) f (E_rot_mem hf)⟩
  have := h.nd
  rw [List.nodup_append] at this ⊢
  exact ⟨this.2.1, this.1, fun a ha b hb => fun e => this.2.2 b hb a ha e.symm⟩
theorem Sim.ne {l : List P} (h : Sim l) {p q : P} (hp : p ∈ l) (hq : q ∈ l) (n : p ≠ q) : p.2 ≠ q.2 := fun e => n (h.ht p hp q hq e)
theorem Sim.nm {l : List P} (h : Sim l) {e f : P × P} (he : e ∈ E l) (hf : f ∈ E l) (n1 : e.1 ≠ f.1) (n2 : e.1 ≠ f.2) (n3 : e.2 ≠ f.1) (n4 : e.2 ≠ f.2) : NM e.1 e.2 f.1 f.2 := by
  have m1 := E_mem he
  have m2 := E_mem hf
  refine ⟨fun x => ?_, fun x => ?_, fun x => ?_, fun x => ?_, h.cx e he f hf⟩
  · rcases h.on e he _ m2.1 x with y | y
    · exact n1 y.symm
    · exact n3 y.symm
  · rcases h.on e he _ m2.2 x with y | y
    · exact n2 y.symm
    · exact n4 y.symm
  · rcases h.on f hf _ m1.1 x with y | y
    · exact n1 y
    · exact n2 y
  · rcases h.on f hf _ m1.2 x with y | y
    · exact n3 y
    · exact n4 y
def rayE (s : P) (e : P × P) : Bool := ray s e.1 e.2
/-- The edge lemma along an open chain. -/
theorem chain_par {x : P} {l : List P} {s t : P} (hn : ∀ e ∈ ch x l, NM e.1 e.2 s t) (hh : ∀ r ∈ x :: l, r.2 ≠ s.2 ∧ r.2 ≠ t.2) (hd : ∀ e ∈ ch x l, e.1.2 ≠ e.2.2) (hst : s.2 ≠ t.2) :
    (par (rayE s) (ch x l) ^^ par (rayE t) (ch x l)) = (gg s t x ^^ gg s t (fin x l)) := by
  rw [← par_xor]
  refine par_tel fun e he => ?_
  have m := ch_mem he
  have a := hh e.1 m.1
  have b := hh e.2 (List.mem_cons_of_mem _ m.2)
  exact edge (hn e he) (hd e he) hst a.1 a.2 b.1 b.2
def lam : List P → Bool
  | b :: w :: r => par (rayE b) (ch w r) ^^ loc (fin w r) b w
  | _ => false
theorem ch_ne {x : P} {l : List P} (h : (x :: l).Nodup) {e : P × P} (he : e ∈ ch x l) : e.1 ≠ e.2 := by
  induction l generalizing x with
  | nil => simp [ch] at he
  | cons y l ih =>
    simp only [ch, List.mem_cons] at he
    rcases he with rfl | he
    · intro e; simp only at e; subst e; simp at h
    · exact ih (List.nodup_cons.1 h).2 he
theorem lam_step {b w x : P} {k : List P} (h : Sim (b :: w :: x :: k)) : lam (b :: w :: x :: k) = lam (w :: x :: (k ++ [b])) := by
  have hE : E (b :: w :: x :: k) = (b, w) :: (w, x) :: (ch x k ++ [(fin x k, b)]) := by
    simp only [E, List.cons_append, ch]; rw [ch_snoc]
  have nd := h.nd
  simp only [List.nodup_cons, List.mem_cons, not_or] at nd
  obtain ⟨⟨n1, n2, n3⟩, ⟨n4, n5⟩, n6, n7⟩ := nd
  have fm := fin_mem x k
  have fb : fin x k ≠ b := by
    intro e; rw [e] at fm; simp only [List.mem_cons] at fm; rcases fm with fm | fm
    · exact n2 fm
    · exact n3 fm
  have fw : fin x k ≠ w := by
    intro e; rw [e] at fm; simp only [List.mem_cons] at fm; rcases fm with fm | fm
    · exact n4 fm
    · exact n5 fm
  have mb : b ∈ b :: w :: x :: k := by simp
  have mw : w ∈ b :: w :: x :: k := by simp
  have mx : x ∈ b :: w :: x :: k := by simp
  have mu : fin x k ∈ b :: w :: x :: k := List.mem_cons_of_mem _ (List.mem_cons_of_mem _ fm)
  have ebw : (b, w) ∈ E (b :: w :: x :: k) := by rw [hE]; simp
  have ewx : (w, x) ∈ E (b :: w :: x :: k) := by rw [hE]; simp
  have eub : (fin x k, b) ∈ E (b :: w :: x :: k) := by rw [hE]; simp
  have hc := chain_par (x := x) (l := k) (s := b) (t := w) (fun e he => by
      have m := ch_mem he
      refine (h.nm (e := e) (f := (b, w)) (by rw [hE]; simp [he]) ebw ?_ ?_ ?_ ?_)
      · intro z; rw [z] at m; simp only [List.mem_cons] at m; rcases m.1 with q | q
        · exact n2 q
        · exact n3 q
      · intro z; rw [z] at m; simp only [List.mem_cons] at m; rcases m.1 with q | q
        · exact n4 q
        · exact n5 q
      · intro z; rw [z] at m; exact n3 m.2
      · intro z; rw [z] at m; exact n5 m.2)
    (fun r hr => by
      have mr : r ∈ b :: w :: x :: k := List.mem_cons_of_mem _ (List.mem_cons_of_mem _ hr)
      refine ⟨h.ne mr mb ?_, h.ne mr mw ?_⟩
      · intro z; subst z; simp only [List.mem_cons] at hr; rcases hr with q | q
        · exact n2 q
        · exact n3 q
      · intro z; subst z; simp only [List.mem_cons] at hr; rcases hr with q | q
        · exact n4 q
        · exact n5 q)
    (fun e he => by
      have m := ch_mem he
      refine h.ne (List.mem_cons_of_mem _ (List.mem_cons_of_mem _ m.1)) (List.mem_cons_of_mem _ (List.mem_cons_of_mem _ (List.mem_cons_of_mem _ m.2))) (ch_ne (by simp [n6, n7]) he))
    (h.ne mb mw n1)
  have pA := partA (u := fin x k) (b := b) (w := w) (h.ne mu mb fb) (h.ne mb mw n1) (h.ne mu mw fw)
    (fun o => by rcases h.on _ ebw _ mu o with q | q; exact fb q; exact fw q)
    (fun o => by rcases h.on _ eub _ mw o with q | q; exact fw q.symm; exact n1 q.symm)
  have pB := partB (b := b) (w := w) (x := x) (h.ne mb mw n1) (h.ne mw mx n4) (h.ne mb mx n2)
    (fun o => by rcases h.on _ ebw _ mx o with q | q; exact n2 q.symm; exact n4 q.symm)
    (fun o => by rcases h.on _ ewx _ mb o with q | q; exact n1 q; exact n2 q)
  simp only [lam, ch, par, fin, fin_snoc]
  rw [ch_snoc, par_append]
  simp only [par]
  rw [show rayE b (w, x) = ray b w x from rfl, show rayE w (fin x k, b) = ray w (fin x k) b from rfl]
  rw [← pB] at pA
  revert hc pA
  generalize par (rayE b) (ch x k) = X1
  generalize par (rayE w) (ch x k) = X2
  generalize gg b w x = X3
  generalize gg b w (fin x k) = X4
  generalize ray b w x = X5
  generalize ray w (fin x k) b = X6
  generalize loc (fin x k) b w = X7
  generalize loc b w x = X8
  clear pB
  cases X1 <;> cases X2 <;> cases X3 <;> cases X4 <;> cases X5 <;> cases X6 <;> cases X7 <;> cases X8 <;> simp
theorem lam_rot : ∀ (A B : List P), 3 ≤ (A ++ B).length → Sim (A ++ B) → lam (A ++ B) = lam (B ++ A)
  | [], B, _, _ => by simp
  | a :: A, B, hl, h => by
    have h2 : Sim (A ++ (B ++ [a])) := by
      have := Sim.rot (A := [a]) (B := A ++ B) (by simpa using h)
      simpa using this
    have ih := lam_rot A (B ++ [a]) (by simp at hl ⊢; omega) h2
    have : lam (a :: (A ++ B)) = lam (A ++ (B ++ [a])) := by
      rw [← List.append_assoc]
      rw [List.cons_append] at h hl
      generalize A ++ B = k at h hl
      match k, hl, h with
      | w :: x :: k, _, h => rw [lam_step h]; rfl
      | [], hl, _ => simp at hl
      | [w], hl, _ => simp at hl
    rw [List.cons_append, this, ih]; simp
end Ears
end Go.Proofs.YtmdncaoilegnnaaGreat

namespace Go.Proofs.YtmdncaoilegnnaaGreat
set_option linter.unusedVariables false
set_option linter.unusedSimpArgs false
set_option linter.unusedVariables false
set_option linter.unusedSimpArgs false
namespace Ears
theorem lt_ge (a b : Int) : a < b ∨ b ≤ a := by omega
def InT (u b w q : P) : Prop := 0 ≤ cr u b q ∧ 0 ≤ cr b w q ∧ 0 ≤ cr w u q
theorem bary (u b w q x y : P) : cr u b w * cr x y q = cr b w q * cr x y u + cr w u q * cr x y b + cr u b q * cr x y w := by unfold cr; grind
theorem bary1 (u b w q : P) : cr b w q + cr w u q + cr u b q = cr u b w := by unfold cr; grind
theorem bary2 (u b w q : P) : cr u b w * q.2 = cr b w q * u.2 + cr w u q * b.2 + cr u b q * w.2 := by unfold cr; grind
theorem dep3 (p q s t x y : P) : cr p q t * cr x y s - cr p q s * cr x y t = cr s t p * cr x y q - cr s t q * cr x y p := by unfold cr; grind
theorem on_aff (b q s x y : P) : (q.2 - b.2) * cr x y s = (q.2 - s.2) * cr x y b + (s.2 - b.2) * cr x y q + (y.2 - x.2) * cr b q s := by unfold cr; grind
theorem nn {a b : Int} (ha : 0 ≤ a) (hb : 0 ≤ b) : 0 ≤ a * b := Int.mul_nonneg ha hb
theorem np {a b : Int} (ha : 0 ≤ a) (hb : b ≤ 0) : a * b ≤ 0 := Int.mul_nonpos_of_nonneg_of_nonpos ha hb
theorem sge {a b : Int} (hb : 0 < b) (h : 0 ≤ b * a) : 0 ≤ a := by
  rcases lt_ge a 0 with h1 | h1
  · have := neg_mul h1 hb; rw [Int.mul_comm] at this; omega
  · exact h1
theorem sgt {a b : Int} (hb : 0 < b) (h : 0 < b * a) : 0 < a := sg hb (by rw [Int.mul_comm]; exact h)
theorem on_of_opp {p q s t : P} (h : opp (cr p q s) (cr p q t)) (h0 : cr s t q = 0) : On s t q := by
  refine ⟨h0, ?_⟩
  have e1 := dep2 p q s t
  have e2 := dep1 p q s t
  rw [h0] at e1 e2
  have e3 : cr p q t * (s.2 - q.2) = cr p q s * (t.2 - q.2) := by grind
  rcases Int.lt_trichotomy s.2 q.2 with c | c | c
  · left
    rcases h with ⟨a, b⟩ | ⟨a, b⟩
    · have := mul_neg_ b (show s.2 - q.2 < 0 by omega)
      have : 0 < t.2 - q.2 := by
        rcases Int.lt_trichotomy (t.2 - q.2) 0 with d | d | d
        · have := neg_neg_ a d; omega
        · rw [d] at e3; omega
        · exact d
      omega
    · have := neg_neg_ b (show s.2 - q.2 < 0 by omega)
      have : 0 < t.2 - q.2 := by
        rcases Int.lt_trichotomy (t.2 - q.2) 0 with d | d | d
        · have := mul_neg_ a d; omega
        · rw [d] at e3; omega
        · exact d
      omega
  · omega
  · right
    rcases h with ⟨a, b⟩ | ⟨a, b⟩
    · have := pos_mul b (show 0 < s.2 - q.2 by omega)
      have : t.2 - q.2 < 0 := by
        rcases Int.lt_trichotomy (t.2 - q.2) 0 with d | d | d
        · exact d
        · rw [d] at e3; omega
        · have := neg_mul a d; omega
      omega
    · have := neg_mul b (show 0 < s.2 - q.2 by omega)
      have : t.2 - q.2 < 0 := by
        rcases Int.lt_trichotomy (t.2 - q.2) 0 with d | d | d
        · exact d
        · rw [d] at e3; omega
        · have := pos_mul a d; omega
      omega
theorem on_of_inT {u b w q : P} (D : 0 < cr u b w) (h : InT u b w q) (h0 : cr u b q = 0) : On u b q := by
  refine ⟨h0, ?_⟩
  obtain ⟨h1, h2, h3⟩ := h
  have e1 := bary1 u b w q
  have e2 := bary2 u b w q
  rw [h0] at e1 e2
  have e3 : cr u b w * (q.2 - u.2) = cr w u q * (b.2 - u.2) := by grind
  have e4 : cr u b w * (b.2 - q.2) = cr b w q * (b.2 - u.2) := by grind
  rcases lt_ge b.2 u.2 with c | c
  · right
    have x1 := np h3 (show b.2 - u.2 ≤ 0 by omega)
    have x2 := np h2 (show b.2 - u.2 ≤ 0 by omega)
    have y1 : 0 ≤ u.2 - q.2 := sge D (by grind)
    have y2 : 0 ≤ q.2 - b.2 := sge D (by grind)
    omega
  · left
    have x1 := nn h3 (show 0 ≤ b.2 - u.2 by omega)
    have x2 := nn h2 (show 0 ≤ b.2 - u.2 by omega)
    have y1 : 0 ≤ q.2 - u.2 := sge D (by omega)
    have y2 : 0 ≤ b.2 - q.2 := sge D (by omega)
    omega
theorem aff_ge {b q s x y : P} (h : On b q s) (hd : b.2 ≠ q.2) (h1 : 0 ≤ cr x y b) (h2 : 0 ≤ cr x y q) : 0 ≤ cr x y s := by
  have e := on_aff b q s x y
  obtain ⟨h0, h3⟩ := h
  rw [h0] at e
  rcases h3 with ⟨c, d⟩ | ⟨c, d⟩
  · have x1 := nn (show 0 ≤ q.2 - s.2 by omega) h1
    have x2 := nn (show 0 ≤ s.2 - b.2 by omega) h2
    exact sge (show 0 < q.2 - b.2 by omega) (by omega)
  · have x1 := nn (show 0 ≤ s.2 - q.2 by omega) h1
    have x2 := nn (show 0 ≤ b.2 - s.2 by omega) h2
    exact sge (show 0 < b.2 - q.2 by omega) (by grind)
theorem InT.seg {u b w x y s : P} (hx : InT u b w x) (hy : InT u b w y) (hd : x.2 ≠ y.2) (h : On x y s) : InT u b w s :=
  ⟨aff_ge h hd hx.1 hy.1, aff_ge h hd hx.2.1 hy.2.1, aff_ge h hd hx.2.2 hy.2.2⟩
theorem InT.tip1 {u b w : P} (D : 0 < cr u b w) : InT u b w u := ⟨by rw [cr_same1]; omega, by rw [cr_rot u b w]; omega, by rw [cr_same2]; omega⟩
theorem InT.tip2 {u b w : P} (D : 0 < cr u b w) : InT u b w b := ⟨by rw [cr_same2]; omega, by rw [cr_same1]; omega, by rw [cr_rot b w u, cr_rot u b w]; omega⟩
theorem InT.tip3 {u b w : P} (D : 0 < cr u b w) : InT u b w w := ⟨by omega, by rw [cr_same2]; omega, by rw [cr_same1]; omega⟩
theorem tri_up {u b w q s t : P} (D : 0 < cr u b w) (q1 : 0 < cr u b q) (q2 : 0 < cr b w q) (q3 : 0 ≤ cr w u q)
    (x1 : ¬ Crs u b s t) (x2 : ¬ Crs b w s t) (hs : s = u ∨ s = w ∨ ¬ InT u b w s) (ht : t = u ∨ t = w ∨ ¬ InT u b w t)
    (f1 : 0 < cr s t b) (f2 : cr s t q < 0) (g1 : cr b q s < 0) (g2 : 0 < cr b q t) : False := by
  have ru : cr b q u = cr u b q := cr_rot u b q
  have rw' : cr b q w = - cr b w q := by unfold cr; grind
  have bF := bary u b w q s t
  by_cases fu : cr s t u < 0
  · have X := dep3 b q s t u b
    rw [cr_same2] at X
    have y1 := pos_mul f1 q1
    have h1t : 0 ≤ cr u b t := by
      rcases lt_ge (cr u b t) 0 with c | c
      · exfalso
        have z1 := neg_neg_ g1 c
        by_cases d : 0 < cr u b s
        · exact x1 ⟨.inr ⟨d, c⟩, .inl ⟨fu, f1⟩⟩
        · have := np (Int.le_of_lt g2) (show cr u b s ≤ 0 by omega)
          omega
      · exact c
    have B := bary u b q t s t
    rw [cr_same2 s t] at B
    have z1 := mul_neg_ g2 fu
    have z2 := np h1t (Int.le_of_lt f2)
    have h3 : 0 < cr q u t := sg f1 (by omega)
    have B2 := bary u b q t b w
    rw [cr_same1 b w, cr_rot u b w] at B2
    have z3 := pos_mul g2 D
    have z4 := nn h1t (Int.le_of_lt q2)
    have k2 : 0 ≤ cr b w t := sge q1 (by omega)
    have B3 := bary u b q t w u
    rw [cr_same2 w u, show cr w u b = cr u b w by rw [cr_rot b w u, cr_rot u b w]] at B3
    have z5 := pos_mul h3 D
    have z6 := nn h1t q3
    have k3 : 0 ≤ cr w u t := sge q1 (by omega)
    rcases ht with e | e | e
    · subst e; rw [cr_same2] at fu; omega
    · subst e; omega
    · exact e ⟨h1t, k2, k3⟩
  · have fw : cr s t w < 0 := by
      have z1 := nn (Int.le_of_lt q2) (show 0 ≤ cr s t u by omega)
      have z2 := nn q3 (Int.le_of_lt f1)
      have z3 := mul_neg_ D f2
      exact sl q1 (by rw [Int.mul_comm]; omega)
    have X := dep3 b q s t b w
    rw [cr_same1] at X
    have y1 := pos_mul f1 q2
    have h2s : 0 ≤ cr b w s := by
      rcases lt_ge (cr b w s) 0 with c | c
      · exfalso
        have z1 := mul_neg_ g2 c
        by_cases d : 0 < cr b w t
        · exact x2 ⟨.inl ⟨c, d⟩, .inr ⟨f1, fw⟩⟩
        · have := Int.mul_nonneg_of_nonpos_of_nonpos (Int.le_of_lt g1) (show cr b w t ≤ 0 by omega)
          omega
      · exact c
    have B := bary b w q s s t
    rw [cr_same1 s t, cr_swap b q s] at B
    have z1 := neg_neg_ g1 fw
    have z2 := np h2s (Int.le_of_lt f2)
    have e1 : -cr b q s * cr s t w = - (cr b q s * cr s t w) := by grind
    have h3 : 0 < cr w q s := sg f1 (by omega)
    have B2 := bary b w q s u b
    rw [cr_same2 u b, cr_swap b q s] at B2
    have z3 := neg_mul g1 D
    have z4 := nn h2s (Int.le_of_lt q1)
    have e2 : -cr b q s * cr u b w = - (cr b q s * cr u b w) := by grind
    have k1 : 0 ≤ cr u b s := sge q2 (by omega)
    have B3 := bary b w q s w u
    rw [cr_same1 w u, show cr w u b = cr u b w by rw [cr_rot b w u, cr_rot u b w]] at B3
    have z5 := pos_mul h3 D
    have z6 := nn h2s q3
    have k3 : 0 ≤ cr w u s := sge q2 (by omega)
    rcases hs with e | e | e
    · subst e; omega
    · subst e; rw [cr_same1] at fw; omega
    · exact e ⟨k1, h2s, k3⟩
theorem Crs.flip2 {p q s t : P} (h : Crs p q s t) : Crs p q t s := h.swap.flip.swap
theorem tri_core {u b w q s t : P} (D : 0 < cr u b w) (q1 : 0 < cr u b q) (q2 : 0 < cr b w q) (q3 : 0 ≤ cr w u q)
    (x1 : ¬ Crs u b s t) (x2 : ¬ Crs b w s t) (hs : s = u ∨ s = w ∨ ¬ InT u b w s) (ht : t = u ∨ t = w ∨ ¬ InT u b w t) : ¬ Crs b q s t := by
  intro h
  have key : ∀ s t : P, ¬ Crs u b s t → ¬ Crs b w s t → (s = u ∨ s = w ∨ ¬ InT u b w s) → (t = u ∨ t = w ∨ ¬ InT u b w t) → Crs b q s t → 0 < cr s t b → False := by
    intro s t x1 x2 hs ht h f1
    obtain ⟨h1, h2⟩ := h
    have d := dep1 b q s t
    rcases h2 with ⟨a, c⟩ | ⟨a, c⟩
    · omega
    · rcases h1 with ⟨e, f⟩ | ⟨e, f⟩
      · exact tri_up D q1 q2 q3 x1 x2 hs ht f1 c e f
      · omega
  by_cases c : 0 < cr s t b
  · exact key s t x1 x2 hs ht h c
  · refine key t s (fun h => x1 h.flip2) (fun h => x2 h.flip2) ht hs h.flip2 ?_
    have := h.2
    unfold opp at this
    rw [cr_swap s t b]
    omega
theorem chord_up {u b w s t : P} (D : 0 < cr u b w)
    (x1 : ¬ Crs u b s t) (x2 : ¬ Crs b w s t) (ht : t = u ∨ t = w ∨ ¬ InT u b w t) (nb : ¬ On s t b)
    (f1 : 0 < cr s t w) (f2 : cr s t u < 0) (g1 : cr w u s < 0) (g2 : 0 < cr w u t) : False := by
  have X1 := dep3 w u s t u b
  rw [cr_same1] at X1
  have y1 := neg_mul f2 D
  have X2 := dep3 w u s t b w
  rw [cr_same2, cr_rot u b w] at X2
  have y2 := pos_mul f1 D
  have B := bary u b w t s t
  rw [cr_same2 s t] at B
  have fin : 0 ≤ cr u b t → 0 ≤ cr b w t → False := by
    intro h1 h2
    rcases ht with e | e | e
    · subst e; rw [cr_same2] at f2; omega
    · subst e; rw [cr_same2] at f1; omega
    · exact e ⟨h1, h2, Int.le_of_lt g2⟩
  rcases Int.lt_trichotomy (cr s t b) 0 with c | c | c
  · have h2 : 0 ≤ cr b w t := by
      rcases lt_ge (cr b w t) 0 with d | d
      · exfalso
        have z1 := neg_neg_ g1 d
        by_cases e : 0 < cr b w s
        · exact x2 ⟨.inr ⟨e, d⟩, .inl ⟨c, f1⟩⟩
        · have := np (Int.le_of_lt g2) (show cr b w s ≤ 0 by omega)
          omega
      · exact d
    have z1 := np h2 (Int.le_of_lt f2)
    have z2 := mul_neg_ g2 c
    exact fin (Int.le_of_lt (sg f1 (by omega))) h2
  · rw [c] at B
    have h1 : 0 ≤ cr u b t := by
      rcases lt_ge (cr u b t) 0 with d | d
      · exfalso
        have z1 := neg_neg_ g1 d
        by_cases e : 0 < cr u b s
        · exact nb (on_of_opp (p := u) (.inr ⟨e, d⟩) c)
        · have := np (Int.le_of_lt g2) (show cr u b s ≤ 0 by omega)
          omega
      · exact d
    have z1 := nn h1 (Int.le_of_lt f1)
    refine fin h1 ?_
    rcases lt_ge (cr b w t) 0 with d | d
    · have := neg_neg_ d f2; omega
    · exact d
  · have h1 : 0 ≤ cr u b t := by
      rcases lt_ge (cr u b t) 0 with d | d
      · exfalso
        have z1 := neg_neg_ g1 d
        by_cases e : 0 < cr u b s
        · exact x1 ⟨.inr ⟨e, d⟩, .inl ⟨f2, c⟩⟩
        · have := np (Int.le_of_lt g2) (show cr u b s ≤ 0 by omega)
          omega
      · exact d
    have z1 := nn h1 (Int.le_of_lt f1)
    have z2 := pos_mul g2 c
    refine fin h1 ?_
    rcases lt_ge (cr b w t) 0 with d | d
    · have := neg_neg_ d f2; omega
    · exact d
theorem chord_core {u b w s t : P} (D : 0 < cr u b w)
    (x1 : ¬ Crs u b s t) (x2 : ¬ Crs b w s t) (hs : s = u ∨ s = w ∨ ¬ InT u b w s) (ht : t = u ∨ t = w ∨ ¬ InT u b w t) (nb : ¬ On s t b) : ¬ Crs u w s t := by
  intro h
  have key : ∀ s t : P, ¬ Crs u b s t → ¬ Crs b w s t → (t = u ∨ t = w ∨ ¬ InT u b w t) → ¬ On s t b → Crs w u s t → 0 < cr s t w → False := by
    intro s t x1 x2 ht nb h f1
    obtain ⟨h1, h2⟩ := h
    have d := dep1 w u s t
    rcases h2 with ⟨a, c⟩ | ⟨a, c⟩
    · omega
    · rcases h1 with ⟨e, f⟩ | ⟨e, f⟩
      · exact chord_up D x1 x2 ht nb f1 c e f
      · omega
  by_cases c : 0 < cr s t w
  · exact key s t x1 x2 ht nb h.flip c
  · refine key t s (fun h => x1 h.flip2) (fun h => x2 h.flip2) hs (fun h => nb h.symm) h.flip.flip2 ?_
    have := h.2
    unfold opp at this
    rw [cr_swap s t w]
    omega
end Ears
end Go.Proofs.YtmdncaoilegnnaaGreat

namespace Go.Proofs.YtmdncaoilegnnaaGreat
set_option linter.unusedVariables false
set_option linter.unusedSimpArgs false
set_option linter.unusedVariables false
set_option linter.unusedSimpArgs false
namespace Ears

theorem tp1 {A B C D hu hb hw hy : Int} (h0 : 0 < D) (h1 : A + B + C = D) (h2 : A * (hw - hy) + B * (hu - hy) + C * (hb - hy) = 0) (n : ¬ (0 ≤ A ∧ 0 ≤ B ∧ 0 ≤ C))
    (c1 : hb < hy) (c2 : hy < hu) (c3 : hy < hw) : (A < 0 ↔ 0 < B) := by
  constructor
  · intro a
    rcases lt_ge 0 B with b | b
    · exact b
    · exfalso
      have x1 := neg_mul a (show 0 < hw - hy by omega)
      have x2 := np (a := hu - hy) (by omega) b
      have x3 := mul_neg_ (a := C) (by omega) (show hb - hy < 0 by omega)
      rw [Int.mul_comm] at x2
      omega
  · intro b
    rcases lt_ge A 0 with a | a
    · exact a
    · exfalso
      have x1 := nn a (show 0 ≤ hw - hy by omega)
      have x2 := pos_mul b (show 0 < hu - hy by omega)
      have x3 : 0 < C := sln (show hb - hy < 0 by omega) (by omega)
      omega
theorem tp2 {A B C D hu hb hw hy : Int} (h0 : 0 < D) (h1 : A + B + C = D) (h2 : A * (hw - hy) + B * (hu - hy) + C * (hb - hy) = 0) (n : ¬ (0 ≤ A ∧ 0 ≤ B ∧ 0 ≤ C))
    (c1 : hy < hb) (c2 : hu < hy) (c3 : hw < hy) : (0 < A ↔ B < 0) := by
  constructor
  · intro a
    rcases lt_ge B 0 with b | b
    · exact b
    · exfalso
      have x1 := mul_neg_ a (show hw - hy < 0 by omega)
      have x2 := np b (show hu - hy ≤ 0 by omega)
      have x3 : 0 < C := sg (show 0 < hb - hy by omega) (by omega)
      omega
  · intro b
    rcases lt_ge 0 A with a | a
    · exact a
    · exfalso
      have x1 := Int.mul_nonneg_of_nonpos_of_nonpos a (show hw - hy ≤ 0 by omega)
      have x2 := neg_neg_ b (show hu - hy < 0 by omega)
      have x3 := pos_mul (a := C) (by omega) (show 0 < hb - hy by omega)
      omega
theorem xor3f {a b c : Prop} [Decidable a] [Decidable b] [Decidable c] (h : a ↔ ¬ (b ↔ c)) : (decide a ^^ decide b ^^ decide c) = false := by
  by_cases a <;> by_cases b <;> by_cases c <;> simp_all
theorem tri_par {u b w y : P} (D : 0 < cr u b w) (n : ¬ InT u b w y) (d1 : u.2 ≠ y.2) (d2 : b.2 ≠ y.2) (d3 : w.2 ≠ y.2) :
    (ray y u b ^^ ray y b w ^^ ray y w u) = false := by
  have h1 := bary1 u b w y
  have h2 := bary2 u b w y
  unfold InT at n
  unfold ray
  generalize cr u b w = D' at *
  generalize cr u b y = A at *
  generalize cr b w y = B at *
  generalize cr w u y = C at *
  generalize u.2 = hu at *
  generalize b.2 = hb at *
  generalize w.2 = hw at *
  generalize y.2 = hy at *
  have e : A * (hw - hy) + B * (hu - hy) + C * (hb - hy) = 0 := by grind
  have e' : B * (hu - hy) + C * (hb - hy) + A * (hw - hy) = 0 := by grind
  have e'' : C * (hb - hy) + A * (hw - hy) + B * (hu - hy) = 0 := by grind
  apply xor3f
  clear h2
  rcases Int.lt_or_gt_of_ne d1 with c1 | c1 <;> rcases Int.lt_or_gt_of_ne d2 with c2 | c2 <;> rcases Int.lt_or_gt_of_ne d3 with c3 | c3
  · clear e e' e''; omega
  · have := tp2 D (show B + C + A = D' by omega) e' (by omega) c3 c2 c1
    clear e e' e''; omega
  · have := tp2 D (show A + B + C = D' by omega) e (by omega) c2 c1 c3
    clear e e' e''; omega
  · have := tp1 D (show C + A + B = D' by omega) e'' (by omega) c1 c3 c2
    clear e e' e''; omega
  · have := tp2 D (show C + A + B = D' by omega) e'' (by omega) c1 c3 c2
    clear e e' e''; omega
  · have := tp1 D (show A + B + C = D' by omega) e (by omega) c2 c1 c3
    clear e e' e''; omega
  · have := tp1 D (show B + C + A = D' by omega) e' (by omega) c3 c2 c1
    clear e e' e''; omega
  · clear e e' e''; omega
theorem sgn_eq {A C p q : Int} (hp : 0 < p) (hq : 0 < q) (h : A * p + C * q = 0) : (0 < A ↔ C < 0) ∧ (A < 0 ↔ 0 < C) := by
  refine ⟨⟨fun a => ?_, fun c => ?_⟩, ⟨fun a => ?_, fun c => ?_⟩⟩
  · have := pos_mul a hp; exact sl hq (by omega)
  · have := neg_mul c hq; exact sg hp (by omega)
  · have := neg_mul a hp; exact sg hq (by omega)
  · have := pos_mul c hq; exact sl hp (by omega)
theorem flat_par {u b w y : P} (D : cr u b w = 0) (hb : (u.2 < b.2 ∧ b.2 < w.2) ∨ (w.2 < b.2 ∧ b.2 < u.2)) (d1 : u.2 ≠ y.2) (d2 : b.2 ≠ y.2) (d3 : w.2 ≠ y.2) :
    (ray y u b ^^ ray y b w ^^ ray y w u) = false := by
  have h1 := bary1 u b w y
  have h2 := bary2 u b w y
  unfold ray
  rw [D] at h1 h2
  generalize cr u b y = A at *
  generalize cr b w y = B at *
  generalize cr w u y = C at *
  generalize u.2 = hu at *
  generalize b.2 = hb at *
  generalize w.2 = hw at *
  generalize y.2 = hy at *
  apply xor3f
  rcases hb with ⟨c, d⟩ | ⟨c, d⟩
  · have e1 := sgn_eq (A := A) (C := C) (p := hw - hu) (q := hb - hu) (by omega) (by omega) (by grind)
    have e2 := sgn_eq (A := B) (C := C) (p := hw - hu) (q := hw - hb) (by omega) (by omega) (by grind)
    clear h2
    omega
  · have e1 := sgn_eq (A := A) (C := C) (p := hu - hw) (q := hu - hb) (by omega) (by omega) (by grind)
    have e2 := sgn_eq (A := B) (C := C) (p := hu - hw) (q := hb - hw) (by omega) (by omega) (by grind)
    clear h2
    omega
theorem xor4 {a b c : Prop} [Decidable a] [Decidable b] [Decidable c] (h : a ↔ ¬ (b ↔ ¬ c) ) : decide a = (true ^^ decide b ^^ decide c) := by
  by_cases a <;> by_cases b <;> by_cases c <;> simp_all
theorem loc_split {u b w q : P} (D : 0 < cr u b w) (q1 : 0 < cr u b q) (q2 : 0 < cr b w q) (d1 : u.2 ≠ b.2) (d2 : w.2 ≠ b.2) (d3 : q.2 ≠ b.2) :
    loc u b w = (true ^^ loc u b q ^^ loc q b w) := by
  have h1 := bary1 u b w q
  have h2 := bary2 u b w q
  unfold loc
  rw [show cr q b w = cr b w q from (cr_rot q b w).symm]
  generalize cr u b w = D' at *
  generalize cr u b q = A at *
  generalize cr b w q = B at *
  generalize cr w u q = C at *
  generalize u.2 = hu at *
  generalize b.2 = hb at *
  generalize w.2 = hw at *
  generalize q.2 = hq at *
  have e : (hq - hb) * D' = B * (hu - hb) + A * (hw - hb) := by grind
  have k1 : hb < hu → hb < hw → hb < hq := by
    intro a c
    have x1 := pos_mul q2 (show 0 < hu - hb by omega)
    have x2 := pos_mul q1 (show 0 < hw - hb by omega)
    have := sg D (a := hq - hb) (by omega)
    omega
  have k2 : hu < hb → hw < hb → hq < hb := by
    intro a c
    have x1 := mul_neg_ q2 (show hu - hb < 0 by omega)
    have x2 := mul_neg_ q1 (show hw - hb < 0 by omega)
    have := sl D (a := hq - hb) (by omega)
    omega
  clear h2 e
  apply xor4
  omega
theorem diag_num {h1s h1t h2s h2t fs ft Fa Fv Fc ms mt : Int} (k1 : h1s < 0) (k2 : 0 < fs) (ms0 : 0 < ms) (mt0 : 0 < mt) (X1 : 0 < ms * h1s + mt * h1t) (X2 : 0 < ms * h2s + mt * h2t) (X3 : 0 < ms * fs + mt * ft) (v0 : 0 < Fv)
    (c1 : ¬ (opp h1s h1t ∧ opp Fa Fv)) (a0 : opp h1s h1t → Fa ≠ 0) (hc : 0 < Fa → Fc < 0) (c2 : ¬ (opp h2s h2t ∧ opp Fv Fc))
    (id : (h1t * h2s - h1s * h2t) * Fa + (h1t * fs - h1s * ft) * Fv = 0) : False := by
  have y1 := mul_neg_ ms0 k1
  have t1 : 0 < h1t := sgt mt0 (by omega)
  have o1 : opp h1s h1t := .inl ⟨k1, t1⟩
  have a1 := a0 o1
  have fa : 0 < Fa := by
    rcases Int.lt_trichotomy Fa 0 with c | c | c
    · exact absurd ⟨o1, .inl ⟨c, v0⟩⟩ c1
    · exact absurd c a1
    · exact c
  have fc := hc fa
  have o2 : ¬ opp h2s h2t := fun o => c2 ⟨o, .inr ⟨v0, fc⟩⟩
  have s2 : 0 ≤ h2s := by
    rcases lt_ge h2s 0 with c | c
    · have := mul_neg_ ms0 c
      exact absurd (.inl ⟨c, sgt mt0 (by omega)⟩) o2
    · exact c
  have t2 : 0 ≤ h2t := by
    rcases lt_ge h2t 0 with c | c
    · have := mul_neg_ mt0 c
      exact absurd (.inr ⟨sgt ms0 (by omega), c⟩) o2
    · exact c
  have z1 := nn (Int.le_of_lt t1) s2
  have z2 := np t2 (Int.le_of_lt k1)
  rw [Int.mul_comm] at z2
  have z3 := nn (show 0 ≤ h1t * h2s - h1s * h2t by omega) (Int.le_of_lt fa)
  have fy : 0 < h1t * fs - h1s * ft := by
    have w1 := pos_mul X1 k2
    have w2 := pos_mul X3 (show 0 < -h1s by omega)
    exact sgt mt0 (by grind)
  have z4 := pos_mul fy v0
  omega
theorem diag_id1 (a v c s t : P) : (cr a v t * cr v c s - cr a v s * cr v c t) * cr s t a + (cr a v t * cr c a s - cr a v s * cr c a t) * cr s t v = 0 := by unfold cr; grind
theorem diag_id2 (a v c s t : P) : (cr v c t * cr a v s - cr v c s * cr a v t) * cr s t c + (cr v c t * cr c a s - cr v c s * cr c a t) * cr s t v = 0 := by unfold cr; grind
theorem diag_one {a v c z s t : P} (D : 0 < cr a v c) (z1 : 0 < cr a v z) (z2 : 0 < cr v c z) (z3 : 0 ≤ cr c a z)
    (x1 : ¬ Crs a v s t) (x2 : ¬ Crs v c s t) (na : s = a ∨ t = a ∨ ¬ On s t a) (nc : s = c ∨ t = c ∨ ¬ On s t c)
    {ms mt : Int} (ms0 : 0 < ms) (mt0 : 0 < mt) (σ : Int) (hσ : σ = 1 ∨ σ = -1) (v0 : 0 < σ * cr s t v) (fz : σ * cr s t z < 0)
    (X : ∀ x y : P, ms * cr x y s + mt * cr x y t = (σ * cr s t v) * cr x y z - (σ * cr s t z) * cr x y v)
    (hs : ¬ InT a v c s) (k2 : cr c a z < cr c a s) : False := by
  have X1 := X a v
  rw [cr_same2] at X1
  have y1 := pos_mul v0 z1
  have X2 := X v c
  rw [cr_same1] at X2
  have y2 := pos_mul v0 z2
  have X3 := X c a
  rw [show cr c a v = cr a v c by rw [cr_rot v c a, cr_rot a v c]] at X3
  have y3 := nn (Int.le_of_lt v0) z3
  have y4 := neg_mul fz D
  have bF := bary a v c z s t
  have oa : opp (cr a v s) (cr a v t) → cr s t a ≠ 0 := by
    intro o e
    rcases na with r | r | r
    · subst r; rw [cr_same1] at o; unfold opp at o; omega
    · subst r; rw [cr_same1] at o; unfold opp at o; omega
    · refine r (on_of_opp (p := v) ?_ e)
      rw [cr_swap a v s, cr_swap a v t]; exact o.neg
  have oc : opp (cr v c s) (cr v c t) → cr s t c ≠ 0 := by
    intro o e
    rcases nc with r | r | r
    · subst r; rw [cr_same2] at o; unfold opp at o; omega
    · subst r; rw [cr_same2] at o; unfold opp at o; omega
    · exact r (on_of_opp (p := v) o e)
  have i1 := diag_id1 a v c s t
  have i2 := diag_id2 a v c s t
  have m1 : ∀ x y : Int, opp (σ * x) (σ * y) → opp x y := by
    intro x y o; rcases hσ with rfl | rfl <;> (unfold opp at *; omega)
  have hb : (σ * cr s t z) * cr a v c = cr v c z * (σ * cr s t a) + cr c a z * (σ * cr s t v) + cr a v z * (σ * cr s t c) := by grind
  have hz : (σ * cr s t z) * cr a v c < 0 := neg_mul fz D
  have h3 := nn z3 (Int.le_of_lt v0)
  by_cases c1 : cr a v s < 0
  · refine diag_num (h1s := cr a v s) (h1t := cr a v t) (h2s := cr v c s) (h2t := cr v c t) (fs := cr c a s) (ft := cr c a t) (Fa := σ * cr s t a) (Fv := σ * cr s t v) (Fc := σ * cr s t c) c1 (by omega) ms0 mt0 (by omega) (by omega) (by omega) v0 (fun h => x1 ⟨h.1, m1 _ _ h.2⟩) (fun o => ?_) (fun fa => ?_) (fun h => x2 ⟨h.1, m1 _ _ h.2⟩) (by grind)
    · have := oa o; rcases hσ with rfl | rfl <;> omega
    · have := pos_mul z2 fa
      exact sl z1 (by rw [Int.mul_comm]; omega)
  · have c2 : cr v c s < 0 := by
      unfold InT at hs; omega
    refine diag_num (h1s := cr v c s) (h1t := cr v c t) (h2s := cr a v s) (h2t := cr a v t) (fs := cr c a s) (ft := cr c a t) (Fa := σ * cr s t c) (Fv := σ * cr s t v) (Fc := σ * cr s t a) c2 (by omega) ms0 mt0 (by omega) (by omega) (by omega) v0 (fun h => x2 ⟨h.1, (m1 _ _ h.2).symm⟩) (fun o => ?_) (fun fa => ?_) (fun h => x1 ⟨h.1, (m1 _ _ h.2).symm⟩) (by grind)
    · have := oc o; rcases hσ with rfl | rfl <;> omega
    · have := pos_mul z1 fa
      exact sl z2 (by rw [Int.mul_comm]; omega)
theorem dnum {ms mt fs ft fz D Fv Fz : Int} (h1 : ms * fs + mt * ft = Fv * fz - Fz * D) (h5 : ms + mt = Fv - Fz) (h2 : 0 ≤ ms * (fz - fs)) (h3 : 0 ≤ mt * (fz - ft)) (h6 : Fz * (D - fz) < 0) : False := by
  have e : (ms + mt) * fz = (Fv - Fz) * fz := by rw [h5]
  rw [Int.add_mul, Int.sub_mul] at e
  rw [Int.mul_sub] at h2 h3 h6
  omega
theorem diag_up {a v c z s t : P} (D : 0 < cr a v c) (z1 : 0 < cr a v z) (z2 : 0 < cr v c z) (z3 : 0 ≤ cr c a z)
    (x1 : ¬ Crs a v s t) (x2 : ¬ Crs v c s t) (na : s = a ∨ t = a ∨ ¬ On s t a) (nc : s = c ∨ t = c ∨ ¬ On s t c)
    (hs : InT a v c s → cr c a s ≤ cr c a z) (ht : InT a v c t → cr c a t ≤ cr c a z)
    (f1 : 0 < cr s t v) (f2 : cr s t z < 0) (g1 : cr v z s < 0) (g2 : 0 < cr v z t) : False := by
  have X : ∀ x y : P, cr v z t * cr x y s + (- cr v z s) * cr x y t = (1 * cr s t v) * cr x y z - (1 * cr s t z) * cr x y v := by
    intro x y; have := dep3 v z s t x y; grind
  by_cases cc : cr c a z < cr c a s
  · exact diag_one D z1 z2 z3 x1 x2 na nc g2 (show 0 < - cr v z s by omega) 1 (.inl rfl) (by omega) (by omega) X (fun h => by have := hs h; omega) cc
  · have c' : cr c a z < cr c a t := by
      rcases lt_ge (cr c a z) (cr c a t) with d | d
      · exact d
      · exfalso
        have h1 := X c a
        rw [show cr c a v = cr a v c by rw [cr_rot v c a, cr_rot a v c]] at h1
        have h2 := nn (Int.le_of_lt g2) (show 0 ≤ cr c a z - cr c a s by omega)
        have h3 := nn (show 0 ≤ - cr v z s by omega) (show 0 ≤ cr c a z - cr c a t by omega)
        have h4 := bary1 a v c z
        have h5 := dep1 v z s t
        have h6 := neg_mul f2 (show 0 < cr a v c - cr c a z by omega)
        exact dnum (by rw [h1, Int.one_mul, Int.one_mul]) (by omega) h2 h3 h6
    refine diag_one (s := t) (t := s) D z1 z2 z3 (fun h => x1 h.flip2) (fun h => x2 h.flip2) ?_ ?_ (show 0 < - cr v z s by omega) g2 (-1) (.inr rfl) (by rw [cr_swap s t v]; omega) (by rw [cr_swap s t z]; omega) (fun x y => by have := X x y; rw [cr_swap s t v, cr_swap s t z]; grind) (fun h => by have := ht h; omega) c'
    · rcases na with r | r | r
      · exact .inr (.inl r)
      · exact .inl r
      · exact .inr (.inr fun h => r h.symm)
    · rcases nc with r | r | r
      · exact .inr (.inl r)
      · exact .inl r
      · exact .inr (.inr fun h => r h.symm)
theorem diag_core {a v c z s t : P} (D : 0 < cr a v c) (z1 : 0 < cr a v z) (z2 : 0 < cr v c z) (z3 : 0 ≤ cr c a z)
    (x1 : ¬ Crs a v s t) (x2 : ¬ Crs v c s t) (na : s = a ∨ t = a ∨ ¬ On s t a) (nc : s = c ∨ t = c ∨ ¬ On s t c)
    (hs : InT a v c s → cr c a s ≤ cr c a z) (ht : InT a v c t → cr c a t ≤ cr c a z) : ¬ Crs v z s t := by
  intro h
  have d := dep1 v z s t
  by_cases c0 : 0 < cr s t v
  · obtain ⟨h1, h2⟩ := h
    rcases h2 with ⟨a', c⟩ | ⟨a', c⟩
    · omega
    · rcases h1 with ⟨e, f⟩ | ⟨e, f⟩
      · exact diag_up D z1 z2 z3 x1 x2 na nc hs ht a' c e f
      · omega
  · obtain ⟨h1, h2⟩ := h
    rcases h2 with ⟨a', c⟩ | ⟨a', c⟩
    · rcases h1 with ⟨e, f⟩ | ⟨e, f⟩
      · omega
      · refine diag_up (s := t) (t := s) D z1 z2 z3 (fun h => x1 h.flip2) (fun h => x2 h.flip2) ?_ ?_ ht hs (by rw [cr_swap s t v]; omega) (by rw [cr_swap s t z]; omega) f e
        · rcases na with r | r | r
          · exact .inr (.inl r)
          · exact .inl r
          · exact .inr (.inr fun h => r h.symm)
        · rcases nc with r | r | r
          · exact .inr (.inl r)
          · exact .inl r
          · exact .inr (.inr fun h => r h.symm)
    · omega
end Ears
end Go.Proofs.YtmdncaoilegnnaaGreat

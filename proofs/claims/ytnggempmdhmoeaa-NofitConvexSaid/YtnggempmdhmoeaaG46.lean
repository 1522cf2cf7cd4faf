/- Plain geometry of simple polygons. Plain geometry of simple polygons. -/
import Derived.Test.YtnggempmdhmoeaaG45
namespace Go.Proofs.Ytnggempmdhmoeaa
set_option linter.unusedVariables false
set_option linter.unusedSimpArgs false
namespace Ears

theorem turn_u {p u b w : P} (h1 : 0 < cr p u b) (D : 0 < cr u b w) (hT : ¬ InT u b w p) (hx : ¬ Crs p u b w) (ho : ¬ On p u w) : 0 < cr p u w := by
  rcases lt_ge 0 (cr p u w) with c | c
  · exact c
  · exfalso
    have r1 : cr u b p = cr p u b := cr_rot p u b
    have r2 : cr w u p = - cr p u w := by unfold cr; grind
    have r3 : cr b w u = cr u b w := cr_rot u b w
    have hn : cr b w p < 0 := by
      rcases lt_ge (cr b w p) 0 with q | q
      · exact q
      · exact absurd ⟨by omega, q, by omega⟩ hT
    rcases Int.lt_or_eq_of_le c with q | q
    · exact hx ⟨.inr ⟨h1, q⟩, .inl ⟨hn, by omega⟩⟩
    · exact ho (on_of_opp (p := b) (q := w) (s := p) (t := u) (.inl ⟨hn, by omega⟩) q)
theorem turn_w {u b w s : P} (h1 : 0 < cr b w s) (D : 0 < cr u b w) (hT : ¬ InT u b w s) (hx : ¬ Crs w s u b) (ho : ¬ On w s u) : 0 < cr u w s := by
  rcases lt_ge 0 (cr u w s) with c | c
  · exact c
  · exfalso
    have r2 : cr w u s = - cr u w s := by unfold cr; grind
    have hn : cr u b s < 0 := by
      rcases lt_ge (cr u b s) 0 with q | q
      · exact q
      · exact absurd ⟨q, by omega, by omega⟩ hT
    have r4 : cr w s b = cr b w s := cr_rot b w s
    have r5 : cr w s u = cr u w s := cr_rot u w s
    rcases Int.lt_or_eq_of_le c with q | q
    · exact hx ⟨.inl ⟨by omega, by omega⟩, .inr ⟨D, hn⟩⟩
    · refine ho (on_of_opp (p := b) (q := u) (s := w) (t := s) ?_ (by omega))
      rw [cr_swap u b w, cr_swap u b s]; exact .inl ⟨by omega, by omega⟩

theorem side_u (p u b w r : P) : cr u b r * cr p u w = cr u b w * cr p u r + cr u w r * cr p u b := by unfold cr; grind
theorem side_w (u b w s r : P) : cr b w r * cr u w s = cr u b w * cr w s r + cr u w r * cr b w s := by unfold cr; grind

theorem ch_last {x u p : P} {m : List P} (nd : (x :: (m ++ [u])).Nodup) (h : (p, u) ∈ ch x (m ++ [u])) : p = fin x m := by
  rw [ch_snoc, List.mem_append] at h
  rcases h with h | h
  · have := (ch_mem h).2
    rw [List.nodup_cons, List.nodup_append] at nd
    exact absurd rfl (nd.2.2.2 u this u (by simp))
  · simp at h; exact h
theorem ch_head {x s : P} {k : List P} (nd : (x :: k).Nodup) (h : (x, s) ∈ ch x k) : ∃ k', k = s :: k' := by
  cases k with
  | nil => simp [ch] at h
  | cons y k =>
    simp only [ch, List.mem_cons, Prod.mk.injEq] at h
    rcases h with ⟨_, e⟩ | h
    · exact ⟨k, by rw [e]⟩
    · have := (ch_mem h).1
      rw [List.nodup_cons] at nd
      exact absurd this nd.1

/-- A simple polygon that turns to the left at every vertex lies to the left of all its sides. -/
theorem strict : ∀ (n : Nat) (l : List P), l.length ≤ n → 3 ≤ l.length → Sim l → lam l = true → (∀ p q r, (p, q) ∈ E l → (q, r) ∈ E l → 0 < cr p q r) → ∀ e ∈ E l, ∀ r ∈ l, r ≠ e.1 → r ≠ e.2 → 0 < cr e.1 e.2 r := by
  intro n
  induction n with
  | zero => intro l h1 h2; omega
  | succ n ih =>
    intro l0 hn h3 hs0 hl0 hb0
    suffices H : ∃ A B, l0 = A ++ B ∧ ∀ e ∈ E (B ++ A), ∀ r ∈ B ++ A, r ≠ e.1 → r ≠ e.2 → 0 < cr e.1 e.2 r by
      obtain ⟨A, B, rfl, H⟩ := H
      exact fun e he r hr => H e (E_rot_mem he) r (mem_rot hr)
    obtain ⟨x, y, hxy⟩ : ∃ x y, (x, y) ∈ E l0 := by
      match l0, h3 with
      | x :: y :: l, _ => exact ⟨x, y, by rw [E_two]; simp⟩
    obtain ⟨u, b, w, ⟨e1, e2, D, emp0⟩, _⟩ := ears l0.length l0 (Nat.le_refl _) h3 hs0 hl0 x y hxy
    obtain ⟨A, B, m, j1, j2⟩ := rot_edges hs0.nd h3 e1 e2
    refine ⟨A, B, j1, ?_⟩
    subst j1
    have lR := lam_rot A B h3 hs0
    have h := hs0.rot
    have hb : ∀ p q r, (p, q) ∈ E (B ++ A) → (q, r) ∈ E (B ++ A) → 0 < cr p q r := fun p q r k1 k2 => hb0 p q r (E_rot_mem k1) (E_rot_mem k2)
    have emp1 : ∀ q ∈ B ++ A, q ≠ u → q ≠ b → q ≠ w → ¬ InT u b w q := fun q hq => emp0 q (mem_rot hq)
    have hlen : (B ++ A).length = (A ++ B).length := by simp; omega
    rw [j2] at lR h hb emp1 hlen ⊢
    obtain ⟨n1, n2, n3, n4, n5, n6, n7, n8⟩ := nd_tri h.nd
    have emp : ∀ r ∈ m, ¬ InT u b w r := fun r hr => emp1 r (by simp [hr]) (by rintro rfl; exact n6 hr) (by rintro rfl; exact n4 hr) (by rintro rfl; exact n5 hr)
    by_cases hm : m = []
    · subst hm
      simp only [List.nil_append]
      intro e he r hr r1 r2
      have hE : E [b, w, u] = [(b, w), (w, u), (u, b)] := rfl
      have D1 : 0 < cr b w u := by rw [cr_rot u b w]; exact D
      have D2 : 0 < cr w u b := by rw [cr_rot b w u, cr_rot u b w]; exact D
      rw [hE] at he
      simp only [List.mem_cons, List.not_mem_nil, or_false] at he hr
      rcases he with rfl | rfl | rfl <;> rcases hr with rfl | rfl | rfl <;> simp_all
    · obtain ⟨h', hl'⟩ := ear_cut h D emp hm
      -- the neighbours of u and w
      obtain ⟨p, hp⟩ : ∃ p, fin w m = p := ⟨_, rfl⟩
      have pm : p ∈ m := by
        rw [← hp]
        cases m with
        | nil => exact absurd rfl hm
        | cons y m => simp only [fin]; exact fin_mem y m
      obtain ⟨s, k, hk⟩ : ∃ s k, m = s :: k := by
        cases m with
        | nil => exact absurd rfl hm
        | cons y m => exact ⟨y, m, rfl⟩
      have sm : s ∈ m := by rw [hk]; simp
      have epu : (p, u) ∈ ch w (m ++ [u]) := by rw [ch_snoc, hp]; simp
      have ews : (w, s) ∈ ch w (m ++ [u]) := by rw [hk]; simp [ch]
      have inE : ∀ e ∈ ch w (m ++ [u]), e ∈ E (b :: w :: (m ++ [u])) := fun e he => T.che he
      have tp : 0 < cr p u b := hb p u b (inE _ epu) T.ub
      have ts : 0 < cr b w s := hb b w s T.bw (inE _ ews)
      have pu : p ≠ u := by rintro rfl; exact n6 pm
      have pw : p ≠ w := by rintro rfl; exact n5 pm
      have su : s ≠ u := by rintro rfl; exact n6 sm
      have sw' : s ≠ w := by rintro rfl; exact n5 sm
      have tu : 0 < cr p u w := turn_u tp D (emp p pm) (h.cx (p, u) (inE _ epu) (b, w) T.bw) (fun o => by
        rcases h.on (p, u) (inE _ epu) w T.mw o with g | g
        · exact pw g.symm
        · exact n3 g)
      have tw : 0 < cr u w s := turn_w ts D (emp s sm) (h.cx (w, s) (inE _ ews) (u, b) T.ub) (fun o => by
        rcases h.on (w, s) (inE _ ews) u T.mu o with g | g
        · exact n3 g.symm
        · exact su g.symm)
      have hE' := E_cut w u m
      have bend' : ∀ x y z, (x, y) ∈ E (w :: (m ++ [u])) → (y, z) ∈ E (w :: (m ++ [u])) → 0 < cr x y z := by
        intro x y z k1 k2
        rw [hE', List.mem_append] at k1 k2
        simp only [List.mem_cons, List.not_mem_nil, or_false, Prod.mk.injEq] at k1 k2
        rcases k1 with k1 | ⟨rfl, rfl⟩ <;> rcases k2 with k2 | ⟨e1, e2⟩
        · exact hb x y z (inE _ k1) (inE _ k2)
        · subst e1; subst e2
          have := ch_last n7 k1
          rw [hp] at this; rw [this]; exact tu
        · obtain ⟨k', hk'⟩ := ch_head n7 k2
          rw [hk, List.cons_append] at hk'
          injection hk' with g1 _
          rw [← g1]; exact tw
        · exact absurd e1 n3
      have IH := ih (w :: (m ++ [u])) (by simp at hlen hn ⊢; omega) (by rw [hk]; simp) h' (by rw [hl', ← lR, hl0]) bend'
      have cuw : (u, w) ∈ E (w :: (m ++ [u])) := by rw [hE']; simp
      have inE' : ∀ e ∈ ch w (m ++ [u]), e ∈ E (w :: (m ++ [u])) := fun e he => by rw [hE']; simp [he]
      have mp : p ∈ w :: (m ++ [u]) := by simp [pm]
      have ms : s ∈ w :: (m ++ [u]) := by simp [sm]
      -- the sides ub and bw
      have su_ : ∀ r ∈ w :: (m ++ [u]), r ≠ u → 0 < cr u b r := by
        intro r hr ru
        by_cases rw_ : r = w
        · rw [rw_]; exact D
        · have i1 := IH _ cuw r hr ru rw_
          simp only at i1
          have i2 : 0 ≤ cr p u r := by
            by_cases rp : r = p
            · rw [rp, cr_same1]; omega
            · exact Int.le_of_lt (IH _ (inE' _ epu) r hr rp ru)
          have id := side_u p u b w r
          have x1 := nn (Int.le_of_lt D) i2
          have x2 := pos_mul i1 tp
          exact sg tu (by omega)
      have sw_ : ∀ r ∈ w :: (m ++ [u]), r ≠ w → 0 < cr b w r := by
        intro r hr rw_
        by_cases ru : r = u
        · rw [ru, cr_rot u b w]; exact D
        · have i1 := IH _ cuw r hr ru rw_
          simp only at i1
          have i2 : 0 ≤ cr w s r := by
            by_cases rs : r = s
            · rw [rs, cr_same2]; omega
            · exact Int.le_of_lt (IH _ (inE' _ ews) r hr rw_ rs)
          have id := side_w u b w s r
          have x1 := nn (Int.le_of_lt D) i2
          have x2 := pos_mul i1 ts
          exact sg tw (by omega)
      intro e he r hr r1 r2
      rw [E_tri, List.mem_cons, List.mem_append] at he
      simp only [List.mem_cons, List.not_mem_nil, or_false] at he
      rcases he with rfl | he | rfl
      · rcases List.mem_cons.1 hr with g | g
        · exact absurd g r1
        · exact sw_ r g r2
      · rcases List.mem_cons.1 hr with g | g
        · -- the vertex b and an old side
          subst g
          obtain ⟨a, c⟩ := e
          have mm := ch_mem he
          simp only at *
          by_cases aw : a = w
          · subst aw
            obtain ⟨k', hk'⟩ := ch_head n7 he
            rw [hk, List.cons_append] at hk'
            injection hk' with g1 _
            rw [← g1, cr_rot r a s]; exact ts
          · by_cases cu : c = u
            · subst cu
              have := ch_last n7 he
              rw [hp] at this; rw [this]; exact tp
            · have au : a ≠ u := by
                rintro rfl
                rw [ch_snoc, List.mem_append] at he
                rcases he with g | g
                · have := (ch_mem g).1
                  rcases List.mem_cons.1 this with q | q
                  · exact aw q
                  · exact n6 q
                · simp at g; exact cu g.2
              have cw : c ≠ w := by
                rintro rfl
                have := mm.2
                rw [List.nodup_cons] at n7
                exact n7.1 this
              have Fu := IH _ (inE' _ he) u (by simp) (Ne.symm au) (Ne.symm cu)
              have Fw := IH _ (inE' _ he) w (by simp) (Ne.symm aw) (Ne.symm cw)
              simp only at Fu Fw
              have ma : a ∈ w :: (m ++ [u]) := mm.1
              have k1 := su_ a ma au
              have k2 := sw_ a ma aw
              have k3 := IH _ cuw a ma au aw
              simp only at k3
              have B := bary u r w a a c
              rw [cr_same1 a c] at B
              rcases lt_ge 0 (cr a c r) with q | q
              · exact q
              · exfalso
                have r3 : cr w u a = - cr u w a := by unfold cr; grind
                have y1 := pos_mul k2 Fu
                have y2 := pos_mul k1 Fw
                have y3 := Int.mul_nonneg_of_nonpos_of_nonpos (show cr w u a ≤ 0 by omega) q
                omega
        · exact IH e (inE' e he) r g r1 r2
      · rcases List.mem_cons.1 hr with g | g
        · exact absurd g r2
        · exact su_ r g r1
end Ears
end Go.Proofs.Ytnggempmdhmoeaa

namespace Go.Proofs.Ytnggempmdhmoeaa
set_option linter.unusedVariables false
set_option linter.unusedSimpArgs false
namespace Ears

theorem ge_of {x y a b : Int} (h : a * x = b * y) (hs : (0 < a ∧ 0 < b) ∨ (a < 0 ∧ b < 0)) (hx : 0 ≤ x) : 0 ≤ y := by
  rcases hs with ⟨ha, hb⟩ | ⟨ha, hb⟩
  · have := nn (Int.le_of_lt ha) hx
    exact sge hb (by omega)
  · have := np hx (Int.le_of_lt ha)
    rw [Int.mul_comm] at this
    rcases lt_ge y 0 with c | c
    · have := neg_neg_ hb c; omega
    · exact c

theorem flat_bend {b w u : P} {m : List P} (h : Sim (b :: w :: (m ++ [u]))) (D : cr u b w = 0) (hb : ∀ p q r, (p, q) ∈ E (b :: w :: (m ++ [u])) → (q, r) ∈ E (b :: w :: (m ++ [u])) → 0 ≤ cr p q r) :
    ∀ p q r, (p, q) ∈ E (w :: (m ++ [u])) → (q, r) ∈ E (w :: (m ++ [u])) → 0 ≤ cr p q r := by
  obtain ⟨n1, n2, n3, n4, n5, n6, n7, n8⟩ := nd_tri h.nd
  have mid := flat_mid h D
  have i1 : ∀ r : P, (w.2 - u.2) * cr u b r = (b.2 - u.2) * cr u w r := by
    intro r
    have : (w.2 - u.2) * cr u b r = (b.2 - u.2) * cr u w r + (r.2 - u.2) * cr u b w := by unfold cr; grind
    rw [this, D]; omega
  have i2 : ∀ r : P, (w.2 - u.2) * cr b w r = (w.2 - b.2) * cr u w r := by
    intro r
    have : (w.2 - u.2) * cr b w r = (w.2 - b.2) * cr u w r + (w.2 - r.2) * cr u b w := by unfold cr; grind
    rw [this, D]; omega
  intro p q r h1 h2
  rw [E_cut] at h1 h2
  simp only [List.mem_append, List.mem_cons, List.not_mem_nil, or_false, Prod.mk.injEq] at h1 h2
  rcases h1 with g1 | ⟨rfl, rfl⟩ <;> rcases h2 with g2 | ⟨e1, e2⟩
  · exact hb p q r (T.che g1) (T.che g2)
  · subst e1; subst e2
    have k := hb p q b (T.che g1) T.ub
    rw [← cr_rot p q b] at k
    rw [← cr_rot p q r]
    exact ge_of (i1 p) (by omega) k
  · have k := hb b q r T.bw (T.che g2)
    exact ge_of (i2 r) (by omega) k
  · exact absurd e1 n3

/-- Leaving the flat vertices out keeps the turns and the hull. -/
theorem nf_more : ∀ (n : Nat) (l : List P) (F : P → Bool), l.length ≤ n → 3 ≤ l.length → Sim l → (∀ q ∈ l, F q = true ↔ flat l q) → (∀ p q r, (p, q) ∈ E l → (q, r) ∈ E l → 0 ≤ cr p q r) →
    (∀ p q r, (p, q) ∈ E (l.filter fun q => !F q) → (q, r) ∈ E (l.filter fun q => !F q) → 0 ≤ cr p q r) ∧ ∀ x y : P, (∀ r ∈ l.filter (fun q => !F q), 0 ≤ cr x y r) → ∀ r ∈ l, 0 ≤ cr x y r := by
  intro n
  induction n with
  | zero => intro l F h1 h2; omega
  | succ n ih =>
    intro l F hn h3 hs hF hB
    by_cases hx : ∃ b ∈ l, F b = true
    · obtain ⟨b, hb, hFb⟩ := hx
      have hfl := (hF b hb).1 hFb
      obtain ⟨A, B, e⟩ := rot_at hb
      subst e
      have sR := hs.rot
      have k2 : 2 ≤ (B ++ A).length := by simp at h3 ⊢; omega
      have kn : (B ++ A).length ≤ n := by simp at hn ⊢; omega
      obtain ⟨w, m, u, hBA⟩ : ∃ w m u, B ++ A = w :: (m ++ [u]) := by
        generalize B ++ A = k at k2
        match k, k2 with
        | w :: x :: k, _ =>
          obtain ⟨m, u, e⟩ := snoc_of (l := x :: k) (by simp)
          exact ⟨w, m, u, by rw [e]⟩
      have e2 : (b :: B) ++ A = b :: w :: (m ++ [u]) := by rw [List.cons_append, hBA]
      have hfl2 := flat_rot.1 hfl
      have hB2 : ∀ p q r, (p, q) ∈ E ((b :: B) ++ A) → (q, r) ∈ E ((b :: B) ++ A) → 0 ≤ cr p q r := fun p q r k1 k2 => hB p q r (E_rot_mem k1) (E_rot_mem k2)
      rw [e2] at sR hfl2 hB2
      have D := (flat_tri sR.nd).1 hfl2
      have mid := flat_mid sR D
      obtain ⟨n1, n2, n3, _⟩ := nd_tri sR.nd
      have hm : m ≠ [] := by
        rintro rfl
        have : On w u b := ⟨by rw [cr_rot b w u, cr_rot u b w]; exact D, by omega⟩
        rcases sR.on (w, u) (by rw [E_tri]; simp [ch]) b T.mb this with z | z
        · exact n1 z
        · exact n2 z
      obtain ⟨s', l'⟩ := flat_cut sR D hm
      have b' := flat_bend sR D hB2
      rw [← hBA] at s' b'
      have s'' := s'.rot
      have len3 : 3 ≤ (B ++ A).length := by
        rw [hBA]; cases m with
        | nil => exact absurd rfl hm
        | cons y m => simp
      have hfilt : (A ++ b :: B).filter (fun q => !F q) = (A ++ B).filter (fun q => !F q) := by
        rw [List.filter_append, List.filter_append, List.filter_cons_of_neg (by rw [hFb]; simp)]
      have := ih (A ++ B) F (by simp at kn ⊢; omega) (by simp at len3 ⊢; omega) s'' (fun q hq => by
        have hq2 : q ∈ w :: (m ++ [u]) := by rw [← hBA]; exact mem_rot hq
        rw [hF q (by simp at hq ⊢; grind), flat_rot (A := A) (B := b :: B), e2, flat_keep sR D hq2, ← hBA]
        exact flat_rot) (fun p q r k1 k2 => b' p q r (E_rot_mem k1) (E_rot_mem k2))
      rw [← hfilt] at this
      refine ⟨this.1, fun x y hr r hr2 => ?_⟩
      have old := this.2 x y hr
      by_cases rb : r = b
      · subst rb
        have hu := old u (mem_rot (by rw [hBA]; simp))
        have hw := old w (mem_rot (by rw [hBA]; simp))
        have o : On u w r := ⟨by rw [← cr_rot u w r]; have : cr w r u = - cr u r w := by unfold cr; grind
                                 rw [this, D]; rfl, by omega⟩
        exact aff_ge o (by omega) hu hw
      · exact old r (by simp at hr2 ⊢; grind)
    · have hall : ∀ q ∈ l, F q = false := fun q hq => by
        cases hc : F q with
        | false => rfl
        | true => exact absurd ⟨q, hq, hc⟩ hx
      have : l.filter (fun q => !F q) = l := by
        rw [List.filter_eq_self]; intro q hq; rw [hall q hq]; rfl
      rw [this]
      exact ⟨hB, fun x y h => h⟩

def scl (N : Int) (p : P) : P := (N * p.1, N * p.2)

/-- Triangles with a common inner point block the move. -/
theorem cover_blk {s t : List P} {d X : P} {N : Int} (hN : 0 < N) (ls : 2 ≤ s.length) (lt' : 2 ≤ t.length) (hs : ∀ e ∈ E s, 0 < crN e.1 e.2 X N) (ht : ∀ e ∈ E t, 0 < crN e.1 e.2 (sb X (scl N d)) N) : Blk s t d := by
  have key : ∀ (s : List P) (X : P), 2 ≤ s.length → (∀ e ∈ E s, 0 < crN e.1 e.2 X N) → Inn (s.map (scl N)) X := by
    intro s X h2 h
    refine left_inn (by rw [List.length_map]; exact h2) (fun e he => ?_)
    rw [E_map] at he
    obtain ⟨f, hf, rfl⟩ := List.mem_map.1 he
    have id : cr (scl N f.1) (scl N f.2) X = N * crN f.1 f.2 X N := by unfold cr scl crN; grind
    simp only
    rw [id]
    exact pos_mul hN (h f hf)
  intro u hu
  obtain ⟨p', hp', d1⟩ := key s X ls hs u hu
  obtain ⟨q', hq', d2⟩ := key t _ lt' ht (-u.1, -u.2) (by intro z; injection z with z1 z2; exact hu (Prod.ext (by omega) (by omega)))
  obtain ⟨p, hp, rfl⟩ := List.mem_map.1 hp'
  obtain ⟨q, hq, rfl⟩ := List.mem_map.1 hq'
  refine ⟨p, hp, q, hq, ?_⟩
  have id : N * dt u (sb (sb p q) d) = dt u (sb (scl N p) X) + dt (-u.1, -u.2) (sb (scl N q) (sb X (scl N d))) := by unfold dt sb scl; grind
  exact sgt hN (by omega)

theorem ratio_trans {sv sw sq tv tw tq : Int} (e1 : sv * tw = sw * tv) (m : sv * tq ≤ sq * tv) (av : 0 < tv) (aw : 0 < tw) : sw * tq ≤ sq * tw := by
  have x1 := nn (Int.le_of_lt aw) (show 0 ≤ sq * tv - sv * tq by omega)
  have e : tw * (sq * tv - sv * tq) = tv * (sq * tw) - (sv * tw) * tq := by grind
  rw [e, e1] at x1
  have : 0 ≤ tv * (sq * tw - sw * tq) := by grind
  have := sge av this
  omega

/-- Every vertex supports the hull: no point lies beyond all vertices. -/
theorem support {l r : List P} (h : HullCvx l r) (u : P) {p : P} (hp : p ∈ l) : ∃ v ∈ r, dt u p ≤ dt u v := by
  apply Classical.byContradiction
  intro hc
  have hlt : ∀ v ∈ r, 0 < - dt u (sb v p) := by
    intro v hv
    rcases lt_ge (dt u v) (dt u p) with c | c
    · have : dt u (sb v p) = dt u v - dt u p := by unfold dt sb; grind
      omega
    · exact absurd ⟨v, hv, c⟩ hc
  have h2 : 2 ≤ r.length := by have := h.len; omega
  have hid : ∀ x y : P, dt u u * cr x y p = (u.1 * (sb x p).2 - u.2 * (sb x p).1) * (- dt u (sb y p)) - (u.1 * (sb y p).2 - u.2 * (sb y p).1) * (- dt u (sb x p)) := by
    intro x y; unfold dt sb cr; grind
  obtain ⟨v, hv, hmin⟩ := exists_min_ratio (l := r) (a := fun v => - dt u (sb v p)) (s := fun v => u.1 * (sb v p).2 - u.2 * (sb v p).1) (by intro e; rw [e] at h2; simp at h2) hlt
  have uu : 0 < dt u u := by
    apply dt_pos
    intro z
    have := hlt v hv
    rw [z] at this; unfold dt at this; simp at this
  have nexts : ∀ v ∈ r, (∀ q ∈ r, (u.1 * (sb v p).2 - u.2 * (sb v p).1) * (- dt u (sb q p)) ≤ (u.1 * (sb q p).2 - u.2 * (sb q p).1) * (- dt u (sb v p))) → ∀ w, (v, w) ∈ E r → cr v w p = 0 ∧ (u.1 * (sb v p).2 - u.2 * (sb v p).1) * (- dt u (sb w p)) = (u.1 * (sb w p).2 - u.2 * (sb w p).1) * (- dt u (sb v p)) := by
    intro v hv hm w hw
    have g := h.left _ hw p hp
    simp only at g
    have i := hid v w
    have m := hm w (E_mem hw).2
    have := nn (Int.le_of_lt uu) g
    have e : (u.1 * (sb v p).2 - u.2 * (sb v p).1) * (- dt u (sb w p)) = (u.1 * (sb w p).2 - u.2 * (sb w p).1) * (- dt u (sb v p)) := by omega
    refine ⟨?_, e⟩
    rcases Int.mul_eq_zero.1 (show dt u u * cr v w p = 0 by omega) with q | q
    · omega
    · exact q
  obtain ⟨w, hw⟩ := E_next h2 hv
  obtain ⟨z1, e1⟩ := nexts v hv hmin w hw
  obtain ⟨x, hx⟩ := E_next h2 (E_mem hw).2
  have mw : ∀ q ∈ r, (u.1 * (sb w p).2 - u.2 * (sb w p).1) * (- dt u (sb q p)) ≤ (u.1 * (sb q p).2 - u.2 * (sb q p).1) * (- dt u (sb w p)) := by
    intro q hq
    have m := hmin q hq
    exact ratio_trans e1 m (hlt v hv) (hlt w (E_mem hw).2)
  obtain ⟨z2, _⟩ := nexts w (E_mem hw).2 mw x hx
  have t := h.turn _ _ _ hw hx
  have wp : w = p := by
    have j1 : (p.1 - w.1) * cr v w x = cr v w p * (x.1 - w.1) - cr w x p * (w.1 - v.1) := by unfold cr; grind
    have j2 : (p.2 - w.2) * cr v w x = cr v w p * (x.2 - w.2) - cr w x p * (w.2 - v.2) := by unfold cr; grind
    rw [z1, z2] at j1 j2
    have k1 : p.1 - w.1 = 0 := by rcases Int.mul_eq_zero.1 (show (p.1 - w.1) * cr v w x = 0 by omega) with q | q <;> omega
    have k2 : p.2 - w.2 = 0 := by rcases Int.mul_eq_zero.1 (show (p.2 - w.2) * cr v w x = 0 by omega) with q | q <;> omega
    exact Prod.ext (by omega) (by omega)
  have := hlt w (E_mem hw).2
  rw [wp] at this; unfold dt sb at this; simp at this
end Ears
end Go.Proofs.Ytnggempmdhmoeaa

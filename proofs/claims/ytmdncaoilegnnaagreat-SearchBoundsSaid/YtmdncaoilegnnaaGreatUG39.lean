/- Plain geometry of simple polygons. Plain geometry of simple polygons. Plain geometry of simple polygons. Plain geometry of simple polygons. Plain geometry of simple polygons. -/
import Derived.Test.YtmdncaoilegnnaaGreatUG38
namespace Go.Proofs.YtmdncaoilegnnaaGreat
set_option linter.unusedVariables false
set_option linter.unusedSimpArgs false
set_option linter.unusedVariables false
set_option linter.unusedSimpArgs false
namespace Ears

theorem E_two (b w : P) (r : List P) : E (b :: w :: r) = (b, w) :: (ch w r ++ [(fin w r, b)]) := by
  simp only [E, List.cons_append, ch]; rw [ch_snoc]
theorem E_tri (b w u : P) (m : List P) : E (b :: w :: (m ++ [u])) = (b, w) :: (ch w (m ++ [u]) ++ [(u, b)]) := by
  rw [E_two, fin_snoc]
theorem E_cut (w u : P) (m : List P) : E (w :: (m ++ [u])) = ch w (m ++ [u]) ++ [(u, w)] := by
  simp only [E]; rw [ch_snoc, fin_snoc]
theorem rot_at {l : List P} {b : P} (h : b ∈ l) : ∃ A B, l = A ++ b :: B := List.append_of_mem h
theorem snoc_of {l : List P} (h : l ≠ []) : ∃ m u, l = m ++ [u] := by
  rcases List.eq_nil_or_concat l with e | ⟨m, u, e⟩
  · exact absurd e h
  · exact ⟨m, u, by rw [e]; simp⟩
/-- A rotation that begins with a vertex. -/
theorem rot_form {l : List P} {b : P} (h : b ∈ l) (h3 : 3 ≤ l.length) : ∃ A B w m u, l = A ++ B ∧ B ++ A = b :: w :: (m ++ [u]) := by
  obtain ⟨A, B, rfl⟩ := rot_at h
  have : 2 ≤ (B ++ A).length := by simp at h3 ⊢; omega
  generalize hk : B ++ A = k at this
  match k, this with
  | w :: x :: k, _ =>
    obtain ⟨m, u, e⟩ := snoc_of (l := x :: k) (by simp)
    exact ⟨A, b :: B, w, m, u, rfl, by rw [List.cons_append, hk, e]⟩
theorem nd_tri {b w u : P} {m : List P} (h : (b :: w :: (m ++ [u])).Nodup) : b ≠ w ∧ b ≠ u ∧ w ≠ u ∧ b ∉ m ∧ w ∉ m ∧ u ∉ m ∧ (w :: (m ++ [u])).Nodup ∧ m.Nodup := by
  have h' := h
  rw [List.nodup_cons] at h
  obtain ⟨h1, h2⟩ := h
  have h3 := h2
  rw [List.nodup_cons] at h3
  obtain ⟨h4, h5⟩ := h3
  rw [List.nodup_append] at h5
  simp only [List.mem_cons, List.mem_append, List.not_mem_nil, or_false, not_or] at h1 h4
  exact ⟨h1.1, h1.2.2, h4.2, h1.2.1, h4.1, fun hu => h5.2.2 u hu u (by simp) rfl, h2, h5.1⟩
theorem edges_tri {b w u : P} {m : List P} (h : (b :: w :: (m ++ [u])).Nodup) {x : P} :
    ((b, x) ∈ E (b :: w :: (m ++ [u])) → x = w) ∧ ((x, b) ∈ E (b :: w :: (m ++ [u])) → x = u) := by
  obtain ⟨n1, n2, n3, n4, n5, n6, n7, n8⟩ := nd_tri h
  rw [E_tri]
  constructor
  · intro hx
    simp only [List.mem_cons, List.mem_append, List.not_mem_nil, or_false, Prod.mk.injEq] at hx
    rcases hx with ⟨_, e⟩ | hx | ⟨e, _⟩
    · exact e
    · have := (ch_mem hx).1
      simp only [List.mem_cons, List.mem_append, List.not_mem_nil, or_false] at this
      rcases this with e | e | e
      · exact absurd e n1
      · exact absurd e n4
      · exact absurd e n2
    · exact absurd e n2
  · intro hx
    simp only [List.mem_cons, List.mem_append, List.not_mem_nil, or_false, Prod.mk.injEq] at hx
    rcases hx with ⟨_, e⟩ | hx | ⟨e, _⟩
    · exact absurd e n1
    · have := (ch_mem hx).2
      simp only [List.mem_append, List.mem_cons, List.not_mem_nil, or_false] at this
      rcases this with e | e
      · exact absurd e n4
      · exact absurd e n2
    · exact e
theorem nodup_rot {A B : List P} (h : (A ++ B).Nodup) : (B ++ A).Nodup := by
  rw [List.nodup_append] at h ⊢
  exact ⟨h.2.1, h.1, fun a ha b hb => fun e => h.2.2 b hb a ha e.symm⟩
theorem rot_edges {l : List P} (nd : l.Nodup) (h3 : 3 ≤ l.length) {u b w : P} (h1 : (u, b) ∈ E l) (h2 : (b, w) ∈ E l) : ∃ A B m, l = A ++ B ∧ B ++ A = b :: w :: (m ++ [u]) := by
  obtain ⟨A, B, w', m, u', e1, e2⟩ := rot_form (E_mem h2).1 h3
  subst e1
  have nd2 := nodup_rot nd
  have q1 := E_rot_mem h1
  have q2 := E_rot_mem h2
  rw [e2] at nd2 q1 q2
  have a := (edges_tri nd2).1 q2
  have c := (edges_tri nd2).2 q1
  subst a; subst c
  exact ⟨A, B, m, rfl, e2⟩
theorem cut_sim {b w u : P} {m : List P} (h : Sim (b :: w :: (m ++ [u]))) (c1 : ∀ r ∈ w :: (m ++ [u]), On u w r → r = u ∨ r = w) (c2 : ∀ e ∈ ch w (m ++ [u]), ¬ Crs u w e.1 e.2) : Sim (w :: (m ++ [u])) := by
  have sub : ∀ e ∈ ch w (m ++ [u]), e ∈ E (b :: w :: (m ++ [u])) := fun e he => by rw [E_tri]; simp [he]
  refine ⟨(nd_tri h.nd).2.2.2.2.2.2.1, fun p hp q hq => h.ht p (List.mem_cons_of_mem _ hp) q (List.mem_cons_of_mem _ hq), ?_, ?_⟩
  · intro e he r hr o
    rw [E_cut, List.mem_append] at he
    rcases he with he | he
    · exact h.on e (sub e he) r (List.mem_cons_of_mem _ hr) o
    · simp only [List.mem_cons, List.not_mem_nil, or_false] at he
      subst he
      exact c1 r hr o
  · intro e he f hf x
    rw [E_cut, List.mem_append] at he hf
    simp only [List.mem_cons, List.not_mem_nil, or_false] at he hf
    rcases he with he | he <;> rcases hf with hf | hf
    · exact h.cx e (sub e he) f (sub f hf) x
    · subst hf; exact c2 e he x.swap
    · subst he; exact c2 f hf x
    · subst he; subst hf
      have := x.1
      rw [cr_same1] at this; unfold opp at this; omega
theorem cut_lam {b w u y : P} {m : List P} (h : Sim (b :: w :: (y :: m ++ [u]))) (h' : Sim (w :: (y :: m ++ [u]))) (tp : (ray y u b ^^ ray y b w ^^ ray y w u) = false) :
    lam (w :: (y :: m ++ [u])) = lam (b :: w :: (y :: m ++ [u])) := by
  have r1 := lam_rot [b, w] (y :: m ++ [u]) (by simp) h
  have r2 := lam_rot [w] (y :: m ++ [u]) (by simp) h'
  simp only [List.cons_append, List.nil_append] at r1 r2 ⊢
  rw [r1, r2]
  have : ∃ x k, m ++ [u] = x :: k := by
    cases m with
    | nil => exact ⟨u, [], rfl⟩
    | cons x m => exact ⟨x, m ++ [u], rfl⟩
  obtain ⟨x, k, e⟩ := this
  have fk : fin x k = u := by
    have := fin_snoc y m u
    rw [e] at this; exact this
  rw [e]
  simp only [List.cons_append, lam, fin_snoc]
  rw [show k ++ [b, w] = (k ++ [b]) ++ [w] by simp, fin_snoc, ch_snoc x (k ++ [b]), fin_snoc, ch_snoc x k b, ch_snoc x k w, fk]
  simp only [par_append, par]
  revert tp
  rw [show rayE y (u, w) = ray y u w from rfl, show rayE y (u, b) = ray y u b from rfl, show rayE y (b, w) = ray y b w from rfl, ray_flip y u w]
  generalize par (rayE y) (ch x k) = X1
  generalize ray y u w = X2
  generalize ray y u b = X3
  generalize ray y b w = X4
  generalize loc w y x = X5
  cases X1 <;> cases X2 <;> cases X3 <;> cases X4 <;> cases X5 <;> simp
theorem mem_cut {w u r : P} {m : List P} (h : r ∈ w :: (m ++ [u])) : r = w ∨ r = u ∨ r ∈ m := by
  simp only [List.mem_cons, List.mem_append, List.not_mem_nil, or_false] at h
  rcases h with h | h | h
  · exact .inl h
  · exact .inr (.inr h)
  · exact .inr (.inl h)
section
variable {b w u : P} {m : List P}
theorem T.bw : (b, w) ∈ E (b :: w :: (m ++ [u])) := by rw [E_tri]; simp
theorem T.ub : (u, b) ∈ E (b :: w :: (m ++ [u])) := by rw [E_tri]; simp
theorem T.che {e : P × P} (he : e ∈ ch w (m ++ [u])) : e ∈ E (b :: w :: (m ++ [u])) := by rw [E_tri]; simp [he]
theorem T.mb : b ∈ b :: w :: (m ++ [u]) := by simp
theorem T.mw : w ∈ b :: w :: (m ++ [u]) := by simp
theorem T.mu : u ∈ b :: w :: (m ++ [u]) := by simp
theorem T.nb {e : P × P} (nd : (b :: w :: (m ++ [u])).Nodup) (he : e ∈ ch w (m ++ [u])) : e.1 ≠ b ∧ e.2 ≠ b := by
  obtain ⟨n1, n2, n3, n4, n5, n6, n7, n8⟩ := nd_tri nd
  have hh := ch_mem he
  constructor
  · intro z; rw [z] at hh
    rcases mem_cut hh.1 with q | q | q
    · exact n1 q
    · exact n2 q
    · exact n4 q
  · intro z; rw [z] at hh
    rcases mem_cut (List.mem_cons_of_mem w hh.2) with q | q | q
    · exact n1 q
    · exact n2 q
    · exact n4 q
end

theorem ear_chord {b w u : P} {m : List P} (h : Sim (b :: w :: (m ++ [u]))) (D : 0 < cr u b w) (emp : ∀ r ∈ m, ¬ InT u b w r) :
    (∀ r ∈ w :: (m ++ [u]), On u w r → r = u ∨ r = w) ∧ (∀ e ∈ ch w (m ++ [u]), ¬ Crs u w e.1 e.2) := by
  obtain ⟨n1, n2, n3, n4, n5, n6, n7, n8⟩ := nd_tri h.nd
  have hT : ∀ r, r ∈ w :: (m ++ [u]) → r = u ∨ r = w ∨ ¬ InT u b w r := by
    intro r hr
    rcases mem_cut hr with q | q | q
    · exact .inr (.inl q)
    · exact .inl q
    · exact .inr (.inr (emp r q))
  refine ⟨fun r hr o => ?_, fun e he => ?_⟩
  · rcases hT r hr with q | q | q
    · exact .inl q
    · exact .inr q
    · exact absurd (InT.seg (InT.tip1 D) (InT.tip3 D) (h.ne T.mu T.mw n3.symm) o) q
  · have hh := ch_mem he
    have nb := T.nb h.nd he
    exact chord_core D (h.cx _ T.ub _ (T.che he)) (h.cx _ T.bw _ (T.che he)) (hT _ hh.1) (hT _ (List.mem_cons_of_mem w hh.2))
      (fun o => by rcases h.on _ (T.che he) b T.mb o with q | q; exact nb.1 q.symm; exact nb.2 q.symm)
theorem flat_mid {b w u : P} {m : List P} (h : Sim (b :: w :: (m ++ [u]))) (D : cr u b w = 0) : (u.2 < b.2 ∧ b.2 < w.2) ∨ (w.2 < b.2 ∧ b.2 < u.2) := by
  obtain ⟨n1, n2, n3, n4, n5, n6, n7, n8⟩ := nd_tri h.nd
  have e1 := h.ne T.mb T.mw n1
  have e2 := h.ne T.mb T.mu n2
  have e3 := h.ne T.mw T.mu n3
  have o1 : ¬ On b w u := fun o => by rcases h.on _ T.bw u T.mu o with q | q; exact n2 q.symm; exact n3 q.symm
  have o2 : ¬ On u b w := fun o => by rcases h.on _ T.ub w T.mw o with q | q; exact n3 q; exact n1 q.symm
  unfold On at o1 o2
  rw [cr_rot u b w] at o1
  omega
theorem flat_chord {b w u : P} {m : List P} (h : Sim (b :: w :: (m ++ [u]))) (D : cr u b w = 0) :
    (∀ r ∈ w :: (m ++ [u]), On u w r → r = u ∨ r = w) ∧ (∀ e ∈ ch w (m ++ [u]), ¬ Crs u w e.1 e.2) := by
  obtain ⟨n1, n2, n3, n4, n5, n6, n7, n8⟩ := nd_tri h.nd
  have mid := flat_mid h D
  have i1 : ∀ r : P, (w.2 - u.2) * cr u b r = (b.2 - u.2) * cr u w r := by
    intro r
    have : (w.2 - u.2) * cr u b r = (b.2 - u.2) * cr u w r + (r.2 - u.2) * cr u b w := by unfold cr; grind
    rw [this, D]; omega
  have i2 : ∀ r : P, (w.2 - u.2) * cr b w r = (w.2 - b.2) * cr u w r := by
    intro r
    have : (w.2 - u.2) * cr b w r = (w.2 - b.2) * cr u w r + (w.2 - r.2) * cr u b w := by unfold cr; grind
    rw [this, D]; omega
  refine ⟨fun r hr o => ?_, fun e he x => ?_⟩
  · have z1 := i1 r
    have z2 := i2 r
    rw [o.1] at z1 z2
    have y1 : cr u b r = 0 := by
      rcases Int.mul_eq_zero.1 (show (w.2 - u.2) * cr u b r = 0 by omega) with q | q <;> omega
    have y2 : cr b w r = 0 := by
      rcases Int.mul_eq_zero.1 (show (w.2 - u.2) * cr b w r = 0 by omega) with q | q <;> omega
    have rb : r ≠ b := by
      rintro rfl
      rcases mem_cut hr with q | q | q
      · exact n1 q
      · exact n2 q
      · exact n4 q
    have o2 := o.2
    by_cases c : (u.2 ≤ r.2 ∧ r.2 ≤ b.2) ∨ (b.2 ≤ r.2 ∧ r.2 ≤ u.2)
    · rcases h.on _ T.ub r (List.mem_cons_of_mem _ hr) ⟨y1, c⟩ with q | q
      · exact .inl q
      · exact absurd q rb
    · rcases h.on _ T.bw r (List.mem_cons_of_mem _ hr) ⟨y2, by simp only; omega⟩ with q | q
      · exact absurd q rb
      · exact .inr q
  · have nb := T.nb h.nd he
    have x1 := h.cx _ T.ub _ (T.che he)
    have x2 := h.cx _ T.bw _ (T.che he)
    have ob : ¬ On e.1 e.2 b := fun o => by rcases h.on _ (T.che he) b T.mb o with q | q; exact nb.1 q.symm; exact nb.2 q.symm
    obtain ⟨s, t⟩ := e
    simp only at x1 x2 ob x
    obtain ⟨g, f⟩ := x
    have og1 : opp (cr u b s) (cr u b t) := by
      have a := i1 s; have c := i1 t
      rcases mid with ⟨p, q⟩ | ⟨p, q⟩
      · have s1 := sgn_eq (A := cr u b s) (C := - cr u w s) (p := w.2 - u.2) (q := b.2 - u.2) (by omega) (by omega) (by grind)
        have s2 := sgn_eq (A := cr u b t) (C := - cr u w t) (p := w.2 - u.2) (q := b.2 - u.2) (by omega) (by omega) (by grind)
        unfold opp at *; omega
      · have s1 := sgn_eq (A := cr u b s) (C := - cr u w s) (p := u.2 - w.2) (q := u.2 - b.2) (by omega) (by omega) (by grind)
        have s2 := sgn_eq (A := cr u b t) (C := - cr u w t) (p := u.2 - w.2) (q := u.2 - b.2) (by omega) (by omega) (by grind)
        unfold opp at *; omega
    have og2 : opp (cr b w s) (cr b w t) := by
      have a := i2 s; have c := i2 t
      rcases mid with ⟨p, q⟩ | ⟨p, q⟩
      · have s1 := sgn_eq (A := cr b w s) (C := - cr u w s) (p := w.2 - u.2) (q := w.2 - b.2) (by omega) (by omega) (by grind)
        have s2 := sgn_eq (A := cr b w t) (C := - cr u w t) (p := w.2 - u.2) (q := w.2 - b.2) (by omega) (by omega) (by grind)
        unfold opp at *; omega
      · have s1 := sgn_eq (A := cr b w s) (C := - cr u w s) (p := u.2 - w.2) (q := b.2 - w.2) (by omega) (by omega) (by grind)
        have s2 := sgn_eq (A := cr b w t) (C := - cr u w t) (p := u.2 - w.2) (q := b.2 - w.2) (by omega) (by omega) (by grind)
        unfold opp at *; omega
    have nf : cr s t b ≠ 0 := fun z => ob (on_of_opp og1 z)
    have a1 : ¬ opp (cr s t u) (cr s t b) := fun o => x1 ⟨og1, o⟩
    have a2 : ¬ opp (cr s t b) (cr s t w) := fun o => x2 ⟨og2, o⟩
    unfold opp at *
    omega
/-- Cutting an ear off. -/
theorem ear_cut {b w u : P} {m : List P} (h : Sim (b :: w :: (m ++ [u]))) (D : 0 < cr u b w) (emp : ∀ r ∈ m, ¬ InT u b w r) (hm : m ≠ []) :
    Sim (w :: (m ++ [u])) ∧ lam (w :: (m ++ [u])) = lam (b :: w :: (m ++ [u])) := by
  have c := ear_chord h D emp
  have h' := cut_sim h c.1 c.2
  obtain ⟨n1, n2, n3, n4, n5, n6, n7, n8⟩ := nd_tri h.nd
  cases m with
  | nil => exact absurd rfl hm
  | cons y m =>
    refine ⟨h', cut_lam h h' ?_⟩
    have my : y ∈ b :: w :: (y :: m ++ [u]) := by simp
    refine tri_par D (emp y (by simp)) (h.ne T.mu my ?_) (h.ne T.mb my ?_) (h.ne T.mw my ?_)
    · rintro rfl; simp at n6
    · rintro rfl; simp at n4
    · rintro rfl; simp at n5
/-- Leaving a flat vertex out. -/
theorem flat_cut {b w u : P} {m : List P} (h : Sim (b :: w :: (m ++ [u]))) (D : cr u b w = 0) (hm : m ≠ []) :
    Sim (w :: (m ++ [u])) ∧ lam (w :: (m ++ [u])) = lam (b :: w :: (m ++ [u])) := by
  have c := flat_chord h D
  have h' := cut_sim h c.1 c.2
  obtain ⟨n1, n2, n3, n4, n5, n6, n7, n8⟩ := nd_tri h.nd
  cases m with
  | nil => exact absurd rfl hm
  | cons y m =>
    refine ⟨h', cut_lam h h' ?_⟩
    have my : y ∈ b :: w :: (y :: m ++ [u]) := by simp
    refine flat_par D (flat_mid h D) (h.ne T.mu my ?_) (h.ne T.mb my ?_) (h.ne T.mw my ?_)
    · rintro rfl; simp at n6
    · rintro rfl; simp at n4
    · rintro rfl; simp at n5
end Ears
end Go.Proofs.YtmdncaoilegnnaaGreat

namespace Go.Proofs.YtmdncaoilegnnaaGreat
set_option linter.unusedVariables false
set_option linter.unusedSimpArgs false
set_option linter.unusedVariables false
set_option linter.unusedSimpArgs false
namespace Ears

def Ear (l : List P) (u b w : P) : Prop := (u, b) ∈ E l ∧ (b, w) ∈ E l ∧ 0 < cr u b w ∧ ∀ q ∈ l, q ≠ u → q ≠ b → q ≠ w → ¬ InT u b w q
theorem Ear.rot {A B : List P} {u b w : P} (h : Ear (A ++ B) u b w) : Ear (B ++ A) u b w :=
  ⟨E_rot_mem h.1, E_rot_mem h.2.1, h.2.2.1, fun q hq => h.2.2.2 q (mem_rot hq)⟩
theorem Sim.ed {Q : List P} (h : Sim Q) (h2 : 2 ≤ Q.length) {e : P × P} (he : e ∈ E Q) : e.1 ≠ e.2 := by
  match Q, h2 with
  | b :: w :: r, _ =>
    rw [E_two] at he
    have nd := h.nd
    rw [List.nodup_cons] at nd
    simp only [List.mem_cons, List.mem_append, List.not_mem_nil, or_false] at he
    rcases he with rfl | he | rfl
    · intro e; simp only at e; subst e; simp at nd
    · exact ch_ne nd.2 he
    · intro e; simp only at e
      have := fin_mem w r
      rw [e] at this; exact nd.1 this
theorem closed_par {Q : List P} {s t : P} (hn : ∀ e ∈ E Q, NM e.1 e.2 s t) (hh : ∀ r ∈ Q, r.2 ≠ s.2 ∧ r.2 ≠ t.2) (hd : ∀ e ∈ E Q, e.1.2 ≠ e.2.2) (hst : s.2 ≠ t.2) : par (rayE s) (E Q) = par (rayE t) (E Q) := by
  cases Q with
  | nil => rfl
  | cons x k =>
    have := chain_par (x := x) (l := k ++ [x]) hn (fun r hr => hh r (by simp at hr ⊢; grind)) hd hst
    rw [fin_snoc] at this
    simp only [E]
    revert this
    generalize par (rayE s) (ch x (k ++ [x])) = X1
    generalize par (rayE t) (ch x (k ++ [x])) = X2
    generalize gg s t x = X3
    cases X1 <;> cases X2 <;> cases X3 <;> simp
theorem const_chain {g : P → Bool} {x : P} {k : List P} (h : ∀ e ∈ ch x k, g e.1 = g e.2) : ∀ q ∈ x :: k, g q = g x := by
  induction k generalizing x with
  | nil => intro q hq; simp at hq; rw [hq]
  | cons y k ih =>
    intro q hq
    have h0 := h (x, y) (by simp [ch])
    rcases List.mem_cons.1 hq with e | e
    · rw [e]
    · rw [ih (fun e he => h e (by simp [ch, he])) q e]; exact h0.symm
theorem low_par {v y : P} {r : List P} (hv : ∀ z ∈ y :: r, v.2 < z.2) : par (rayE v) (ch y r) = false := by
  refine par_false fun e he => ?_
  have m := ch_mem he
  have a := hv _ m.1
  have b := hv _ (List.mem_cons_of_mem _ m.2)
  unfold rayE ray
  rw [decide_eq_false_iff_not]; omega
theorem lam_low {v w : P} {r : List P} (hv : ∀ z ∈ w :: r, v.2 < z.2) : lam (v :: w :: r) = decide (0 < cr (fin w r) v w) := by
  have a := hv w (by simp)
  have b := hv _ (fin_mem w r)
  simp only [lam, low_par hv, Bool.false_xor]
  unfold loc
  rw [decide_eq_decide]; omega
theorem out0 {v y o : P} {r : List P} (hv : ∀ z ∈ y :: r, v.2 < z.2) (ho : v.2 < o.2) (hn : ∀ e ∈ ch y r, NM e.1 e.2 v o) (hh : ∀ z ∈ y :: r, z.2 ≠ o.2) (hd : ∀ e ∈ ch y r, e.1.2 ≠ e.2.2)
    (a1 : ¬ On v o (fin y r)) (a2 : ¬ On (fin y r) v o) (b1 : ¬ On o v y) (b2 : ¬ On v y o) :
    par (rayE o) (E (v :: y :: r)) = (true ^^ loc (fin y r) v o ^^ loc o v y) := by
  have hc := chain_par (x := y) (l := r) (s := v) (t := o) hn (fun z hz => ⟨by have := hv z hz; omega, hh z hz⟩) hd (by omega)
  have hf := fin_mem y r
  have pA := partA (u := fin y r) (b := v) (w := o) (by have := hv _ hf; omega) (by omega) (hh _ hf) a1 a2
  have vy := hv y (by simp)
  have pB := partB (b := o) (w := v) (x := y) (by omega) (by omega) (by have := hh y (by simp); omega) b1 b2
  rw [low_par hv] at hc
  rw [E_two]
  simp only [par, par_append]
  rw [show rayE o (v, y) = ray o v y from rfl, show rayE o (fin y r, v) = ray o (fin y r) v from rfl]
  rw [gg_flip v o y] at pB
  rw [show decide (v.2 < o.2) = true from decide_eq_true ho] at pA
  rw [show decide (o.2 < v.2) = false from decide_eq_false (by omega)] at pB
  revert hc pA pB
  generalize par (rayE o) (ch y r) = X1
  generalize gg v o y = X2
  generalize gg v o (fin y r) = X3
  generalize ray o (fin y r) v = X4
  generalize ray o v y = X5
  generalize loc (fin y r) v o = X6
  generalize loc o v y = X7
  cases X1 <;> cases X2 <;> cases X3 <;> cases X4 <;> cases X5 <;> cases X6 <;> cases X7 <;> simp
theorem cr_bqw (b q w : P) : cr b q w = - cr b w q := by unfold cr; grind
theorem ear_odd {b w u q : P} {m : List P} (h : Sim (b :: w :: (m ++ [u]))) (hl : lam (b :: w :: (m ++ [u])) = true) (D : 0 < cr u b w) (emp : ∀ r ∈ m, ¬ InT u b w r)
    (hq : InT u b w q) (q1 : 0 < cr u b q) (q2 : 0 < cr b w q) (hqh : ∀ r ∈ b :: w :: (m ++ [u]), r.2 ≠ q.2) (hqe : ∀ e ∈ E (b :: w :: (m ++ [u])), ¬ On e.1 e.2 q) :
    par (rayE q) (E (b :: w :: (m ++ [u]))) = true := by
  obtain ⟨n1, n2, n3, n4, n5, n6, n7, n8⟩ := nd_tri h.nd
  have dbq := hqh b T.mb
  have hT : ∀ r, r ∈ w :: (m ++ [u]) → r = u ∨ r = w ∨ ¬ InT u b w r := by
    intro r hr
    rcases mem_cut hr with q | q | q
    · exact .inr (.inl q)
    · exact .inl q
    · exact .inr (.inr (emp r q))
  have seg : ∀ r, r ∈ w :: (m ++ [u]) → ¬ On b q r := by
    intro r hr o
    rcases hT r hr with e | e | e
    · subst e; have := o.1; rw [cr_rot r b q] at this; omega
    · subst e; have := o.1; rw [cr_bqw] at this; omega
    · exact e (InT.seg (InT.tip2 D) hq dbq o)
  have hc := chain_par (x := w) (l := m ++ [u]) (s := b) (t := q) (fun e he => by
      have hh := ch_mem he
      have nb := T.nb h.nd he
      have hE := T.che (b := b) he
      refine ⟨fun o => ?_, hqe e hE, seg _ hh.1, seg _ (List.mem_cons_of_mem w hh.2), fun x => ?_⟩
      · rcases h.on _ hE b T.mb o with e | e
        · exact nb.1 e.symm
        · exact nb.2 e.symm
      · exact tri_core D q1 q2 hq.2.2 (h.cx _ T.ub _ hE) (h.cx _ T.bw _ hE) (hT _ hh.1) (hT _ (List.mem_cons_of_mem w hh.2)) x.swap)
    (fun r hr => ⟨h.ne (List.mem_cons_of_mem _ hr) T.mb (by rintro rfl; exact (List.nodup_cons.1 h.nd).1 hr), hqh r (List.mem_cons_of_mem _ hr)⟩)
    (fun e he => h.ne (List.mem_cons_of_mem _ (ch_mem he).1) (List.mem_cons_of_mem _ (List.mem_cons_of_mem _ (ch_mem he).2)) (ch_ne n7 he))
    dbq
  rw [fin_snoc] at hc
  have pA := partA (u := u) (b := b) (w := q) (h.ne T.mu T.mb n2.symm) dbq (hqh u T.mu) (seg u (by simp)) (hqe (u, b) T.ub)
  have pB := partB (b := q) (w := b) (x := w) (Ne.symm dbq) (h.ne T.mb T.mw n1) (Ne.symm (hqh w T.mw)) (fun o => seg w (by simp) o.symm) (hqe (b, w) T.bw)
  have L := loc_split D q1 q2 (h.ne T.mu T.mb n2.symm) (h.ne T.mw T.mb n1.symm) (Ne.symm dbq)
  rw [gg_flip b q w] at pB
  simp only [lam, fin_snoc] at hl
  rw [E_tri]
  simp only [par, par_append]
  rw [show rayE q (b, w) = ray q b w from rfl, show rayE q (u, b) = ray q u b from rfl]
  have hx : (decide (b.2 < q.2) ^^ decide (q.2 < b.2)) = true := by
    rcases Int.lt_or_gt_of_ne dbq with c | c
    · rw [decide_eq_true c, decide_eq_false (by omega)]; rfl
    · rw [decide_eq_false (by omega), decide_eq_true (by omega)]; rfl
  revert hc pA pB hl L hx
  generalize par (rayE b) (ch w (m ++ [u])) = X1
  generalize par (rayE q) (ch w (m ++ [u])) = X2
  generalize gg b q w = X3
  generalize gg b q u = X4
  generalize ray q u b = X5
  generalize ray q b w = X6
  generalize loc u b w = X7
  generalize loc u b q = X8
  generalize loc q b w = X9
  generalize decide (b.2 < q.2) = Y1
  generalize decide (q.2 < b.2) = Y2
  clear n1 n2 n3 n4 n5 n6 n7 n8 seg hT
  cases X1 <;> cases X3 <;> cases X4 <;> cases X5 <;> cases X6 <;> cases X7 <;> cases X8 <;> simp <;> grind
theorem sub_sim {l Q : List P} {p q : P} (h : Sim l) (nd : Q.Nodup) (sub : ∀ r ∈ Q, r ∈ l) (he : ∀ e ∈ E Q, e ∈ E l ∨ e = (p, q))
    (c1 : ∀ r ∈ l, On p q r → r = p ∨ r = q) (c2 : ∀ f ∈ E l, ¬ Crs p q f.1 f.2) : Sim Q := by
  refine ⟨nd, fun p hp q hq => h.ht p (sub p hp) q (sub q hq), fun e hE r hr o => ?_, fun e hE f hF x => ?_⟩
  · rcases he e hE with k | k
    · exact h.on e k r (sub r hr) o
    · subst k; exact c1 r (sub r hr) o
  · rcases he e hE with k | k <;> rcases he f hF with j | j
    · exact h.cx e k f j x
    · subst j; exact c2 e k x.swap
    · subst k; exact c2 f j x
    · subst k; subst j
      have := x.1
      rw [cr_same1] at this; unfold opp at this; omega
theorem ear_lift {l Q : List P} {p q : P} (h : Sim l) (hQ : Sim Q) (lamQ : lam Q = true) (h3 : 3 ≤ Q.length) (sub : ∀ r ∈ Q, r ∈ l) (he : ∀ e ∈ E Q, e ∈ E l ∨ e = (p, q))
    (c1 : ∀ r ∈ l, On p q r → r = p ∨ r = q) (c2 : ∀ f ∈ E l, ¬ Crs p q f.1 f.2) (mp : p ∈ Q) (mq : q ∈ Q) {x : P} {k : List P} (out : ∀ r ∈ x :: k, r ∈ l ∧ r ∉ Q) (hk : ∀ e ∈ ch x k, e ∈ E l) (nk : (x :: k).Nodup)
    (cover : ∀ r ∈ l, r ∈ Q ∨ r ∈ x :: k) {o : P} (ho : o ∈ x :: k) (even : par (rayE o) (E Q) = false) {u b w : P} (ear : Ear Q u b w) (n1 : b ≠ p) (n2 : b ≠ q) : Ear l u b w := by
  obtain ⟨e1, e2, D, emp⟩ := ear
  have f1 : (u, b) ∈ E l := by
    rcases he _ e1 with j | j
    · exact j
    · injection j with _ j; exact absurd j n2
  have f2 : (b, w) ∈ E l := by
    rcases he _ e2 with j | j
    · exact j
    · injection j with j _; exact absurd j n1
  refine ⟨f1, f2, D, fun r hr r1 r2 r3 hT => ?_⟩
  rcases cover r hr with hrQ | hrk
  · exact emp r hrQ r1 r2 r3 hT
  · have hrQ := (out r hrk).2
    -- the parity of r with respect to Q is even
    have cst : ∀ e ∈ ch x k, par (rayE e.1) (E Q) = par (rayE e.2) (E Q) := by
      intro e hE
      have m := ch_mem hE
      have o1 := out _ m.1
      have o2 := out _ (List.mem_cons_of_mem _ m.2)
      refine closed_par (fun f hF => ?_) (fun r hr => ⟨h.ne (sub r hr) o1.1 (by rintro rfl; exact o1.2 hr), h.ne (sub r hr) o2.1 (by rintro rfl; exact o2.2 hr)⟩) (fun f hF => hQ.ne (E_mem hF).1 (E_mem hF).2 (hQ.ed (by omega) hF)) (h.ne o1.1 o2.1 (ch_ne nk hE))
      have mf := E_mem hF
      have d1 : f.1 ≠ e.1 := by intro z; exact o1.2 (z ▸ mf.1)
      have d2 : f.1 ≠ e.2 := by intro z; exact o2.2 (z ▸ mf.1)
      have d3 : f.2 ≠ e.1 := by intro z; exact o1.2 (z ▸ mf.2)
      have d4 : f.2 ≠ e.2 := by intro z; exact o2.2 (z ▸ mf.2)
      rcases he f hF with j | j
      · exact h.nm j (hk e hE) d1 d2 d3 d4
      · subst j
        refine ⟨fun o => ?_, fun o => ?_, fun o => ?_, fun o => ?_, c2 e (hk e hE)⟩
        · rcases c1 _ o1.1 o with z | z
          · exact d1 z.symm
          · exact d3 z.symm
        · rcases c1 _ o2.1 o with z | z
          · exact d2 z.symm
          · exact d4 z.symm
        · rcases h.on e (hk e hE) _ (sub _ mp) o with z | z
          · exact d1 z
          · exact d2 z
        · rcases h.on e (hk e hE) _ (sub _ mq) o with z | z
          · exact d3 z
          · exact d4 z
    have all := const_chain (g := fun q => par (rayE q) (E Q)) cst
    have ev : par (rayE r) (E Q) = false := by
      have a := all r hrk
      have c := all o ho
      rw [a, ← c, even]
    have hqe : ∀ e ∈ E Q, ¬ On e.1 e.2 r := by
      intro e hE o
      have mf := E_mem hE
      rcases he e hE with j | j
      · rcases h.on e j r hr o with z | z
        · exact hrQ (z ▸ mf.1)
        · exact hrQ (z ▸ mf.2)
      · subst j
        rcases c1 r hr o with z | z
        · exact hrQ (z ▸ mp)
        · exact hrQ (z ▸ mq)
    have q1 : 0 < cr u b r := by
      rcases Int.lt_or_eq_of_le hT.1 with z | z
      · exact z
      · exact absurd (on_of_inT D hT z.symm) (hqe _ e1)
    have q2 : 0 < cr b w r := by
      rcases Int.lt_or_eq_of_le hT.2.1 with z | z
      · exact z
      · exact absurd (on_of_inT (u := b) (b := w) (w := u) (by rw [cr_rot u b w]; exact D) ⟨hT.2.1, hT.2.2, hT.1⟩ z.symm) (hqe _ e2)
    obtain ⟨A, B, m, j1, j2⟩ := rot_edges hQ.nd h3 e1 e2
    subst j1
    have sR := hQ.rot
    have lR := lam_rot A B h3 hQ
    have pR := par_rot (rayE r) A B
    rw [j2] at sR lR pR
    rw [lamQ] at lR
    rw [ev] at pR
    have mem : ∀ r, r ∈ b :: w :: (m ++ [u]) → r ∈ A ++ B := by
      intro r hr; rw [← j2] at hr; exact mem_rot hr
    have := ear_odd sR lR.symm D (fun r' hr' => by
        obtain ⟨k1, k2, k3, k4, k5, k6, k7, k8⟩ := nd_tri sR.nd
        exact emp r' (mem r' (by simp [hr'])) (by rintro rfl; exact k6 hr') (by rintro rfl; exact k4 hr') (by rintro rfl; exact k5 hr')) hT q1 q2
      (fun r' hr' => h.ne (sub r' (mem r' hr')) hr (by rintro rfl; exact hrQ (mem _ hr')))
      (fun e hE => hqe e (by rw [← j2] at hE; exact E_rot_mem hE))
    rw [this] at pR
    simp at pR
end Ears
end Go.Proofs.YtmdncaoilegnnaaGreat

namespace Go.Proofs.YtmdncaoilegnnaaGreat
set_option linter.unusedVariables false
set_option linter.unusedSimpArgs false
set_option linter.unusedVariables false
set_option linter.unusedSimpArgs false
namespace Ears

theorem exists_min {l : List P} (f : P → Int) (h : l ≠ []) : ∃ v ∈ l, ∀ q ∈ l, f v ≤ f q := by
  induction l with
  | nil => exact absurd rfl h
  | cons x l ih =>
    by_cases hl : l = []
    · subst hl; exact ⟨x, by simp, fun q hq => by simp at hq; rw [hq]; omega⟩
    · obtain ⟨v, hv, h1⟩ := ih hl
      by_cases c : f x ≤ f v
      · refine ⟨x, by simp, fun q hq => ?_⟩
        rcases List.mem_cons.1 hq with e | e
        · rw [e]; omega
        · have := h1 q e; omega
      · refine ⟨v, by simp [hv], fun q hq => ?_⟩
        rcases List.mem_cons.1 hq with e | e
        · rw [e]; omega
        · exact h1 q e
theorem low_notIn {u b w v : P} (D : 0 < cr u b w) (h1 : v.2 < u.2) (h2 : v.2 < b.2) (h3 : v.2 < w.2) : ¬ InT u b w v := by
  intro ⟨a, c, d⟩
  have e1 := bary1 u b w v
  have e2 := bary2 u b w v
  have e3 : cr b w v * (u.2 - v.2) + cr w u v * (b.2 - v.2) + cr u b v * (w.2 - v.2) = 0 := by
    have : (cr b w v + cr w u v + cr u b v) * v.2 = cr u b w * v.2 := by rw [e1]
    rw [Int.add_mul, Int.add_mul] at this
    rw [Int.mul_sub, Int.mul_sub, Int.mul_sub]
    omega
  have x1 := nn c (show 0 ≤ u.2 - v.2 by omega)
  have x2 := nn d (show 0 ≤ b.2 - v.2 by omega)
  have x3 := nn a (show 0 ≤ w.2 - v.2 by omega)
  rcases Int.lt_or_eq_of_le a with p | p
  · have := pos_mul p (show 0 < w.2 - v.2 by omega); omega
  · rcases Int.lt_or_eq_of_le c with q | q
    · have := pos_mul q (show 0 < u.2 - v.2 by omega); omega
    · rcases Int.lt_or_eq_of_le d with r | r
      · have := pos_mul r (show 0 < b.2 - v.2 by omega); omega
      · omega
/-- The diagonal from the lowest vertex to the vertex of the triangle that is farthest from its base. -/
theorem diag_clean {v c a z : P} {m : List P} (h : Sim (v :: c :: (m ++ [a]))) (hv : ∀ q ∈ c :: (m ++ [a]), v.2 < q.2) (D : 0 < cr a v c) (hz : z ∈ m) (zT : InT a v c z) (zm : ∀ r ∈ m, InT a v c r → cr c a r ≤ cr c a z) :
    0 < cr a v z ∧ 0 < cr v c z ∧ (∀ r ∈ v :: c :: (m ++ [a]), On v z r → r = v ∨ r = z) ∧ (∀ f ∈ E (v :: c :: (m ++ [a])), ¬ Crs v z f.1 f.2) := by
  obtain ⟨n1, n2, n3, n4, n5, n6, n7, n8⟩ := nd_tri h.nd
  have mz : z ∈ v :: c :: (m ++ [a]) := by simp [hz]
  have za : z ≠ a := by rintro rfl; exact n6 hz
  have zv : z ≠ v := by rintro rfl; exact n4 hz
  have zc : z ≠ c := by rintro rfl; exact n5 hz
  have z1 : 0 < cr a v z := by
    rcases Int.lt_or_eq_of_le zT.1 with q | q
    · exact q
    · rcases h.on _ T.ub z mz (on_of_inT D zT q.symm) with e | e
      · exact absurd e za
      · exact absurd e zv
  have z2 : 0 < cr v c z := by
    rcases Int.lt_or_eq_of_le zT.2.1 with q | q
    · exact q
    · rcases h.on _ T.bw z mz (on_of_inT (u := v) (b := c) (w := a) (by rw [cr_rot a v c]; exact D) ⟨zT.2.1, zT.2.2, zT.1⟩ q.symm) with e | e
      · exact absurd e zv
      · exact absurd e zc
  have vz := hv z (by simp [hz])
  have b1 := bary1 a v c z
  have fv : cr c a v = cr a v c := by rw [cr_rot v c a, cr_rot a v c]
  refine ⟨z1, z2, fun r hr o => ?_, fun f hf x => ?_⟩
  · by_cases e1 : r = v
    · exact .inl e1
    · by_cases e2 : r = z
      · exact .inr e2
      · exfalso
        have hrT := InT.seg (InT.tip2 D) zT (by omega) o
        have hr' : r ∈ c :: (m ++ [a]) := by
          rcases List.mem_cons.1 hr with q | q
          · exact absurd q e1
          · exact q
        rcases mem_cut hr' with q | q | q
        · subst q; have := o.1; rw [cr_bqw] at this; omega
        · subst q; have := o.1; rw [cr_rot r v z] at this; omega
        · have le := zm r q hrT
          have aff := on_aff v z r c a
          rw [o.1, fv] at aff
          have d1 := h.ne hr mz e2
          have o2 := o.2
          have x1 := pos_mul (show 0 < z.2 - r.2 by omega) (show 0 < cr a v c - cr c a z by omega)
          have x2 := nn (show 0 ≤ z.2 - v.2 by omega) (show 0 ≤ cr c a z - cr c a r by omega)
          have : (z.2 - v.2) * cr c a z = (z.2 - r.2) * cr c a z + (r.2 - v.2) * cr c a z := by rw [← Int.add_mul]; congr 1; omega
          rw [Int.mul_sub] at x1 x2
          omega
  · have mf := E_mem hf
    have hT : ∀ r, r ∈ v :: c :: (m ++ [a]) → r ≠ v → InT a v c r → cr c a r ≤ cr c a z := by
      intro r hr hne hrT
      have hr' : r ∈ c :: (m ++ [a]) := by
        rcases List.mem_cons.1 hr with q | q
        · exact absurd q hne
        · exact q
      rcases mem_cut hr' with q | q | q
      · subst q; rw [cr_same1]; exact zT.2.2
      · subst q; rw [cr_same2]; exact zT.2.2
      · exact zm r q hrT
    have f1 : f.1 ≠ v := by intro e; have := x.1; rw [e, cr_same1] at this; unfold opp at this; omega
    have f2 : f.2 ≠ v := by intro e; have := x.1; rw [e, cr_same1] at this; unfold opp at this; omega
    refine diag_core D z1 z2 zT.2.2 (h.cx _ T.ub _ hf) (h.cx _ T.bw _ hf) ?_ ?_ (hT _ mf.1 f1) (hT _ mf.2 f2) x
    · by_cases e1 : f.1 = a
      · exact .inl e1
      · by_cases e2 : f.2 = a
        · exact .inr (.inl e2)
        · refine .inr (.inr fun o => ?_)
          rcases h.on f hf a T.mu o with e | e
          · exact e1 e.symm
          · exact e2 e.symm
    · by_cases e1 : f.1 = c
      · exact .inl e1
      · by_cases e2 : f.2 = c
        · exact .inr (.inl e2)
        · refine .inr (.inr fun o => ?_)
          rcases h.on f hf c T.mw o with e | e
          · exact e1 e.symm
          · exact e2 e.symm
theorem loc_low {u v w : P} (h1 : v.2 < u.2) (h2 : v.2 < w.2) : loc u v w = decide (0 < cr u v w) := by
  unfold loc; rw [decide_eq_decide]; omega
theorem exists_max_in {m : List P} {Q : P → Prop} (f : P → Int) (h : ∃ r ∈ m, Q r) : ∃ z ∈ m, Q z ∧ ∀ r ∈ m, Q r → f r ≤ f z := by
  classical
  obtain ⟨r, hr, hQ⟩ := h
  obtain ⟨z, hz, h1⟩ := exists_min (l := m.filter (fun q => decide (Q q))) (fun q => - f q) (by
    intro e
    have : r ∈ m.filter (fun q => decide (Q q)) := by simp [hr, hQ]
    rw [e] at this; simp at this)
  simp only [List.mem_filter, decide_eq_true_eq] at hz h1
  exact ⟨z, hz.1, hz.2, fun q hq hq2 => by have := h1 q ⟨hq, hq2⟩; omega⟩
theorem ears : ∀ (n : Nat) (l : List P), l.length ≤ n → 3 ≤ l.length → Sim l → lam l = true → ∀ x y, (x, y) ∈ E l → ∃ u b w, Ear l u b w ∧ b ≠ x ∧ b ≠ y := by
  intro n
  induction n with
  | zero => intro l h1 h2; omega
  | succ n ih =>
    intro l0 hn h3 hs0 hl0 x y hxy0
    obtain ⟨v, hvl, hv0⟩ := exists_min (l := l0) (fun q => q.2) (by intro e; rw [e] at h3; simp at h3)
    obtain ⟨A, B, c, m, a, e1, e2⟩ := rot_form hvl h3
    subst e1
    have h := hs0.rot
    have hl := lam_rot A B h3 hs0
    rw [hl0] at hl
    have hxy := E_rot_mem hxy0
    have hlen : (B ++ A).length = (A ++ B).length := by simp; omega
    suffices H : ∃ u b w, Ear (B ++ A) u b w ∧ b ≠ x ∧ b ≠ y by
      obtain ⟨u, b, w, q1, q2⟩ := H
      exact ⟨u, b, w, q1.rot, q2⟩
    have hv1 : ∀ q ∈ B ++ A, v.2 ≤ q.2 := fun q hq => hv0 q (mem_rot hq)
    rw [← hlen] at hn h3
    clear hs0 hl0 hxy0 hvl hv0 hlen
    rw [e2] at h hl hxy hv1 hn h3 ⊢
    clear e2
    obtain ⟨n1, n2, n3, n4, n5, n6, n7, n8⟩ := nd_tri h.nd
    have hv : ∀ q ∈ c :: (m ++ [a]), v.2 < q.2 := by
      intro q hq
      have a1 := hv1 q (List.mem_cons_of_mem _ hq)
      have a2 := h.ne T.mb (List.mem_cons_of_mem v hq) (by rintro rfl; exact (List.nodup_cons.1 h.nd).1 hq)
      omega
    have va := hv a (by simp)
    have vc := hv c (by simp)
    have D : 0 < cr a v c := by
      rw [lam_low hv, fin_snoc] at hl
      exact of_decide_eq_true hl.symm
    by_cases hm : m = []
    · subst hm
      simp only [List.nil_append] at *
      have hE : E [v, c, a] = [(v, c), (c, a), (a, v)] := rfl
      have key : ∀ u b w : P, (u, b) ∈ E [v, c, a] → (b, w) ∈ E [v, c, a] → 0 < cr u b w → (∀ q ∈ [v, c, a], q = u ∨ q = b ∨ q = w) → Ear [v, c, a] u b w := by
        intro u b w k1 k2 k3 k4
        exact ⟨k1, k2, k3, fun q hq q1 q2 q3 => by rcases k4 q hq with e | e | e; exact absurd e q1; exact absurd e q2; exact absurd e q3⟩
      have D1 : 0 < cr c a v := by rw [cr_rot v c a, cr_rot a v c]; exact D
      have D2 : 0 < cr v c a := by rw [cr_rot a v c]; exact D
      rw [hE] at hxy
      simp only [List.mem_cons, List.not_mem_nil, or_false, Prod.mk.injEq] at hxy
      rcases hxy with ⟨rfl, rfl⟩ | ⟨rfl, rfl⟩ | ⟨rfl, rfl⟩
      · exact ⟨y, a, x, key _ _ _ (by rw [hE]; simp) (by rw [hE]; simp) D1 (by intro q hq; simp at hq; grind), n2.symm, n3.symm⟩
      · exact ⟨y, v, x, key _ _ _ (by rw [hE]; simp) (by rw [hE]; simp) D (by intro q hq; simp at hq; grind), n1, n2⟩
      · exact ⟨y, c, x, key _ _ _ (by rw [hE]; simp) (by rw [hE]; simp) D2 (by intro q hq; simp at hq; grind), n3, n1.symm⟩
    · by_cases emp : ∀ r ∈ m, ¬ InT a v c r
      · obtain ⟨h', hl'⟩ := ear_cut h D emp hm
        by_cases hvx : v = x ∨ v = y
        · obtain ⟨u, b, w, ⟨k1, k2, k3, k4⟩, b1, b2⟩ := ih (c :: (m ++ [a])) (by simp at hn ⊢; omega) (by cases m with | nil => exact absurd rfl hm | cons y m => simp) h' (by rw [hl', ← hl]) a c (by rw [E_cut]; simp)
          have mb : b ∈ c :: (m ++ [a]) := (E_mem k2).1
          have up : ∀ e ∈ E (c :: (m ++ [a])), e ≠ (a, c) → e ∈ E (v :: c :: (m ++ [a])) := by
            intro e he ne
            rw [E_cut] at he
            simp only [List.mem_append, List.mem_cons, List.not_mem_nil, or_false] at he
            rcases he with he | he
            · exact T.che he
            · exact absurd he ne
          refine ⟨u, b, w, ⟨up _ k1 (by intro e; injection e with _ e; exact b2 e), up _ k2 (by intro e; injection e with e _; exact b1 e), k3, fun q hq q1 q2 q3 => ?_⟩, ?_, ?_⟩
          · rcases List.mem_cons.1 hq with e | e
            · subst e
              exact low_notIn k3 (hv _ (E_mem k1).1) (hv _ mb) (hv _ (E_mem k2).2)
            · exact k4 q e q1 q2 q3
          · rintro rfl
            rcases hvx with e | e
            · subst e; exact (List.nodup_cons.1 h.nd).1 mb
            · subst e; exact b1 ((edges_tri h.nd).2 hxy)
          · rintro rfl
            rcases hvx with e | e
            · subst e; exact b2 ((edges_tri h.nd).1 hxy)
            · subst e; exact (List.nodup_cons.1 h.nd).1 mb
        · refine ⟨a, v, c, ⟨T.ub, T.bw, D, fun q hq q1 q2 q3 => ?_⟩, fun e => hvx (.inl e), fun e => hvx (.inr e)⟩
          have : q ∈ c :: (m ++ [a]) := by
            rcases List.mem_cons.1 hq with e | e
            · exact absurd e q2
            · exact e
          rcases mem_cut this with e | e | e
          · exact absurd e q3
          · exact absurd e q1
          · exact emp q e
      · have : ∃ r ∈ m, InT a v c r := by
          apply Classical.byContradiction
          intro hc
          exact emp fun r hr hT => hc ⟨r, hr, hT⟩
        obtain ⟨z, hz, zT, zm⟩ := exists_max_in (cr c a) this
        obtain ⟨z1, z2, c1, c2⟩ := diag_clean h hv D hz zT zm
        obtain ⟨m1, m2, rfl⟩ := List.append_of_mem hz
        have c1' : ∀ r ∈ v :: c :: (m1 ++ z :: m2 ++ [a]), On z v r → r = z ∨ r = v := fun r hr o => (c1 r hr o.symm).symm
        have c2' : ∀ f ∈ E (v :: c :: (m1 ++ z :: m2 ++ [a])), ¬ Crs z v f.1 f.2 := fun f hf x => c2 f hf x.flip
        have vz := hv z (by simp)
        have hch : ch c (m1 ++ z :: m2 ++ [a]) = ch c (m1 ++ [z]) ++ ch z (m2 ++ [a]) := by
          rw [List.append_assoc, List.cons_append, ch_append]
        have hE : E (v :: c :: (m1 ++ z :: m2 ++ [a])) = (v, c) :: (ch c (m1 ++ [z]) ++ ch z (m2 ++ [a]) ++ [(a, v)]) := by
          rw [E_tri, hch]
        have hE1 : E (v :: c :: (m1 ++ [z])) = (v, c) :: (ch c (m1 ++ [z]) ++ [(z, v)]) := E_tri _ _ _ _
        have hE2 : E (v :: z :: (m2 ++ [a])) = (v, z) :: (ch z (m2 ++ [a]) ++ [(a, v)]) := E_tri _ _ _ _
        have nd := h.nd
        have nd' : ((v :: c :: m1) ++ (z :: (m2 ++ [a]))).Nodup := by simpa using nd
        have ndA := (List.nodup_append.1 nd').1
        have ndB := (List.nodup_append.1 nd').2.1
        have dis := (List.nodup_append.1 nd').2.2
        have ndP1 : (v :: c :: (m1 ++ [z])).Nodup := by
          rw [show v :: c :: (m1 ++ [z]) = (v :: c :: m1) ++ [z] by simp, List.nodup_append]
          exact ⟨ndA, by simp, fun p hp q hq => dis p hp q (by simp at hq; simp [hq])⟩
        have ndP2 : (v :: z :: (m2 ++ [a])).Nodup := by
          rw [List.nodup_cons]
          exact ⟨fun q => dis v (by simp) v q rfl, ndB⟩
        have sub1 : ∀ r ∈ v :: c :: (m1 ++ [z]), r ∈ v :: c :: (m1 ++ z :: m2 ++ [a]) := by intro r hr; simp at hr ⊢; grind
        have sub2 : ∀ r ∈ v :: z :: (m2 ++ [a]), r ∈ v :: c :: (m1 ++ z :: m2 ++ [a]) := by intro r hr; simp at hr ⊢; grind
        have he1 : ∀ e ∈ E (v :: c :: (m1 ++ [z])), e ∈ E (v :: c :: (m1 ++ z :: m2 ++ [a])) ∨ e = (z, v) := by
          intro e he; rw [hE1] at he; rw [hE]; simp only [List.mem_cons, List.mem_append, List.not_mem_nil, or_false] at he ⊢; grind
        have he2 : ∀ e ∈ E (v :: z :: (m2 ++ [a])), e ∈ E (v :: c :: (m1 ++ z :: m2 ++ [a])) ∨ e = (v, z) := by
          intro e he; rw [hE2] at he; rw [hE]; simp only [List.mem_cons, List.mem_append, List.not_mem_nil, or_false] at he ⊢; grind
        have s1 := sub_sim h ndP1 sub1 he1 c1' c2'
        have s2 := sub_sim h ndP2 sub2 he2 c1 c2
        have lo1 : ∀ q ∈ c :: (m1 ++ [z]), v.2 < q.2 := fun q hq => hv q (by simp at hq ⊢; grind)
        have lo2 : ∀ q ∈ z :: (m2 ++ [a]), v.2 < q.2 := fun q hq => hv q (by simp at hq ⊢; grind)
        have l1 : lam (v :: c :: (m1 ++ [z])) = true := by
          rw [lam_low lo1, fin_snoc, ← cr_rot z v c]; exact decide_eq_true z2
        have l2 : lam (v :: z :: (m2 ++ [a])) = true := by
          rw [lam_low lo2, fin_snoc]; exact decide_eq_true z1
        have zv : z ≠ v := by rintro rfl; omega
        have mz : z ∈ v :: c :: (m1 ++ z :: m2 ++ [a]) := by simp
        have mem1 : (x ∈ v :: c :: (m1 ++ [z]) ∧ y ∈ v :: c :: (m1 ++ [z])) ∨ (x ∈ v :: z :: (m2 ++ [a]) ∧ y ∈ v :: z :: (m2 ++ [a])) := by
          rw [hE] at hxy
          simp only [List.mem_cons, List.mem_append, List.not_mem_nil, or_false, Prod.mk.injEq] at hxy
          rcases hxy with ⟨rfl, rfl⟩ | (hxy | hxy) | ⟨rfl, rfl⟩
          · left; simp
          · have := E_mem (l := v :: c :: (m1 ++ [z])) (e := (x, y)) (by rw [hE1]; simp [hxy]); exact .inl this
          · have := E_mem (l := v :: z :: (m2 ++ [a])) (e := (x, y)) (by rw [hE2]; simp [hxy]); exact .inr this
          · right; simp
        have evc : (v, c) ∈ E (v :: c :: (m1 ++ z :: m2 ++ [a])) := T.bw
        have eav : (a, v) ∈ E (v :: c :: (m1 ++ z :: m2 ++ [a])) := T.ub
        have sE1 : ∀ e ∈ ch c (m1 ++ [z]), e ∈ E (v :: c :: (m1 ++ z :: m2 ++ [a])) := fun e he => by rw [hE]; simp [he]
        have sE2 : ∀ e ∈ ch z (m2 ++ [a]), e ∈ E (v :: c :: (m1 ++ z :: m2 ++ [a])) := fun e he => by rw [hE]; simp [he]
        rcases mem1 with ⟨mx, my⟩ | ⟨mx, my⟩
        · -- the ear lies in the second part
          obtain ⟨u, b, w, ear, b1, b2⟩ := ih (v :: z :: (m2 ++ [a])) (by simp at hn ⊢; omega) (by simp) s2 l2 v z (by rw [hE2]; simp)
          have mb := (E_mem ear.1).2
          have nbP : b ∉ v :: c :: (m1 ++ [z]) := by
            intro hb
            have k1 : b ∈ z :: (m2 ++ [a]) := by
              rcases List.mem_cons.1 mb with e | e
              · exact absurd e b1
              · exact e
            have k2 : b ∈ v :: c :: m1 := by
              rw [show v :: c :: (m1 ++ [z]) = (v :: c :: m1) ++ [z] by simp, List.mem_append] at hb
              rcases hb with e | e
              · exact e
              · simp at e; exact absurd e b2
            exact dis b k2 b k1 rfl
          refine ⟨u, b, w, ?_, fun e => nbP (e ▸ mx), fun e => nbP (e ▸ my)⟩
          have ev : par (rayE c) (E (v :: z :: (m2 ++ [a]))) = false := by
            have := out0 (v := v) (y := z) (o := c) (r := m2 ++ [a]) lo2 vc (fun e he => by
                have mm := ch_mem he
                refine h.nm (f := (v, c)) (sE2 e he) evc ?_ ?_ ?_ ?_
                · intro q; rw [q] at mm; have := lo2 _ mm.1; simp only at this; omega
                · intro q; rw [q] at mm; exact dis c (by simp) c mm.1 rfl
                · intro q; rw [q] at mm; have := lo2 _ (List.mem_cons_of_mem z mm.2); simp only at this; omega
                · intro q; rw [q] at mm; exact dis c (by simp) c (List.mem_cons_of_mem z mm.2) rfl)
              (fun q hq => h.ne (sub2 q (List.mem_cons_of_mem v hq)) T.mw (by rintro rfl; exact dis q (by simp) q hq rfl))
              (fun e he => h.ne (E_mem (sE2 e he)).1 (E_mem (sE2 e he)).2 (ch_ne ndB he))
              (by rw [fin_snoc]; intro o; rcases h.on _ evc a T.mu o with e | e; exact n2 e.symm; exact n3 e.symm)
              (by rw [fin_snoc]; intro o; rcases h.on _ eav c T.mw o with e | e; exact n3 e; exact n1 e.symm)
              (by intro o; rcases h.on _ evc z mz o.symm with e | e; exact zv e; simp only at e; subst e; simp at n5)
              (by intro o; rcases c1 c T.mw o with e | e; exact n1 e.symm; subst e; simp at n5)
            rw [this, fin_snoc, loc_low va vc, loc_low vc vz, decide_eq_true D, decide_eq_false (by rw [cr_swap v c z]; omega)]; rfl
          refine ear_lift h s2 l2 (by simp) sub2 he2 c1 c2 (by simp) (by simp) (x := c) (k := m1) (fun r hr => ?_) (fun e he => ?_) ?_ (fun r hr => ?_) (o := c) (by simp) ev ear b1 b2
          · refine ⟨by simp at hr ⊢; grind, fun hq => ?_⟩
            rcases List.mem_cons.1 hq with e | e
            · subst e; exact (List.nodup_cons.1 ndA).1 hr
            · exact dis r (List.mem_cons_of_mem v hr) r e rfl
          · exact sE1 e (by rw [ch_snoc]; simp [he])
          · exact (List.nodup_cons.1 ndA).2
          · simp at hr ⊢; grind
        · -- the ear lies in the first part
          obtain ⟨u, b, w, ear, b1, b2⟩ := ih (v :: c :: (m1 ++ [z])) (by simp at hn ⊢; omega) (by simp) s1 l1 z v (by rw [hE1]; simp)
          have mb := (E_mem ear.1).2
          have nbP : b ∉ v :: z :: (m2 ++ [a]) := by
            intro hb
            have k1 : b ∈ v :: c :: m1 := by
              rw [show v :: c :: (m1 ++ [z]) = (v :: c :: m1) ++ [z] by simp, List.mem_append] at mb
              rcases mb with e | e
              · exact e
              · simp at e; exact absurd e b1
            rcases List.mem_cons.1 hb with e | e
            · exact b2 e
            · exact dis b k1 b e rfl
          refine ⟨u, b, w, ?_, fun e => nbP (e ▸ mx), fun e => nbP (e ▸ my)⟩
          have ev : par (rayE a) (E (v :: c :: (m1 ++ [z]))) = false := by
            have := out0 (v := v) (y := c) (o := a) (r := m1 ++ [z]) lo1 va (fun e he => by
                have mm := ch_mem he
                have k := h.nm (f := (a, v)) (sE1 e he) eav ?_ ?_ ?_ ?_
                · exact k.flip2
                · intro q; rw [q] at mm; have := mm.1
                  rw [show c :: (m1 ++ [z]) = (c :: m1) ++ [z] by simp, List.mem_append] at this
                  rcases this with e | e
                  · exact dis a (List.mem_cons_of_mem v e) a (by simp) rfl
                  · simp at e; subst e; simp at n6
                · intro q; rw [q] at mm; have := lo1 _ mm.1; simp only at this; omega
                · intro q; rw [q] at mm; have := mm.2
                  rw [List.mem_append] at this
                  rcases this with e | e
                  · exact dis a (by simp [e]) a (by simp) rfl
                  · simp at e; subst e; simp at n6
                · intro q; rw [q] at mm; have := lo1 _ (List.mem_cons_of_mem c mm.2); simp only at this; omega)
              (fun q hq => h.ne (sub1 q (List.mem_cons_of_mem v hq)) T.mu (by
                rintro rfl
                rw [show c :: (m1 ++ [z]) = (c :: m1) ++ [z] by simp, List.mem_append] at hq
                rcases hq with e | e
                · exact dis q (List.mem_cons_of_mem v e) q (by simp) rfl
                · simp at e; subst e; simp at n6))
              (fun e he => h.ne (E_mem (sE1 e he)).1 (E_mem (sE1 e he)).2 (ch_ne (List.nodup_cons.1 ndP1).2 he))
              (by rw [fin_snoc]; intro o; rcases h.on _ eav z mz o.symm with e | e; simp only at e; subst e; simp at n6; exact zv e)
              (by rw [fin_snoc]; intro o; rcases c1' a T.mu o with e | e; subst e; simp at n6; exact n2 e.symm)
              (by intro o; rcases h.on _ eav c T.mw o with e | e; exact n3 e; exact n1 e.symm)
              (by intro o; rcases h.on _ evc a T.mu o with e | e; exact n2 e.symm; exact n3 e.symm)
            rw [this, fin_snoc, loc_low vz va, loc_low va vc, decide_eq_true D, decide_eq_false (by rw [show cr z v a = - cr a v z by unfold cr; grind]; omega)]; rfl
          obtain ⟨x', k', hk⟩ : ∃ x' k', m2 ++ [a] = x' :: k' := by
            cases m2 with
            | nil => exact ⟨a, [], rfl⟩
            | cons x' m2 => exact ⟨x', m2 ++ [a], rfl⟩
          refine ear_lift h s1 l1 (by simp) sub1 he1 c1' c2' (by simp) (by simp) (x := x') (k := k') (fun r hr => ?_) (fun e he => ?_) ?_ (fun r hr => ?_) (o := a) (by rw [← hk]; simp) ev ear b1 b2
          · rw [← hk] at hr
            refine ⟨by simp at hr ⊢; grind, fun hq => ?_⟩
            rw [show v :: c :: (m1 ++ [z]) = (v :: c :: m1) ++ [z] by simp, List.mem_append] at hq
            rcases hq with e | e
            · exact dis r e r (List.mem_cons_of_mem z hr) rfl
            · simp at e; subst e; exact (List.nodup_cons.1 ndB).1 hr
          · exact sE2 e (by rw [hk]; simp [ch, he])
          · rw [← hk]; exact (List.nodup_cons.1 ndB).2
          · rw [← hk]; simp at hr ⊢; grind
end Ears
end Go.Proofs.YtmdncaoilegnnaaGreat

namespace Go.Proofs.YtmdncaoilegnnaaGreat
set_option linter.unusedVariables false
set_option linter.unusedSimpArgs false
set_option linter.unusedVariables false
set_option linter.unusedSimpArgs false
namespace Ears

def vx (e : P × P) : Int := e.1.1 * e.2.2 - e.1.2 * e.2.1
def sm (L : List (P × P)) : Int := (L.map vx).sum
def ar (l : List P) : Int := sm (E l)
theorem sm_nil : sm [] = 0 := rfl
theorem sm_cons (e : P × P) (L : List (P × P)) : sm (e :: L) = vx e + sm L := by simp [sm]
theorem sm_append (A B : List (P × P)) : sm (A ++ B) = sm A + sm B := by simp [sm]
theorem ar_rot (A B : List P) : ar (A ++ B) = ar (B ++ A) := by
  obtain ⟨X, Y, h1, h2⟩ := E_rot A B
  unfold ar; rw [h1, h2, sm_append, sm_append]; omega
theorem ar_cut (b w u : P) (m : List P) : ar (b :: w :: (m ++ [u])) = ar (w :: (m ++ [u])) + cr u b w := by
  unfold ar; rw [E_tri, E_cut, sm_cons, sm_append, sm_append, sm_cons, sm_cons, sm_nil]
  have : vx (b, w) + vx (u, b) = vx (u, w) + cr u b w := by unfold vx cr; grind
  omega
theorem ar_pos : ∀ (n : Nat) (l : List P), l.length ≤ n → 3 ≤ l.length → Sim l → lam l = true → 0 < ar l := by
  intro n
  induction n with
  | zero => intro l h1 h2; omega
  | succ n ih =>
    intro l hn h3 hs hl
    obtain ⟨x, y, hxy⟩ : ∃ x y, (x, y) ∈ E l := by
      match l, h3 with
      | x :: y :: l, _ => exact ⟨x, y, by rw [E_two]; simp⟩
    obtain ⟨u, b, w, ⟨e1, e2, D, emp⟩, _⟩ := ears l.length l (Nat.le_refl _) h3 hs hl x y hxy
    obtain ⟨A, B, m, j1, j2⟩ := rot_edges hs.nd h3 e1 e2
    subst j1
    have lR := lam_rot A B h3 hs
    have sR := hs.rot
    have aR := ar_rot A B
    have hlen : (B ++ A).length = (A ++ B).length := by simp; omega
    have mem : ∀ r, r ∈ B ++ A → r ∈ A ++ B := fun r hr => mem_rot hr
    rw [j2] at lR sR aR hlen mem
    rw [aR, ar_cut]
    by_cases hm : m = []
    · subst hm
      have : ar (w :: ([] ++ [u])) = 0 := by
        unfold ar; rw [E_cut]; simp only [List.nil_append, ch]; rw [sm_append, sm_cons, sm_cons, sm_nil]
        unfold vx; grind
      omega
    · obtain ⟨k1, k2, k3, k4, k5, k6, k7, k8⟩ := nd_tri sR.nd
      obtain ⟨h', hl'⟩ := ear_cut sR D (fun r' hr' => emp r' (mem r' (by simp [hr'])) (by rintro rfl; exact k6 hr') (by rintro rfl; exact k4 hr') (by rintro rfl; exact k5 hr')) hm
      have := ih (w :: (m ++ [u])) (by simp at hlen hn ⊢; omega) (by cases m with | nil => exact absurd rfl hm | cons y m => simp) h' (by rw [hl', ← lR, hl])
      omega
def sw (e : P × P) : P × P := (e.2, e.1)
theorem ch_rev (x y : P) (k : List P) : ch y (k.reverse ++ [x]) = ((ch x (k ++ [y])).reverse).map sw := by
  induction k generalizing x with
  | nil => simp [ch, sw]
  | cons z k ih =>
    rw [List.reverse_cons, ch_snoc y (k.reverse ++ [z]) x, fin_snoc, ih z]
    simp [ch, sw]
theorem E_rev (x : P) (k : List P) : E (x :: k.reverse) = ((E (x :: k)).reverse).map sw := by
  simp only [E]; exact ch_rev x x k
theorem E_rev_mem {x : P} {k : List P} {e : P × P} (h : e ∈ E (x :: k.reverse)) : sw e ∈ E (x :: k) := by
  rw [E_rev] at h
  simp only [List.mem_map, List.mem_reverse] at h
  obtain ⟨f, hf, rfl⟩ := h
  exact hf
theorem sm_rev (L : List (P × P)) : sm (L.reverse.map sw) = - sm L := by
  induction L with
  | nil => rfl
  | cons e L ih =>
    rw [List.reverse_cons, List.map_append, sm_append, ih, List.map_cons, List.map_nil, sm_cons, sm_nil, sm_cons]
    have : vx (sw e) = - vx e := by unfold vx sw; grind
    omega
theorem Crs.flip4 {p q s t : P} (h : Crs p q s t) : Crs q p t s := h.flip.flip2
theorem Sim.rev0 {x : P} {k : List P} (h : Sim (x :: k)) : Sim (x :: k.reverse) := by
  have mem : ∀ r, r ∈ x :: k.reverse → r ∈ x :: k := by intro r hr; simp at hr ⊢; exact hr
  refine ⟨?_, fun p hp q hq => h.ht p (mem p hp) q (mem q hq), fun e he r hr o => ?_, fun e he f hf z => h.cx _ (E_rev_mem he) _ (E_rev_mem hf) z.flip4⟩
  · have := h.nd
    rw [List.nodup_cons] at this ⊢
    exact ⟨by simpa using this.1, List.pairwise_reverse.2 (this.2.imp Ne.symm)⟩
  · exact (h.on _ (E_rev_mem he) r (mem r hr) o.symm).symm
theorem rev_rot {A B : List P} {v : P} {k : List P} (e : B ++ A = v :: k) : (A ++ B).reverse = B.reverse ++ A.reverse ∧ A.reverse ++ B.reverse = k.reverse ++ [v] := by
  refine ⟨by simp, ?_⟩
  rw [← List.reverse_append, e]; simp
theorem Sim.rev {l : List P} (h : Sim l) : Sim l.reverse := by
  cases l with
  | nil => simpa using h
  | cons x k =>
    have := h.rev0
    rw [List.reverse_cons]
    exact Sim.rot (A := [x]) (B := k.reverse) (by simpa using this)
theorem ar_rev (l : List P) : ar l.reverse = - ar l := by
  cases l with
  | nil => rfl
  | cons x k =>
    rw [List.reverse_cons, ar_rot]
    simp only [List.cons_append, List.nil_append]
    unfold ar
    rw [E_rev, sm_rev]
theorem lam_rev {l : List P} (h : Sim l) (h3 : 3 ≤ l.length) : lam l.reverse = !lam l := by
  obtain ⟨v, hvl, hv0⟩ := exists_min (l := l) (fun q => q.2) (by intro e; rw [e] at h3; simp at h3)
  obtain ⟨A, B, w, m, u, e1, e2⟩ := rot_form hvl h3
  subst e1
  obtain ⟨r1, r2⟩ := rev_rot e2
  have s1 := h.rev
  rw [r1] at s1
  have s2 := s1.rot
  rw [r2] at s2
  have l1 := lam_rot _ _ (by simp at h3 ⊢; omega) s1
  have l2 := lam_rot _ _ (by have : (A.reverse ++ B.reverse).length = (A ++ B).length := by simp
                             rw [← r2]; omega) s2
  have l3 := lam_rot A B h3 h
  have sR := h.rot
  have hv1 : ∀ q ∈ B ++ A, v.2 ≤ q.2 := fun q hq => hv0 q (mem_rot hq)
  rw [e2] at l3 sR hv1
  rw [r1, l1, r2, l2, l3]
  have hv : ∀ q ∈ w :: (m ++ [u]), v.2 < q.2 := by
    intro q hq
    have a1 := hv1 q (List.mem_cons_of_mem _ hq)
    have a2 := sR.ne T.mb (List.mem_cons_of_mem v hq) (by rintro rfl; exact (List.nodup_cons.1 sR.nd).1 hq)
    omega
  have c0 : cr u v w ≠ 0 := by
    intro z
    have := flat_mid sR z
    have := hv w (by simp)
    have := hv u (by simp)
    omega
  have e : [v] ++ (w :: (m ++ [u])).reverse = v :: u :: (m.reverse ++ [w]) := by simp
  rw [e, lam_low hv, lam_low (by intro q hq; exact hv q (by simp at hq ⊢; grind)), fin_snoc, fin_snoc]
  have : cr w v u = - cr u v w := by unfold cr; grind
  rw [this]
  rw [← decide_not, decide_eq_decide]; omega
theorem orient {l : List P} (h : Sim l) (h3 : 3 ≤ l.length) : (lam l = true → 0 < ar l) ∧ (lam l = false → ar l < 0) := by
  refine ⟨fun e => ar_pos _ l (Nat.le_refl _) h3 h e, fun e => ?_⟩
  have := ar_pos _ l.reverse (Nat.le_refl _) (by simpa using h3) h.rev (by rw [lam_rev h h3, e]; rfl)
  rw [ar_rev] at this
  omega
end Ears
end Go.Proofs.YtmdncaoilegnnaaGreat

namespace Go.Proofs.YtmdncaoilegnnaaGreat
set_option linter.unusedVariables false
set_option linter.unusedSimpArgs false
set_option linter.unusedVariables false
set_option linter.unusedSimpArgs false
namespace Ears

/-- q lies on the line of its neighbours. -/
def flat (l : List P) (q : P) : Prop := ∃ p r, (p, q) ∈ E l ∧ (q, r) ∈ E l ∧ cr p q r = 0
theorem flat_rot {A B : List P} {q : P} : flat (A ++ B) q ↔ flat (B ++ A) q :=
  ⟨fun ⟨p, r, h1, h2, h3⟩ => ⟨p, r, E_rot_mem h1, E_rot_mem h2, h3⟩, fun ⟨p, r, h1, h2, h3⟩ => ⟨p, r, E_rot_mem h1, E_rot_mem h2, h3⟩⟩
theorem flat_tri {b w u : P} {m : List P} (nd : (b :: w :: (m ++ [u])).Nodup) : flat (b :: w :: (m ++ [u])) b ↔ cr u b w = 0 := by
  constructor
  · rintro ⟨p, r, h1, h2, h3⟩
    rw [(edges_tri nd).2 h1, (edges_tri nd).1 h2] at h3; exact h3
  · intro h; exact ⟨u, w, T.ub, T.bw, h⟩
theorem zero_of {x y a b : Int} (h : a * x = b * y) (ha : a ≠ 0) (hb : b ≠ 0) : x = 0 ↔ y = 0 := by
  constructor
  · intro e; rw [e, Int.mul_zero] at h
    rcases Int.mul_eq_zero.1 h.symm with q | q
    · exact absurd q hb
    · exact q
  · intro e; rw [e, Int.mul_zero] at h
    rcases Int.mul_eq_zero.1 h with q | q
    · exact absurd q ha
    · exact q
theorem flat_keep {b w u q : P} {m : List P} (h : Sim (b :: w :: (m ++ [u]))) (D : cr u b w = 0) (hq : q ∈ w :: (m ++ [u])) : flat (b :: w :: (m ++ [u])) q ↔ flat (w :: (m ++ [u])) q := by
  obtain ⟨n1, n2, n3, n4, n5, n6, n7, n8⟩ := nd_tri h.nd
  have mid := flat_mid h D
  have i1 : ∀ r : P, (w.2 - u.2) * cr u b r = (b.2 - u.2) * cr u w r := by
    intro r
    have : (w.2 - u.2) * cr u b r = (b.2 - u.2) * cr u w r + (r.2 - u.2) * cr u b w := by unfold cr; grind
    rw [this, D]; omega
  have i2 : ∀ r : P, (w.2 - u.2) * cr b w r = (w.2 - b.2) * cr u w r := by
    intro r
    have : (w.2 - u.2) * cr b w r = (w.2 - b.2) * cr u w r + (w.2 - r.2) * cr u b w := by unfold cr; grind
    rw [this, D]; omega
  have qb : q ≠ b := by rintro rfl; exact (List.nodup_cons.1 h.nd).1 hq
  have j1 : ∀ r : P, cr b w r = 0 ↔ cr u w r = 0 := fun r => zero_of (i2 r) (by omega) (by omega)
  have j2 : ∀ p : P, cr p u b = 0 ↔ cr p u w = 0 := fun p => by
    rw [← cr_rot p u b, ← cr_rot p u w]; exact zero_of (i1 p) (by omega) (by omega)
  constructor
  · rintro ⟨p, r, h1, h2, h3⟩
    rw [E_tri] at h1 h2
    simp only [List.mem_cons, List.mem_append, List.not_mem_nil, or_false, Prod.mk.injEq] at h1 h2
    have g1 : (p, q) ∈ ch w (m ++ [u]) ∨ (p = b ∧ q = w) := by
      rcases h1 with z | z | z
      · exact .inr z
      · exact .inl z
      · exact absurd z.2 qb
    have g2 : (q, r) ∈ ch w (m ++ [u]) ∨ (q = u ∧ r = b) := by
      rcases h2 with z | z | z
      · exact absurd z.1 qb
      · exact .inl z
      · exact .inr z
    have mE : ∀ e ∈ ch w (m ++ [u]), e ∈ E (w :: (m ++ [u])) := fun e he => by rw [E_cut]; simp [he]
    have mC : (u, w) ∈ E (w :: (m ++ [u])) := by rw [E_cut]; simp
    rcases g1 with g1 | ⟨rfl, rfl⟩ <;> rcases g2 with g2 | ⟨rfl, rfl⟩
    · exact ⟨p, r, mE _ g1, mE _ g2, h3⟩
    · exact ⟨p, w, mE _ g1, mC, (j2 p).1 h3⟩
    · exact ⟨u, r, mC, mE _ g2, (j1 r).1 h3⟩
    · exact absurd rfl n3
  · rintro ⟨p, r, h1, h2, h3⟩
    rw [E_cut] at h1 h2
    simp only [List.mem_append, List.mem_cons, List.not_mem_nil, or_false, Prod.mk.injEq] at h1 h2
    rcases h1 with g1 | ⟨rfl, rfl⟩ <;> rcases h2 with g2 | ⟨e1, e2⟩
    · exact ⟨p, r, T.che g1, T.che g2, h3⟩
    · subst e1; subst e2; exact ⟨p, b, T.che g1, T.ub, (j2 p).2 h3⟩
    · exact ⟨b, r, T.bw, T.che g2, (j1 r).2 h3⟩
    · exact absurd e1.symm (Ne.symm n3)
/-- Leaving all flat vertices out. -/
theorem nf_good : ∀ (n : Nat) (l : List P) (F : P → Bool), l.length ≤ n → 3 ≤ l.length → Sim l → (∀ q ∈ l, F q = true ↔ flat l q) →
    Sim (l.filter fun q => !F q) ∧ 3 ≤ (l.filter fun q => !F q).length ∧ lam (l.filter fun q => !F q) = lam l ∧ ar (l.filter fun q => !F q) = ar l ∧ ∀ q ∈ l.filter (fun q => !F q), ¬ flat (l.filter fun q => !F q) q := by
  intro n
  induction n with
  | zero => intro l F h1 h2; omega
  | succ n ih =>
    intro l F hn h3 hs hF
    by_cases hx : ∃ b ∈ l, F b = true
    · obtain ⟨b, hb, hFb⟩ := hx
      have hfl := (hF b hb).1 hFb
      obtain ⟨A, B, e⟩ := rot_at hb
      subst e
      have sR := hs.rot
      have k2 : 2 ≤ (B ++ A).length := by simp at h3 ⊢; omega
      have kn : (B ++ A).length ≤ n := by simp at hn ⊢; omega
      obtain ⟨w, m, u, hBA⟩ : ∃ w m u, B ++ A = w :: (m ++ [u]) := by
        generalize B ++ A = k at k2
        match k, k2 with
        | w :: x :: k, _ =>
          obtain ⟨m, u, e⟩ := snoc_of (l := x :: k) (by simp)
          exact ⟨w, m, u, by rw [e]⟩
      have e2 : (b :: B) ++ A = b :: w :: (m ++ [u]) := by rw [List.cons_append, hBA]
      have hfl2 := flat_rot.1 hfl
      have lR := lam_rot A (b :: B) h3 hs
      have aR := ar_rot A (b :: B)
      rw [e2] at sR hfl2 lR aR
      have D := (flat_tri sR.nd).1 hfl2
      have mid := flat_mid sR D
      have hm : m ≠ [] := by
        rintro rfl
        have : On w u b := ⟨by rw [cr_rot b w u, cr_rot u b w]; exact D, by omega⟩
        obtain ⟨n1, n2, n3, _⟩ := nd_tri sR.nd
        rcases sR.on (w, u) (by rw [E_tri]; simp [ch]) b T.mb this with z | z
        · exact n1 z
        · exact n2 z
      obtain ⟨s', l'⟩ := flat_cut sR D hm
      have a' := ar_cut b w u m
      rw [← hBA] at s' l' a'
      have s'' := s'.rot
      have len3 : 3 ≤ (B ++ A).length := by
        rw [hBA]; cases m with
        | nil => exact absurd rfl hm
        | cons y m => simp
      have l'' := lam_rot B A len3 s'
      have a'' := ar_rot B A
      have hfilt : (A ++ b :: B).filter (fun q => !F q) = (A ++ B).filter (fun q => !F q) := by
        rw [List.filter_append, List.filter_append, List.filter_cons_of_neg (by rw [hFb]; simp)]
      have := ih (A ++ B) F (by simp at kn ⊢; omega) (by simp at len3 ⊢; omega) s'' (fun q hq => by
        have hq2 : q ∈ w :: (m ++ [u]) := by rw [← hBA]; exact mem_rot hq
        rw [hF q (by simp at hq ⊢; grind), flat_rot (A := A) (B := b :: B), e2, flat_keep sR D hq2, ← hBA]
        exact flat_rot)
      rw [← hfilt] at this
      refine ⟨this.1, this.2.1, ?_, ?_, this.2.2.2.2⟩
      · rw [this.2.2.1, ← l'', l', hBA, ← lR]
      · rw [this.2.2.2.1]; rw [hBA] at a' a''; omega
    · have hall : ∀ q ∈ l, F q = false := fun q hq => by
        cases hc : F q with
        | false => rfl
        | true => exact absurd ⟨q, hq, hc⟩ hx
      have : l.filter (fun q => !F q) = l := by
        rw [List.filter_eq_self]; intro q hq; rw [hall q hq]; rfl
      rw [this]
      refine ⟨hs, h3, rfl, rfl, fun q hq hfl => ?_⟩
      have := (hF q hq).2 hfl
      rw [hall q hq] at this; cases this
/-- The three vertices of a small polygon turn to the left. -/
theorem tri3 {a b c : P} (h : Sim [a, b, c]) (hl : lam [a, b, c] = true) : 0 < cr a b c := by
  have := ar_pos 3 [a, b, c] (by simp) (by simp) h hl
  have e := ar_cut a b c []
  simp only [List.nil_append] at e
  have z : ar [b, c] = 0 := by unfold ar; simp only [E, List.cons_append, List.nil_append, ch, sm_cons, sm_nil]; unfold vx; grind
  rw [← cr_rot c a b] at e
  omega
end Ears
end Go.Proofs.YtmdncaoilegnnaaGreat

/- Areas by sample points: polygons that don't overlap have no more area than the strip that they lie in. -/
import Derived.Test.YtmdncaoilegnnaaGreatUG77
import Derived.Test.YtmdncaoilegnnaaGreatUG72
import Derived.Test.YtmdncaoilegnnaaGreatUG64
namespace Go.Proofs.YtmdncaoilegnnaaGreat
set_option linter.unusedVariables false
set_option linter.unusedSimpArgs false
set_option linter.unusedVariables false
set_option linter.unusedSimpArgs false
namespace Ears
open Go.RowKit

def aA (l : List P) : Int := max (ar l) (-ar l)
theorem normal_ar {l : List P} (hc : checkW l l.length = 0) : ar (normalW l l.length) = aA l := by
  obtain ⟨s, h3, hlam, har, hsub, hs0, _⟩ := corn_good hc
  have hl := check_near hc
  have hlen := check_len hc
  have key : ar (cornR l l.length) = aA l := by
    unfold cornR aA
    rw [area_ar hl (by omega) (by omega)]
    split
    · rw [ar_rev, har]; omega
    · rw [har]; omega
  rw [← key]
  unfold normalW rot
  rw [ar_rot, List.take_append_drop]
theorem E_ne {l : List P} (h2 : 2 ≤ l.length) (nd : l.Nodup) : ∀ e ∈ E l, e.1 ≠ e.2 := by
  intro e he
  match l, h2 with
  | x :: y :: r, _ =>
    rw [E_two] at he
    rcases List.mem_cons.1 he with g | g
    · rw [g]; rw [List.nodup_cons] at nd; intro e; dsimp only at e; exact nd.1 (by rw [e]; simp)
    · rcases List.mem_append.1 g with g | g
      · rw [List.nodup_cons] at nd; exact ch_ne nd.2 g
      · simp at g
        rw [g]; rw [List.nodup_cons] at nd; intro e; dsimp only at e; exact nd.1 (by rw [← e]; exact fin_mem y r)
/-- A scale that is fine enough for all pairs. -/
theorem scale_ex : ∀ Q : List (P × P), (∀ e ∈ Q, e.1.2 ≠ e.2.2) → ∃ M : Int, 0 < M ∧ M % 2 = 0 ∧ ∀ e ∈ Q, Fine M e.1 e.2
  | [], _ => ⟨2, by omega, by omega, fun e he => by simp at he⟩
  | e :: Q, h => by
    obtain ⟨M, h0, h1, h2⟩ := scale_ex Q (fun e he => h e (by simp [he]))
    have hd := h e (by simp)
    rcases Int.lt_or_gt_of_ne hd with c | c
    · refine ⟨2 * (e.2.2 - e.1.2) * M, pos_mul (by omega) h0, ?_, fun f hf => ?_⟩
      · rw [Int.mul_assoc, Int.mul_emod_right]
      · rcases List.mem_cons.1 hf with rfl | hf
        · exact ⟨hd, M, rfl⟩
        · obtain ⟨g1, M2, g2⟩ := h2 f hf
          exact ⟨g1, 2 * (e.2.2 - e.1.2) * M2, by rw [g2]; grind⟩
    · refine ⟨2 * (e.1.2 - e.2.2) * M, pos_mul (by omega) h0, ?_, fun f hf => ?_⟩
      · rw [Int.mul_assoc, Int.mul_emod_right]
      · rcases List.mem_cons.1 hf with rfl | hf
        · exact ⟨hd, -M, by grind⟩
        · obtain ⟨g1, M2, g2⟩ := h2 f hf
          exact ⟨g1, 2 * (e.1.2 - e.2.2) * M2, by rw [g2]; grind⟩
theorem fine_ex (V : List P) (hV : ∀ q ∈ V, nearB 1048576 q) : ∃ M : Int, 0 < M ∧ M % 2 = 0 ∧ ∀ p ∈ V, ∀ q ∈ V, p ≠ q → Fine M (shr p) (shr q) := by
  classical
  obtain ⟨M, h0, h1, h2⟩ := scale_ex (V.flatMap fun p => (V.filter fun q => decide (p ≠ q)).map fun q => (shr p, shr q)) (by
    intro e he
    obtain ⟨p, hp, he⟩ := List.mem_flatMap.1 he
    obtain ⟨q, hq, rfl⟩ := List.mem_map.1 he
    obtain ⟨hq, hne⟩ := List.mem_filter.1 hq
    intro e
    exact (of_decide_eq_true hne) (shr_ht (hV p hp) (hV q hq) e))
  refine ⟨M, h0, h1, fun p hp q hq hne => ?_⟩
  exact h2 (shr p, shr q) (List.mem_flatMap.2 ⟨p, hp, List.mem_map.2 ⟨q, List.mem_filter.2 ⟨hq, by simp [hne]⟩, rfl⟩⟩)
section
variable {M : Int}
theorem bary3 (u b w q : P) : cr u b w * q.1 = cr b w q * u.1 + cr w u q * b.1 + cr u b q * w.1 := by unfold cr; grind
theorem InB.edge {t : List P} {s : P} (h : InB M t s) : ∀ e ∈ E t, 0 < cr (gs M (shr e.1)) (gs M (shr e.2)) s := by
  obtain ⟨a, b, c, rfl, h1, h2, h3⟩ := h
  intro e he
  rw [show E [a, b, c] = [(a, b), (b, c), (c, a)] from rfl] at he
  simp only [List.mem_cons, List.not_mem_nil, or_false] at he
  rcases he with rfl | rfl | rfl <;> assumption
theorem InB.right (hM : 0 < M) {t : List P} {s x y : P} (h : InB M t s) (hq : ∀ q ∈ t, cr x y q ≤ 0) : cr (gs M (shr x)) (gs M (shr y)) s ≤ 0 := by
  obtain ⟨a, b, c, rfl, h1, h2, h3⟩ := h
  have D : 0 < cr (gs M (shr a)) (gs M (shr b)) (gs M (shr c)) := by have := bary1 (gs M (shr a)) (gs M (shr b)) (gs M (shr c)) s; omega
  have e := bary (gs M (shr a)) (gs M (shr b)) (gs M (shr c)) s (gs M (shr x)) (gs M (shr y))
  have le : ∀ q ∈ [a, b, c], cr (gs M (shr x)) (gs M (shr y)) (gs M (shr q)) ≤ 0 := fun q hq2 => by
    rw [cr_gs, cr_shr]
    have := hq q hq2
    exact np (by omega) (by omega)
  have p1 := np (Int.le_of_lt h2) (le a (by simp))
  have p2 := np (Int.le_of_lt h3) (le b (by simp))
  have p3 := np (Int.le_of_lt h1) (le c (by simp))
  rcases lt_ge 0 (cr (gs M (shr x)) (gs M (shr y)) s) with g | g
  · have := pos_mul D g
    omega
  · exact g
theorem InB.box (hM : 0 < M) {t : List P} {Y : Int} {m k : Nat} (h : InB M t (smp m k)) (hq : ∀ q ∈ t, 0 ≤ q.2 ∧ q.2 ≤ Y) : 0 ≤ M * (2 * (k : Int) + 1) - (2 * (m : Int) + 1) ∧ M * (2 * (k : Int) + 1) - (2 * (m : Int) + 1) ≤ 2 * M * (4194304 * Y) := by
  obtain ⟨a, b, c, rfl, h1, h2, h3⟩ := h
  have s1 := bary1 (gs M (shr a)) (gs M (shr b)) (gs M (shr c)) (smp m k)
  have e2 := bary2 (gs M (shr a)) (gs M (shr b)) (gs M (shr c)) (smp m k)
  have e3 := bary3 (gs M (shr a)) (gs M (shr b)) (gs M (shr c)) (smp m k)
  generalize cr (gs M (shr a)) (gs M (shr b)) (gs M (shr c)) = D at *
  generalize cr (gs M (shr b)) (gs M (shr c)) (smp m k) = A at *
  generalize cr (gs M (shr c)) (gs M (shr a)) (smp m k) = B at *
  generalize cr (gs M (shr a)) (gs M (shr b)) (smp m k) = C at *
  have D0 : 0 < D := by omega
  have qa := hq a (by simp)
  have qb := hq b (by simp)
  have qc := hq c (by simp)
  unfold gs shr smp at e2 e3
  dsimp only at e2 e3
  have id : D * (M * (2 * (k : Int) + 1) - (2 * (m : Int) + 1)) = 2 * M * 4194304 * (A * a.2 + B * b.2 + C * c.2) := by grind
  have id2 : D * (2 * M * (4194304 * Y) - (M * (2 * (k : Int) + 1) - (2 * (m : Int) + 1))) = 2 * M * 4194304 * (A * (Y - a.2) + B * (Y - b.2) + C * (Y - c.2)) := by grind
  constructor
  · apply sge D0
    rw [id]
    have p1 := nn (Int.le_of_lt h2) qa.1
    have p2 := nn (Int.le_of_lt h3) qb.1
    have p3 := nn (Int.le_of_lt h1) qc.1
    exact nn (by omega) (by omega)
  · have : 0 ≤ 2 * M * (4194304 * Y) - (M * (2 * (k : Int) + 1) - (2 * (m : Int) + 1)) := by
      apply sge D0
      rw [id2]
      have p1 := nn (Int.le_of_lt h2) (show 0 ≤ Y - a.2 by omega)
      have p2 := nn (Int.le_of_lt h3) (show 0 ≤ Y - b.2 by omega)
      have p3 := nn (Int.le_of_lt h1) (show 0 ≤ Y - c.2 by omega)
      exact nn (by omega) (by omega)
    omega
/-- Triangles of polygons that don't overlap hold no sample in common. -/
theorem apart (hM : 0 < M) {a b : List P} (ha : checkW a a.length = 0) (hb : checkW b b.length = 0) (ho : overW a b = (false, 0)) {s t : List P} (hs : s ∈ (splitAllW a).2) (ht : t ∈ (splitAllW b).2) {q : P} (h1 : InB M s q) (h2 : InB M t q) : False := by
  have tn := (tris hb t ht).1.near
  have sn := (tris ha s hs).1.near
  have hsl : 0 < s.length := by obtain ⟨x, y, z, rfl, _⟩ := (tris ha s hs).1; simp
  have htl : 0 < t.length := by obtain ⟨x, y, z, rfl, _⟩ := (tris hb t ht).1; simp
  have hc : ¬ 1 ≤ contactW s t := by
    intro hc
    rw [over_some ha hb] at ho
    injection ho with ho _
    have : somR (splitAllW a).2 (splitAllW b).2 = true := som_iff.2 ((clos_ge (by omega)).2 ⟨s, hs, t, ht, hc⟩)
    rw [this] at ho; cases ho
  unfold contactW at hc
  have hor : ¬ 1 ≤ reachW s t ∨ ¬ 1 ≤ reachW t s := by omega
  have key : ∀ {s t : List P}, 0 < s.length → (∀ q ∈ s, nearB 1048576 q) → (∀ q ∈ t, nearB 1048576 q) → InB M s q → InB M t q → 1 ≤ reachW s t := by
    intro s t hsl sn tn h1 h2
    rw [reach_ge (by omega) (by omega) hsl]
    intro e he
    apply Classical.byContradiction
    intro hn
    have := h2.right hM (x := e.1) (y := e.2) (fun v hv => by
      rcases lt_ge 0 (cr e.1 e.2 v) with g | g
      · exact absurd ⟨v, hv, (cmp_one _).2 (by rw [cross_near (sn _ (E_mem he).1) (sn _ (E_mem he).2) (tn v hv)]; exact g)⟩ hn
      · exact g)
    have := h1.edge e he
    omega
  rcases hor with g | g
  · exact g (key hsl sn tn h1 h2)
  · exact g (key htl tn sn h2 h1)
theorem cnt_win (c W : Int) (hW : 0 ≤ W) : ∀ n : Nat, sN n (fun k => if c ≤ (k : Int) ∧ (k : Int) < c + W then 1 else 0) ≤ if (n : Int) ≤ c then 0 else if (n : Int) ≤ c + W then (n : Int) - c else W
  | 0 => by
    rw [sN]
    (repeat' split) <;> omega
  | n + 1 => by
    have := cnt_win c W hW n
    rw [sN]
    (repeat' split at this) <;> (repeat' split) <;> omega
theorem cnt_win' (c W : Int) (hW : 0 ≤ W) (n : Nat) : sN n (fun k => if c ≤ (k : Int) ∧ (k : Int) < c + W then 1 else 0) ≤ W := by
  have := cnt_win c W hW n
  (repeat' split at this) <;> omega
theorem cnt_strip (hM : 0 < M) (h2 : M % 2 = 0) {Z : Int} (hZ : 0 ≤ Z) (m n : Nat) : sN n (fun k => if 0 ≤ M * (2 * (k : Int) + 1) - (2 * (m : Int) + 1) ∧ M * (2 * (k : Int) + 1) - (2 * (m : Int) + 1) ≤ 2 * M * Z then 1 else 0) ≤ Z := by
  obtain ⟨q, hq⟩ : ∃ q, (2 * (m : Int) + 1) / M = q := ⟨_, rfl⟩
  have e := Int.mul_ediv_add_emod (2 * (m : Int) + 1) M
  have r0 := Int.emod_nonneg (2 * (m : Int) + 1) (b := M) (by omega)
  have r1 := Int.emod_lt_of_pos (2 * (m : Int) + 1) (b := M) hM
  rw [hq] at e
  generalize (2 * (m : Int) + 1) % M = r at *
  have rodd : r ≠ 0 := by
    intro z
    rw [z, Int.add_zero] at e
    obtain ⟨M', hM'⟩ : ∃ M', M = 2 * M' := ⟨M / 2, by omega⟩
    rw [hM', Int.mul_assoc] at e
    omega
  refine Int.le_trans (sN_le (g := fun k => if (q + 1) / 2 ≤ (k : Int) ∧ (k : Int) < (q + 1) / 2 + Z then 1 else 0) ?_) (cnt_win' _ _ hZ n)
  intro k _
  by_cases c : 0 ≤ M * (2 * (k : Int) + 1) - (2 * (m : Int) + 1) ∧ M * (2 * (k : Int) + 1) - (2 * (m : Int) + 1) ≤ 2 * M * Z
  · rw [if_pos c, if_pos]
    · exact Int.le_refl _
    · have l1 : 0 < M * (2 * (k : Int) + 1 - q) := by rw [Int.mul_sub]; omega
      have l2 := sgt hM l1
      have u1 : 0 < M * (q + 1 + 2 * Z - (2 * (k : Int) + 1)) := by
        have id : M * (q + 1 + 2 * Z - (2 * (k : Int) + 1)) = M * q + M + 2 * M * Z - M * (2 * (k : Int) + 1) := by grind
        rw [id]; omega
      have u2 := sgt hM u1
      omega
  · rw [if_neg c]
    split <;> omega
end

/-- All the samples of some polygons, each polygon with the number of times that it runs round the sample. -/
def tot (M : Int) (s : P) (Ls : List (List P)) : Int := (Ls.map fun l => wS M s (E ((normalW l l.length).map shr))).sum
theorem tot_one {M : Int} (hM : 0 < M) (i j : Nat) : ∀ Ls : List (List P), (∀ l ∈ Ls, checkW l l.length = 0) → (∀ l ∈ Ls, ∀ p ∈ l, ∀ q ∈ l, p ≠ q → Fine M (shr p) (shr q)) → Ls.Pairwise (fun a b => overW a b = (false, 0)) →
    tot M (smp i j) Ls = 0 ∨ (tot M (smp i j) Ls = 1 ∧ ∃ l ∈ Ls, ∃ t ∈ (splitAllW l).2, InB M t (smp i j))
  | [], _, _, _ => .inl rfl
  | l :: Ls, hc, hF, hp => by
    have hcl := hc l (by simp)
    obtain ⟨g, sub⟩ := normal_good hcl
    obtain ⟨r, r1, _⟩ := split_good (normalW l l.length).length (normalW l l.length) [] l g (by omega) sub (by simp)
    have hr : (splitAllW l).2 = r := by unfold splitAllW; rw [if_pos hcl, r1]
    have one := split_wS hM i j _ _ _ _ g (by omega) (fun p hp q hq => hF l (by simp) p (sub p hp) q (sub q hq)) r1
    rw [List.pairwise_cons] at hp
    have ih := tot_one hM i j Ls (fun l hl => hc l (by simp [hl])) (fun l hl => hF l (by simp [hl])) hp.2
    have e : tot M (smp i j) (l :: Ls) = wS M (smp i j) (E ((normalW l l.length).map shr)) + tot M (smp i j) Ls := by unfold tot; rw [List.map_cons, List.sum_cons]
    rw [e]
    rcases one with o | ⟨o, t, ht, hB⟩ <;> rcases ih with z | ⟨z, l', hl', t', ht', hB'⟩
    · left; omega
    · right; exact ⟨by omega, l', by simp [hl'], t', ht', hB'⟩
    · right; exact ⟨by omega, l, by simp, t, by rw [hr]; exact ht, hB⟩
    · exact (apart hM hcl (hc l' (by simp [hl'])) (hp.1 l' hl') (by rw [hr]; exact ht) ht' hB hB').elim
theorem tot_sum {M X : Int} {L N : Nat} (hM0 : 0 < M) (hL : (L : Int) = M * X) : ∀ Ls : List (List P), (∀ l ∈ Ls, checkW l l.length = 0) → (∀ l ∈ Ls, ∀ p ∈ l, ∀ q ∈ l, p ≠ q → Fine M (shr p) (shr q)) → (∀ l ∈ Ls, ∀ p ∈ l, 0 ≤ (shr p).1 ∧ (shr p).1 ≤ X ∧ 0 ≤ (shr p).2 ∧ (shr p).2 ≤ N) →
    2 * sN N (fun k => sN L (fun m => tot M (smp m k) Ls)) = M * (4194304 * (Ls.map aA).sum)
  | [], _, _, _ => by
    unfold tot
    simp only [List.map_nil, List.sum_nil]
    rw [sN_congr (g := fun _ => 0) (fun k _ => sN_zero L), sN_zero]; simp
  | l :: Ls, hc, hF, hB => by
    have hcl := hc l (by simp)
    obtain ⟨g, sub⟩ := normal_good hcl
    have ih := tot_sum hM0 hL Ls (fun l hl => hc l (by simp [hl])) (fun l hl => hF l (by simp [hl])) (fun l hl => hB l (by simp [hl]))
    have one := sum_poly (M := M) (X := X) (L := L) (N := N) (l := (normalW l l.length).map shr) hM0 hL (by
      intro e he
      rw [E_map] at he
      obtain ⟨f, hf, rfl⟩ := List.mem_map.1 he
      have nd : (normalW l l.length).Nodup := List.Pairwise.of_map shr (fun a b h e => h (by rw [e])) g.sim.nd
      have hne := E_ne (by have := g.len; omega) nd f hf
      have hm := E_mem hf
      exact hF l (by simp) _ (sub _ hm.1) _ (sub _ hm.2) hne) (by
      intro p hp
      obtain ⟨q, hq, rfl⟩ := List.mem_map.1 hp
      exact hB l (by simp) q (sub q hq))
    rw [ar_shr, normal_ar hcl] at one
    have e : ∀ s, tot M s (l :: Ls) = wS M s (E ((normalW l l.length).map shr)) + tot M s Ls := fun s => by unfold tot; rw [List.map_cons, List.sum_cons]
    simp only [e]
    rw [sN_congr (g := fun k => sN L (fun m => wS M (smp m k) (E ((normalW l l.length).map shr))) + sN L (fun m => tot M (smp m k) Ls)) (fun k _ => sN_add _ _ _), sN_add, Int.mul_add, one, ih, List.map_cons, List.sum_cons]
    grind
/-- Polygons that don't overlap, in a box from the origin on: their doubled areas come to at most the box's. -/
theorem area_fit (Ls : List (List P)) (X Y : Int) (hX : 0 ≤ X) (hY : 0 ≤ Y) (hc : ∀ l ∈ Ls, checkW l l.length = 0) (hb : ∀ l ∈ Ls, ∀ q ∈ l, 0 ≤ q.1 ∧ q.1 ≤ X ∧ 0 ≤ q.2 ∧ q.2 ≤ Y) (hp : Ls.Pairwise (fun a b => overW a b = (false, 0))) :
    (Ls.map aA).sum ≤ 2 * (X * Y) := by
  obtain ⟨M, hM, h2, hF⟩ := fine_ex Ls.flatten (fun q hq => by
    obtain ⟨l, hl, hq⟩ := List.mem_flatten.1 hq
    exact check_near (hc l hl) q hq)
  have hF' : ∀ l ∈ Ls, ∀ p ∈ l, ∀ q ∈ l, p ≠ q → Fine M (shr p) (shr q) := fun l hl p hp q hq hne => hF p (List.mem_flatten.2 ⟨l, hl, hp⟩) q (List.mem_flatten.2 ⟨l, hl, hq⟩) hne
  obtain ⟨L, hL⟩ : ∃ L : Nat, (L : Int) = M * X := ⟨(M * X).toNat, by have := nn (Int.le_of_lt hM) hX; omega⟩
  obtain ⟨N, hN⟩ : ∃ N : Nat, (N : Int) = 4194304 * Y + X := ⟨(4194304 * Y + X).toNat, by omega⟩
  have e := tot_sum (N := N) hM hL Ls hc hF' (fun l hl p hp => by
    have := hb l hl p hp
    unfold shr
    dsimp only
    omega)
  have le1 : sN N (fun k => sN L (fun m => tot M (smp m k) Ls)) ≤ sN N (fun k => sN L (fun m => if 0 ≤ M * (2 * (k : Int) + 1) - (2 * (m : Int) + 1) ∧ M * (2 * (k : Int) + 1) - (2 * (m : Int) + 1) ≤ 2 * M * (4194304 * Y) then 1 else 0)) := by
    apply sN_le
    intro k _
    apply sN_le
    intro m _
    rcases tot_one hM m k Ls hc hF' hp with z | ⟨z, l, hl, t, ht, hB⟩
    · rw [z]; split <;> omega
    · rw [z, if_pos]
      · exact Int.le_refl _
      · exact hB.box hM (fun q hq => (hb l hl q ((tris (hc l hl) t ht).2 q hq)).2.2)
  rw [sN_swap (fun k m : Nat => if 0 ≤ M * (2 * (k : Int) + 1) - (2 * (m : Int) + 1) ∧ M * (2 * (k : Int) + 1) - (2 * (m : Int) + 1) ≤ 2 * M * (4194304 * Y) then (1 : Int) else 0) L N] at le1
  have le2 : sN L (fun m => sN N (fun k => if 0 ≤ M * (2 * (k : Int) + 1) - (2 * (m : Int) + 1) ∧ M * (2 * (k : Int) + 1) - (2 * (m : Int) + 1) ≤ 2 * M * (4194304 * Y) then 1 else 0)) ≤ sN L (fun _ => 4194304 * Y) := sN_le fun m _ => cnt_strip hM h2 (by omega) m N
  rw [sN_const, hL] at le2
  have fin : M * (4194304 * (Ls.map aA).sum) ≤ 2 * (M * X * (4194304 * Y)) := by omega
  have id : 2 * (M * X * (4194304 * Y)) - M * (4194304 * (Ls.map aA).sum) = (M * 4194304) * (2 * (X * Y) - (Ls.map aA).sum) := by grind
  have : 0 ≤ 2 * (X * Y) - (Ls.map aA).sum := sge (show 0 < M * 4194304 by omega) (by rw [← id]; omega)
  omega
end Ears
end Go.Proofs.YtmdncaoilegnnaaGreat

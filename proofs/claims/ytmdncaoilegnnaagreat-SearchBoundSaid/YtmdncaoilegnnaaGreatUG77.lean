/- Areas by sample points: the triangles of a polygon hold each sample at most once. -/
import Derived.Test.YtmdncaoilegnnaaGreatUG76
namespace Go.Proofs.YtmdncaoilegnnaaGreat
set_option linter.unusedVariables false
set_option linter.unusedSimpArgs false
set_option linter.unusedVariables false
set_option linter.unusedSimpArgs false
namespace Ears
open Go.RowKit

section
variable {M : Int}
theorem gs_pos (hM : 0 < M) (x : Int) : (4 * M * x = 0 ↔ x = 0) ∧ (0 < 4 * M * x ↔ 0 < x) ∧ (4 * M * x < 0 ↔ x < 0) := by
  have h4 : 0 < 4 * M := by omega
  rcases Int.lt_trichotomy x 0 with c | c | c
  · have := mul_neg_ h4 c; omega
  · subst c; simp
  · have := pos_mul h4 c; omega
theorem on_gs (hM : 0 < M) {a b r : P} (h : On (gs M a) (gs M b) (gs M r)) : On a b r := by
  unfold On at h ⊢
  rw [cr_gs, (gs_pos hM _).1] at h
  unfold gs at h
  dsimp only at h
  omega
theorem crs_gs (hM : 0 < M) {p q s t : P} (h : Crs (gs M p) (gs M q) (gs M s) (gs M t)) : Crs p q s t := by
  unfold Crs opp at h ⊢
  rw [cr_gs, cr_gs, cr_gs, cr_gs] at h
  simp only [(gs_pos hM _).2.1, (gs_pos hM _).2.2] at h
  exact h
theorem gs_inj (hM : 0 < M) {p q : P} (h : gs M p = gs M q) : p = q := by
  unfold gs at h
  injection h with h1 h2
  refine Prod.ext ?_ (by omega)
  have h3 : (2 * M) * (p.1 - q.1) = 0 := by rw [Int.mul_sub]; omega
  rcases Int.mul_eq_zero.1 h3 with g | g <;> omega
theorem Sim.gs (hM : 0 < M) {l : List P} (h : Sim l) : Sim (l.map (gs M)) where
  nd := List.Pairwise.map _ (fun a b hab e => hab (gs_inj hM e)) h.nd
  ht := by
    intro p hp q hq e
    obtain ⟨p', hp', rfl⟩ := List.mem_map.1 hp
    obtain ⟨q', hq', rfl⟩ := List.mem_map.1 hq
    unfold Ears.gs at e
    dsimp only at e
    rw [h.ht p' hp' q' hq' (by omega)]
  on := by
    intro e he r hr ho
    rw [E_map] at he
    obtain ⟨f, hf, rfl⟩ := List.mem_map.1 he
    obtain ⟨r', hr', rfl⟩ := List.mem_map.1 hr
    rcases h.on f hf r' hr' (on_gs hM ho) with g | g
    · left; rw [g]
    · right; rw [g]
  cx := by
    intro e he f hf hc
    rw [E_map] at he hf
    obtain ⟨e', he', rfl⟩ := List.mem_map.1 he
    obtain ⟨f', hf', rfl⟩ := List.mem_map.1 hf
    exact h.cx e' he' f' hf' (crs_gs hM hc)
theorem ray_gs (hM : 0 < M) (s p q : P) : ray (gs M s) (gs M p) (gs M q) = ray s p q := by
  unfold ray
  rw [cr_gs]
  simp only [(gs_pos hM _).2.1, (gs_pos hM _).2.2]
  unfold gs
  apply decide_eq_decide.2
  dsimp only
  omega
theorem loc_gs (hM : 0 < M) (u b w : P) : loc (gs M u) (gs M b) (gs M w) = loc u b w := by
  unfold loc
  rw [cr_gs]
  simp only [(gs_pos hM _).2.1]
  unfold gs
  apply decide_eq_decide.2
  dsimp only
  omega
theorem fin_map (f : P → P) : ∀ (k : List P) (x : P), fin (f x) (k.map f) = f (fin x k)
  | [], _ => rfl
  | y :: k, _ => fin_map f k y
theorem par_map {f : P × P → Bool} (g : P × P → P × P) : ∀ l : List (P × P), par f (l.map g) = par (fun e => f (g e)) l
  | [] => rfl
  | e :: l => by rw [List.map_cons, par, par, par_map g l]
theorem lam_gs (hM : 0 < M) (l : List P) : lam (l.map (gs M)) = lam l := by
  match l with
  | [] => rfl
  | [_] => rfl
  | b :: w :: r =>
    simp only [List.map_cons, lam]
    rw [ch_map, fin_map, loc_gs hM, par_map]
    congr 1
    exact par_congr fun e _ => ray_gs hM _ _ _
theorem inT_gs (hM : 0 < M) {u b w q : P} (h : InT (gs M u) (gs M b) (gs M w) (gs M q)) : InT u b w q := by
  unfold InT at h ⊢
  rw [cr_gs, cr_gs, cr_gs] at h
  have := gs_pos hM (cr u b q)
  have := gs_pos hM (cr b w q)
  have := gs_pos hM (cr w u q)
  omega
theorem wS_par (M : Int) (s : P) : ∀ es : List (P × P), wS M s es % 2 = if par (rayE s) (es.map (fun e => (gs M e.1, gs M e.2))) then 1 else 0
  | [] => rfl
  | e :: es => by
    have ih := wS_par M s es
    rw [wS_cons, List.map_cons, par]
    generalize par (rayE s) (es.map (fun e => (gs M e.1, gs M e.2))) = y at *
    generalize wS M s es = z at *
    unfold wE rayE
    dsimp only
    generalize ray s (gs M e.1) (gs M e.2) = x
    by_cases c : e.1.2 < e.2.2
    · rw [if_pos c]; cases x <;> cases y <;> simp at ih ⊢ <;> omega
    · rw [if_neg c]; cases x <;> cases y <;> simp at ih ⊢ <;> omega
theorem cut_wS {s b w u : P} {m : List P} (h : u.2 ≠ w.2) : wS M s (E (b :: w :: (m ++ [u]))) = wS M s (E (w :: (m ++ [u]))) + wS M s [(u, b), (b, w), (w, u)] := by
  rw [E_tri, E_cut]
  simp only [wS_cons, wS_append, wS_nil]
  rw [wE_swap h]
  omega
/-- A sample in an ear lies inside the polygon. -/
theorem ear_smp (hM : 0 < M) {b w u : P} {m : List P} (h : Sim (b :: w :: (m ++ [u]))) (hl : lam (b :: w :: (m ++ [u])) = true) (D : 0 < cr u b w) (emp : ∀ r ∈ m, ¬ InT u b w r)
    (hF : ∀ p ∈ b :: w :: (m ++ [u]), ∀ q ∈ b :: w :: (m ++ [u]), p ≠ q → Fine M p q) {i k : Nat}
    (c1 : 0 < cr (gs M u) (gs M b) (smp i k)) (c2 : 0 < cr (gs M b) (gs M w) (smp i k)) (c3 : 0 < cr (gs M w) (gs M u) (smp i k)) :
    wS M (smp i k) (E (b :: w :: (m ++ [u]))) % 2 = 1 := by
  have hs := h.gs hM
  have hlm := lam_gs hM (b :: w :: (m ++ [u]))
  rw [hl] at hlm
  have e : (b :: w :: (m ++ [u])).map (gs M) = gs M b :: gs M w :: (m.map (gs M) ++ [gs M u]) := by simp
  rw [wS_par, ← E_map, e]
  rw [e] at hs hlm
  rw [if_pos]
  refine ear_odd hs hlm (by rw [cr_gs]; exact (gs_pos hM _).2.1.2 D) ?_ ⟨by omega, by omega, by omega⟩ c1 c2 ?_ ?_
  · intro r hr hi
    obtain ⟨r', hr', rfl⟩ := List.mem_map.1 hr
    exact emp r' hr' (inT_gs hM hi)
  · intro r hr
    rw [← e] at hr
    obtain ⟨r', hr', rfl⟩ := List.mem_map.1 hr
    unfold gs smp
    dsimp only
    omega
  · intro f hf ho
    rw [← e, E_map] at hf
    obtain ⟨f, hf', rfl⟩ := List.mem_map.1 hf
    have hm := E_mem hf'
    have hne : f.1 ≠ f.2 := by
      have hE : ∀ {l : List P}, 2 ≤ l.length → l.Nodup → ∀ e ∈ E l, e.1 ≠ e.2 := by
        intro l h2 nd e he
        match l, h2 with
        | x :: y :: r, _ =>
          rw [E_two] at he
          rcases List.mem_cons.1 he with g | g
          · rw [g]; rw [List.nodup_cons] at nd; intro e; dsimp only at e; exact nd.1 (by rw [e]; simp)
          · rcases List.mem_append.1 g with g | g
            · rw [List.nodup_cons] at nd; exact ch_ne nd.2 g
            · simp at g
              rw [g]; rw [List.nodup_cons] at nd; intro e; dsimp only at e; exact nd.1 (by rw [← e]; exact fin_mem y r)
      exact hE (by simp) h.nd f hf'
    exact (hF _ hm.1 _ hm.2 hne).ne i k ho.1
/-- The sample lies in the triangle. -/
def InB (M : Int) (t : List P) (s : P) : Prop := ∃ a b c, t = [a, b, c] ∧ 0 < cr (gs M (shr a)) (gs M (shr b)) s ∧ 0 < cr (gs M (shr b)) (gs M (shr c)) s ∧ 0 < cr (gs M (shr c)) (gs M (shr a)) s
theorem split_mem : ∀ (f : Nat) (cur : List P) (ts r : List (List P)), splitW f cur ts = some r → ∀ t ∈ ts, t ∈ r := by
  intro f
  induction f with
  | zero => intro cur ts r h t ht; rw [splitW] at h; injection h with h; rw [← h]; simp [ht]
  | succ f ih =>
    intro cur ts r h t ht
    rw [splitW] at h
    split at h
    · injection h with h; rw [← h]; simp [ht]
    · split at h
      · exact ih _ _ _ h t ht
      · split at h
        · cases h
        · exact ih _ _ _ h t (by simp [ht])
theorem erase_wS (hM : 0 < M) {cur : List P} (h : Good cur) {k : Nat} (hk : k < cur.length) (hF : ∀ p ∈ cur, ∀ q ∈ cur, p ≠ q → Fine M (shr p) (shr q)) (i j : Nat) {u b w : P} (hu : gt cur ((k + cur.length - 1) % cur.length) = u) (hb : gt cur k = b) (hw : gt cur ((k + 1) % cur.length) = w) :
    wS M (smp i j) (E (cur.map shr)) = wS M (smp i j) (E ((cur.eraseIdx k).map shr)) + wS M (smp i j) [(shr u, shr b), (shr b, shr w), (shr w, shr u)] ∧
    Fine M (shr u) (shr b) ∧ Fine M (shr b) (shr w) ∧ Fine M (shr w) (shr u) ∧
    (0 < cr u b w → (∀ q ∈ cur, q ≠ u → q ≠ b → q ≠ w → ¬ InT u b w q) → 0 < cr (gs M (shr u)) (gs M (shr b)) (smp i j) → 0 < cr (gs M (shr b)) (gs M (shr w)) (smp i j) → 0 < cr (gs M (shr w)) (gs M (shr u)) (smp i j) → wS M (smp i j) (E (cur.map shr)) % 2 = 1) := by
  obtain ⟨m, h1, h2, s, la⟩ := good_rot h hk
  rw [hu, hb, hw] at h1 s la
  rw [hu, hw] at h2
  have h3 := h.len
  have mu : u ∈ cur := by rw [← hu]; exact gt_in (Nat.mod_lt _ (by omega))
  have mb : b ∈ cur := by rw [← hb]; exact gt_in hk
  have mw : w ∈ cur := by rw [← hw]; exact gt_in (Nat.mod_lt _ (by omega))
  obtain ⟨n1, n2, n3, n4, n5, n6, n7, n8⟩ := nd_tri s.nd
  have fub := hF u mu b mb (fun e => n2 (by rw [e]))
  have fbw := hF b mb w mw (fun e => n1 (by rw [e]))
  have fwu := hF w mw u mu (fun e => n3 (by rw [e]))
  have e1 : wS M (smp i j) (E (cur.map shr)) = wS M (smp i j) (E (shr b :: shr w :: (m.map shr ++ [shr u]))) := by
    have e0 : cur.map shr = (cur.take k).map shr ++ (cur.drop k).map shr := by rw [← List.map_append, List.take_append_drop]
    rw [e0, wS_rot, ← List.map_append, h1]; simp
  have e2 : wS M (smp i j) (E ((cur.eraseIdx k).map shr)) = wS M (smp i j) (E (shr w :: (m.map shr ++ [shr u]))) := by
    rw [erase_rot, List.map_append, wS_rot, ← List.map_append, h2]; simp
  refine ⟨by rw [e1, e2]; exact cut_wS fwu.symm.1, fub, fbw, fwu, fun D emp c1 c2 c3 => ?_⟩
  have sub : ∀ q ∈ m, q ∈ cur := fun q hq => by
    have : q ∈ cur.drop k ++ cur.take k := by rw [h1]; simp [hq]
    rcases List.mem_append.1 this with g | g
    · exact List.mem_of_mem_drop g
    · exact List.mem_of_mem_take g
  rw [e1]
  refine ear_smp hM s la (by rw [cr_shr]; omega) ?_ ?_ c1 c2 c3
  · intro r hr hi
    obtain ⟨r', hr', rfl⟩ := List.mem_map.1 hr
    exact emp r' (sub r' hr') (fun e => n6 (by rw [← e]; exact hr)) (fun e => n4 (by rw [← e]; exact hr)) (fun e => n5 (by rw [← e]; exact hr)) ((inT_shr _ _ _ _).1 hi)
  · have mem : ∀ p ∈ shr b :: shr w :: (m.map shr ++ [shr u]), ∃ q ∈ cur, p = shr q := by
      intro p hp
      simp only [List.mem_cons, List.mem_append, List.mem_map, List.not_mem_nil, or_false] at hp
      rcases hp with rfl | rfl | ⟨q, hq, rfl⟩ | rfl
      · exact ⟨b, mb, rfl⟩
      · exact ⟨w, mw, rfl⟩
      · exact ⟨q, sub q hq, rfl⟩
      · exact ⟨u, mu, rfl⟩
    intro p hp q hq hne
    obtain ⟨p', hp', rfl⟩ := mem p hp
    obtain ⟨q', hq', rfl⟩ := mem q hq
    exact hF p' hp' q' hq' (fun e => hne (by rw [e]))
/-- A polygon runs round a sample once, if one of its triangles holds it, else not at all. -/
theorem split_wS (hM : 0 < M) (i j : Nat) : ∀ (f : Nat) (cur : List P) (ts r : List (List P)), Good cur → cur.length ≤ f + 3 → (∀ p ∈ cur, ∀ q ∈ cur, p ≠ q → Fine M (shr p) (shr q)) → splitW f cur ts = some r →
    wS M (smp i j) (E (cur.map shr)) = 0 ∨ (wS M (smp i j) (E (cur.map shr)) = 1 ∧ ∃ t ∈ r, InB M t (smp i j))
  | f, cur, ts, r, h, hf, hF, hs => by
    by_cases h3 : cur.length ≤ 3
    · rw [splitW_end h3] at hs
      injection hs with hs
      have hl := h.len
      match cur, h3, hl, h, hF, hs with
      | [a, b, c], _, _, h, hF, hs =>
        have D := good_tri h
        have nd := h.sim.nd
        simp at nd
        have fab := hF a (by simp) b (by simp) (fun e => nd.1.1 (by rw [e]))
        have fbc := hF b (by simp) c (by simp) (fun e => nd.2 (by rw [e]))
        have fca := (hF a (by simp) c (by simp) (fun e => nd.1.2 (by rw [e]))).symm
        have := tri_wS hM (by rw [cr_shr]; omega) fab fbc fca i j
        rw [show E ([a, b, c].map shr) = [(shr a, shr b), (shr b, shr c), (shr c, shr a)] from rfl, this]
        have n1 := fab.ne i j
        have n2 := fbc.ne i j
        have n3 := fca.ne i j
        by_cases g : 0 ≤ cr (gs M (shr a)) (gs M (shr b)) (smp i j) ∧ 0 ≤ cr (gs M (shr b)) (gs M (shr c)) (smp i j) ∧ 0 ≤ cr (gs M (shr c)) (gs M (shr a)) (smp i j)
        · right
          rw [if_pos g]
          exact ⟨rfl, [a, b, c], by rw [← hs]; simp, a, b, c, rfl, by omega, by omega, by omega⟩
        · left; rw [if_neg g]
    · cases f with
      | zero => omega
      | succ f =>
        have near : ∀ j, j < cur.length → nearB 1048576 (gt cur j) := fun j hj => h.near _ (gt_in hj)
        have sub : ∀ i, ∀ q ∈ cur.eraseIdx i, q ∈ cur := fun i q hq => List.mem_of_mem_eraseIdx hq
        rcases idxOf_cases (strW cur cur.length) cur.length with g | ⟨k, hk, g⟩
        · rcases idxOf_cases (freeW cur cur.length) cur.length with g2 | ⟨k, hk, g2⟩
          · rw [splitW_none rfl h3 (by rw [g]; omega) (by rw [g2]; omega)] at hs; cases hs
          · rw [splitW_ear rfl h3 (by rw [g]; omega) g2] at hs
            have hE := (free_iff h hk).1 (idx_found g2).2
            have len : (cur.eraseIdx k).length = cur.length - 1 := by rw [List.length_eraseIdx, if_pos hk]
            have gE := good_ear h hk (by omega) hE.1 hE.2
            have ih := split_wS hM i j f (cur.eraseIdx k) _ r gE (by omega) (fun p hp q hq => hF p (sub k p hp) q (sub k q hq)) hs
            have tm := split_mem _ _ _ _ hs (triW cur cur.length k) (by simp)
            obtain ⟨c1, c2, c3, c4, c5⟩ := erase_wS hM h hk hF i j rfl rfl rfl
            have tri := tri_wS hM (by rw [cr_shr]; have := hE.1; omega) c2 c3 c4 i j
            have n1 := c2.ne i j
            have n2 := c3.ne i j
            have n3 := c4.ne i j
            rw [tri] at c1
            by_cases g : 0 ≤ cr (gs M (shr (gt cur ((k + cur.length - 1) % cur.length)))) (gs M (shr (gt cur k))) (smp i j) ∧ 0 ≤ cr (gs M (shr (gt cur k))) (gs M (shr (gt cur ((k + 1) % cur.length)))) (smp i j) ∧ 0 ≤ cr (gs M (shr (gt cur ((k + 1) % cur.length)))) (gs M (shr (gt cur ((k + cur.length - 1) % cur.length)))) (smp i j)
            · rw [if_pos g] at c1
              have odd := c5 hE.1 hE.2 (by omega) (by omega) (by omega)
              right
              refine ⟨?_, _, tm, _, _, _, rfl, by omega, by omega, by omega⟩
              rcases ih with e | ⟨e, _⟩ <;> omega
            · rw [if_neg g, Int.add_zero] at c1
              rw [c1]
              exact ih
        · rw [splitW_str rfl h3 g] at hs
          have hz := (idx_found g).2
          unfold strW at hz
          rw [cross_near (near _ (Nat.mod_lt _ (by omega))) (near _ hk) (near _ (Nat.mod_lt _ (by omega))), crP_eq, beq_iff_eq] at hz
          have len : (cur.eraseIdx k).length = cur.length - 1 := by rw [List.length_eraseIdx, if_pos hk]
          have ih := split_wS hM i j f (cur.eraseIdx k) ts r (good_flat h hk (by omega) hz) (by omega) (fun p hp q hq => hF p (sub k p hp) q (sub k q hq)) hs
          obtain ⟨c1, c2, c3, c4, c5⟩ := erase_wS hM h hk hF i j rfl rfl rfl
          have tri := tri_wS hM (by rw [cr_shr]; omega) c2 c3 c4 i j
          have n1 := c2.ne i j
          have n2 := c3.ne i j
          have n3 := c4.ne i j
          have bs := bary1 (gs M (shr (gt cur ((k + cur.length - 1) % cur.length)))) (gs M (shr (gt cur k))) (gs M (shr (gt cur ((k + 1) % cur.length)))) (smp i j)
          rw [cr_gs, cr_shr, hz] at bs
          rw [tri, if_neg (by intro g; simp at bs; omega), Int.add_zero] at c1
          rw [c1]
          exact ih
end
end Ears
end Go.Proofs.YtmdncaoilegnnaaGreat

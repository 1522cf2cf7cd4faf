/- Convex polygons: all vertices left of all sides; the blocked moves are the inner points of the sum. -/
import Derived.Test.YtmdncaoilegnnaaGreatUG72
import Derived.Test.YtmdncaoilegnnaaGreatUG73
namespace Go.Proofs.YtmdncaoilegnnaaGreat
set_option linter.unusedVariables false
set_option linter.unusedSimpArgs false
set_option linter.unusedVariables false
set_option linter.unusedSimpArgs false
open Go.RowKit Ears

theorem bends_map {a : List (Int × Int)} (hs : Sim (a.map shr)) (h3 : 3 ≤ a.length) (hn : ∀ q ∈ a, nearB 1048576 q) (hb : ∀ k, k < a.length → 0 ≤ bendW a a.length k) :
    ∀ p q r, (p, q) ∈ E (a.map shr) → (q, r) ∈ E (a.map shr) → 0 ≤ cr p q r := by
  intro p q r h1 h2
  obtain ⟨q', hq', rfl⟩ := List.mem_map.1 (E_mem h2).1
  obtain ⟨i, hi, rfl⟩ := mem_gt hq'
  obtain ⟨m, e1, e2⟩ := sim_rot_at (l := a) h3 hi
  rw [e2] at h1 h2 hs
  have f1 := E_rot_mem h1
  have f2 := E_rot_mem h2
  have nd := hs.rot.nd
  rw [e1] at f1 f2 nd
  rw [(edges_tri nd).2 f1, (edges_tri nd).1 f2, cr_shr]
  have nr : ∀ j, j < a.length → nearB 1048576 (gt a j) := fun j hj => hn _ (gt_in hj)
  have := hb i hi
  unfold bendW at this
  rw [cross_near (nr _ (Nat.mod_lt _ (by omega))) (nr _ hi) (nr _ (Nat.mod_lt _ (by omega))), crP_eq] at this
  omega
/-- All vertices of a convex polygon lie to the left of the sides of its normal form. -/
theorem convex_left {a : List (Int × Int)} (hc : checkW a a.length = 0) (hb : ∀ k, k < a.length → 0 ≤ bendW a a.length k) (hA : 0 < areaW a a.length a.length) :
    ∀ e ∈ E (normalW a a.length), (∀ r ∈ a, 0 ≤ cr e.1 e.2 r) ∧ ∃ r ∈ a, 0 < cr e.1 e.2 r := by
  classical
  have hn := check_near hc
  have hl := check_len hc
  obtain ⟨s, c3, hlam, har, hsub, hs0, nfl⟩ := corn_good hc
  have hmap := bends_map hs0 hl.1 hn hb
  have nf := nf_more _ (a.map shr) (fun q => decide (flat (a.map shr) q)) (Nat.le_refl _) (by rw [List.length_map]; exact hl.1) hs0 (fun q _ => by simp) hmap
  have e : (a.map shr).filter (fun q => !decide (flat (a.map shr) q)) = (corn a a.length a.length).map shr := by
    rw [corn_filter hs0 hl.1 hn a.length (Nat.le_refl _), List.take_length, List.filter_map]; rfl
  rw [e] at nf
  have lt' : lam (a.map shr) = true := by
    have o := orient hs0 (by rw [List.length_map]; exact hl.1)
    rw [ar_shr, ← area_ar hn (by omega) (by omega)] at o
    cases hz : lam (a.map shr) with
    | true => rfl
    | false => have := o.2 hz; omega
  have pos : ∀ p q r, (p, q) ∈ E ((corn a a.length a.length).map shr) → (q, r) ∈ E ((corn a a.length a.length).map shr) → 0 < cr p q r := by
    intro p q r h1 h2
    rcases Int.lt_or_eq_of_le (nf.1 p q r h1 h2) with g | g
    · exact g
    · exfalso
      obtain ⟨q', hq', rfl⟩ := List.mem_map.1 (E_mem h2).1
      exact nfl q' hq' ⟨p, r, h1, h2, g.symm⟩
  have st := strict _ _ (Nat.le_refl _) (by rw [List.length_map]; exact c3) s (by rw [hlam, lt']) pos
  have hR : cornR a a.length = corn a a.length a.length := by unfold cornR; rw [if_neg (by omega)]
  intro f hf
  unfold normalW rot at hf
  rw [hR] at hf
  have hf2 : f ∈ E (corn a a.length a.length) := by
    have := E_rot_mem hf
    rwa [List.take_append_drop] at this
  have hf3 : (shr f.1, shr f.2) ∈ E ((corn a a.length a.length).map shr) := by
    rw [E_map]; exact List.mem_map.2 ⟨f, hf2, rfl⟩
  have left : ∀ r ∈ (corn a a.length a.length).map shr, 0 ≤ cr (shr f.1) (shr f.2) r := by
    intro r hr
    by_cases c1 : r = shr f.1
    · rw [c1, cr_same1]; omega
    · by_cases c2 : r = shr f.2
      · rw [c2, cr_same2]; omega
      · exact Int.le_of_lt (st _ hf3 r hr c1 c2)
  have all := nf.2 _ _ left
  refine ⟨fun r hr => ?_, ?_⟩
  · have := all (shr r) (List.mem_map.2 ⟨r, hr, rfl⟩)
    rw [cr_shr] at this; omega
  · obtain ⟨x, hx⟩ := E_next (by rw [List.length_map]; omega) (E_mem hf3).2
    have g := pos _ _ _ hf3 hx
    obtain ⟨x', hx', rfl⟩ := List.mem_map.1 (E_mem hx).2
    rw [cr_shr] at g
    exact ⟨x', hsub x' hx', by omega⟩
/-- Two convex polygons that block a move have triangles that do. -/
theorem conv_blk {a b : List (Int × Int)} {d : Int × Int} (ha : checkW a a.length = 0) (hb : checkW b b.length = 0) (ba : ∀ k, k < a.length → 0 ≤ bendW a a.length k) (bb : ∀ k, k < b.length → 0 ≤ bendW b b.length k)
    (aa : 0 < areaW a a.length a.length) (ab : 0 < areaW b b.length b.length) (hB : Blk a b d) : ∃ s ∈ (splitAllW a).2, ∃ t ∈ (splitAllW b).2, Blk s t d := by
  obtain ⟨X0, N0, hN0, c1, c2⟩ := common hB
  obtain ⟨X, N, hN, g1, g2⟩ := generic (X := X0) hN0
  have one : ∀ {a : List (Int × Int)} (Y : Int × Int), checkW a a.length = 0 → (∀ e ∈ E (normalW a a.length), 0 < crN e.1 e.2 Y N) → (∀ p ∈ normalW a a.length, ∀ q ∈ normalW a a.length, p ≠ q → crN p q Y N ≠ 0) → ∃ s ∈ (splitAllW a).2, ∀ e ∈ E s, 0 < crN e.1 e.2 Y N := by
    intro a Y hc h1 h2
    obtain ⟨g, sub⟩ := normal_good hc
    obtain ⟨r, r1, _⟩ := split_good (normalW a a.length).length (normalW a a.length) [] a g (by omega) sub (by simp)
    obtain ⟨t, ht, hE⟩ := split_cover hN _ _ _ _ g (by omega) h1 h2 r1
    refine ⟨t, ?_, hE⟩
    unfold splitAllW; rw [if_pos hc, r1]; exact ht
  have bd : ∀ {a : List (Int × Int)}, checkW a a.length = 0 → ∀ p ∈ normalW a a.length, ∀ q ∈ normalW a a.length, (q.1 - p.1).natAbs ≤ 2097152 ∧ (q.2 - p.2).natAbs ≤ 2097152 := by
    intro a hc p hp q hq
    have h1 := check_near hc p ((normal_good hc).2 p hp)
    have h2 := check_near hc q ((normal_good hc).2 q hq)
    unfold nearB at h1 h2
    omega
  obtain ⟨s, hs, hsE⟩ := one X ha (fun e he => by
      have k := convex_left ha ba aa e he
      have b1 := bd ha _ (E_mem he).1 _ (E_mem he).2
      exact g1 _ _ b1.1 b1.2 (c1 _ _ k.1 k.2)) (fun p hp q hq ne => g2 p q (bd ha p hp q hq).1 (bd ha p hp q hq).2 ne)
  have sh : ∀ p q : Int × Int, crN p q (sb X (scl N d)) N = crN (ad p d) (ad q d) X N := by intro p q; unfold crN sb scl ad; grind
  obtain ⟨t, ht, htE⟩ := one (sb X (scl N d)) hb (fun e he => by
      have k := convex_left hb bb ab e he
      have b1 := bd hb _ (E_mem he).1 _ (E_mem he).2
      have cc : ∀ q, cr (ad e.1 d) (ad e.2 d) (ad q d) = cr e.1 e.2 q := by intro q; unfold cr ad; grind
      rw [sh]
      refine g1 _ _ (by unfold ad; simp only; have := b1.1; omega) (by unfold ad; simp only; have := b1.2; omega) (c2 _ _ (fun q hq => by rw [cc]; exact k.1 q hq) ?_)
      obtain ⟨r, hr, hp⟩ := k.2
      exact ⟨r, hr, by rw [cc]; exact hp⟩) (fun p hp q hq ne => by
      rw [sh]
      have b1 := bd hb p hp q hq
      refine g2 _ _ (by unfold ad; simp only; have := b1.1; omega) (by unfold ad; simp only; have := b1.2; omega) (fun e => ne ?_)
      unfold ad at e
      injection e with e1 e2
      exact Prod.ext (by omega) (by omega))
  have l3 : ∀ {a : List (Int × Int)} {t : List (Int × Int)}, checkW a a.length = 0 → t ∈ (splitAllW a).2 → 2 ≤ t.length := by
    intro a t hc ht
    obtain ⟨x, y, z, rfl, _⟩ := (Ears.split_ok hc).2.1 t ht
    simp
  exact ⟨s, hs, t, ht, cover_blk hN (l3 ha hs) (l3 hb ht) hsE htE⟩
end Go.Proofs.YtmdncaoilegnnaaGreat

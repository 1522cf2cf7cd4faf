/- garmentref16.Light, garmentlaw16.near and half, garmentref11.Same and Less, nofit.Blocks, overlap.Touch. The plain laws of nofit: swapping, moving, a polygon with itself. Moving a polygon moves its triangles; contact of triangles. The plain laws of nofit: moves, a polygon with itself, overlap, touching. -/
import Derived.Test.YtmdncaoilegnnaaGreatUG27
import Derived.Test.YtmdncaoilegnnaaGreatUC
import Derived.Test.YtmdncaoilegnnaaGreatUG42
import Derived.Test.YtmdncaoilegnnaaGreatUG64
import Derived.BigQuiet
namespace Go.Proofs.YtmdncaoilegnnaaGreat
set_option linter.unusedVariables false
set_option linter.unusedSimpArgs false
set_option linter.unusedVariables false
set_option linter.unusedSimpArgs false
open Go.RowKit

/-- What Blocks gives: the answer and the error's number. -/
def blocksW (a b : List (Int × Int)) (d : Int × Int) : Bool × Int := if (regionsW a b).1 ≠ 0 then (false, (regionsW a b).1) else (blockedW (regionsW a b).2 d, 0)
end Go.Proofs.YtmdncaoilegnnaaGreat

namespace Go.Proofs.YtmdncaoilegnnaaGreat
set_option linter.unusedVariables false
set_option linter.unusedSimpArgs false
set_option linter.unusedVariables false
set_option linter.unusedSimpArgs false
open Go.RowKit Ears

theorem blocks_ok {a b : List (Int × Int)} (ha : checkW a a.length = 0) (hb : checkW b b.length = 0) (d : Int × Int) : blocksW a b d = (blockedW (regionsW a b).2 d, 0) := by
  unfold blocksW; rw [if_neg (by rw [(regions_ok ha hb).1]; simp)]
theorem bool_iff {x y : Bool} (h : x = true ↔ y = true) : x = y := by rw [Bool.eq_iff_iff]; exact h
end Go.Proofs.YtmdncaoilegnnaaGreat

namespace Go.Proofs.YtmdncaoilegnnaaGreat
set_option linter.unusedVariables false
set_option linter.unusedSimpArgs false
set_option linter.unusedVariables false
set_option linter.unusedSimpArgs false
open Go.RowKit Ears

theorem idx_congr {f g : Nat → Bool} {n : Nat} (hf : ∀ i, i < n → f i = g i) : idxOf f n = idxOf g n := by
  unfold idxOf
  have : (List.range n).find? f = (List.range n).find? g := by
    have key : ∀ L : List Nat, (∀ i ∈ L, f i = g i) → L.find? f = L.find? g := by
      intro L
      induction L with
      | nil => intro _; rfl
      | cons x L ih =>
        intro hL
        rw [List.find?_cons, List.find?_cons, hL x (by simp), ih fun i hi => hL i (by simp [hi])]
    exact key _ (fun i hi => hf i (by simpa using hi))
  rw [this]
theorem corn_mem {l : List (Int × Int)} : ∀ k, k ≤ l.length → ∀ q ∈ Go.Proofs.YtmdncaoilegnnaaGreat.corn l l.length k, q ∈ l
  | 0, _, q, hq => by simp [Go.Proofs.YtmdncaoilegnnaaGreat.corn] at hq
  | k + 1, hk, q, hq => by
    have ih := corn_mem (l := l) k (by omega) q
    rw [Go.Proofs.YtmdncaoilegnnaaGreat.corn] at hq
    split at hq
    · rcases List.mem_append.1 hq with g | g
      · exact ih g
      · simp at g; rw [g]; exact gt_in (by omega)
    · exact ih hq
/-- A map that keeps what Split looks at, on a set D of points. -/
structure Eqv (D : Int × Int → Prop) (T : Int × Int → Int × Int) : Prop where
  cr : ∀ a b c, D a → D b → D c → crossW (T a) (T b) (T c) = crossW a b c
  eq : ∀ a b, D a → D b → eqS (T a) (T b) = eqS a b
  ls : ∀ a b, D a → D b → lessS (T a) (T b) = lessS a b
  nr : ∀ a, D a → nearB 1048576 a ∧ nearB 1048576 (T a)
section
variable {D : Int × Int → Prop} {T : Int × Int → Int × Int}

theorem Eqv.holds (h : Eqv D T) {a b c q : Int × Int} (ha : D a) (hb : D b) (hc : D c) (hq : D q) : holdsW (T a) (T b) (T c) (T q) = holdsW a b c q := by
  have o : ∀ {p : Int × Int}, D p → outB 1048576 p = false ∧ outB 1048576 (T p) = false := fun hp => ⟨out_near (h.nr _ hp).1, out_near (h.nr _ hp).2⟩
  unfold holdsW
  rw [(o ha).1, (o hb).1, (o hc).1, (o hq).1, (o ha).2, (o hb).2, (o hc).2, (o hq).2, h.cr a b c ha hb hc, h.cr a c q ha hc hq, h.cr c b q hc hb hq, h.cr b a q hb ha hq, h.cr a b q ha hb hq, h.cr b c q hb hc hq, h.cr c a q hc ha hq]
theorem Eqv.str (h : Eqv D T) {l : List (Int × Int)} (hl : ∀ q ∈ l, D q) {k : Nat} (hk : k < l.length) : strW (l.map T) l.length k = strW l l.length k := by
  have hD : ∀ i, i < l.length → D (gt l i) := fun i hi => hl _ (gt_in hi)
  have m1 : (k + 1) % l.length < l.length := Nat.mod_lt _ (by omega)
  have m2 : (k + l.length - 1) % l.length < l.length := Nat.mod_lt _ (by omega)
  unfold strW
  rw [gt_map hk, gt_map m1, gt_map m2, h.cr _ _ _ (hD _ m2) (hD _ hk) (hD _ m1)]
theorem Eqv.bend (h : Eqv D T) {l : List (Int × Int)} (hl : ∀ q ∈ l, D q) {k : Nat} (hk : k < l.length) : bendW (l.map T) l.length k = bendW l l.length k := by
  have hD : ∀ i, i < l.length → D (gt l i) := fun i hi => hl _ (gt_in hi)
  have m1 : (k + 1) % l.length < l.length := Nat.mod_lt _ (by omega)
  have m2 : (k + l.length - 1) % l.length < l.length := Nat.mod_lt _ (by omega)
  unfold bendW
  rw [gt_map hk, gt_map m1, gt_map m2, h.cr _ _ _ (hD _ m2) (hD _ hk) (hD _ m1)]
theorem Eqv.free (h : Eqv D T) {l : List (Int × Int)} (hl : ∀ q ∈ l, D q) {k : Nat} (hk : k < l.length) : freeW (l.map T) l.length k = freeW l l.length k := by
  have hD : ∀ i, i < l.length → D (gt l i) := fun i hi => hl _ (gt_in hi)
  have m1 : (k + 1) % l.length < l.length := Nat.mod_lt _ (by omega)
  have m2 : (k + l.length - 1) % l.length < l.length := Nat.mod_lt _ (by omega)
  unfold freeW
  rw [gt_map hk, gt_map m1, gt_map m2, h.cr _ _ _ (hD _ m2) (hD _ hk) (hD _ m1)]
  congr 1
  apply AllB.congr
  intro i hi
  unfold frW
  rw [gt_map hk, gt_map m1, gt_map m2, gt_map hi, h.eq _ _ (hD _ hi) (hD _ m2), h.eq _ _ (hD _ hi) (hD _ hk), h.eq _ _ (hD _ hi) (hD _ m1), h.holds (hD _ m2) (hD _ hk) (hD _ m1) (hD _ hi)]
theorem Eqv.split (h : Eqv D T) : ∀ (f : Nat) (cur : List (Int × Int)) (ts : List (List (Int × Int))), (∀ q ∈ cur, D q) → splitW f (cur.map T) (ts.map fun t => t.map T) = (splitW f cur ts).map fun r => r.map fun t => t.map T
  | 0, cur, ts, hl => by simp [splitW]
  | f + 1, cur, ts, hl => by
    have len : (cur.map T).length = cur.length := List.length_map _
    have e1 : idxOf (strW (cur.map T) cur.length) cur.length = idxOf (strW cur cur.length) cur.length := idx_congr (fun i hi => h.str hl hi)
    have e2 : idxOf (freeW (cur.map T) cur.length) cur.length = idxOf (freeW cur cur.length) cur.length := idx_congr (fun i hi => h.free hl hi)
    by_cases h3 : cur.length ≤ 3
    · rw [splitW_end (by rw [len]; exact h3), splitW_end h3]; simp
    · have er : ∀ k, (cur.map T).eraseIdx k = (cur.eraseIdx k).map T := fun k => by rw [erase_rot, erase_rot, List.map_append, List.map_take, List.map_drop]
      have sub : ∀ k, ∀ q ∈ cur.eraseIdx k, D q := fun k q hq => hl q (List.mem_of_mem_eraseIdx hq)
      rcases idxOf_cases (strW cur cur.length) cur.length with g | ⟨k, hk, g⟩
      · rcases idxOf_cases (freeW cur cur.length) cur.length with g2 | ⟨k, hk, g2⟩
        · rw [splitW_none len h3 (by rw [e1, g]; omega) (by rw [e2, g2]; omega), splitW_none rfl h3 (by rw [g]; omega) (by rw [g2]; omega)]; rfl
        · rw [splitW_ear len h3 (by rw [e1, g]; omega) (by rw [e2]; exact g2), splitW_ear rfl h3 (by rw [g]; omega) g2, er]
          have ht : triW (cur.map T) cur.length k = (triW cur cur.length k).map T := by
            unfold triW; rw [gt_map hk, gt_map (Nat.mod_lt _ (by omega)), gt_map (Nat.mod_lt _ (by omega))]; rfl
          have := Eqv.split h f (cur.eraseIdx k) (ts ++ [triW cur cur.length k]) (sub k)
          rw [List.map_append, List.map_cons, List.map_nil, ← ht] at this
          exact this
      · rw [splitW_str len h3 (by rw [e1]; exact g), splitW_str rfl h3 g, er]
        exact Eqv.split h f (cur.eraseIdx k) ts (sub k)
theorem Eqv.corn (h : Eqv D T) {l : List (Int × Int)} (hl : ∀ q ∈ l, D q) : ∀ k, k ≤ l.length → Go.Proofs.YtmdncaoilegnnaaGreat.corn (l.map T) l.length k = (Go.Proofs.YtmdncaoilegnnaaGreat.corn l l.length k).map T
  | 0, _ => rfl
  | k + 1, hk => by
    have ih := Eqv.corn h hl k (by omega)
    rw [Go.Proofs.YtmdncaoilegnnaaGreat.corn, Go.Proofs.YtmdncaoilegnnaaGreat.corn, h.bend hl (by omega), ih, gt_map (by omega)]
    split <;> simp
theorem Eqv.frst (h : Eqv D T) {c : List (Int × Int)} (hl : ∀ q ∈ c, D q) : ∀ k, k ≤ c.length → 0 < c.length → Go.Proofs.YtmdncaoilegnnaaGreat.frst (c.map T) k = Go.Proofs.YtmdncaoilegnnaaGreat.frst c k
  | 0, _, _ => rfl
  | k + 1, hk, h0 => by
    have ih := Eqv.frst h hl k (by omega) h0
    have lt := frst_le c k
    have lt2 : Go.Proofs.YtmdncaoilegnnaaGreat.frst c k < c.length := by omega
    rw [Go.Proofs.YtmdncaoilegnnaaGreat.frst, Go.Proofs.YtmdncaoilegnnaaGreat.frst, ih, gt_map (by omega), gt_map lt2, h.ls _ _ (hl _ (gt_in (by omega))) (hl _ (gt_in lt2))]
theorem Eqv.normal (h : Eqv D T) {l : List (Int × Int)} (hl : ∀ q ∈ l, D q) (ha : areaW (l.map T) l.length l.length = areaW l l.length l.length) : normalW (l.map T) l.length = (normalW l l.length).map T := by
  have hc : cornR (l.map T) l.length = (cornR l l.length).map T := by
    unfold cornR
    rw [ha, h.corn hl l.length (Nat.le_refl _)]
    split
    · rw [List.map_reverse]
    · rfl
  have hm : ∀ q ∈ cornR l l.length, D q := by
    intro q hq
    unfold cornR at hq
    split at hq
    · exact hl q (corn_mem l.length (Nat.le_refl _) q (List.mem_reverse.1 hq))
    · exact hl q (corn_mem l.length (Nat.le_refl _) q hq)
  unfold normalW rot
  rw [hc, List.length_map]
  rcases Nat.eq_zero_or_pos (cornR l l.length).length with g | g
  · have : cornR l l.length = [] := List.eq_nil_of_length_eq_zero g
    rw [this]; rfl
  · rw [h.frst hm _ (Nat.le_refl _) g, List.map_append, List.map_drop, List.map_take]
end

theorem ar_move (l : List (Int × Int)) (d : Int × Int) : ar (l.map fun q => ad q d) = ar l := by
  unfold ar
  rw [E_map]
  cases l with
  | nil => rfl
  | cons x k =>
    simp only [E]
    have key : ∀ (k : List (Int × Int)) (x : Int × Int), sm ((ch x k).map fun e => (ad e.1 d, ad e.2 d)) = sm (ch x k) + (d.1 * ((fin x k).2 - x.2) - d.2 * ((fin x k).1 - x.1)) := by
      intro k
      induction k with
      | nil => intro x; simp [ch, sm, fin]
      | cons y k ih =>
        intro x
        simp only [ch, List.map_cons, sm_cons, fin]
        rw [ih y]
        have : vx (ad x d, ad y d) = vx (x, y) + (d.1 * (y.2 - x.2) - d.2 * (y.1 - x.1)) := by unfold vx ad; grind
        rw [this]
        grind
    rw [key, fin_snoc]
    grind
theorem wrap_back {p x : Int} (hx : inR x) (hp : -1048576 ≤ p ∧ p ≤ 1048576) (h : -1048576 ≤ wrap64 (p + x) ∧ wrap64 (p + x) ≤ 1048576) : wrap64 (p + x) = p + x := by
  unfold inR at hx
  unfold wrap64 at *
  omega
theorem mov_exact {l : List (Int × Int)} {d : Int × Int} (hd : inR d.1 ∧ inR d.2) (hl : ∀ q ∈ l, nearB 1048576 q) (hm : ∀ q ∈ movW l d, nearB 1048576 q) : movW l d = l.map (fun q => ad q d) ∧ ∀ q ∈ l, nearB 1048576 (ad q d) := by
  have key : ∀ q ∈ l, (wrap64 (q.1 + d.1), wrap64 (q.2 + d.2)) = ad q d := by
    intro q hq
    have h1 := hl q hq
    have h2 := hm _ (List.mem_map.2 ⟨q, hq, rfl⟩)
    unfold nearB at h1 h2
    simp only at h2
    rw [wrap_back hd.1 ⟨h1.1, h1.2.1⟩ ⟨h2.1, h2.2.1⟩, wrap_back hd.2 ⟨h1.2.2.1, h1.2.2.2⟩ ⟨h2.2.2.1, h2.2.2.2⟩]; rfl
  have e : movW l d = l.map (fun q => ad q d) := List.map_congr_left key
  refine ⟨e, fun q hq => hm _ ?_⟩
  rw [e]; exact List.mem_map.2 ⟨q, hq, rfl⟩
theorem eqv_move (d : Int × Int) : Eqv (fun q => nearB 1048576 q ∧ nearB 1048576 (ad q d)) (fun q => ad q d) where
  cr a b c ha hb hc := by
    rw [cross_near ha.2 hb.2 hc.2, cross_near ha.1 hb.1 hc.1]
    unfold crP ad; grind
  eq a b _ _ := by rw [Bool.eq_iff_iff]; unfold eqS ad; simp
  ls a b _ _ := by rw [Bool.eq_iff_iff]; unfold lessS ad; simp
  nr a ha := ha
/-- The triangles of a moved polygon. -/
theorem split_move {b : List (Int × Int)} {d : Int × Int} (hd : inR d.1 ∧ inR d.2) (hb : checkW b b.length = 0) (hm : checkW (movW b d) b.length = 0) : (splitAllW (movW b d)).2 = (splitAllW b).2.map fun t => t.map fun q => ad q d := by
  have ml : (movW b d).length = b.length := movW_len b d
  have hm' : checkW (movW b d) (movW b d).length = 0 := by rw [ml]; exact hm
  obtain ⟨e, hn⟩ := mov_exact hd (check_near hb) (check_near hm')
  have hD : ∀ q ∈ b, nearB 1048576 q ∧ nearB 1048576 (ad q d) := fun q hq => ⟨check_near hb q hq, hn q hq⟩
  have cl := check_len hb
  have ha : areaW (b.map fun q => ad q d) b.length b.length = areaW b b.length b.length := by
    have h1 := area_ar (l := b.map fun q => ad q d) (fun q hq => by obtain ⟨p, hp, rfl⟩ := List.mem_map.1 hq; exact hn p hp) (by rw [List.length_map]; omega) (by rw [List.length_map]; omega)
    rw [List.length_map] at h1
    rw [h1, area_ar (check_near hb) (by omega) (by omega), ar_move]
  have hN := (eqv_move d).normal hD ha
  have hs := (eqv_move d).split (normalW b b.length).length (normalW b b.length) [] (fun q hq => hD q ((normal_good hb).2 q hq))
  rw [← hN, List.map_nil] at hs
  obtain ⟨r, r1, _⟩ := split_good (normalW b b.length).length (normalW b b.length) [] b (normal_good hb).1 (by omega) (normal_good hb).2 (by simp)
  unfold splitAllW
  rw [if_pos hm', if_pos hb, ml, e, r1]
  have : (normalW (b.map fun q => ad q d) b.length).length = (normalW b b.length).length := by rw [hN, List.length_map]
  rw [this, hs, r1]
  rfl
end Go.Proofs.YtmdncaoilegnnaaGreat

namespace Go.Proofs.YtmdncaoilegnnaaGreat
set_option linter.unusedVariables false
set_option linter.unusedSimpArgs false
set_option linter.unusedVariables false
set_option linter.unusedSimpArgs false
open Go.RowKit Ears

theorem reach_ge {a b : List (Int × Int)} {v : Int} (h0 : 0 ≤ v) (h1 : v ≤ 1) (ha : 0 < a.length) : v ≤ reachW a b ↔ ∀ e ∈ E a, ∃ q ∈ b, v ≤ cmpI (crossW e.1 e.2 q) 0 := by
  unfold reachW
  rw [reachTo_ge h1]
  constructor
  · intro h e he
    obtain ⟨i, hi, rfl⟩ := (E_idx ha e).1 he
    obtain ⟨j, hj, g⟩ := (most_ge h0 _).1 (h i hi)
    exact ⟨_, gt_in hj, g⟩
  · intro h i hi
    obtain ⟨q, hq, g⟩ := h _ ((E_idx ha _).2 ⟨i, hi, rfl⟩)
    obtain ⟨j, hj, rfl⟩ := mem_gt hq
    exact (most_ge h0 _).2 ⟨j, hj, g⟩
theorem clos_ge {ss ts : List (List (Int × Int))} {v : Int} (hv : 0 ≤ v) : v ≤ closTo ss ts ss.length ↔ ∃ s ∈ ss, ∃ t ∈ ts, v ≤ contactW s t := by
  rw [closTo_ge hv]
  constructor
  · rintro ⟨i, hi, j, hj, h⟩; exact ⟨_, lt_in hi, _, lt_in hj, h⟩
  · rintro ⟨s, hs, t, ht, h⟩
    obtain ⟨i, hi, rfl⟩ := mem_lt hs
    obtain ⟨j, hj, rfl⟩ := mem_lt ht
    exact ⟨i, hi, j, hj, h⟩
theorem clos_le {ss ts : List (List (Int × Int))} : closTo ss ts ss.length ≤ 1 := by
  rcases Int.lt_or_le 1 (closTo ss ts ss.length) with h | h
  · obtain ⟨s, _, t, _, g⟩ := (clos_ge (v := 2) (by omega)).1 (show 2 ≤ closTo ss ts ss.length by omega)
    have := contact_le s t; omega
  · exact h
/-- Two triangles overlap just if the move is blocked. -/
theorem contact_blk {s t : List (Int × Int)} {d : Int × Int} (hs : Tri 1048576 s) (ht : Tri 1048576 t) (hd : ∀ q ∈ t, nearB 1048576 (ad q d)) : 1 ≤ contactW s (t.map fun q => ad q d) ↔ Blk s t d := by
  obtain ⟨L, x, y, _, reg⟩ := Sum_tri hs ht
  have hsn := hs.near
  have htn := ht.near
  obtain ⟨a, b, c, rfl, D1, -⟩ := hs
  obtain ⟨a', b', c', rfl, D2, -⟩ := ht
  rw [← inn_blk reg.diff, ← inn_iff reg.spec, sat D1 D2 reg.diff reg.spec]
  have nm : ∀ q ∈ ([a', b', c'].map fun q => ad q d), nearB 1048576 q := by
    intro q hq; obtain ⟨p, hp, rfl⟩ := List.mem_map.1 hq; exact hd p hp
  unfold contactW
  rw [show (1 ≤ min (reachW [a, b, c] ([a', b', c'].map fun q => ad q d)) (reachW ([a', b', c'].map fun q => ad q d) [a, b, c])) ↔ (1 ≤ reachW [a, b, c] ([a', b', c'].map fun q => ad q d) ∧ 1 ≤ reachW ([a', b', c'].map fun q => ad q d) [a, b, c]) by omega]
  rw [reach_ge (by omega) (by omega) (by simp), reach_ge (by omega) (by omega) (by simp)]
  apply and_congr
  · constructor
    · intro h e he
      obtain ⟨q, hq, g⟩ := h e he
      obtain ⟨p, hp, rfl⟩ := List.mem_map.1 hq
      rw [cmp_one, cross_near (hsn _ (E_mem he).1) (hsn _ (E_mem he).2) (hd p hp)] at g
      exact ⟨p, hp, g⟩
    · intro h e he
      obtain ⟨p, hp, g⟩ := h e he
      refine ⟨_, List.mem_map.2 ⟨p, hp, rfl⟩, ?_⟩
      rw [cmp_one, cross_near (hsn _ (E_mem he).1) (hsn _ (E_mem he).2) (hd p hp)]
      exact g
  · rw [E_map]
    constructor
    · intro h e he
      obtain ⟨q, hq, g⟩ := h _ (List.mem_map.2 ⟨e, he, rfl⟩)
      rw [cmp_one, cross_near (hd _ (E_mem he).1) (hd _ (E_mem he).2) (hsn q hq)] at g
      exact ⟨q, hq, g⟩
    · intro h e he
      obtain ⟨e', he', rfl⟩ := List.mem_map.1 he
      obtain ⟨p, hp, g⟩ := h e' he'
      refine ⟨p, hp, ?_⟩
      rw [cmp_one, cross_near (hd _ (E_mem he').1) (hd _ (E_mem he').2) (hsn p hp)]
      exact g
/-- Triangles with a common vertex touch at least. -/
theorem contact_meet {s t : List (Int × Int)} {d p q : Int × Int} (hs : Tri 1048576 s) (ht : Tri 1048576 t) (hd : ∀ q ∈ t, nearB 1048576 (ad q d)) (hp : p ∈ s) (hq : q ∈ t) (e : p = ad q d) : 0 ≤ contactW s (t.map fun q => ad q d) := by
  have hsn := hs.near
  obtain ⟨a, b, c, rfl, D1, -⟩ := hs
  obtain ⟨a', b', c', rfl, D2, -⟩ := ht
  unfold contactW
  rw [show (0 ≤ min (reachW [a, b, c] ([a', b', c'].map fun q => ad q d)) (reachW ([a', b', c'].map fun q => ad q d) [a, b, c])) ↔ (0 ≤ reachW [a, b, c] ([a', b', c'].map fun q => ad q d) ∧ 0 ≤ reachW ([a', b', c'].map fun q => ad q d) [a, b, c]) by omega]
  rw [reach_ge (by omega) (by omega) (by simp), reach_ge (by omega) (by omega) (by simp)]
  constructor
  · intro f hf
    refine ⟨ad q d, List.mem_map.2 ⟨q, hq, rfl⟩, ?_⟩
    rw [cmp_zero, cross_near (hsn _ (E_mem hf).1) (hsn _ (E_mem hf).2) (hd q hq), ← e]
    exact (tri_left D1 f hf).2 p hp
  · rw [E_map]
    intro f hf
    obtain ⟨f', hf', rfl⟩ := List.mem_map.1 hf
    refine ⟨p, hp, ?_⟩
    rw [cmp_zero, cross_near (hd _ (E_mem hf').1) (hd _ (E_mem hf').2) (hsn p hp), e]
    have := (tri_left D2 f' hf').2 q hq
    have id : crP (ad f'.1 d) (ad f'.2 d) (ad q d) = cr f'.1 f'.2 q := by unfold crP ad cr; grind
    rw [id]; exact this
section
variable {a b : List (Int × Int)}
theorem tris (ha : checkW a a.length = 0) : ∀ s ∈ (splitAllW a).2, Tri 1048576 s ∧ ∀ q ∈ s, q ∈ a := by
  intro s hs
  have h := (Ears.split_ok ha).2.1 s hs
  refine ⟨tri_of (check_near ha) h, fun q hq => ?_⟩
  obtain ⟨x, y, z, rfl, _, h1, h2, h3⟩ := h
  simp at hq; rcases hq with rfl | rfl | rfl <;> assumption
theorem rel_moved (ha : checkW a a.length = 0) (hb : checkW b b.length = 0) {d : Int × Int} (hd : inR d.1 ∧ inR d.2) (hm : checkW (movW b d) b.length = 0) :
    ∃ c, relW a (movW b d) = (c, 0) ∧ c ≤ 1 ∧ (1 ≤ c ↔ blockedW (regionsW a b).2 d = true) ∧ ((∃ s ∈ (splitAllW a).2, ∃ t ∈ (splitAllW b).2, ∃ p ∈ s, ∃ q ∈ t, p = ad q d) → 0 ≤ c) := by
  have ml : (movW b d).length = b.length := movW_len b d
  have hm' : checkW (movW b d) (movW b d).length = 0 := by rw [ml]; exact hm
  obtain ⟨e, hn⟩ := mov_exact hd (check_near hb) (check_near hm')
  have hs := split_move hd hb hm
  refine ⟨_, relW_c (Ears.split_ok ha).1 (Ears.split_ok hm').1, clos_le, ?_, ?_⟩
  · rw [clos_ge (by omega), blocked_iff ha hb, hs]
    constructor
    · rintro ⟨s, h1, t', h2, g⟩
      obtain ⟨t, h3, rfl⟩ := List.mem_map.1 h2
      exact ⟨s, h1, t, h3, (contact_blk (tris ha s h1).1 (tris hb t h3).1 (fun q hq => hn q ((tris hb t h3).2 q hq))).1 g⟩
    · rintro ⟨s, h1, t, h3, g⟩
      exact ⟨s, h1, _, List.mem_map.2 ⟨t, h3, rfl⟩, (contact_blk (tris ha s h1).1 (tris hb t h3).1 (fun q hq => hn q ((tris hb t h3).2 q hq))).2 g⟩
  · rintro ⟨s, h1, t, h3, p, hp, q, hq, ee⟩
    rw [clos_ge (by omega), hs]
    exact ⟨s, h1, _, List.mem_map.2 ⟨t, h3, rfl⟩, contact_meet (tris ha s h1).1 (tris hb t h3).1 (fun q hq => hn q ((tris hb t h3).2 q hq)) hp hq ee⟩
theorem exact_plain (ha : checkW a a.length = 0) (hb : checkW b b.length = 0) {d : Int × Int} (hd : inR d.1 ∧ inR d.2) (hm : checkW (movW b d) b.length = 0) : ∃ v, blocksW a b d = (v, 0) ∧ overW a (movW b d) = (v, 0) := by
  obtain ⟨c, h1, h2, h3, _⟩ := rel_moved ha hb hd hm
  refine ⟨_, blocks_ok ha hb d, ?_⟩
  unfold overW
  rw [h1]
  simp only [BEq.rfl, Bool.true_and]
  congr 1
  apply bool_iff
  rw [← h3, beq_iff_eq]
  omega
theorem spots_ok (ha : checkW a a.length = 0) (hb : checkW b b.length = 0) : spotsW a b = (0, spotsOf (regionsW a b).2) := by
  unfold spotsW; rw [if_neg (by rw [(regions_ok ha hb).1]; simp)]
theorem spots_mem {rs : List (List (Int × Int))} {q : Int × Int} : q ∈ spotsOf rs ↔ (∃ r ∈ rs, q ∈ r) ∧ blockedW rs q = false := by
  unfold spotsOf
  rw [sort_mem, List.mem_filter, mem_uniq, List.mem_flatten]
  simp
end
end Go.Proofs.YtmdncaoilegnnaaGreat

/- cmp.Compare, cmp.Or and the comparisons of spots, with the exact world. convex.Negate, slices.Clone at spots. polyline.Move, polygon.Move. convex.border. -/
import Derived.Test.YtmdncaoilegnnaaGreatUD
import Derived.Sort.Grow
import Derived.StillTailTactics
namespace Go.Proofs.YtmdncaoilegnnaaGreat
set_option linter.unusedVariables false
set_option linter.unusedSimpArgs false
set_option linter.unusedVariables false
set_option linter.unusedSimpArgs false
open Go.RowKit

set_option maxHeartbeats 400000 in
theorem compare_same (x y : Int) (w : World) : Calls Tryz.prog 80 #[.int .i64 x, .int .i64 y] w fun e w' => e = .returned (.int .i64 (cmpI x y)) ∧ w = w' := by
  go_enter Tryz.func80, Tryz.ntmps80
  go_wp2_with (go_at_call 111; refine (isNaN_any _ _).mono ?_; rintro e w' ⟨rfl, rfl⟩)
  all_goals go_ret
  all_goals exact ⟨ret_int (by unfold cmpI; (repeat split) <;> omega), rfl⟩
def orI : List Int → Int
  | [] => 0
  | x :: l => if x != 0 then x else orI l
theorem orI_hit {l : List Int} {k : Nat} {x : Int} (h : ∀ j, j < k → l[j]? = some 0) (hk : l[k]? = some x) (hx : (x != 0) = true) : orI l = x := by
  induction l generalizing k with
  | nil => simp at hk
  | cons a l ih =>
    cases k with
    | zero => simp at hk; subst hk; unfold orI; rw [if_pos hx]
    | succ k =>
      have h0 := h 0 (by omega)
      simp at h0; subst h0
      rw [show orI (0 :: l) = orI l from rfl]
      exact ih (k := k) (fun j hj => by simpa using h (j + 1) (by omega)) (by simpa using hk)
theorem orI_none {l : List Int} (h : ∀ j, j < l.length → l[j]? = some 0) : orI l = 0 := by
  induction l with
  | nil => rfl
  | cons a l ih =>
    have h0 := h 0 (by simp)
    simp at h0; subst h0
    rw [show orI (0 :: l) = orI l from rfl]
    exact ih (fun j hj => by simpa using h (j + 1) (by simp; omega))
set_option maxHeartbeats 1000000 in
theorem or_any (b cap n : Nat) (l : List Int) (w : World) (hn : l.length = n) (hl : n ≤ 1000) (hc : ∀ (k : Nat) (x : Int), l[k]? = some x → w.cell? ⟨b, k, none⟩ = some (.int .i64 x)) :
    Calls Tryz.prog 79 #[.slice (some ⟨b, 0, none⟩) n cap] w fun e w' => e = .returned (.int .i64 (orI l)) ∧ w = w' := by
  have HN := Lib.hid hn
  have HCC := Lib.hid hc
  clear hn hc
  go_enter Tryz.func79, Tryz.ntmps79
  go_wp2_with fail
  go_loop [8] (fun i => ∃ k : Nat, k ≤ n ∧ i = .int .i64 k ∧ Hid (∀ j, j < k → l[j]? = some 0)) (fun i => n - (intOf i).toNat)
  case atStart => exact ⟨0, Nat.zero_le _, rfl, fun j hj => absurd hj (by omega)⟩
  case round =>
    obtain ⟨k, hk, rfl, hp⟩ := hrel
    by_cases hlt : k < n
    · obtain ⟨x, hx⟩ : ∃ x, l[k]? = some x := ⟨_, List.getElem?_eq_getElem (by rw [HN.out]; exact hlt)⟩
      have h1 := HCC.out k x hx
      have HX := Lib.hid hx
      clear hx
      by_cases h0 : (x != 0) = true
      · go_wp2_with fail
        go_ret
        exact ⟨ret_int (orI_hit hp.out HX.out h0).symm, rfl⟩
      · have h0' : (x != 0) = false := by simpa using h0
        have hx0 : x = 0 := by simpa using h0'
        have HX0 := Lib.hid hx0
        clear h0 hx0
        go_wp2_with fail
        go_round
        case rel =>
          refine ⟨k + 1, by omega, by go_num, fun j hj => ?_⟩
          rcases Nat.lt_or_ge j k with hj' | hj'
          · exact hp.out j hj'
          · have : j = k := by omega
            rw [this, HX.out, HX0.out]
        case measure => simp [intOf]; omega
    · obtain rfl : n = k := by omega
      go_wp2_with fail
      go_ret
      exact ⟨ret_int (orI_none (fun j hj => hp.out j (by rw [HN.out] at hj; exact hj))).symm, rfl⟩
def cmpS (p q : Int × Int) : Int := orI [cmpI p.1 q.1, cmpI p.2 q.2]
theorem cmpS_eq (ax ay bx bY : Int) : orI [cmpI ax bx, cmpI ay bY] = cmpS (ax, ay) (bx, bY) := rfl
/-- Blocks and draws alone. -/
def GrW (w : World) (w' : World) : Prop := ∃ q os, w' = Sort.grow (w.drewN q) os
theorem GrW.refl (w : World) : GrW w w := ⟨0, #[], by rw [Sort.grow_empty]; rfl⟩
theorem GrW.alloc {w w' : World} (h : GrW w w') (o : Obj) : GrW w (w'.alloc o) := by
  obtain ⟨q, os, rfl⟩ := h
  exact ⟨q, os ++ #[o], by rw [Sort.alloc_eq_grow, Sort.grow_grow]⟩
theorem GrW.drew {w w' : World} (h : GrW w w') : GrW w w'.drew := by
  obtain ⟨q, os, rfl⟩ := h
  exact ⟨q + 1, os, rfl⟩
theorem GrW.below {w w' : World} (h : GrW w w') : Below w.heap.size w w' := by
  obtain ⟨q, os, rfl⟩ := h
  refine ⟨rfl, rfl, rfl, by simp [Sort.grow], fun k hk => ?_⟩
  show (w.heap ++ os)[k]? = _
  rw [Array.getElem?_append_left hk]
theorem or2 (b : Nat) (tb : TypeId) (x y : Int) (w : World) (h : BlkS w b tb #[.int .i64 x, .int .i64 y]) :
    Calls Tryz.prog 79 #[.slice (some ⟨b, 0, none⟩) 2 2] w fun e w' => e = .returned (.int .i64 (orI [x, y])) ∧ w = w' :=
  or_any b 2 2 [x, y] w rfl (by omega) (fun k z hz => by
    match k, hz with
    | 0, hz => simp at hz; subst hz; exact h.cell 0
    | 1, hz => simp at hz; subst hz; exact h.cell 1)
theorem wp_region_tailD {P : Program} {id : Nat} {Q : Exit → Act → World → Prop} {a : Act} {w : World} {l : List Oper} (n : Nat) (hm : P.follows .mixedOrders = true) (hB : Region.lexTailB .any l.toArray n = true)
    (h : wpStill P l.toArray w.drew (fun a' => wpList P l.toArray Q (l.drop n) a' w.drew) (l.take n) a) : (Code.region id l.toArray true).wp P Q a w := wp_region_still_tail n hm hB h
theorem compare_eq (x y : Int) (w : World) : Calls Tryz.prog 80 #[.int .i64 x, .int .i64 y] w fun e w' => e = .returned (.int .i64 (cmpI x y)) ∧ w' = w :=
  (compare_same x y w).mono fun _ _ ⟨h1, h2⟩ => ⟨h1, h2.symm⟩
set_option maxHeartbeats 400000 in
set_option maxRecDepth 100000 in
theorem ncmp_any (ax ay bx bY : Int) (w : World) :
    Calls Tryz.prog 121 #[.agg #[.int .i64 ax, .int .i64 ay], .agg #[.int .i64 bx, .int .i64 bY]] w fun e w' => e = .returned (.int .i64 (cmpS (ax, ay) (bx, bY))) ∧ GrW w w' := by
  go_enter Tryz.func121, Tryz.ntmps121
  go_wp2_with fail
  refine wp_region_tailD 10 (by kernel_rfl) (by kernel_rfl) ?_
  simp only [List.take_succ_cons, List.take_zero, List.drop_succ_cons, List.drop_zero]
  repeat still_step
  still_call (compare_eq _ _ _)
  repeat still_step
  still_call (compare_eq _ _ _)
  refine wpStill_nil ?_
  go_wp2_with (go_at_call 79; refine (or2 _ _ _ _ _ (BlkS.drew (BlkS.new3 _ _ _ _ _))).mono ?_; rintro e w1 ⟨rfl, rfl⟩)
  go_ret
  exact ⟨ret_int (cmpS_eq _ _ _ _), GrW.drew (GrW.alloc (GrW.alloc (GrW.alloc (GrW.refl _) _) _) _)⟩
set_option maxHeartbeats 400000 in
set_option maxRecDepth 100000 in
theorem ccmp_any (ax ay bx bY : Int) (w : World) :
    Calls Tryz.prog 208 #[.agg #[.int .i64 ax, .int .i64 ay], .agg #[.int .i64 bx, .int .i64 bY]] w fun e w' => e = .returned (.int .i64 (cmpS (ax, ay) (bx, bY))) ∧ GrW w w' := by
  go_enter Tryz.func208, Tryz.ntmps208
  go_wp2_with fail
  refine wp_region_tailD 10 (by kernel_rfl) (by kernel_rfl) ?_
  simp only [List.take_succ_cons, List.take_zero, List.drop_succ_cons, List.drop_zero]
  repeat still_step
  still_call (compare_eq _ _ _)
  repeat still_step
  still_call (compare_eq _ _ _)
  refine wpStill_nil ?_
  go_wp2_with (go_at_call 79; refine (or2 _ _ _ _ _ (BlkS.drew (BlkS.new3 _ _ _ _ _))).mono ?_; rintro e w1 ⟨rfl, rfl⟩)
  go_ret
  exact ⟨ret_int (cmpS_eq _ _ _ _), GrW.drew (GrW.alloc (GrW.alloc (GrW.alloc (GrW.refl _) _) _) _)⟩
set_option maxHeartbeats 400000 in
set_option maxRecDepth 100000 in
theorem fcmp_any (ax ay bx bY : Int) (w : World) :
    Calls Tryz.prog 63 #[.agg #[.int .i64 ax, .int .i64 ay], .agg #[.int .i64 bx, .int .i64 bY]] w fun e w' => e = .returned (.int .i64 (cmpS (ax, ay) (bx, bY))) ∧ GrW w w' := by
  go_enter Tryz.func63, Tryz.ntmps63
  go_wp2_with fail
  refine wp_region_tailD 10 (by kernel_rfl) (by kernel_rfl) ?_
  simp only [List.take_succ_cons, List.take_zero, List.drop_succ_cons, List.drop_zero]
  repeat still_step
  still_call (compare_eq _ _ _)
  repeat still_step
  still_call (compare_eq _ _ _)
  refine wpStill_nil ?_
  go_wp2_with (go_at_call 79; refine (or2 _ _ _ _ _ (BlkS.drew (BlkS.new3 _ _ _ _ _))).mono ?_; rintro e w1 ⟨rfl, rfl⟩)
  go_ret
  exact ⟨ret_int (cmpS_eq _ _ _ _), GrW.drew (GrW.alloc (GrW.alloc (GrW.alloc (GrW.refl _) _) _) _)⟩
end Go.Proofs.YtmdncaoilegnnaaGreat

namespace Go.Proofs.YtmdncaoilegnnaaGreat
set_option linter.unusedVariables false
set_option linter.unusedSimpArgs false
set_option linter.unusedVariables false
set_option linter.unusedSimpArgs false
open Go.RowKit

set_option maxHeartbeats 1000000 in
theorem clone_some (ad : Addr) (cap n : Nat) (l : List (Int × Int)) (w : World) (hn : n ≤ 1000000) (hs : SpS w (some ad) n l) :
    Calls Tryz.prog 207 #[.slice (some ad) n cap] w (RetS w l) := by
  have heq := fun (w : World) => Lib.run_eql_slice_nil (P := Tryz.prog) w 47 37 (some ad) n cap 0 0 Tryz.underlying47
  have hE : OwS (w.alloc (.cells #[] 37)) w.heap.size (.slice (some ⟨w.heap.size, 0, none⟩) 0 0) [] := World.ownsRow_lit w #[] 0 (Nat.le_refl _) (Nat.zero_le _) rfl
  go_enter Tryz.func207, Tryz.ntmps207
  go_wp2_with (at_builtin; refine wpList_appSS rfl _ _ rfl w.heap.size _ [] rfl hE (some ad) n cap l rfl (hs.keep (Bl.alloc (Below.refl _ _) _)) (fun h => by cases h) (by simp; omega) (Bl.alloc (Below.refl _ _) _).size ?_; intro v' w' ho' hg' hat')
  go_ret
  exact ⟨v', rfl, by simpa using ho', below_app (Bl.alloc (Below.refl _ _) _) hE hg'⟩
def negW (l : List (Int × Int)) : List (Int × Int) := l.map fun p => (wrap64 (-p.1), wrap64 (-p.2))
theorem negW_len (l : List (Int × Int)) : (negW l).length = l.length := by simp [negW]
theorem made_spots (n : Nat) : (madeCells (Value.agg #[Value.int IntKind.i64 0, Value.int IntKind.i64 0]).cells (n * 2)).toList = (List.replicate n ((0 : Int), (0 : Int))).flatMap enS := by
  apply List.ext_getElem?
  intro j
  rcases Nat.lt_or_ge j (n * 2) with hj | hj
  · have h := flat_at enS_len (List.replicate n ((0 : Int), (0 : Int))) (j / 2) (j % 2) (0, 0) (by rw [List.getElem?_replicate, if_pos (by omega)]) (by omega)
    rw [show j / 2 * 2 + j % 2 = j by omega] at h
    rw [h]
    have e : (Value.agg #[Value.int IntKind.i64 0, Value.int IntKind.i64 0]).cells = #[.int .i64 0, .int .i64 0] := by kernel_rfl
    rw [e]
    unfold madeCells
    rw [Array.getElem?_toList, Array.getElem?_map, Array.getElem?_range, if_pos hj]
    rcases Nat.mod_two_eq_zero_or_one j with h2 | h2 <;> simp [h2, enS]
  · rw [List.getElem?_eq_none (by rw [Array.length_toList, size_madeCells]; exact hj), List.getElem?_eq_none (by rw [flat_len enS_len]; simpa using hj)]
/-- make([]Spot, n) gives a row of the call's own. -/
theorem make_spots (n : Nat) (hn : n ≤ 1000000) : ∃ Z : Array Value, (∀ w, (Instr.makeSlice 47 (.int .i64 (n : Int)) (.int .i64 (n : Int))).run Tryz.prog w = .ok (.slice (some ⟨w.heap.size, 0, none⟩) n n) (w.alloc (.cells Z 37))) ∧ ∀ w : World, OwS (w.alloc (.cells Z 37)) w.heap.size (.slice (some ⟨w.heap.size, 0, none⟩) n n) (List.replicate n (0, 0)) := by
  obtain ⟨i, hi, hz0, hz1, hz2⟩ := info_parts infoS
  refine ⟨madeCells (Value.agg #[Value.int IntKind.i64 0, Value.int IntKind.i64 0]).cells (n * 2), fun w => ?_, fun w => ?_⟩
  · have hr := run_make (P := Tryz.prog) w 47 37 i (.agg #[.int .i64 0, .int .i64 0]) Tryz.underlying47 hi hz0 .i64 .i64 n n (by omega) (by omega) (by rw [hz2]; omega) (by omega)
    rw [hz1] at hr
    simpa using hr
  · unfold OwS OwG
    rw [List.length_replicate, ← made_spots]
    exact World.ownsRow_lit w _ n (Nat.le_refl _) (by unfold maxLen; omega) (size_madeCells _ _)
theorem negW_gt {l : List (Int × Int)} {p : Nat} (hp : p < l.length) : gt (negW l) p = (wrap64 (-(gt l p).1), wrap64 (-(gt l p).2)) := by
  unfold gt negW; rw [List.getD, List.getElem?_map, List.getD, List.getElem?_eq_getElem hp]; rfl
set_option maxHeartbeats 1000000 in
theorem negate_any (A : Option Addr) (cap n : Nat) (l : List (Int × Int)) (w : World) (hn : n ≤ 1000000) (hs : SpS w A n l) :
    Calls Tryz.prog 160 #[.slice A n cap] w (RetS w (negW l)) := by
  obtain ⟨Z, hmk, hZ⟩ := make_spots n hn
  go_enter Tryz.func160, Tryz.ntmps160
  go_wp2_with fail
  go_loopw [11] (fun i wr => ∃ (k : Nat) (z : List (Int × Int)), k ≤ n ∧ i = .int .i64 k ∧ z.length = n ∧ (∀ p, p < k → gt z p = (wrap64 (-(gt l p).1), wrap64 (-(gt l p).2))) ∧ OwS wr w.heap.size (.slice (some ⟨w.heap.size, 0, none⟩) n n) z ∧ Below w.heap.size w wr) (fun i _ => n - (intOf i).toNat)
  case atStart => exact ⟨0, _, Nat.zero_le _, rfl, List.length_replicate, fun p hp => absurd hp (Nat.not_lt_zero _), hZ w, Bl.alloc (Below.refl _ _) _⟩
  case round =>
    clear hmk hZ
    obtain ⟨k, z, hk, rfl, hz, hp, ho, hb⟩ := hrel
    by_cases hlt : k < n
    · obtain ⟨b, off, rfl, hbl, hc⟩ := (hs.keep hb).at_ hlt
      obtain ⟨h1, h2⟩ := hc k hlt
      clear hc
      obtain ⟨c1, c2, f1, f2⟩ := ho.cells hz hlt
      have hgl : w.heap.size < wr.heap.size := lt_of_cell c1
      go_wp2_with fail
      refine ⟨⟨k + 1, z.set k (wrap64 (-(gt l k).1), wrap64 (-(gt l k).2)), by omega, by go_num, by rw [List.length_set]; exact hz, fun p h => ?_, (ho.store hz hlt _ _).alloc _, Bl.alloc (Bl.set (Bl.set hb (p := ⟨w.heap.size, k * 2, none⟩) (Nat.le_refl _) _) (p := ⟨w.heap.size, k * 2 + 1, none⟩) (Nat.le_refl _) _) _⟩, by simp [intOf]; omega⟩
      rw [gt_set (by rw [hz]; exact hlt)]
      by_cases h2 : k = p
      · rw [if_pos h2, h2]
      · rw [if_neg h2]; exact hp p (by omega)
    · obtain rfl : n = k := by omega
      go_wp2_with fail
      go_ret
      refine ⟨_, rfl, ?_, hb⟩
      rw [show negW l = z from list_ext (by rw [negW_len, hs.1, hz]) (fun p h => by rw [negW_len] at h; rw [negW_gt h, hp p (by rw [← hs.1]; exact h)])]
      exact ho
end Go.Proofs.YtmdncaoilegnnaaGreat

namespace Go.Proofs.YtmdncaoilegnnaaGreat
set_option linter.unusedVariables false
set_option linter.unusedSimpArgs false
set_option linter.unusedVariables false
set_option linter.unusedSimpArgs false
open Go.RowKit

def movW (l : List (Int × Int)) (d : Int × Int) : List (Int × Int) := l.map fun p => (wrap64 (p.1 + d.1), wrap64 (p.2 + d.2))
theorem movW_len (l : List (Int × Int)) (d : Int × Int) : (movW l d).length = l.length := by simp [movW]
theorem movW_gt {l : List (Int × Int)} {d : Int × Int} {p : Nat} (hp : p < l.length) : gt (movW l d) p = (wrap64 ((gt l p).1 + d.1), wrap64 ((gt l p).2 + d.2)) := by
  unfold gt movW; rw [List.getD, List.getElem?_map, List.getD, List.getElem?_eq_getElem hp]; rfl
set_option maxHeartbeats 1000000 in
theorem pmove_any (A : Option Addr) (cap n : Nat) (l : List (Int × Int)) (x y : Int) (w : World) (hn : n ≤ 1000000) (hs : SpS w A n l) :
    Calls Tryz.prog 108 #[.slice A n cap, .agg #[.int .i64 x, .int .i64 y]] w (RetS w (movW l (x, y))) := by
  obtain ⟨Z, hmk, hZ⟩ := make_spots n hn
  go_enter Tryz.func108, Tryz.ntmps108
  go_wp2_with fail
  go_loopw [13] (fun i wr => ∃ (k : Nat) (z : List (Int × Int)), k ≤ n ∧ i = .int .i64 k ∧ z.length = n ∧ (∀ p, p < k → gt z p = (wrap64 ((gt l p).1 + x), wrap64 ((gt l p).2 + y))) ∧ BlkS wr w.heap.size 37 #[.int .i64 x, .int .i64 y] ∧ OwS wr (w.heap.size + 1) (.slice (some ⟨w.heap.size + 1, 0, none⟩) n n) z ∧ Below w.heap.size w wr) (fun i _ => n - (intOf i).toNat)
  case atStart => exact ⟨0, _, Nat.zero_le _, rfl, List.length_replicate, fun p hp => absurd hp (Nat.not_lt_zero _), (BlkS.new _ _ _).alloc _, by have := hZ (w.alloc (.cells #[.int .i64 x, .int .i64 y] 37)); simpa using this, Bl.alloc (Bl.alloc (Below.refl _ _) _) _⟩
  case round =>
    clear hmk hZ
    obtain ⟨k, z, hk, rfl, hz, hp, hB, ho, hb⟩ := hrel
    by_cases hlt : k < n
    · obtain ⟨b, off, rfl, hbl, hc⟩ := (hs.keep hb).at_ hlt
      obtain ⟨h1, h2⟩ := hc k hlt
      clear hc
      obtain ⟨c1, c2, f1, f2⟩ := ho.cells hz hlt
      have hgl : w.heap.size + 1 < wr.heap.size := lt_of_cell c1
      have hgl0 : w.heap.size < wr.heap.size := by omega
      have c3 := hB.cell 0
      have c4 := hB.cell 1
      simp only [List.getElem?_toArray, List.getElem?_cons_zero, List.getElem?_cons_succ] at c3 c4
      go_wp2_with fail
      refine ⟨⟨k + 1, z.set k (wrap64 ((gt l k).1 + x), wrap64 ((gt l k).2 + y)), by omega, by go_num, by rw [List.length_set]; exact hz, fun p h => ?_, ((hB.far (p := ⟨w.heap.size + 1, k * 2, none⟩) (Nat.ne_of_lt (Nat.lt_succ_self _)) _).far (p := ⟨w.heap.size + 1, k * 2 + 1, none⟩) (Nat.ne_of_lt (Nat.lt_succ_self _)) _).alloc _, (ho.store hz hlt _ _).alloc _, Bl.alloc (Bl.set (Bl.set hb (p := ⟨w.heap.size + 1, k * 2, none⟩) (Nat.le_succ _) _) (p := ⟨w.heap.size + 1, k * 2 + 1, none⟩) (Nat.le_succ _) _) _⟩, by simp [intOf]; omega⟩
      rw [gt_set (by rw [hz]; exact hlt)]
      by_cases h2 : k = p
      · rw [if_pos h2, h2]
      · rw [if_neg h2]; exact hp p (by omega)
    · obtain rfl : n = k := by omega
      go_wp2_with fail
      go_ret
      refine ⟨_, rfl, ?_, hb⟩
      rw [show movW l (x, y) = z from list_ext (by rw [movW_len, hs.1, hz]) (fun p h => by rw [movW_len] at h; rw [movW_gt h, hp p (by rw [← hs.1]; exact h)])]
      exact ho.lower (Nat.le_succ _)
set_option maxHeartbeats 1000000 in
theorem move_any (A : Option Addr) (cap n : Nat) (l : List (Int × Int)) (x y : Int) (w : World) (hn : n ≤ 1000000) (hs : SpS w A n l) :
    Calls Tryz.prog 75 #[.slice A n cap, .agg #[.int .i64 x, .int .i64 y]] w (RetS w (movW l (x, y))) := by
  go_enter Tryz.func75, Tryz.ntmps75
  go_wp2_with (go_at_call 108; refine (pmove_any A cap n l x y _ hn (hs.keep (Bl.alloc (Below.refl _ _) _))).mono ?_; rintro e w1 ⟨v, rfl, ho, hb1⟩)
  go_ret
  refine ⟨_, rfl, ho.lower (by simp), Bl.call (Bl.alloc (Below.refl _ _) _) hb1⟩
end Go.Proofs.YtmdncaoilegnnaaGreat

namespace Go.Proofs.YtmdncaoilegnnaaGreat
set_option linter.unusedVariables false
set_option linter.unusedSimpArgs false
set_option linter.unusedVariables false
set_option linter.unusedSimpArgs false
open Go.RowKit Go.BigFrame

theorem OwS.take {w : World} {base g n cap : Nat} {l : List (Int × Int)} (h : OwS w base (.slice (some ⟨g, 0, none⟩) n cap) l) (hn : l.length = n) {k : Nat} (hk : k ≤ n) : OwS w base (.slice (some ⟨g, 0, none⟩) k cap) (l.take k) := by
  subst hn
  have hl : (l.take k).length = k := by rw [List.length_take]; omega
  rcases h.2 with ⟨h1, _⟩ | ⟨g', cap', cur, hv, hg, hh, h1, h2, h3, h4⟩
  · cases h1
  · injection hv with e1 e2 e3
    injection e1 with e1
    injection e1 with e1
    subst e1; subst e3
    unfold OwS OwG
    refine ⟨by rw [flat_len enS_len], .inr ⟨g, cap, cur, by rw [hl], hg, hh, by rw [hl]; omega, h2, h3, ?_⟩⟩
    rw [hl, ← flat_take, ← h4, List.take_take]
    congr 1
    omega
/-- The stack r, what cross turns away at p taken off. -/
def popW (p : Int × Int) (r : List (Int × Int)) : List (Int × Int) :=
  if 1 < r.length ∧ crossW (gt r (r.length - 2)) (gt r (r.length - 1)) p ≤ 0 then popW p (r.take (r.length - 1)) else r
termination_by r.length
decreasing_by rw [List.length_take]; omega

def borTo (l : List (Int × Int)) : Nat → List (Int × Int)
  | 0 => []
  | k + 1 => popW (gt l k) (borTo l k) ++ [gt l k]
def borW (l : List (Int × Int)) : List (Int × Int) := (borTo l l.length).take ((borTo l l.length).length - 1)
theorem popW_len (p : Int × Int) (r : List (Int × Int)) : (popW p r).length ≤ r.length := by
  induction r using popW.induct p with
  | case1 r h ih => rw [popW, if_pos h]; refine Nat.le_trans ih ?_; rw [List.length_take]; omega
  | case2 r h => rw [popW, if_neg h]; exact Nat.le_refl _
theorem borTo_len (l : List (Int × Int)) (k : Nat) : (borTo l k).length ≤ k := by
  induction k with
  | zero => exact Nat.le_refl _
  | succ k ih => rw [borTo, List.length_append]; have := popW_len (gt l k) (borTo l k); simp; omega
theorem popW_yes {p : Int × Int} {r : List (Int × Int)} {m : Nat} (hm : r.length = m) (h1 : 1 < m) (h2 : crossW (gt r (m - 2)) (gt r (m - 1)) p ≤ 0) : popW p r = popW p (r.take (m - 1)) := by
  subst hm; rw [popW, if_pos ⟨h1, h2⟩]
theorem popW_no {p : Int × Int} {r : List (Int × Int)} {m : Nat} (hm : r.length = m) (h : ¬ 1 < m ∨ ¬ crossW (gt r (m - 2)) (gt r (m - 1)) p ≤ 0) : popW p r = r := by
  subst hm; rw [popW, if_neg (by rintro ⟨h1, h2⟩; rcases h with h | h; exact h h1; exact h h2)]
def lenV : Value → Nat
  | .slice _ n _ => n
  | _ => 0
set_option maxHeartbeats 1000000 in
theorem border_any (A : Option Addr) (cap n : Nat) (l : List (Int × Int)) (w : World) (h0 : 0 < n) (hn : n ≤ 1000000) (hs : SpS w A n l) :
    Calls Tryz.prog 210 #[.slice A n cap] w (RetS w (borW l)) := by
  go_enter Tryz.func210, Tryz.ntmps210
  go_wp2_with fail
  go_loopw [3, 8] (fun v i wr => ∃ k : Nat, k ≤ n ∧ i = .int .i64 k ∧ OwS wr w.heap.size v (borTo l k) ∧ Below w.heap.size w wr) (fun _ i _ => n - (intOf i).toNat)
  case atStart => exact ⟨0, Nat.zero_le _, rfl, OwG.nil, Below.refl _ _⟩
  case round =>
    obtain ⟨k, hk, rfl, ho, hb⟩ := hrel
    by_cases hlt : k < n
    · obtain ⟨b, off, rfl, hbl, hc⟩ := (hs.keep hb).at_ hlt
      obtain ⟨h1, h2⟩ := hc k hlt
      clear hc
      go_upto_region 5 with fail
      clear h1 h2 hbl
      obtain ⟨B5, hB5⟩ : ∃ B, wr.heap.size = B := ⟨_, rfl⟩
      have hB0 : BlkS (wr.alloc (.cells #[.int .i64 (gt l k).1, .int .i64 (gt l k).2] 37)) B5 37 #[.int .i64 (gt l k).1, .int .i64 (gt l k).2] := by rw [← hB5]; exact BlkS.new _ _ _
      rw [hB5]
      go_loopw [3] (fun v wx => ∃ r, popW (gt l k) r = popW (gt l k) (borTo l k) ∧ r.length ≤ k ∧ OwS wx w.heap.size v r ∧ BlkS wx B5 37 #[.int .i64 (gt l k).1, .int .i64 (gt l k).2] ∧ Below w.heap.size w wx ∧ v.ownBlock ≠ some B5) (fun v _ => lenV v)
      case atStart => exact ⟨_, rfl, borTo_len _ _, ho.alloc _, hB0, Bl.alloc hb _, fun h => by rw [← hB5] at h; exact Nat.lt_irrefl _ (ho.lt _ h).2⟩
      case round =>
        clear ho hb hB0 hB5
        obtain ⟨r, hp, hr, ho, hB, hb, hne⟩ := hrel
        obtain ⟨A, c, rfl, hc, _, hA⟩ := OwG.form2 ho
        obtain ⟨m, hm⟩ : ∃ m, r.length = m := ⟨_, rfl⟩
        rw [hm] at ho hc hA hr hne ⊢
        have c1 := hB.cell 0
        have c2 := hB.cell 1
        simp only [List.getElem?_toArray, List.getElem?_cons_zero, List.getElem?_cons_succ] at c1 c2
        by_cases h1 : 1 < m
        · obtain ⟨g, rfl, hg1, hg2⟩ := hA (by omega)
          obtain ⟨j, hj⟩ : ∃ j, m - 2 = j := ⟨_, rfl⟩
          obtain ⟨i, hi⟩ : ∃ i, m - 1 = i := ⟨_, rfl⟩
          have hjm : j < m := by omega
          have him : i < m := by omega
          obtain ⟨d1, d2, _, _⟩ := ho.cells hm hjm
          obtain ⟨d3, d4, _, _⟩ := ho.cells hm him
          have q : ((1 : Int) < (m : Int)) = True := by simp; omega
          have e1 : IntKind.i64.wrap ((m : Int) - 1) = (i : Int) := (wrap_in _ (by omega) (by omega)).trans (by omega)
          have e2 : IntKind.i64.wrap ((m : Int) - 2) = (j : Int) := (wrap_in _ (by omega) (by omega)).trans (by omega)
          by_cases hcr : crossW (gt r j) (gt r i) (gt l k) ≤ 0
          · have qc : (crossW ((gt r j).1, (gt r j).2) ((gt r i).1, (gt r i).2) ((gt l k).1, (gt l k).2) ≤ 0) = True := by simpa using hcr
            have hpy := Lib.hid (popW_yes (p := gt l k) hm h1 (by rw [hi, hj]; exact hcr))
            go_wp2_with fail
            refine wp_region_cls wr [(⟨B5, 0, none⟩, .int .i64 (gt l k).1), (⟨B5, 1, none⟩, .int .i64 (gt l k).2), (⟨g, j * 2, none⟩, .int .i64 (gt r j).1), (⟨g, j * 2 + 1, none⟩, .int .i64 (gt r j).2), (⟨g, i * 2, none⟩, .int .i64 (gt r i).1), (⟨g, i * 2 + 1, none⟩, .int .i64 (gt r i).2)] (by kernel_rfl) (by kernel_rfl) ⟨Below.refl _ _, by simp only [List.mem_cons, List.not_mem_nil, forall_eq_or_imp, or_false, forall_eq]; go_simp⟩ ?_
            repeat
              first
              | go_big_quiet_skip
              | go_big_quiet_want
                apply Exists.intro
                refine And.intro ?_ ?_
                · intro w1 hw1
                  have hx := hw1.2
                  simp only [List.mem_cons, List.not_mem_nil, forall_eq_or_imp, or_false, forall_eq] at hx
                  go_simp
                  first | rfl | exact calls_cls hw1 (ccross_any _ _ _ _ _ _ _)
                go_simp
                go_big_quiet_on
            refine wpQuiet_nil ?_
            intro w1 hCw1
            have hb1 := hCw1.1
            clear hCw1 q e2 c1 c2 d1 d2 d3 d4 qc
            go_wp2_with fail
            refine ⟨⟨r.take i, ?_, by rw [List.length_take]; omega, OwS.take (ho.keep hb1) hm (by omega), hB.keep hb1, Bl.call hb hb1, hne⟩, by simp [lenV]; omega⟩
            rw [← hp, hpy.out, hi]
          · have qc : (crossW ((gt r j).1, (gt r j).2) ((gt r i).1, (gt r i).2) ((gt l k).1, (gt l k).2) ≤ 0) = False := by simpa using hcr
            have hpn := Lib.hid (popW_no (p := gt l k) hm (.inr (by rw [hi, hj]; exact hcr)))
            go_wp2_with fail
            refine wp_region_cls wr [(⟨B5, 0, none⟩, .int .i64 (gt l k).1), (⟨B5, 1, none⟩, .int .i64 (gt l k).2), (⟨g, j * 2, none⟩, .int .i64 (gt r j).1), (⟨g, j * 2 + 1, none⟩, .int .i64 (gt r j).2), (⟨g, i * 2, none⟩, .int .i64 (gt r i).1), (⟨g, i * 2 + 1, none⟩, .int .i64 (gt r i).2)] (by kernel_rfl) (by kernel_rfl) ⟨Below.refl _ _, by simp only [List.mem_cons, List.not_mem_nil, forall_eq_or_imp, or_false, forall_eq]; go_simp⟩ ?_
            repeat
              first
              | go_big_quiet_skip
              | go_big_quiet_want
                apply Exists.intro
                refine And.intro ?_ ?_
                · intro w1 hw1
                  have hx := hw1.2
                  simp only [List.mem_cons, List.not_mem_nil, forall_eq_or_imp, or_false, forall_eq] at hx
                  go_simp
                  first | rfl | exact calls_cls hw1 (ccross_any _ _ _ _ _ _ _)
                go_simp
                go_big_quiet_on
            refine wpQuiet_nil ?_
            intro w1 hCw1
            have hb1 := hCw1.1
            clear hCw1 q e2 c1 c2 d1 d2 d3 d4 qc
            have hk1 : borTo l (k + 1) = r ++ [gt l k] := by rw [borTo, ← hp, hpn.out]
            have HK := Lib.hid hk1
            have hB1 := hB.keep hb1
            have c1 := hB1.cell 0
            have c2 := hB1.cell 1
            simp only [List.getElem?_toArray, List.getElem?_cons_zero, List.getElem?_cons_succ] at c1 c2
            clear hk1 hcr
            go_wp2_with (at_builtin; refine wpList_appS rfl _ _ rfl w.heap.size _ r rfl ((ho.keep hb1).alloc _) w1.heap.size 1 (gt l k) 37 rfl (BlkS.new _ _ _) (by omega) (Bl.alloc (Bl.call hb hb1) _).size ?_; intro v' w2 ho' hg' hat')
            exact ⟨⟨k + 1, by omega, by go_num, by rw [HK.out]; exact ho', below_app (Bl.alloc (Bl.call hb hb1) _) ((ho.keep hb1).alloc _) hg'⟩, by simp [intOf]; omega⟩
        · have q : ((1 : Int) < (m : Int)) = False := by simp; omega
          have hpn := Lib.hid (popW_no (p := gt l k) hm (.inl h1))
          go_wp2_with fail
          refine wp_region_cls wr [(⟨B5, 0, none⟩, .int .i64 (gt l k).1), (⟨B5, 1, none⟩, .int .i64 (gt l k).2)] (by kernel_rfl) (by kernel_rfl) ⟨Below.refl _ _, by simp only [List.mem_cons, List.not_mem_nil, forall_eq_or_imp, or_false, forall_eq]; go_simp⟩ ?_
          repeat
            first
            | go_big_quiet_skip
            | go_big_quiet_want
              apply Exists.intro
              refine And.intro ?_ ?_
              · intro w1 hw1
                have hx := hw1.2
                simp only [List.mem_cons, List.not_mem_nil, forall_eq_or_imp, or_false, forall_eq] at hx
                go_simp
                first | rfl | exact calls_cls hw1 (ccross_any _ _ _ _ _ _ _)
              go_simp
              go_big_quiet_on
          refine wpQuiet_nil ?_
          intro w1 hCw1
          have hb1 := hCw1.1
          clear hCw1 q c1 c2
          have hk1 : borTo l (k + 1) = r ++ [gt l k] := by rw [borTo, ← hp, hpn.out]
          have HK := Lib.hid hk1
          have hB1 := hB.keep hb1
          have c1 := hB1.cell 0
          have c2 := hB1.cell 1
          simp only [List.getElem?_toArray, List.getElem?_cons_zero, List.getElem?_cons_succ] at c1 c2
          clear hk1
          go_wp2_with (at_builtin; refine wpList_appS rfl _ _ rfl w.heap.size _ r rfl ((ho.keep hb1).alloc _) w1.heap.size 1 (gt l k) 37 rfl (BlkS.new _ _ _) (by omega) (Bl.alloc (Bl.call hb hb1) _).size ?_; intro v' w2 ho' hg' hat')
          exact ⟨⟨k + 1, by omega, by go_num, by rw [HK.out]; exact ho', below_app (Bl.alloc (Bl.call hb hb1) _) ((ho.keep hb1).alloc _) hg'⟩, by simp [intOf]; omega⟩
    · obtain rfl : n = k := by omega
      obtain ⟨A', c', rfl, hc', _, hA'⟩ := OwG.form2 ho
      obtain ⟨m, hm⟩ : ∃ m, (borTo l n).length = m := ⟨_, rfl⟩
      have hm0 : 0 < m := by
        obtain ⟨j, rfl⟩ : ∃ j, n = j + 1 := ⟨n - 1, by omega⟩
        rw [← hm, borTo, List.length_append]; simp
      have hmn : m ≤ n := by rw [← hm]; exact borTo_len _ _
      rw [hm] at ho hc' hA' ⊢
      obtain ⟨g, rfl, hg1, hg2⟩ := hA' hm0
      have e1 : IntKind.i64.wrap ((m : Int) - 1) = ((m - 1 : Nat) : Int) := (wrap_in _ (by omega) (by omega)).trans (by omega)
      have HB := Lib.hid (show borW l = (borTo l n).take (m - 1) by unfold borW; rw [hs.1, hm])
      have HM := Lib.hid hm
      clear hm
      go_wp2_with fail
      go_ret
      refine ⟨_, rfl, ?_, hb⟩
      rw [HB.out]
      have ht := OwS.take ho HM.out (k := m - 1) (by omega)
      exact ht
end Go.Proofs.YtmdncaoilegnnaaGreat

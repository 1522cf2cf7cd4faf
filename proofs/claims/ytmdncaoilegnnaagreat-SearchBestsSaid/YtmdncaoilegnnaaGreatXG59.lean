/- Lean texts of the claim. -/
import Derived.Test.YtmdncaoilegnnaaGreatXE
import Derived.Test.YtmdncaoilegnnaaGreatXG50
import Derived.Test.YtmdncaoilegnnaaGreatXD
import Derived.Test.YtmdncaoilegnnaaGreatXG18
import Derived.Test.YtmdncaoilegnnaaGreatXG49
namespace Go.Proofs.YtmdncaoilegnnaaGreat
set_option linter.unusedVariables false
set_option linter.unusedSimpArgs false
section
set_option maxRecDepth 100000
open Go.RowKit
theorem BlkS.new4 (w : World) (o o' o'' : Obj) (t : TypeId) (cs : Array Value) : BlkS ((((w.alloc o).alloc o').alloc o'').alloc (.cells cs t)) (w.heap.size + 1 + 1 + 1) t cs := by
 have h := BlkS.new (((w.alloc o).alloc o').alloc o'') t cs
 simpa using h
set_option maxHeartbeats 400000 in
theorem rtnorm_any (f : Bool) (q : Int) (w : World) :
 Calls Tryz.prog 102 #[.agg #[.bool f, .int .i64 q]] w fun e w' => e = .returned (.agg #[.bool f, .int .i64 (q % 4)]) ∧ Below w.heap.size w w' := by
 have h1 := tmod_rng q 4 (by omega)
 have h2 := tmod_add q 4 (by omega)
 obtain ⟨t, ht⟩ : ∃ t, q.tmod 4 = t := ⟨_, rfl⟩
 rw [ht] at h1 h2
 by_cases hn : t < 0
 ·have e1 : t + 4 = q % 4 := by omega
  have e2 : IntKind.i64.wrap (t + 4) = q % 4 := by rw [wrap_in _ (by omega) (by omega)]; exact e1
  clear h1 h2 e1
  go_enter Tryz.func102, Tryz.ntmps102
  go_wp2
  exact bodyPost_ret (v := .agg #[.bool f, .int .i64 (q % 4)]) (by simp [results, Tryz.results102, go_sem]) rfl ⟨rfl, Bl.alloc (Bl.alloc Br _) _⟩
 ·have e1 : t = q % 4 := by omega
  clear h1 h2
  rw [e1] at ht hn
  go_enter Tryz.func102, Tryz.ntmps102
  go_wp2
  exact bodyPost_ret (v := .agg #[.bool f, .int .i64 (q % 4)]) (by simp [results, Tryz.results102, go_sem]) rfl ⟨rfl, Bl.alloc (Bl.alloc Br _) _⟩
set_option maxHeartbeats 1000000 in
theorem rapply_any (f : Bool) (q x y : Int) (w : World) :
 Calls Tryz.prog 69 #[.agg #[.bool f, .int .i64 q], .agg #[.int .i64 x, .int .i64 y]] w fun e w' => e = .returned (.agg #[.int .i64 (applyW f q (x, y)).1, .int .i64 (applyW f q (x, y)).2]) ∧ Below w.heap.size w w' := by
 cases f with
 | true =>
   go_enter Tryz.func69, Tryz.ntmps69
   go_upto_region 4 with fail
   refine wp_world (fun X => BlkS X w.heap.size 29 #[.bool true, .int .i64 q] ∧ BlkS X (w.heap.size + 1 + 1) 37 #[.int .i64 0, .int .i64 0] ∧ BlkS X (w.heap.size + 1 + 1 + 1) 37 #[.int .i64 (wrap64 (-x), y).1, .int .i64 (wrap64 (-x), y).2] ∧ Below w.heap.size w X) ?_ ?_
   ·exact ⟨(((BlkS.new _ _ _).alloc _).alloc _).alloc _, (BlkS.new3 _ _ _ _ _).alloc _, BlkS.new4 _ _ _ _ _ _, (Bl.alloc (Bl.alloc (Bl.alloc (Bl.alloc Br _) _) _) _)⟩
   rintro X ⟨hT, hZ, hO, hX⟩
   obtain ⟨t1, t2⟩ : X.cell? ⟨w.heap.size, 0, none⟩ = some (.bool true) ∧ X.cell? ⟨w.heap.size, 1, none⟩ = some (.int .i64 q) := ⟨hT.cell 0, hT.cell 1⟩
   go_wp2_with (go_at_call 102; refine (rtnorm_any _ _ _).mono ?_; rintro e w1 ⟨rfl, hb1⟩)
   obtain ⟨m, hm, hm3⟩ : ∃ m : Nat, q % 4 = (m : Int) ∧ m ≤ 3 := ⟨(q % 4).toNat, by omega, by omega⟩
   have HM := Hj (show (q % 4).toNat = m by omega)
   have HN := Hj (show BlkS (w1.alloc (.cells #[.bool true, .int .i64 (q % 4)] 29)) w1.heap.size 29 #[.bool true, .int .i64 (m : Int)] by rw [← hm]; exact BlkS.new _ _ _)
   have hlt1 : w.heap.size + 1 + 1 + 1 < w1.heap.size := (hO.keep hb1).lt
   obtain ⟨B6, hB6⟩ : ∃ B6, w1.heap.size = B6 := ⟨_, rfl⟩
   rw [hB6] at HN hlt1 ⊢
   have HZ := Hj ((hZ.keep hb1).alloc (.cells #[.bool true, .int .i64 (q % 4)] 29))
   have HO := Hj ((hO.keep hb1).alloc (.cells #[.bool true, .int .i64 (q % 4)] 29))
   have HB := Hj (Bl.alloc (Bl.call hX hb1) (.cells #[.bool true, .int .i64 (q % 4)] 29))
   clear hT hZ hO hX t1 t2 hb1 hm hB6
   go_loopw [7] (fun i wr => ∃ k : Nat, k ≤ m ∧ i = .int .i64 k ∧ BlkS wr (w.heap.size + 1 + 1 + 1) 37 #[.int .i64 (rotN k (wrap64 (-x), y)).1, .int .i64 (rotN k (wrap64 (-x), y)).2] ∧ BlkS wr (w.heap.size + 1 + 1) 37 #[.int .i64 0, .int .i64 0] ∧ BlkS wr B6 29 #[.bool true, .int .i64 (m : Int)] ∧ Below w.heap.size w wr) (fun i _ => m - (intOf i).toNat)
   case atStart => exact ⟨0, Nat.zero_le _, rfl, HO.out, HZ.out, HN.out, HB.out⟩
   case round =>
    clear HO HZ HN HB
    obtain ⟨k, hk, rfl, hB, hC, hN, hb⟩ := hrel
    have c1 := hB.cell 0
    have c2 := hB.cell 1
    have f1 := hB.frozen 0
    have f2 := hB.frozen 1
    have l1 := hB.lt
    have c3 := hC.cell 0
    have c4 := hC.cell 1
    have f3 := hC.frozen 0
    have f4 := hC.frozen 1
    have l2 := hC.lt
    have c5 := hN.cell 1
    simp only [List.getElem?_toArray, List.getElem?_cons_zero, List.getElem?_cons_succ] at c1 c2 c3 c4 c5
    by_cases hlt : k < m
    ·go_wp2_with fail
     exact ⟨⟨k + 1, by omega, by go_num, (hB.set_ 0 _).set_ 1 _, (hC.far (p := ⟨w.heap.size + 1 + 1 + 1, 0, none⟩) (by simp) _).far (p := ⟨w.heap.size + 1 + 1 + 1, 1, none⟩) (by simp) _, (hN.far (p := ⟨w.heap.size + 1 + 1 + 1, 0, none⟩) (by simp; omega) _).far (p := ⟨w.heap.size + 1 + 1 + 1, 1, none⟩) (by simp; omega) _, Bl.set (Bl.set hb (p := ⟨w.heap.size + 1 + 1 + 1, 0, none⟩) (by simp; omega) _) (p := ⟨w.heap.size + 1 + 1 + 1, 1, none⟩) (by simp; omega) _⟩, by simp [intOf]; omega⟩
    ·obtain rfl : m = k := by omega
     go_wp2_with fail
     refine bodyPost_ret (v := .agg #[.int .i64 (rotN m (wrap64 (-x), y)).1, .int .i64 (rotN m (wrap64 (-x), y)).2]) (by simp [results, Tryz.results69, go_sem, c3, c4]) rfl ⟨by unfold applyW; rw [HM.out]; rfl, Bl.set (Bl.set hb (p := ⟨w.heap.size + 1 + 1, 0, none⟩) (by simp; omega) _) (p := ⟨w.heap.size + 1 + 1, 1, none⟩) (by simp; omega) _⟩
 | false =>
   go_enter Tryz.func69, Tryz.ntmps69
   go_upto_region 4 with fail
   refine wp_world (fun X => BlkS X w.heap.size 29 #[.bool false, .int .i64 q] ∧ BlkS X (w.heap.size + 1 + 1) 37 #[.int .i64 0, .int .i64 0] ∧ BlkS X (w.heap.size + 1 + 1 + 1) 37 #[.int .i64 (x, y).1, .int .i64 (x, y).2] ∧ Below w.heap.size w X) ?_ ?_
   ·exact ⟨(((BlkS.new _ _ _).alloc _).alloc _).alloc _, (BlkS.new3 _ _ _ _ _).alloc _, BlkS.new4 _ _ _ _ _ _, (Bl.alloc (Bl.alloc (Bl.alloc (Bl.alloc Br _) _) _) _)⟩
   rintro X ⟨hT, hZ, hO, hX⟩
   obtain ⟨t1, t2⟩ : X.cell? ⟨w.heap.size, 0, none⟩ = some (.bool false) ∧ X.cell? ⟨w.heap.size, 1, none⟩ = some (.int .i64 q) := ⟨hT.cell 0, hT.cell 1⟩
   go_wp2_with (go_at_call 102; refine (rtnorm_any _ _ _).mono ?_; rintro e w1 ⟨rfl, hb1⟩)
   obtain ⟨m, hm, hm3⟩ : ∃ m : Nat, q % 4 = (m : Int) ∧ m ≤ 3 := ⟨(q % 4).toNat, by omega, by omega⟩
   have HM := Hj (show (q % 4).toNat = m by omega)
   have HN := Hj (show BlkS (w1.alloc (.cells #[.bool false, .int .i64 (q % 4)] 29)) w1.heap.size 29 #[.bool false, .int .i64 (m : Int)] by rw [← hm]; exact BlkS.new _ _ _)
   have hlt1 : w.heap.size + 1 + 1 + 1 < w1.heap.size := (hO.keep hb1).lt
   obtain ⟨B6, hB6⟩ : ∃ B6, w1.heap.size = B6 := ⟨_, rfl⟩
   rw [hB6] at HN hlt1 ⊢
   have HZ := Hj ((hZ.keep hb1).alloc (.cells #[.bool false, .int .i64 (q % 4)] 29))
   have HO := Hj ((hO.keep hb1).alloc (.cells #[.bool false, .int .i64 (q % 4)] 29))
   have HB := Hj (Bl.alloc (Bl.call hX hb1) (.cells #[.bool false, .int .i64 (q % 4)] 29))
   clear hT hZ hO hX t1 t2 hb1 hm hB6
   go_loopw [7] (fun i wr => ∃ k : Nat, k ≤ m ∧ i = .int .i64 k ∧ BlkS wr (w.heap.size + 1 + 1 + 1) 37 #[.int .i64 (rotN k (x, y)).1, .int .i64 (rotN k (x, y)).2] ∧ BlkS wr (w.heap.size + 1 + 1) 37 #[.int .i64 0, .int .i64 0] ∧ BlkS wr B6 29 #[.bool false, .int .i64 (m : Int)] ∧ Below w.heap.size w wr) (fun i _ => m - (intOf i).toNat)
   case atStart => exact ⟨0, Nat.zero_le _, rfl, HO.out, HZ.out, HN.out, HB.out⟩
   case round =>
    clear HO HZ HN HB
    obtain ⟨k, hk, rfl, hB, hC, hN, hb⟩ := hrel
    have c1 := hB.cell 0
    have c2 := hB.cell 1
    have f1 := hB.frozen 0
    have f2 := hB.frozen 1
    have l1 := hB.lt
    have c3 := hC.cell 0
    have c4 := hC.cell 1
    have f3 := hC.frozen 0
    have f4 := hC.frozen 1
    have l2 := hC.lt
    have c5 := hN.cell 1
    simp only [List.getElem?_toArray, List.getElem?_cons_zero, List.getElem?_cons_succ] at c1 c2 c3 c4 c5
    by_cases hlt : k < m
    ·go_wp2_with fail
     exact ⟨⟨k + 1, by omega, by go_num, (hB.set_ 0 _).set_ 1 _, (hC.far (p := ⟨w.heap.size + 1 + 1 + 1, 0, none⟩) (by simp) _).far (p := ⟨w.heap.size + 1 + 1 + 1, 1, none⟩) (by simp) _, (hN.far (p := ⟨w.heap.size + 1 + 1 + 1, 0, none⟩) (by simp; omega) _).far (p := ⟨w.heap.size + 1 + 1 + 1, 1, none⟩) (by simp; omega) _, Bl.set (Bl.set hb (p := ⟨w.heap.size + 1 + 1 + 1, 0, none⟩) (by simp; omega) _) (p := ⟨w.heap.size + 1 + 1 + 1, 1, none⟩) (by simp; omega) _⟩, by simp [intOf]; omega⟩
    ·obtain rfl : m = k := by omega
     go_wp2_with fail
     refine bodyPost_ret (v := .agg #[.int .i64 (rotN m (x, y)).1, .int .i64 (rotN m (x, y)).2]) (by simp [results, Tryz.results69, go_sem, c3, c4]) rfl ⟨by unfold applyW; rw [HM.out]; rfl, Bl.set (Bl.set hb (p := ⟨w.heap.size + 1 + 1, 0, none⟩) (by simp; omega) _) (p := ⟨w.heap.size + 1 + 1, 1, none⟩) (by simp; omega) _⟩
set_option maxHeartbeats 1000000 in
theorem rallowed_any (g : Int) (m f : Bool) (q : Int) (w : World) :
 Calls Tryz.prog 81 #[.int .i64 g, .bool m, .agg #[.bool f, .int .i64 q]] w fun e w' => e = .returned (.bool (alwW g m f q)) ∧ Below w.heap.size w w' := by
 have ht : (q % 4).tmod 2 = q % 4 % 2 := Int.tmod_eq_emod_of_nonneg (Int.emod_nonneg _ (by omega))
 have he : ((q % 4 % 2 : Int) == 0) = (q % 4 == 0 || q % 4 == 2) := by rw [Bool.eq_iff_iff]; simp; omega
 go_enter Tryz.func81, Tryz.ntmps81
 go_wp2_with (go_at_call 102; refine (rtnorm_any _ _ _).mono ?_; rintro e w1 ⟨rfl, hb1⟩)
 all_goals go_ret
 all_goals refine ⟨ret_bool ?_, Bl.alloc (Bl.call (Bl.alloc Br _) hb1) _⟩
 all_goals clear hb1
 all_goals (unfold alwW; simp_all)
set_option maxHeartbeats 1000000 in
theorem rall_any (g : Int) (m : Bool) (w : World) :
 Calls Tryz.prog 46 #[.int .i64 g, .bool m] w fun e w' => ∃ v, e = .returned v ∧ OwG 29 2 enT w' w.heap.size v (allW g m) ∧ Below w.heap.size w w' := by
 go_enter Tryz.func46, Tryz.ntmps46
 go_wp2_with fail
 go_loopw [5, 6] (fun v i wr => ∃ k : Nat, k ≤ 4 ∧ i = .int .i64 k ∧ OwG 29 2 enT wr w.heap.size v (allTo g m k) ∧ Below w.heap.size w wr) (fun _ i _ => 4 - (intOf i).toNat)
 case atStart => exact ⟨0, Nat.zero_le _, rfl, OwG.nil, Below.refl _ _⟩
 case round =>
  obtain ⟨k, hk, rfl, ho, hb⟩ := hrel
  by_cases hlt : k < 4
  ·have hlt' : (k : Int) < 4 := by omega
   have hB := Hj (BlkS.new wr 29 #[.bool m, .int .i64 (k : Int)])
   by_cases ha : alwW g m m (k : Int) = true
   ·have e1 := Hj (show allTo g m (k + 1) = allTo g m k ++ [(m, (k : Int))] by rw [allTo, if_pos ha])
    go_wp2_with (first | (go_at_call 81; refine (rallowed_any _ _ _ _ _).mono ?_; rintro e w1 ⟨rfl, hb1⟩; have k0 := hB.out.keep hb1; have a1 := k0.cell 0; have a2 := k0.cell 1; simp only [List.getElem?_toArray, List.getElem?_cons_zero, List.getElem?_cons_succ] at a1 a2) | (at_builtin; refine wpList_app1 rfl _ _ 79 rfl enT w.heap.size 29 (.agg #[.bool false, .int .i64 0]) 2 16 Tryz.underlying79 infoT rfl (by omega) enT_len enT_one _ (allTo g m k) rfl (((ho.alloc _).keep hb1).alloc _) w1.heap.size 1 (m, (k : Int)) 29 rfl (BlkS.new _ _ _) (by have := allTo_len g m k; unfold maxLen; omega) (by have := allTo_len g m k; omega) (Bl.alloc (Bl.call (Bl.alloc hb _) hb1) _).size ?_; intro v' w2 ho' hg' hat'))
    exact ⟨⟨k + 1, by omega, by go_num, by rw [e1.out]; exact ho', below_app (Bl.alloc (Bl.call (Bl.alloc hb _) hb1) _) (((ho.alloc _).keep hb1).alloc _) hg'⟩, by simp [intOf]; omega⟩
   ·have ha' : alwW g m m (k : Int) = false := by simpa using ha
    have e1 := Hj (show allTo g m (k + 1) = allTo g m k by rw [allTo, if_neg ha, List.append_nil])
    clear ha
    go_wp2_with (go_at_call 81; refine (rallowed_any _ _ _ _ _).mono ?_; rintro e w1 ⟨rfl, hb1⟩)
    exact ⟨⟨k + 1, by omega, by go_num, by rw [e1.out]; exact (ho.alloc _).keep hb1, Bl.call (Bl.alloc hb _) hb1⟩, by simp [intOf]; omega⟩
  ·obtain rfl : k = 4 := by omega
   go_wp2_with fail
   go_ret
   exact ⟨_, rfl, ho, hb⟩
theorem tpol_take {f : Bool} {q : Int} {l : List (Int × Int)} {k : Nat} (h : k < l.length) : (tpolW f q l).take (k + 1) = (tpolW f q l).take k ++ [applyW f q (gt l (if f then l.length - 1 - k else k))] := by
 rw [List.take_succ_eq_append_getElem (by rw [tpolW_len]; exact h), ← tpolW_gt h]
 simp [gt, tpolW_len, h]
set_option maxHeartbeats 1000000 in
theorem rtpoly_any (f : Bool) (q : Int) (A : Option Addr) (cap n : Nat) (l : List (Int × Int)) (w : World) (hn : n ≤ 1000000) (hs : SpS w A n l) :
 Calls Tryz.prog 66 #[.agg #[.bool f, .int .i64 q], .slice A n cap] w (RetS w (tpolW f q l)) := by
 have HL := Hj hs.1
 go_enter Tryz.func66, Tryz.ntmps66
 go_wp2_with fail
 go_loopw [5, 6] (fun s i wr => ∃ k : Nat, k ≤ n ∧ i = .int .i64 k ∧ OwS wr (w.heap.size + 1) s ((tpolW f q l).take k) ∧ BlkS wr w.heap.size 29 #[.bool f, .int .i64 q] ∧ Below w.heap.size w wr) (fun _ i _ => n - (intOf i).toNat)
 case atStart => exact ⟨0, Nat.zero_le _, rfl, OwG.nil, BlkS.new _ _ _, Bl.alloc Br _⟩
 case round =>
  obtain ⟨k, hk, rfl, ho, hB, hb⟩ := hrel
  by_cases hlt : k < n
  ·obtain ⟨b, off, rfl, hbl, hc⟩ := hs.at_ hlt
   have HT := Hj (tpol_take (f := f) (q := q) (l := l) (k := k) (by rw [HL.out]; exact hlt))
   rw [HL.out] at HT
   cases f with
   | true =>
     obtain ⟨i, hi, hin⟩ : ∃ i : Nat, n - 1 - k = i ∧ i < n := ⟨_, rfl, by omega⟩
     have hii : (n : Int) - 1 - (k : Int) = (i : Int) := by omega
     have q1 : IntKind.i64.wrap ((n : Int) - 1) = (n : Int) - 1 := wrap_in _ (by omega) (by omega)
     have q2 : IntKind.i64.wrap ((n : Int) - 1 - (k : Int)) = (i : Int) := by rw [hii]; exact wrap_in _ (by omega) (by omega)
     rw [if_pos rfl, hi] at HT
     clear hi
     have h1 := Xa hb (hc i hin).1
     have h2 := Xa hb (hc i hin).2
     clear hc
     have hlen : ((tpolW true q l).take k).length ≤ 1000000 := by rw [List.length_take]; omega
     have z1 : (0 : Int) ≤ (i : Int) := by omega
     have z2 : (i : Int) < (n : Int) := by omega
     have hbs := hb.size
     obtain ⟨sv, hsv⟩ : ∃ sv, sv = u5 := ⟨_, rfl⟩
     rw [← hsv] at ho ⊢
     clear hsv
     have hne : some b ≠ sv.ownBlock := fun e => by have := (OwG.lt ho _ e.symm).1; omega
     have hne2 : some w.heap.size ≠ sv.ownBlock := fun e => by have := (OwG.lt ho _ e.symm).1; omega
     have hbls : b < wr.heap.size := by omega
     obtain ⟨c3, c4⟩ : wr.cell? ⟨w.heap.size, 0, none⟩ = some (.bool true) ∧ wr.cell? ⟨w.heap.size, 1, none⟩ = some (.int .i64 q) := ⟨hB.cell 0, hB.cell 1⟩
     have hgl : w.heap.size < wr.heap.size := lt_of_cell c3
     go_wp2_with fail
     go_region_held3 (fun w' => w'.cell? ⟨b, off + i * 2, none⟩ = some (.int .i64 (gt l i).1) ∧ w'.cell? ⟨b, off + i * 2 + 1, none⟩ = some (.int .i64 (gt l i).2) ∧ w'.cell? ⟨w.heap.size, 0, none⟩ = some (.bool true) ∧ w'.cell? ⟨w.heap.size, 1, none⟩ = some (.int .i64 q)) (first
      | go_keep
      | exact ⟨Xa hb1 h1, Xa hb1 h2, Xa hb1 c3, Xa hb1 c4⟩
      | exact ⟨Xa (Bl.alloc Br _) (Xa hb1 h1), Xa (Bl.alloc Br _) (Xa hb1 h2), Xa (Bl.alloc Br _) (Xa hb1 c3), Xa (Bl.alloc Br _) (Xa hb1 c4)⟩
      | (go_split_ands
         refine ⟨?_, ?_, ?_, ?_⟩
         ·(rw [hgv.cell_far _ (by simp; omega) hne]; assumption)
         ·(rw [hgv.cell_far _ (by simp; omega) hne]; assumption)
         ·(rw [hgv.cell_far _ (by simp; omega) hne2]; assumption)
         ·(rw [hgv.cell_far _ (by simp; omega) hne2]; assumption)))
      ((first
        | (go_at_call 69; refine (rapply_any _ _ _ _ _).mono ?_; rintro e w1 ⟨rfl, hb1⟩; have hs1 : wr.heap.size ≤ w1.heap.size := hb1.size)
        | (refine step_appS (by rfl) _ _ (by rfl) (w.heap.size + 1) sv ((tpolW true q l).take k) (by rfl) (OwG.alloc (OwG.keep ho (Bl.call (Bl.drew Br) hb1)) _) w1.heap.size 1 (applyW true q ((gt l i).1, (gt l i).2)) 37 (by rfl) (BlkS.new _ _ _) hlen (by simp; omega) (w1.heap.size + 1) (by simp) ?_; intro gg cp wv hov hgv hat hlv)))
     have hbW : Below wr.heap.size wr w1 := Bl.call (Bl.drew Br) hb1
     have hog : OwS (w1.alloc (.cells #[.int .i64 (applyW true q ((gt l i).1, (gt l i).2)).1, .int .i64 (applyW true q ((gt l i).1, (gt l i).2)).2] 37)) (w.heap.size + 1) sv ((tpolW true q l).take k) := OwG.alloc (OwG.keep ho hbW) _
     have hBw := (hB.keep hbW).alloc (.cells #[.int .i64 (applyW true q ((gt l i).1, (gt l i).2)).1, .int .i64 (applyW true q ((gt l i).1, (gt l i).2)).2] 37)
     go_wp2_with fail
     exact ⟨⟨k + 1, by omega, by go_num, by rw [HT.out]; rw [List.length_take] at hov; exact hov, (hgv.block w.heap.size hBw.lt hne2).trans hBw, below_app (Bl.alloc (Bl.call hb hbW) _) (OwG.lower hog (by omega)) hgv⟩, by simp [intOf]; omega⟩
   | false =>
     obtain ⟨i, hik, hin⟩ : ∃ i : Nat, k = i ∧ i < n := ⟨_, rfl, hlt⟩
     rw [if_neg (by simp)] at HT
     subst hik
     have h1 := Xa hb (hc k hin).1
     have h2 := Xa hb (hc k hin).2
     clear hc
     have hlen : ((tpolW false q l).take k).length ≤ 1000000 := by rw [List.length_take]; omega
     have z1 : (0 : Int) ≤ (k : Int) := by omega
     have z2 : (k : Int) < (n : Int) := by omega
     have hbs := hb.size
     obtain ⟨sv, hsv⟩ : ∃ sv, sv = u5 := ⟨_, rfl⟩
     rw [← hsv] at ho ⊢
     clear hsv
     have hne : some b ≠ sv.ownBlock := fun e => by have := (OwG.lt ho _ e.symm).1; omega
     have hne2 : some w.heap.size ≠ sv.ownBlock := fun e => by have := (OwG.lt ho _ e.symm).1; omega
     have hbls : b < wr.heap.size := by omega
     obtain ⟨c3, c4⟩ : wr.cell? ⟨w.heap.size, 0, none⟩ = some (.bool false) ∧ wr.cell? ⟨w.heap.size, 1, none⟩ = some (.int .i64 q) := ⟨hB.cell 0, hB.cell 1⟩
     have hgl : w.heap.size < wr.heap.size := lt_of_cell c3
     go_wp2_with fail
     go_region_held3 (fun w' => w'.cell? ⟨b, off + k * 2, none⟩ = some (.int .i64 (gt l k).1) ∧ w'.cell? ⟨b, off + k * 2 + 1, none⟩ = some (.int .i64 (gt l k).2) ∧ w'.cell? ⟨w.heap.size, 0, none⟩ = some (.bool false) ∧ w'.cell? ⟨w.heap.size, 1, none⟩ = some (.int .i64 q)) (first
      | go_keep
      | exact ⟨Xa hb1 h1, Xa hb1 h2, Xa hb1 c3, Xa hb1 c4⟩
      | exact ⟨Xa (Bl.alloc Br _) (Xa hb1 h1), Xa (Bl.alloc Br _) (Xa hb1 h2), Xa (Bl.alloc Br _) (Xa hb1 c3), Xa (Bl.alloc Br _) (Xa hb1 c4)⟩
      | (go_split_ands
         refine ⟨?_, ?_, ?_, ?_⟩
         ·(rw [hgv.cell_far _ (by simp; omega) hne]; assumption)
         ·(rw [hgv.cell_far _ (by simp; omega) hne]; assumption)
         ·(rw [hgv.cell_far _ (by simp; omega) hne2]; assumption)
         ·(rw [hgv.cell_far _ (by simp; omega) hne2]; assumption)))
      ((first
        | (go_at_call 69; refine (rapply_any _ _ _ _ _).mono ?_; rintro e w1 ⟨rfl, hb1⟩; have hs1 : wr.heap.size ≤ w1.heap.size := hb1.size)
        | (refine step_appS (by rfl) _ _ (by rfl) (w.heap.size + 1) sv ((tpolW false q l).take k) (by rfl) (OwG.alloc (OwG.keep ho (Bl.call (Bl.drew Br) hb1)) _) w1.heap.size 1 (applyW false q ((gt l k).1, (gt l k).2)) 37 (by rfl) (BlkS.new _ _ _) hlen (by simp; omega) (w1.heap.size + 1) (by simp) ?_; intro gg cp wv hov hgv hat hlv)))
     have hbW : Below wr.heap.size wr w1 := Bl.call (Bl.drew Br) hb1
     have hog : OwS (w1.alloc (.cells #[.int .i64 (applyW false q ((gt l k).1, (gt l k).2)).1, .int .i64 (applyW false q ((gt l k).1, (gt l k).2)).2] 37)) (w.heap.size + 1) sv ((tpolW false q l).take k) := OwG.alloc (OwG.keep ho hbW) _
     have hBw := (hB.keep hbW).alloc (.cells #[.int .i64 (applyW false q ((gt l k).1, (gt l k).2)).1, .int .i64 (applyW false q ((gt l k).1, (gt l k).2)).2] 37)
     go_wp2_with fail
     exact ⟨⟨k + 1, by omega, by go_num, by rw [HT.out]; rw [List.length_take] at hov; exact hov, (hgv.block w.heap.size hBw.lt hne2).trans hBw, below_app (Bl.alloc (Bl.call hb hbW) _) (OwG.lower hog (by omega)) hgv⟩, by simp [intOf]; omega⟩
  ·obtain rfl : n = k := by omega
   rw [List.take_of_length_le (by rw [tpolW_len, HL.out]; exact Nat.le_refl _)] at ho
   go_wp2_with fail
   go_ret
   exact ⟨_, rfl, OwG.lower ho (by omega), hb⟩
end
section
set_option maxRecDepth 100000
open Go.RowKit
set_option maxHeartbeats 400000 in
theorem rcoord_any (n : Int) (w : World) : Calls Tryz.prog 98 #[.int .i64 n] w fun e w' => e = .returned (.bool (decide (-1048576 ≤ n) && decide (n ≤ 1048576))) ∧ w' = w := by
 go_enter Tryz.func98, Tryz.ntmps98
 go_wp2
 all_goals go_ret
 all_goals exact ⟨ret_bool (by rw [Bool.eq_iff_iff]; simp <;> omega), rfl⟩
theorem near_parts (x y : Int) : (!outB 1048576 (x, y)) = ((decide (-1048576 ≤ x) && decide (x ≤ 1048576)) && (decide (-1048576 ≤ y) && decide (y ≤ 1048576))) := by
 rw [Bool.eq_iff_iff]; unfold outB; simp; omega
set_option maxHeartbeats 400000 in
theorem rnear_any (x y : Int) (w : World) : Calls Tryz.prog 64 #[.agg #[.int .i64 x, .int .i64 y]] w fun e w' => e = .returned (.bool (!outB 1048576 (x, y))) ∧ Below w.heap.size w w' := by
 rw [near_parts]
 cases h : (decide (-1048576 ≤ x) && decide (x ≤ 1048576)) with
 | true =>
   have H := Hj h
   clear h
   go_enter Tryz.func64, Tryz.ntmps64
   go_wp2_with (go_at_call 98; refine (rcoord_any _ _).mono ?_; rintro e w1 ⟨rfl, rfl⟩; try rw [H.out])
   go_ret
   exact ⟨rfl, Bl.alloc Br _⟩
 | false =>
   have H := Hj h
   clear h
   go_enter Tryz.func64, Tryz.ntmps64
   go_wp2_with (go_at_call 98; refine (rcoord_any _ _).mono ?_; rintro e w1 ⟨rfl, rfl⟩; try rw [H.out])
   go_ret
   exact ⟨rfl, Bl.alloc Br _⟩
set_option maxHeartbeats 400000 in
theorem rsound_any (b : Bed4) (w : World) : Calls Tryz.prog 34 #[bedV b] w fun e w' => e = .returned (.bool (!bedBad b)) ∧ Below w.heap.size w w' := by
 obtain ⟨len, wid, rx, ry⟩ := b
 unfold bedV
 dsimp only
 go_enter Tryz.func34, Tryz.ntmps34
 go_wp2
 all_goals go_ret
 all_goals exact ⟨ret_bool (by rw [Bool.eq_iff_iff]; unfold bedBad; simp <;> omega), Bl.alloc Br _⟩
set_option maxHeartbeats 1000000 in
theorem rpoly_bad (A : Option Addr) (cap n : Nat) (S : List Shp) (p : Pt5) (w : World) (hS : ShS w A n S) (h : p.sh < 0 ∨ p.sh ≥ n ∨ outB 1048576 (p.x, p.y) = true) :
 Calls Tryz.prog 35 #[.slice A n cap, putV p] w (RetSE' w (3, [])) := by
 obtain ⟨sh, fl, qu, x, y⟩ := p
 unfold putV
 dsimp only at h ⊢
 have hn := hS.2.1
 go_enter Tryz.func35, Tryz.ntmps35
 by_cases h1 : sh < 0
 ·go_wp2_with fail
  go_ret2
  exact ⟨_, rfl, OwG.nil, Bl.alloc Br _⟩
 ·by_cases h2 : sh ≥ n
  ·go_wp2_with fail
   go_ret2
   exact ⟨_, rfl, OwG.nil, Bl.alloc Br _⟩
  ·have h3 : outB 1048576 (x, y) = true := by rcases h with h | h | h; exact absurd h h1; exact absurd h h2; exact h
   go_wp2_with (go_at_call 64; refine (rnear_any _ _ _).mono ?_; rintro e w1 ⟨rfl, hb1⟩)
   go_ret2
   exact ⟨_, rfl, OwG.nil, Bl.call (Bl.alloc Br _) hb1⟩
set_option maxHeartbeats 1000000 in
theorem rpoly_ok (A : Option Addr) (cap n : Nat) (S : List Shp) (p : Pt5) (k : Nat) (w : World) (hS : ShS w A n S) (hk : p.sh = (k : Int)) (hkn : k < n) (ho : outB 1048576 (p.x, p.y) = false) :
 Calls Tryz.prog 35 #[.slice A n cap, putV p] w (RetSE' w (polyIn (shp S k).poly p)) := by
 obtain ⟨sh, fl, qu, x, y⟩ := p
 dsimp only at hk ho
 subst hk
 unfold putV
 dsimp only
 have hn := hS.2.1
 obtain ⟨b, off, rfl, hbl, Ak, ck, g1, g2, g3, g4, g5, g6, g7, g8, g9⟩ := hS.at_ hkn
 obtain ⟨l, hl⟩ : ∃ l, (shp S k).poly = l := ⟨_, rfl⟩
 rw [hl] at g1 g2 g4 ⊢
 clear hl g6 g7 g8 g9
 obtain ⟨m, hm⟩ : ∃ m, l.length = m := ⟨_, rfl⟩
 rw [hm] at g1 g2 g4
 have HM := Hj hm
 clear hm
 have hB := Hj (BlkS.new w 39 #[.int .i64 (k : Int), .bool fl, .int .i64 qu, .int .i64 x, .int .i64 y])
 by_cases hc : checkW l m = 0
 ·have q : (checkW l m != 0) = false := by rw [hc]; rfl
  have hm40 := (check_len hc).2
  have HC := Hj hc
  clear hc
  obtain ⟨r, hr⟩ : ∃ r, movW (tpolW fl qu l) (x, y) = r := ⟨_, rfl⟩
  have hrl : r.length = m := by rw [← hr, movW_len, tpolW_len, HM.out]
  have hP := Hj (show polyIn l ⟨(k : Int), fl, qu, x, y⟩ = if checkW r m ≠ 0 then (checkW r m, []) else (0, r) by unfold polyIn; rw [HM.out, if_neg (by rw [HC.out]; simp), hr])
  have HRR := Hj hr
  have HRL := Hj hrl
  clear hr hrl
  go_enter Tryz.func35, Tryz.ntmps35
  go_upto_region 7 with (first | (go_at_call 64; refine (rnear_any _ _ _).mono ?_; rintro e w1 ⟨rfl, hb1⟩; have k0 := hB.out.keep hb1; have a1 := k0.cell 0; simp only [List.getElem?_toArray, List.getElem?_cons_zero, List.getElem?_cons_succ] at a1; have g1' := Xa (Bl.call (Bl.alloc Br _) hb1) g1) | (go_at_call 52; refine (rcheck_any _ _ _ l _ (by omega) g2 (g4.keep (Bl.call (Bl.alloc Br _) hb1))).mono ?_; rintro e w2 ⟨rfl, hb2⟩))
  have hb := Bl.call (Bl.call (Bl.alloc Br _) hb1) hb2
  have k2 := k0.keep hb2
  have hS2 := g4.keep hb
  have d1 := k2.cell 1
  have d2 := k2.cell 2
  have d3 := k2.cell 3
  have d4 := k2.cell 4
  simp only [List.getElem?_toArray, List.getElem?_cons_zero, List.getElem?_cons_succ] at d1 d2 d3 d4
  clear g1' a1 k0 hb1 hb2 g1 hB k2
  go_cut [8] (fun v wx => OwS wx w.heap.size v r ∧ Below w.heap.size w wx)
  case first =>
   go_region_held3 (fun w' => w'.cell? ⟨w.heap.size, 1, none⟩ = some (.bool fl) ∧ w'.cell? ⟨w.heap.size, 2, none⟩ = some (.int .i64 qu) ∧ w'.cell? ⟨w.heap.size, 3, none⟩ = some (.int .i64 x) ∧ w'.cell? ⟨w.heap.size, 4, none⟩ = some (.int .i64 y))
    (first
     | go_keep
     | exact ⟨Xa hb3 d1, Xa hb3 d2, Xa hb3 d3, Xa hb3 d4⟩
     | exact ⟨Xa hb4 (Xa hb3 d1), Xa hb4 (Xa hb3 d2), Xa hb4 (Xa hb3 d3), Xa hb4 (Xa hb3 d4)⟩)
    ((first
      | (go_at_call 66; refine (rtpoly_any _ _ _ _ _ l _ (by omega) (hS2.keep (Bl.drew Br))).mono ?_; rintro e w3 ⟨v3, rfl, ho3, hb3⟩; obtain ⟨A3, c3, rfl, hc3, hS3, -, -⟩ := OwS.els ho3; rw [tpolW_len, HM.out] at hS3 ⊢)
      | (go_at_call 65; refine (rmove_any _ _ _ (tpolW fl qu l) _ _ _ (by omega) hS3).mono ?_; rintro e w4 ⟨v4, rfl, ho4, hb4⟩)))
   all_goals go_wp2_with fail
   all_goals go_meet
   all_goals (rw [HRR.out] at ho4; exact ⟨OwG.lower ho4 (Nat.le_trans hb.size hb3.size), Bl.call (Bl.call (Bl.drew hb) hb3) hb4⟩)
  case rest =>
   clear hb hS2 d1 d2 d3 d4
   obtain ⟨ho, hb⟩ := hcut
   obtain ⟨A8, c8, rfl, hc8, hS8, -, -⟩ := OwS.els ho
   rw [HRL.out] at hc8 hS8 ho ⊢
   by_cases hc2 : checkW r m = 0
   ·have q2 : (checkW r m != 0) = false := by rw [hc2]; rfl
    rw [hc2] at hP
    go_wp2_with (go_at_call 52; refine (rcheck_any _ _ _ r _ (by omega) hc8 hS8).mono ?_; rintro e w5 ⟨rfl, hb5⟩)
    go_ret2
    exact ⟨_, by rw [hP.out]; rfl, by rw [hP.out]; exact OwG.keep ho hb5, Bl.call hb hb5⟩
   ·have q2 : (checkW r m != 0) = true := by simpa using hc2
    rw [if_pos hc2] at hP
    clear hc2
    go_wp2_with (go_at_call 52; refine (rcheck_any _ _ _ r _ (by omega) hc8 hS8).mono ?_; rintro e w5 ⟨rfl, hb5⟩)
    go_ret2
    exact ⟨_, by rw [hP.out]; rfl, by rw [hP.out]; exact OwG.nil, Bl.call hb hb5⟩
 ·have q : (checkW l m != 0) = true := by simpa using hc
  have HR := Hj (show polyIn l ⟨(k : Int), fl, qu, x, y⟩ = (checkW l m, []) by unfold polyIn; rw [HM.out, if_pos hc])
  clear hc
  go_enter Tryz.func35, Tryz.ntmps35
  go_wp2_with (first | (go_at_call 64; refine (rnear_any _ _ _).mono ?_; rintro e w1 ⟨rfl, hb1⟩; have k0 := hB.out.keep hb1; have a1 := k0.cell 0; simp only [List.getElem?_toArray, List.getElem?_cons_zero, List.getElem?_cons_succ] at a1; have g1' := Xa (Bl.call (Bl.alloc Br _) hb1) g1) | (go_at_call 52; refine (rcheck_any _ _ _ l _ (by omega) g2 (g4.keep (Bl.call (Bl.alloc Br _) hb1))).mono ?_; rintro e w2 ⟨rfl, hb2⟩))
  go_ret2
  exact ⟨_, by rw [HR.out]; rfl, by rw [HR.out]; exact OwG.nil, Bl.call (Bl.call (Bl.alloc Br _) hb1) hb2⟩
theorem rpoly_any (A : Option Addr) (cap n : Nat) (S : List Shp) (p : Pt5) (w : World) (hS : ShS w A n S) :
 Calls Tryz.prog 35 #[.slice A n cap, putV p] w (RetSE' w (Xe S p)) := by
 by_cases h : p.sh < 0 ∨ p.sh ≥ n ∨ outB 1048576 (p.x, p.y) = true
 ·rw [show Xe S p = (3, []) by unfold Xe; rw [hS.1, if_pos h]]
  exact rpoly_bad A cap n S p w hS h
 ·rw [show Xe S p = polyIn (shp S p.sh.toNat).poly p by unfold Xe; rw [hS.1, if_neg h]]
  simp only [not_or] at h
  exact rpoly_ok A cap n S p p.sh.toNat w hS (by omega) (by omega) (by simpa using h.2.2)
end
end Go.Proofs.YtmdncaoilegnnaaGreat

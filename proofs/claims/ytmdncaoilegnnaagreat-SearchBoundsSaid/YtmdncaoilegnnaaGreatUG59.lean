/- garmentref12: Norm, Apply, Allowed, All, Poly. garmentref30: Coord, Near, Sound, Poly. -/
import Derived.Test.YtmdncaoilegnnaaGreatUE
import Derived.Test.YtmdncaoilegnnaaGreatUG50
import Derived.Test.YtmdncaoilegnnaaGreatUD
import Derived.Test.YtmdncaoilegnnaaGreatUG18
import Derived.Test.YtmdncaoilegnnaaGreatUG49
namespace Go.Proofs.YtmdncaoilegnnaaGreat
set_option linter.unusedVariables false
set_option linter.unusedSimpArgs false
set_option linter.unusedVariables false
set_option linter.unusedSimpArgs false
open Go.RowKit

theorem BlkS.new4 (w : World) (o o' o'' : Obj) (t : TypeId) (cs : Array Value) : BlkS ((((w.alloc o).alloc o').alloc o'').alloc (.cells cs t)) (w.heap.size + 1 + 1 + 1) t cs := by
  have h := BlkS.new (((w.alloc o).alloc o').alloc o'') t cs
  simpa using h
set_option maxHeartbeats 400000 in
theorem rtnorm_any (f : Bool) (q : Int) (w : World) :
    Calls Tryz.prog 102 #[.agg #[.bool f, .int .i64 q]] w fun e w' => e = .returned (.agg #[.bool f, .int .i64 (q % 4)]) ∧ Below w.heap.size w w' := by
  have h1 := tmod_rng q 4 (by omega)
  have h2 := tmod_add q 4 (by omega)
  obtain ⟨t, ht⟩ : ∃ t, q.tmod 4 = t := ⟨_, rfl⟩
  rw [ht] at h1 h2
  by_cases hn : t < 0
  · have e1 : t + 4 = q % 4 := by omega
    have e2 : IntKind.i64.wrap (t + 4) = q % 4 := by rw [wrap_in _ (by omega) (by omega)]; exact e1
    clear h1 h2 e1
    go_enter Tryz.func102, Tryz.ntmps102
    go_wp2
    exact bodyPost_ret (v := .agg #[.bool f, .int .i64 (q % 4)]) (by simp [results, Tryz.results102, go_sem]) rfl ⟨rfl, Bl.alloc (Bl.alloc (Below.refl _ _) _) _⟩
  · have e1 : t = q % 4 := by omega
    clear h1 h2
    rw [e1] at ht hn
    go_enter Tryz.func102, Tryz.ntmps102
    go_wp2
    exact bodyPost_ret (v := .agg #[.bool f, .int .i64 (q % 4)]) (by simp [results, Tryz.results102, go_sem]) rfl ⟨rfl, Bl.alloc (Bl.alloc (Below.refl _ _) _) _⟩
set_option maxHeartbeats 1000000 in
theorem rapply_any (f : Bool) (q x y : Int) (w : World) :
    Calls Tryz.prog 69 #[.agg #[.bool f, .int .i64 q], .agg #[.int .i64 x, .int .i64 y]] w fun e w' => e = .returned (.agg #[.int .i64 (applyW f q (x, y)).1, .int .i64 (applyW f q (x, y)).2]) ∧ Below w.heap.size w w' := by
  cases f with
  | true =>
    go_enter Tryz.func69, Tryz.ntmps69
    go_upto_region 4 with fail
    refine wp_world (fun X => BlkS X w.heap.size 29 #[.bool true, .int .i64 q] ∧ BlkS X (w.heap.size + 1 + 1) 37 #[.int .i64 0, .int .i64 0] ∧ BlkS X (w.heap.size + 1 + 1 + 1) 37 #[.int .i64 (wrap64 (-x), y).1, .int .i64 (wrap64 (-x), y).2] ∧ Below w.heap.size w X) ?_ ?_
    · exact ⟨(((BlkS.new _ _ _).alloc _).alloc _).alloc _, (BlkS.new3 _ _ _ _ _).alloc _, BlkS.new4 _ _ _ _ _ _, (Bl.alloc (Bl.alloc (Bl.alloc (Bl.alloc (Below.refl _ _) _) _) _) _)⟩
    rintro X ⟨hT, hZ, hO, hX⟩
    obtain ⟨t1, t2⟩ : X.cell? ⟨w.heap.size, 0, none⟩ = some (.bool true) ∧ X.cell? ⟨w.heap.size, 1, none⟩ = some (.int .i64 q) := ⟨hT.cell 0, hT.cell 1⟩
    go_wp2_with (go_at_call 102; refine (rtnorm_any _ _ _).mono ?_; rintro e w1 ⟨rfl, hb1⟩)
    obtain ⟨m, hm, hm3⟩ : ∃ m : Nat, q % 4 = (m : Int) ∧ m ≤ 3 := ⟨(q % 4).toNat, by omega, by omega⟩
    have HM := Lib.hid (show (q % 4).toNat = m by omega)
    have HN := Lib.hid (show BlkS (w1.alloc (.cells #[.bool true, .int .i64 (q % 4)] 29)) w1.heap.size 29 #[.bool true, .int .i64 (m : Int)] by rw [← hm]; exact BlkS.new _ _ _)
    have hlt1 : w.heap.size + 1 + 1 + 1 < w1.heap.size := (hO.keep hb1).lt
    obtain ⟨B6, hB6⟩ : ∃ B6, w1.heap.size = B6 := ⟨_, rfl⟩
    rw [hB6] at HN hlt1 ⊢
    have HZ := Lib.hid ((hZ.keep hb1).alloc (.cells #[.bool true, .int .i64 (q % 4)] 29))
    have HO := Lib.hid ((hO.keep hb1).alloc (.cells #[.bool true, .int .i64 (q % 4)] 29))
    have HB := Lib.hid (Bl.alloc (Bl.call hX hb1) (.cells #[.bool true, .int .i64 (q % 4)] 29))
    clear hT hZ hO hX t1 t2 hb1 hm hB6
    go_loopw [7] (fun i wr => ∃ k : Nat, k ≤ m ∧ i = .int .i64 k ∧ BlkS wr (w.heap.size + 1 + 1 + 1) 37 #[.int .i64 (rotN k (wrap64 (-x), y)).1, .int .i64 (rotN k (wrap64 (-x), y)).2] ∧ BlkS wr (w.heap.size + 1 + 1) 37 #[.int .i64 0, .int .i64 0] ∧ BlkS wr B6 29 #[.bool true, .int .i64 (m : Int)] ∧ Below w.heap.size w wr) (fun i _ => m - (intOf i).toNat)
    case atStart => exact ⟨0, Nat.zero_le _, rfl, HO.out, HZ.out, HN.out, HB.out⟩
    case round =>
      clear HO HZ HN HB
      obtain ⟨k, hk, rfl, hB, hC, hN, hb⟩ := hrel
      have c1 := hB.cell 0
      have c2 := hB.cell 1
      have f1 := hB.frozen 0
      have f2 := hB.frozen 1
      have l1 := hB.lt
      have c3 := hC.cell 0
      have c4 := hC.cell 1
      have f3 := hC.frozen 0
      have f4 := hC.frozen 1
      have l2 := hC.lt
      have c5 := hN.cell 1
      simp only [List.getElem?_toArray, List.getElem?_cons_zero, List.getElem?_cons_succ] at c1 c2 c3 c4 c5
      by_cases hlt : k < m
      · go_wp2_with fail
        exact ⟨⟨k + 1, by omega, by go_num, (hB.set_ 0 _).set_ 1 _, (hC.far (p := ⟨w.heap.size + 1 + 1 + 1, 0, none⟩) (by simp) _).far (p := ⟨w.heap.size + 1 + 1 + 1, 1, none⟩) (by simp) _, (hN.far (p := ⟨w.heap.size + 1 + 1 + 1, 0, none⟩) (by simp; omega) _).far (p := ⟨w.heap.size + 1 + 1 + 1, 1, none⟩) (by simp; omega) _, Bl.set (Bl.set hb (p := ⟨w.heap.size + 1 + 1 + 1, 0, none⟩) (by simp; omega) _) (p := ⟨w.heap.size + 1 + 1 + 1, 1, none⟩) (by simp; omega) _⟩, by simp [intOf]; omega⟩
      · obtain rfl : m = k := by omega
        go_wp2_with fail
        refine bodyPost_ret (v := .agg #[.int .i64 (rotN m (wrap64 (-x), y)).1, .int .i64 (rotN m (wrap64 (-x), y)).2]) (by simp [results, Tryz.results69, go_sem, c3, c4]) rfl ⟨by unfold applyW; rw [HM.out]; rfl, Bl.set (Bl.set hb (p := ⟨w.heap.size + 1 + 1, 0, none⟩) (by simp; omega) _) (p := ⟨w.heap.size + 1 + 1, 1, none⟩) (by simp; omega) _⟩
  | false =>
    go_enter Tryz.func69, Tryz.ntmps69
    go_upto_region 4 with fail
    refine wp_world (fun X => BlkS X w.heap.size 29 #[.bool false, .int .i64 q] ∧ BlkS X (w.heap.size + 1 + 1) 37 #[.int .i64 0, .int .i64 0] ∧ BlkS X (w.heap.size + 1 + 1 + 1) 37 #[.int .i64 (x, y).1, .int .i64 (x, y).2] ∧ Below w.heap.size w X) ?_ ?_
    · exact ⟨(((BlkS.new _ _ _).alloc _).alloc _).alloc _, (BlkS.new3 _ _ _ _ _).alloc _, BlkS.new4 _ _ _ _ _ _, (Bl.alloc (Bl.alloc (Bl.alloc (Bl.alloc (Below.refl _ _) _) _) _) _)⟩
    rintro X ⟨hT, hZ, hO, hX⟩
    obtain ⟨t1, t2⟩ : X.cell? ⟨w.heap.size, 0, none⟩ = some (.bool false) ∧ X.cell? ⟨w.heap.size, 1, none⟩ = some (.int .i64 q) := ⟨hT.cell 0, hT.cell 1⟩
    go_wp2_with (go_at_call 102; refine (rtnorm_any _ _ _).mono ?_; rintro e w1 ⟨rfl, hb1⟩)
    obtain ⟨m, hm, hm3⟩ : ∃ m : Nat, q % 4 = (m : Int) ∧ m ≤ 3 := ⟨(q % 4).toNat, by omega, by omega⟩
    have HM := Lib.hid (show (q % 4).toNat = m by omega)
    have HN := Lib.hid (show BlkS (w1.alloc (.cells #[.bool false, .int .i64 (q % 4)] 29)) w1.heap.size 29 #[.bool false, .int .i64 (m : Int)] by rw [← hm]; exact BlkS.new _ _ _)
    have hlt1 : w.heap.size + 1 + 1 + 1 < w1.heap.size := (hO.keep hb1).lt
    obtain ⟨B6, hB6⟩ : ∃ B6, w1.heap.size = B6 := ⟨_, rfl⟩
    rw [hB6] at HN hlt1 ⊢
    have HZ := Lib.hid ((hZ.keep hb1).alloc (.cells #[.bool false, .int .i64 (q % 4)] 29))
    have HO := Lib.hid ((hO.keep hb1).alloc (.cells #[.bool false, .int .i64 (q % 4)] 29))
    have HB := Lib.hid (Bl.alloc (Bl.call hX hb1) (.cells #[.bool false, .int .i64 (q % 4)] 29))
    clear hT hZ hO hX t1 t2 hb1 hm hB6
    go_loopw [7] (fun i wr => ∃ k : Nat, k ≤ m ∧ i = .int .i64 k ∧ BlkS wr (w.heap.size + 1 + 1 + 1) 37 #[.int .i64 (rotN k (x, y)).1, .int .i64 (rotN k (x, y)).2] ∧ BlkS wr (w.heap.size + 1 + 1) 37 #[.int .i64 0, .int .i64 0] ∧ BlkS wr B6 29 #[.bool false, .int .i64 (m : Int)] ∧ Below w.heap.size w wr) (fun i _ => m - (intOf i).toNat)
    case atStart => exact ⟨0, Nat.zero_le _, rfl, HO.out, HZ.out, HN.out, HB.out⟩
    case round =>
      clear HO HZ HN HB
      obtain ⟨k, hk, rfl, hB, hC, hN, hb⟩ := hrel
      have c1 := hB.cell 0
      have c2 := hB.cell 1
      have f1 := hB.frozen 0
      have f2 := hB.frozen 1
      have l1 := hB.lt
      have c3 := hC.cell 0
      have c4 := hC.cell 1
      have f3 := hC.frozen 0
      have f4 := hC.frozen 1
      have l2 := hC.lt
      have c5 := hN.cell 1
      simp only [List.getElem?_toArray, List.getElem?_cons_zero, List.getElem?_cons_succ] at c1 c2 c3 c4 c5
      by_cases hlt : k < m
      · go_wp2_with fail
        exact ⟨⟨k + 1, by omega, by go_num, (hB.set_ 0 _).set_ 1 _, (hC.far (p := ⟨w.heap.size + 1 + 1 + 1, 0, none⟩) (by simp) _).far (p := ⟨w.heap.size + 1 + 1 + 1, 1, none⟩) (by simp) _, (hN.far (p := ⟨w.heap.size + 1 + 1 + 1, 0, none⟩) (by simp; omega) _).far (p := ⟨w.heap.size + 1 + 1 + 1, 1, none⟩) (by simp; omega) _, Bl.set (Bl.set hb (p := ⟨w.heap.size + 1 + 1 + 1, 0, none⟩) (by simp; omega) _) (p := ⟨w.heap.size + 1 + 1 + 1, 1, none⟩) (by simp; omega) _⟩, by simp [intOf]; omega⟩
      · obtain rfl : m = k := by omega
        go_wp2_with fail
        refine bodyPost_ret (v := .agg #[.int .i64 (rotN m (x, y)).1, .int .i64 (rotN m (x, y)).2]) (by simp [results, Tryz.results69, go_sem, c3, c4]) rfl ⟨by unfold applyW; rw [HM.out]; rfl, Bl.set (Bl.set hb (p := ⟨w.heap.size + 1 + 1, 0, none⟩) (by simp; omega) _) (p := ⟨w.heap.size + 1 + 1, 1, none⟩) (by simp; omega) _⟩
set_option maxHeartbeats 1000000 in
theorem rallowed_any (g : Int) (m f : Bool) (q : Int) (w : World) :
    Calls Tryz.prog 81 #[.int .i64 g, .bool m, .agg #[.bool f, .int .i64 q]] w fun e w' => e = .returned (.bool (alwW g m f q)) ∧ Below w.heap.size w w' := by
  have ht : (q % 4).tmod 2 = q % 4 % 2 := Int.tmod_eq_emod_of_nonneg (Int.emod_nonneg _ (by omega))
  have he : ((q % 4 % 2 : Int) == 0) = (q % 4 == 0 || q % 4 == 2) := by rw [Bool.eq_iff_iff]; simp; omega
  go_enter Tryz.func81, Tryz.ntmps81
  go_wp2_with (go_at_call 102; refine (rtnorm_any _ _ _).mono ?_; rintro e w1 ⟨rfl, hb1⟩)
  all_goals go_ret
  all_goals refine ⟨ret_bool ?_, Bl.alloc (Bl.call (Bl.alloc (Below.refl _ _) _) hb1) _⟩
  all_goals clear hb1
  all_goals (unfold alwW; simp_all)
set_option maxHeartbeats 1000000 in
theorem rall_any (g : Int) (m : Bool) (w : World) :
    Calls Tryz.prog 46 #[.int .i64 g, .bool m] w fun e w' => ∃ v, e = .returned v ∧ OwG 29 2 enT w' w.heap.size v (allW g m) ∧ Below w.heap.size w w' := by
  go_enter Tryz.func46, Tryz.ntmps46
  go_wp2_with fail
  go_loopw [5, 6] (fun v i wr => ∃ k : Nat, k ≤ 4 ∧ i = .int .i64 k ∧ OwG 29 2 enT wr w.heap.size v (allTo g m k) ∧ Below w.heap.size w wr) (fun _ i _ => 4 - (intOf i).toNat)
  case atStart => exact ⟨0, Nat.zero_le _, rfl, OwG.nil, Below.refl _ _⟩
  case round =>
    obtain ⟨k, hk, rfl, ho, hb⟩ := hrel
    by_cases hlt : k < 4
    · have hlt' : (k : Int) < 4 := by omega
      have hB := Lib.hid (BlkS.new wr 29 #[.bool m, .int .i64 (k : Int)])
      by_cases ha : alwW g m m (k : Int) = true
      · have e1 := Lib.hid (show allTo g m (k + 1) = allTo g m k ++ [(m, (k : Int))] by rw [allTo, if_pos ha])
        go_wp2_with (first | (go_at_call 81; refine (rallowed_any _ _ _ _ _).mono ?_; rintro e w1 ⟨rfl, hb1⟩; have k0 := hB.out.keep hb1; have a1 := k0.cell 0; have a2 := k0.cell 1; simp only [List.getElem?_toArray, List.getElem?_cons_zero, List.getElem?_cons_succ] at a1 a2) | (at_builtin; refine wpList_app1 rfl _ _ 79 rfl enT w.heap.size 29 (.agg #[.bool false, .int .i64 0]) 2 16 Tryz.underlying79 infoT rfl (by omega) enT_len enT_one _ (allTo g m k) rfl (((ho.alloc _).keep hb1).alloc _) w1.heap.size 1 (m, (k : Int)) 29 rfl (BlkS.new _ _ _) (by have := allTo_len g m k; unfold maxLen; omega) (by have := allTo_len g m k; omega) (Bl.alloc (Bl.call (Bl.alloc hb _) hb1) _).size ?_; intro v' w2 ho' hg' hat'))
        exact ⟨⟨k + 1, by omega, by go_num, by rw [e1.out]; exact ho', below_app (Bl.alloc (Bl.call (Bl.alloc hb _) hb1) _) (((ho.alloc _).keep hb1).alloc _) hg'⟩, by simp [intOf]; omega⟩
      · have ha' : alwW g m m (k : Int) = false := by simpa using ha
        have e1 := Lib.hid (show allTo g m (k + 1) = allTo g m k by rw [allTo, if_neg ha, List.append_nil])
        clear ha
        go_wp2_with (go_at_call 81; refine (rallowed_any _ _ _ _ _).mono ?_; rintro e w1 ⟨rfl, hb1⟩)
        exact ⟨⟨k + 1, by omega, by go_num, by rw [e1.out]; exact (ho.alloc _).keep hb1, Bl.call (Bl.alloc hb _) hb1⟩, by simp [intOf]; omega⟩
    · obtain rfl : k = 4 := by omega
      go_wp2_with fail
      go_ret
      exact ⟨_, rfl, ho, hb⟩
theorem tpol_take {f : Bool} {q : Int} {l : List (Int × Int)} {k : Nat} (h : k < l.length) : (tpolW f q l).take (k + 1) = (tpolW f q l).take k ++ [applyW f q (gt l (if f then l.length - 1 - k else k))] := by
  rw [List.take_succ_eq_append_getElem (by rw [tpolW_len]; exact h), ← tpolW_gt h]
  simp [gt, tpolW_len, h]
set_option maxHeartbeats 1000000 in
set_option maxRecDepth 100000 in
theorem rtpoly_any (f : Bool) (q : Int) (A : Option Addr) (cap n : Nat) (l : List (Int × Int)) (w : World) (hn : n ≤ 1000000) (hs : SpS w A n l) :
    Calls Tryz.prog 66 #[.agg #[.bool f, .int .i64 q], .slice A n cap] w (RetS w (tpolW f q l)) := by
  have HL := Lib.hid hs.1
  go_enter Tryz.func66, Tryz.ntmps66
  go_wp2_with fail
  go_loopw [5, 6] (fun s i wr => ∃ k : Nat, k ≤ n ∧ i = .int .i64 k ∧ OwS wr (w.heap.size + 1) s ((tpolW f q l).take k) ∧ BlkS wr w.heap.size 29 #[.bool f, .int .i64 q] ∧ Below w.heap.size w wr) (fun _ i _ => n - (intOf i).toNat)
  case atStart => exact ⟨0, Nat.zero_le _, rfl, OwG.nil, BlkS.new _ _ _, Bl.alloc (Below.refl _ _) _⟩
  case round =>
    obtain ⟨k, hk, rfl, ho, hB, hb⟩ := hrel
    by_cases hlt : k < n
    · obtain ⟨b, off, rfl, hbl, hc⟩ := hs.at_ hlt
      have HT := Lib.hid (tpol_take (f := f) (q := q) (l := l) (k := k) (by rw [HL.out]; exact hlt))
      rw [HL.out] at HT
      cases f with
      | true =>
        obtain ⟨i, hi, hin⟩ : ∃ i : Nat, n - 1 - k = i ∧ i < n := ⟨_, rfl, by omega⟩
        have hii : (n : Int) - 1 - (k : Int) = (i : Int) := by omega
        have q1 : IntKind.i64.wrap ((n : Int) - 1) = (n : Int) - 1 := wrap_in _ (by omega) (by omega)
        have q2 : IntKind.i64.wrap ((n : Int) - 1 - (k : Int)) = (i : Int) := by rw [hii]; exact wrap_in _ (by omega) (by omega)
        rw [if_pos rfl, hi] at HT
        clear hi
        have h1 := cell_keep hb (hc i hin).1
        have h2 := cell_keep hb (hc i hin).2
        clear hc
        have hlen : ((tpolW true q l).take k).length ≤ 1000000 := by rw [List.length_take]; omega
        have z1 : (0 : Int) ≤ (i : Int) := by omega
        have z2 : (i : Int) < (n : Int) := by omega
        have hbs := hb.size
        obtain ⟨sv, hsv⟩ : ∃ sv, sv = u5 := ⟨_, rfl⟩
        rw [← hsv] at ho ⊢
        clear hsv
        have hne : some b ≠ sv.ownBlock := fun e => by have := (OwG.lt ho _ e.symm).1; omega
        have hne2 : some w.heap.size ≠ sv.ownBlock := fun e => by have := (OwG.lt ho _ e.symm).1; omega
        have hbls : b < wr.heap.size := by omega
        obtain ⟨c3, c4⟩ : wr.cell? ⟨w.heap.size, 0, none⟩ = some (.bool true) ∧ wr.cell? ⟨w.heap.size, 1, none⟩ = some (.int .i64 q) := ⟨hB.cell 0, hB.cell 1⟩
        have hgl : w.heap.size < wr.heap.size := lt_of_cell c3
        go_wp2_with fail
        go_region_held3 (fun w' => w'.cell? ⟨b, off + i * 2, none⟩ = some (.int .i64 (gt l i).1) ∧ w'.cell? ⟨b, off + i * 2 + 1, none⟩ = some (.int .i64 (gt l i).2) ∧ w'.cell? ⟨w.heap.size, 0, none⟩ = some (.bool true) ∧ w'.cell? ⟨w.heap.size, 1, none⟩ = some (.int .i64 q)) (first
            | go_keep
            | exact ⟨cell_keep hb1 h1, cell_keep hb1 h2, cell_keep hb1 c3, cell_keep hb1 c4⟩
            | exact ⟨cell_keep (Bl.alloc (Below.refl _ _) _) (cell_keep hb1 h1), cell_keep (Bl.alloc (Below.refl _ _) _) (cell_keep hb1 h2), cell_keep (Bl.alloc (Below.refl _ _) _) (cell_keep hb1 c3), cell_keep (Bl.alloc (Below.refl _ _) _) (cell_keep hb1 c4)⟩
            | (go_split_ands
               refine ⟨?_, ?_, ?_, ?_⟩
               · (rw [hgv.cell_far _ (by simp; omega) hne]; assumption)
               · (rw [hgv.cell_far _ (by simp; omega) hne]; assumption)
               · (rw [hgv.cell_far _ (by simp; omega) hne2]; assumption)
               · (rw [hgv.cell_far _ (by simp; omega) hne2]; assumption)))
          ((first
            | (go_at_call 69; refine (rapply_any _ _ _ _ _).mono ?_; rintro e w1 ⟨rfl, hb1⟩; have hs1 : wr.heap.size ≤ w1.heap.size := hb1.size)
            | (refine step_appS (by rfl) _ _ (by rfl) (w.heap.size + 1) sv ((tpolW true q l).take k) (by rfl) (OwG.alloc (OwG.keep ho (Bl.call (Bl.drew (Below.refl _ _)) hb1)) _) w1.heap.size 1 (applyW true q ((gt l i).1, (gt l i).2)) 37 (by rfl) (BlkS.new _ _ _) hlen (by simp; omega) (w1.heap.size + 1) (by simp) ?_; intro gg cp wv hov hgv hat hlv)))
        have hbW : Below wr.heap.size wr w1 := Bl.call (Bl.drew (Below.refl _ _)) hb1
        have hog : OwS (w1.alloc (.cells #[.int .i64 (applyW true q ((gt l i).1, (gt l i).2)).1, .int .i64 (applyW true q ((gt l i).1, (gt l i).2)).2] 37)) (w.heap.size + 1) sv ((tpolW true q l).take k) := OwG.alloc (OwG.keep ho hbW) _
        have hBw := (hB.keep hbW).alloc (.cells #[.int .i64 (applyW true q ((gt l i).1, (gt l i).2)).1, .int .i64 (applyW true q ((gt l i).1, (gt l i).2)).2] 37)
        go_wp2_with fail
        exact ⟨⟨k + 1, by omega, by go_num, by rw [HT.out]; rw [List.length_take] at hov; exact hov, (hgv.block w.heap.size hBw.lt hne2).trans hBw, below_app (Bl.alloc (Bl.call hb hbW) _) (OwG.lower hog (by omega)) hgv⟩, by simp [intOf]; omega⟩
      | false =>
        obtain ⟨i, hik, hin⟩ : ∃ i : Nat, k = i ∧ i < n := ⟨_, rfl, hlt⟩
        rw [if_neg (by simp)] at HT
        subst hik
        have h1 := cell_keep hb (hc k hin).1
        have h2 := cell_keep hb (hc k hin).2
        clear hc
        have hlen : ((tpolW false q l).take k).length ≤ 1000000 := by rw [List.length_take]; omega
        have z1 : (0 : Int) ≤ (k : Int) := by omega
        have z2 : (k : Int) < (n : Int) := by omega
        have hbs := hb.size
        obtain ⟨sv, hsv⟩ : ∃ sv, sv = u5 := ⟨_, rfl⟩
        rw [← hsv] at ho ⊢
        clear hsv
        have hne : some b ≠ sv.ownBlock := fun e => by have := (OwG.lt ho _ e.symm).1; omega
        have hne2 : some w.heap.size ≠ sv.ownBlock := fun e => by have := (OwG.lt ho _ e.symm).1; omega
        have hbls : b < wr.heap.size := by omega
        obtain ⟨c3, c4⟩ : wr.cell? ⟨w.heap.size, 0, none⟩ = some (.bool false) ∧ wr.cell? ⟨w.heap.size, 1, none⟩ = some (.int .i64 q) := ⟨hB.cell 0, hB.cell 1⟩
        have hgl : w.heap.size < wr.heap.size := lt_of_cell c3
        go_wp2_with fail
        go_region_held3 (fun w' => w'.cell? ⟨b, off + k * 2, none⟩ = some (.int .i64 (gt l k).1) ∧ w'.cell? ⟨b, off + k * 2 + 1, none⟩ = some (.int .i64 (gt l k).2) ∧ w'.cell? ⟨w.heap.size, 0, none⟩ = some (.bool false) ∧ w'.cell? ⟨w.heap.size, 1, none⟩ = some (.int .i64 q)) (first
            | go_keep
            | exact ⟨cell_keep hb1 h1, cell_keep hb1 h2, cell_keep hb1 c3, cell_keep hb1 c4⟩
            | exact ⟨cell_keep (Bl.alloc (Below.refl _ _) _) (cell_keep hb1 h1), cell_keep (Bl.alloc (Below.refl _ _) _) (cell_keep hb1 h2), cell_keep (Bl.alloc (Below.refl _ _) _) (cell_keep hb1 c3), cell_keep (Bl.alloc (Below.refl _ _) _) (cell_keep hb1 c4)⟩
            | (go_split_ands
               refine ⟨?_, ?_, ?_, ?_⟩
               · (rw [hgv.cell_far _ (by simp; omega) hne]; assumption)
               · (rw [hgv.cell_far _ (by simp; omega) hne]; assumption)
               · (rw [hgv.cell_far _ (by simp; omega) hne2]; assumption)
               · (rw [hgv.cell_far _ (by simp; omega) hne2]; assumption)))
          ((first
            | (go_at_call 69; refine (rapply_any _ _ _ _ _).mono ?_; rintro e w1 ⟨rfl, hb1⟩; have hs1 : wr.heap.size ≤ w1.heap.size := hb1.size)
            | (refine step_appS (by rfl) _ _ (by rfl) (w.heap.size + 1) sv ((tpolW false q l).take k) (by rfl) (OwG.alloc (OwG.keep ho (Bl.call (Bl.drew (Below.refl _ _)) hb1)) _) w1.heap.size 1 (applyW false q ((gt l k).1, (gt l k).2)) 37 (by rfl) (BlkS.new _ _ _) hlen (by simp; omega) (w1.heap.size + 1) (by simp) ?_; intro gg cp wv hov hgv hat hlv)))
        have hbW : Below wr.heap.size wr w1 := Bl.call (Bl.drew (Below.refl _ _)) hb1
        have hog : OwS (w1.alloc (.cells #[.int .i64 (applyW false q ((gt l k).1, (gt l k).2)).1, .int .i64 (applyW false q ((gt l k).1, (gt l k).2)).2] 37)) (w.heap.size + 1) sv ((tpolW false q l).take k) := OwG.alloc (OwG.keep ho hbW) _
        have hBw := (hB.keep hbW).alloc (.cells #[.int .i64 (applyW false q ((gt l k).1, (gt l k).2)).1, .int .i64 (applyW false q ((gt l k).1, (gt l k).2)).2] 37)
        go_wp2_with fail
        exact ⟨⟨k + 1, by omega, by go_num, by rw [HT.out]; rw [List.length_take] at hov; exact hov, (hgv.block w.heap.size hBw.lt hne2).trans hBw, below_app (Bl.alloc (Bl.call hb hbW) _) (OwG.lower hog (by omega)) hgv⟩, by simp [intOf]; omega⟩
    · obtain rfl : n = k := by omega
      rw [List.take_of_length_le (by rw [tpolW_len, HL.out]; exact Nat.le_refl _)] at ho
      go_wp2_with fail
      go_ret
      exact ⟨_, rfl, OwG.lower ho (by omega), hb⟩
end Go.Proofs.YtmdncaoilegnnaaGreat

namespace Go.Proofs.YtmdncaoilegnnaaGreat
set_option linter.unusedVariables false
set_option linter.unusedSimpArgs false
set_option linter.unusedVariables false
set_option linter.unusedSimpArgs false
open Go.RowKit

set_option maxHeartbeats 400000 in
theorem rsound_any (b : Bed4) (w : World) : Calls Tryz.prog 34 #[bedV b] w fun e w' => e = .returned (.bool (!bedBad b)) ∧ Below w.heap.size w w' := by
  obtain ⟨len, wid, rx, ry⟩ := b
  unfold bedV
  dsimp only
  go_enter Tryz.func34, Tryz.ntmps34
  go_wp2
  all_goals go_ret
  all_goals exact ⟨ret_bool (by rw [Bool.eq_iff_iff]; unfold bedBad; simp <;> omega), Bl.alloc (Below.refl _ _) _⟩
end Go.Proofs.YtmdncaoilegnnaaGreat

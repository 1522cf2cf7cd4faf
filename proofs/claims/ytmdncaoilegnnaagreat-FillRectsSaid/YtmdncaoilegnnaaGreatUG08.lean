/- Contracts of triangle.cross, outside, Holds; convex.cross, outside; fill.beyond, place.beyond. Contracts of the closures of triangle.Split: corner, straight, free; and of triangle.first. -/
import Derived.Test.YtmdncaoilegnnaaGreatUC
import Derived.Deep.DeepCutAuto
namespace Go.Proofs.YtmdncaoilegnnaaGreat
set_option linter.unusedVariables false
set_option linter.unusedSimpArgs false
set_option linter.unusedVariables false
set_option linter.unusedSimpArgs false
open Go.RowKit

set_option maxHeartbeats 400000 in
theorem tcross_any (ax ay bx bY cx cy : Int) (w : World) :
    Calls Tryz.prog 185 #[.agg #[.int .i64 ax, .int .i64 ay], .agg #[.int .i64 bx, .int .i64 bY], .agg #[.int .i64 cx, .int .i64 cy]] w fun e w' => e = .returned (.int .i64 (crossW (ax, ay) (bx, bY) (cx, cy))) ∧ Below w.heap.size w w' := by
  go_enter Tryz.func185, Tryz.ntmps185
  go_wp2
  go_ret
  exact ⟨rfl, Bl.alloc (Bl.alloc (Bl.alloc (Below.refl _ _) _) _) _⟩
set_option maxHeartbeats 400000 in
theorem ccross_any (ax ay bx bY cx cy : Int) (w : World) :
    Calls Tryz.prog 222 #[.agg #[.int .i64 ax, .int .i64 ay], .agg #[.int .i64 bx, .int .i64 bY], .agg #[.int .i64 cx, .int .i64 cy]] w fun e w' => e = .returned (.int .i64 (crossW (ax, ay) (bx, bY) (cx, cy))) ∧ Below w.heap.size w w' := by
  go_enter Tryz.func222, Tryz.ntmps222
  go_wp2
  go_ret
  exact ⟨rfl, Bl.alloc (Bl.alloc (Bl.alloc (Below.refl _ _) _) _) _⟩
set_option maxHeartbeats 400000 in
theorem tout_any (ax ay : Int) (w : World) :
    Calls Tryz.prog 204 #[.agg #[.int .i64 ax, .int .i64 ay]] w fun e w' => e = .returned (.bool (outB 1048576 (ax, ay))) ∧ Below w.heap.size w w' := by
  go_enter Tryz.func204, Tryz.ntmps204
  go_wp2
  all_goals go_ret
  all_goals exact ⟨ret_bool (by simp [outB] <;> omega), Bl.alloc (Below.refl _ _) _⟩
set_option maxHeartbeats 400000 in
theorem cout_any (ax ay : Int) (w : World) :
    Calls Tryz.prog 197 #[.agg #[.int .i64 ax, .int .i64 ay]] w fun e w' => e = .returned (.bool (outB 4194304 (ax, ay))) ∧ Below w.heap.size w w' := by
  go_enter Tryz.func197, Tryz.ntmps197
  go_wp2
  all_goals go_ret
  all_goals exact ⟨ret_bool (by simp [outB] <;> omega), Bl.alloc (Below.refl _ _) _⟩
set_option maxHeartbeats 400000 in
theorem fbeyond_any (ax ay : Int) (w : World) :
    Calls Tryz.prog 93 #[.agg #[.int .i64 ax, .int .i64 ay]] w fun e w' => e = .returned (.bool (outB 1048576 (ax, ay))) ∧ Below w.heap.size w w' := by
  go_enter Tryz.func93, Tryz.ntmps93
  go_wp2
  all_goals go_ret
  all_goals exact ⟨ret_bool (by simp [outB] <;> omega), Bl.alloc (Below.refl _ _) _⟩
set_option maxHeartbeats 400000 in
theorem pbeyond_any (ax ay : Int) (w : World) :
    Calls Tryz.prog 73 #[.agg #[.int .i64 ax, .int .i64 ay]] w fun e w' => e = .returned (.bool (outB 1048576 (ax, ay))) ∧ Below w.heap.size w w' := by
  go_enter Tryz.func73, Tryz.ntmps73
  go_wp2
  all_goals go_ret
  all_goals exact ⟨ret_bool (by simp [outB] <;> omega), Bl.alloc (Below.refl _ _) _⟩
def min3 (x y z : Int) : Int := if z < (if y < x then y else x) then z else if y < x then y else x
def sgn3 (m : Int) : Int := if 0 < m then 1 else if m = 0 then 0 else -1
def holdsW (a b c q : Int × Int) : Int :=
  if outB 1048576 q || outB 1048576 a || outB 1048576 b || outB 1048576 c then -1
  else if crossW a b c = 0 then -1
  else if crossW a b c < 0 then sgn3 (min3 (crossW a c q) (crossW c b q) (crossW b a q))
  else sgn3 (min3 (crossW a b q) (crossW b c q) (crossW c a q))
theorem BlkS.new3 (w : World) (o o' : Obj) (t : TypeId) (cs : Array Value) : BlkS (((w.alloc o).alloc o').alloc (.cells cs t)) (w.heap.size + 1 + 1) t cs := by
  have h := BlkS.new ((w.alloc o).alloc o') t cs
  simpa using h
theorem cls2 {w : World} {p q : Addr} {u v : Value} (h1 : w.cell? p = some u) (h2 : w.cell? q = some v) : ∀ x ∈ [(p, u), (q, v)], w.cell? x.1 = some x.2 := by
  intro x hx; simp at hx; rcases hx with rfl | rfl
  · exact h1
  · exact h2
theorem holdsW_zero {a b c q : Int × Int} (h : (outB 1048576 q || outB 1048576 a || outB 1048576 b || outB 1048576 c) = false) (h2 : crossW a b c = 0) : holdsW a b c q = -1 := by
  unfold holdsW; rw [if_neg (by rw [h]; simp), if_pos h2]
theorem holdsW_neg {a b c q : Int × Int} (h : (outB 1048576 q || outB 1048576 a || outB 1048576 b || outB 1048576 c) = false) (h2 : ¬ crossW a b c = 0) (h3 : crossW a b c < 0) : holdsW a b c q = sgn3 (min3 (crossW a c q) (crossW c b q) (crossW b a q)) := by
  unfold holdsW; rw [if_neg (by rw [h]; simp), if_neg h2, if_pos h3]
theorem holdsW_pos {a b c q : Int × Int} (h : (outB 1048576 q || outB 1048576 a || outB 1048576 b || outB 1048576 c) = false) (h2 : ¬ crossW a b c = 0) (h3 : ¬ crossW a b c < 0) : holdsW a b c q = sgn3 (min3 (crossW a b q) (crossW b c q) (crossW c a q)) := by
  unfold holdsW; rw [if_neg (by rw [h]; simp), if_neg h2, if_neg h3]
theorem sgn_1 {v m M : Int} (h : v = sgn3 m) (hM : M = m) (h0 : 0 < M) : 1 = v := by
  subst hM; rw [h]; unfold sgn3; rw [if_pos h0]
theorem sgn_0 {v m M : Int} (h : v = sgn3 m) (hM : M = m) (h0 : (M == 0) = true) : 0 = v := by
  subst hM; have h1 : M = 0 := by simpa using h0
  rw [h, h1]; rfl
theorem sgn_m {v m M : Int} (h : v = sgn3 m) (hM : M = m) (h0 : M ≤ 0) (h1 : (M == 0) = false) : -1 = v := by
  subst hM; have h2 : ¬ M = 0 := by simpa using h1
  rw [h]; unfold sgn3; rw [if_neg (by omega), if_neg h2]
theorem holds_none {a b c q : Int × Int} (h1 : outB 1048576 q = false) (h2 : outB 1048576 a = false) (h3 : outB 1048576 b = false) (h4 : outB 1048576 c = false) : (outB 1048576 q || outB 1048576 a || outB 1048576 b || outB 1048576 c) = false := by
  rw [h1, h2, h3, h4]; rfl
theorem holdsW_out {a b c q : Int × Int} (h : (outB 1048576 q || outB 1048576 a || outB 1048576 b || outB 1048576 c) = true) : holdsW a b c q = -1 := by
  unfold holdsW; rw [if_pos h]
set_option maxHeartbeats 2000000 in
theorem holds_any (b off cap : Nat) (l : List (Int × Int)) (x y : Int) (w : World) (hcap : 3 ≤ cap) (hs : SpS w (some ⟨b, off, none⟩) 3 l) :
    Calls Tryz.prog 187 #[.slice (some ⟨b, off, none⟩) 3 cap, .agg #[.int .i64 x, .int .i64 y]] w fun e w' => e = .returned (.int .i64 (holdsW (gt l 0) (gt l 1) (gt l 2) (x, y))) ∧ Below w.heap.size w w' := by
  obtain ⟨p0, p1⟩ := hs.cells (k := 0) (by omega)
  obtain ⟨p2, p3⟩ := hs.cells (k := 1) (by omega)
  obtain ⟨p4, p5⟩ := hs.cells (k := 2) (by omega)
  simp only [Nat.zero_mul, Nat.add_zero, Nat.one_mul, Nat.reduceMul] at p0 p1 p2 p3 p4 p5
  generalize gt l 0 = P0 at *
  generalize gt l 1 = P1 at *
  generalize gt l 2 = P2 at *
  obtain ⟨a0, a1⟩ := P0
  obtain ⟨b0, b1⟩ := P1
  obtain ⟨c0, c1⟩ := P2
  have hbw : b < w.heap.size := lt_of_cell p0
  clear hs
  go_enter Tryz.func187, Tryz.ntmps187
  go_upto_region 3 with (go_at_call 204; refine (tout_any _ _ _).mono ?_; rintro e w1 ⟨rfl, hb⟩; (first | (have hC := Cls.call hC hb) | (have hC : Cls w [(⟨w.heap.size, 0, none⟩, .int .i64 x), (⟨w.heap.size, 1, none⟩, .int .i64 y), (⟨b, off, none⟩, .int .i64 a0), (⟨b, off + 1, none⟩, .int .i64 a1), (⟨b, off + 2, none⟩, .int .i64 b0), (⟨b, off + 2 + 1, none⟩, .int .i64 b1), (⟨b, off + 4, none⟩, .int .i64 c0), (⟨b, off + 4 + 1, none⟩, .int .i64 c1)] w1 := Cls.call ⟨(Bl.alloc (Below.refl _ _) _), by simp only [List.mem_cons, List.not_mem_nil, forall_eq_or_imp, or_false, forall_eq]; go_simp⟩ hb)); clear hb; have hx := hC.2; simp only [List.mem_cons, List.not_mem_nil, forall_eq_or_imp, or_false, forall_eq] at hx)
  · go_ret
    exact ⟨ret_int (holdsW_out (by simp [*])).symm, hC.1⟩
  · go_ret
    exact ⟨ret_int (holdsW_out (by simp [*])).symm, hC.1⟩
  · go_ret
    exact ⟨ret_int (holdsW_out (by simp [*])).symm, hC.1⟩
  · go_ret
    exact ⟨ret_int (holdsW_out (by simp [*])).symm, hC.1⟩
  · have HO := Lib.hid (holds_none (by simpa using ‹¬ outB 1048576 (x, y) = true›) (by simpa using ‹¬ outB 1048576 (a0, a1) = true›) (by simpa using ‹¬ outB 1048576 (b0, b1) = true›) ‹outB 1048576 (c0, c1) = false›)
    clear p0 p1 p2 p3 p4 p5
    have l0 : w.heap.size < w1.heap.size := lt_of_cell hx.1
    have l1 : b < w1.heap.size := Nat.lt_of_lt_of_le hbw hC.1.size
    have l2 : b < w1.heap.size + 1 := by omega
    have l3 : b < w1.heap.size + 1 + 1 := by omega
    obtain ⟨x0, x1, y0, y1, y2, y3, y4, y5⟩ := hx
    go_cut [5, 6, 7] (fun s5 s6 s7 wx => ∃ b5 b6 b7 : Nat, s5 = .pointer (some ⟨b5, 0, none⟩) ∧ s6 = .pointer (some ⟨b6, 0, none⟩) ∧ s7 = .pointer (some ⟨b7, 0, none⟩) ∧ b5 ≠ b6 ∧ b5 ≠ b7 ∧ b6 ≠ b7 ∧ w.heap.size < b5 ∧ w.heap.size < b6 ∧ w.heap.size < b7 ∧ BlkS wx b5 37 #[.int .i64 a0, .int .i64 a1] ∧ BlkS wx b6 37 #[.int .i64 b0, .int .i64 b1] ∧ BlkS wx b7 37 #[.int .i64 c0, .int .i64 c1] ∧ Cls w [(⟨w.heap.size, 0, none⟩, .int .i64 x), (⟨w.heap.size, 1, none⟩, .int .i64 y)] wx)
    case first =>
      go_region
      all_goals go_wp2_with fail
      all_goals go_meet
      all_goals exact ⟨_, _, _, rfl, rfl, rfl, by omega, by omega, by omega, by omega, by omega, by omega, by first | exact (((BlkS.new _ _ _).alloc _).alloc _).drew | exact ((BlkS.new2 _ _ _ _).alloc _).drew | exact (BlkS.new3 _ _ _ _ _).drew, by first | exact (((BlkS.new _ _ _).alloc _).alloc _).drew | exact ((BlkS.new2 _ _ _ _).alloc _).drew | exact (BlkS.new3 _ _ _ _ _).drew, by first | exact (((BlkS.new _ _ _).alloc _).alloc _).drew | exact ((BlkS.new2 _ _ _ _).alloc _).drew | exact (BlkS.new3 _ _ _ _ _).drew, Cls.call ⟨hC.1, cls2 x0 x1⟩ (Bl.drew (Bl.alloc (Bl.alloc (Bl.alloc (Below.refl _ _) _) _) _))⟩
    case rest =>
      clear x0 x1 y0 y1 y2 y3 y4 y5 l0 l1 l2 l3 hC
      obtain ⟨b5, b6, b7, rfl, rfl, rfl, n56, n57, n67, g5, g6, g7, hB5, hB6, hB7, hC⟩ := hcut
      have c50 := hB5.cell 0
      have c51 := hB5.cell 1
      have c60 := hB6.cell 0
      have c61 := hB6.cell 1
      have c70 := hB7.cell 0
      have c71 := hB7.cell 1
      simp only [List.getElem?_toArray, List.getElem?_cons_zero, List.getElem?_cons_succ] at c50 c51 c60 c61 c70 c71
      by_cases ht0 : crossW (a0, a1) (b0, b1) (c0, c1) = 0
      · have hv := Lib.hid (holdsW_zero (q := (x, y)) HO.out ht0)
        have q1 : (crossW (a0, a1) (b0, b1) (c0, c1) == 0) = true := by rw [ht0]; rfl
        clear ht0
        go_wp2_with (go_at_call 185; refine (tcross_any _ _ _ _ _ _ _).mono ?_; rintro e w2 ⟨rfl, hb2⟩)
        go_ret
        exact ⟨ret_int hv.out.symm, Bl.call hC.1 hb2⟩
      · have q1 : (crossW (a0, a1) (b0, b1) (c0, c1) == 0) = false := by rw [beq_eq_false_iff_ne]; exact ht0
        by_cases htn : crossW (a0, a1) (b0, b1) (c0, c1) < 0
        · have hv := Lib.hid (holdsW_neg (q := (x, y)) HO.out ht0 htn)
          clear ht0
          go_upto_region 9 with (go_at_call 185; refine (tcross_any _ _ _ _ _ _ _).mono ?_; rintro e w2 ⟨rfl, hb2⟩; have d6 := hB6.keep hb2; have d7 := hB7.keep hb2; have e60 := cell_keep hb2 c60; have e61 := cell_keep hb2 c61; have e70 := cell_keep hb2 c70; have e71 := cell_keep hb2 c71; have f60 := d6.frozen 0; have f61 := d6.frozen 1; have f70 := d7.frozen 0; have f71 := d7.frozen 1)
          have hC2 := (hC.call hb2)
          have hx2 := hC2.2
          simp only [List.mem_cons, List.not_mem_nil, forall_eq_or_imp, or_false, forall_eq] at hx2
          have e50 := cell_keep hb2 c50
          have e51 := cell_keep hb2 c51
          refine wp_region_cls w [(⟨w.heap.size, 0, none⟩, .int .i64 x), (⟨w.heap.size, 1, none⟩, .int .i64 y), (⟨b5, 0, none⟩, .int .i64 a0), (⟨b5, 1, none⟩, .int .i64 a1), (⟨b6, 0, none⟩, .int .i64 c0), (⟨b6, 1, none⟩, .int .i64 c1), (⟨b7, 0, none⟩, .int .i64 b0), (⟨b7, 1, none⟩, .int .i64 b1)] (by kernel_rfl) (by kernel_rfl) ⟨Bl.set (Bl.set (Bl.set (Bl.set hC2.1 (p := ⟨b6, 0, none⟩) (Nat.le_of_lt g6) _) (p := ⟨b6, 1, none⟩) (Nat.le_of_lt g6) _) (p := ⟨b7, 0, none⟩) (Nat.le_of_lt g7) _) (p := ⟨b7, 1, none⟩) (Nat.le_of_lt g7) _, by simp only [List.mem_cons, List.not_mem_nil, forall_eq_or_imp, or_false, forall_eq]; go_simp⟩ ?_
          repeat
            apply wq_plain
            · rfl
            · intro w1 hw1
              have hx := hw1.2
              simp only [List.mem_cons, List.not_mem_nil, forall_eq_or_imp, or_false, forall_eq] at hx
              go_simp
              first | rfl | exact calls_cls hw1 (tcross_any _ _ _ _ _ _ _)
            go_simp
          refine wpQuiet_nil ?_
          intro w1 hCw1
          have hb3 := hCw1.1
          clear hCw1 hx2 e50 e51 hC2
          obtain ⟨M, hM⟩ : ∃ M, M = min3 (crossW (a0, a1) (c0, c1) (x, y)) (crossW (c0, c1) (b0, b1) (x, y)) (crossW (b0, b1) (a0, a1) (x, y)) := ⟨_, rfl⟩
          have HM := Lib.hid hM
          unfold min3 at hM
          rw [← hM]
          clear hM
          go_wp2_with fail
          · go_ret
            exact ⟨ret_int (sgn_1 hv.out HM.out (by assumption)), hb3⟩
          · go_ret
            exact ⟨ret_int (sgn_0 hv.out HM.out (by assumption)), hb3⟩
          · go_ret
            exact ⟨ret_int (sgn_m hv.out HM.out (by assumption) (by assumption)), hb3⟩
        · have hv := Lib.hid (holdsW_pos (q := (x, y)) HO.out ht0 htn)
          clear ht0
          go_upto_region 9 with (go_at_call 185; refine (tcross_any _ _ _ _ _ _ _).mono ?_; rintro e w2 ⟨rfl, hb2⟩)
          have hC2 := hC.call hb2
          have hx2 := hC2.2
          simp only [List.mem_cons, List.not_mem_nil, forall_eq_or_imp, or_false, forall_eq] at hx2
          have e50 := cell_keep hb2 c50
          have e51 := cell_keep hb2 c51
          have e60 := cell_keep hb2 c60
          have e61 := cell_keep hb2 c61
          have e70 := cell_keep hb2 c70
          have e71 := cell_keep hb2 c71
          refine wp_region_cls w [(⟨w.heap.size, 0, none⟩, .int .i64 x), (⟨w.heap.size, 1, none⟩, .int .i64 y), (⟨b5, 0, none⟩, .int .i64 a0), (⟨b5, 1, none⟩, .int .i64 a1), (⟨b6, 0, none⟩, .int .i64 b0), (⟨b6, 1, none⟩, .int .i64 b1), (⟨b7, 0, none⟩, .int .i64 c0), (⟨b7, 1, none⟩, .int .i64 c1)] (by kernel_rfl) (by kernel_rfl) ⟨hC2.1, by simp only [List.mem_cons, List.not_mem_nil, forall_eq_or_imp, or_false, forall_eq]; go_simp⟩ ?_
          repeat
            apply wq_plain
            · rfl
            · intro w1 hw1
              have hx := hw1.2
              simp only [List.mem_cons, List.not_mem_nil, forall_eq_or_imp, or_false, forall_eq] at hx
              go_simp
              first | rfl | exact calls_cls hw1 (tcross_any _ _ _ _ _ _ _)
            go_simp
          refine wpQuiet_nil ?_
          intro w1 hCw1
          have hb3 := hCw1.1
          clear hCw1 hx2 e50 e51 e60 e61 e70 e71 hC2
          obtain ⟨M, hM⟩ : ∃ M, M = min3 (crossW (a0, a1) (b0, b1) (x, y)) (crossW (b0, b1) (c0, c1) (x, y)) (crossW (c0, c1) (a0, a1) (x, y)) := ⟨_, rfl⟩
          have HM := Lib.hid hM
          unfold min3 at hM
          rw [← hM]
          clear hM
          go_wp2_with fail
          · go_ret
            exact ⟨ret_int (sgn_1 hv.out HM.out (by assumption)), hb3⟩
          · go_ret
            exact ⟨ret_int (sgn_0 hv.out HM.out (by assumption)), hb3⟩
          · go_ret
            exact ⟨ret_int (sgn_m hv.out HM.out (by assumption) (by assumption)), hb3⟩
end Go.Proofs.YtmdncaoilegnnaaGreat

namespace Go.Proofs.YtmdncaoilegnnaaGreat
set_option linter.unusedVariables false
set_option linter.unusedSimpArgs false
set_option linter.unusedVariables false
set_option linter.unusedSimpArgs false
open Go.RowKit

set_option maxHeartbeats 2000000 in
theorem corner_any (bl g n cap k : Nat) (l : List (Int × Int)) (w : World) (hn : n ≤ 1000000) (hcap : n ≤ cap) (hL : w.cell? ⟨bl, 0, none⟩ = some (.slice (some ⟨g, 0, none⟩) n cap)) (hs : SpS w (some ⟨g, 0, none⟩) n l) (hk : k < n) :
    Calls Tryz.prog 183 #[.int .i64 k, .pointer (some ⟨bl, 0, none⟩)] w fun e w' => e = .returned (.tuple #[.agg #[.int .i64 (gt l ((k + n - 1) % n)).1, .int .i64 (gt l ((k + n - 1) % n)).2], .agg #[.int .i64 (gt l k).1, .int .i64 (gt l k).2], .agg #[.int .i64 (gt l ((k + 1) % n)).1, .int .i64 (gt l ((k + 1) % n)).2]]) ∧ Below w.heap.size w w' := by
  have hm1 : (k + 1) % n < n := Nat.mod_lt _ (by omega)
  have hm2 : (k + n - 1) % n < n := Nat.mod_lt _ (by omega)
  obtain ⟨h1, h2⟩ := hs.cells hk
  obtain ⟨h3, h4⟩ := hs.cells hm1
  obtain ⟨h5, h6⟩ := hs.cells hm2
  simp only [Nat.zero_add] at h1 h2 h3 h4 h5 h6
  have lb : bl < w.heap.size := lt_of_cell hL
  have lg : g < w.heap.size := lt_of_cell h1
  have lb1 : bl < w.heap.size + 1 := by omega
  have lb2 : bl < w.heap.size + 1 + 1 := by omega
  have lg1 : g < w.heap.size + 1 := by omega
  have lg2 : g < w.heap.size + 1 + 1 := by omega
  go_enter Tryz.func183, Tryz.ntmps183
  go_wp2_with fail
  have m1 := modf ((k : Int) + 1) (k + 1) n rfl (by omega)
  have m2 := modf ((k : Int) + (n : Int) - 1) (k + n - 1) n (by omega) (by omega)
  have q1 : IntKind.i64.wrap ((k : Int) + 1) = (k : Int) + 1 := wrap_add k 1 (by omega)
  have q2 : IntKind.i64.wrap ((k : Int) + (n : Int)) = (k : Int) + (n : Int) := wrap_add k n (by omega)
  have q3 : IntKind.i64.wrap ((k : Int) + (n : Int) - 1) = (k : Int) + (n : Int) - 1 := wrap_in _ (by omega) (by omega)
  have q4 : ¬ n = 0 := by omega
  go_region
  clear m1 m2 q1 q2 q3
  go_wp2_with fail
  exact bodyPost_ret (v := .tuple #[.agg #[.int .i64 (gt l ((k + n - 1) % n)).1, .int .i64 (gt l ((k + n - 1) % n)).2], .agg #[.int .i64 (gt l k).1, .int .i64 (gt l k).2], .agg #[.int .i64 (gt l ((k + 1) % n)).1, .int .i64 (gt l ((k + 1) % n)).2]]) (by simp [results, Tryz.results183, go_sem]) rfl ⟨rfl, Bl.drew (Bl.alloc (Bl.alloc (Bl.alloc (Below.refl _ _) _) _) _)⟩
set_option maxHeartbeats 1000000 in
theorem first_any (F : Nat) (cb : Array Value) (n : Nat) (f : Nat → Bool) (w : World) (hn : n ≤ 1000000)
    (eg : ∀ args w, (callFunc F args).run Tryz.prog w = .ok (.enter F args) w)
    (hf : ∀ (k : Nat) (w' : World), k < n → Below w.heap.size w w' → Calls Tryz.prog F (#[.int .i64 k] ++ cb) w' fun e w'' => e = .returned (.bool (f k)) ∧ Below w'.heap.size w' w'') :
    Calls Tryz.prog 188 #[.int .i64 n, .func (.func F) #[] cb] w fun e w' => e = .returned (.int .i64 (idxOf f n)) ∧ Below w.heap.size w w' := by
  have HF := Lib.hid hf
  clear hf
  go_enter Tryz.func188, Tryz.ntmps188
  go_wp2_with fail
  go_loopw [7] (fun i wr => ∃ k : Nat, k ≤ n ∧ i = .int .i64 k ∧ Hid (AnyB f k = false) ∧ Below w.heap.size w wr) (fun i _ => n - (intOf i).toNat)
  case atStart => exact ⟨0, Nat.zero_le _, rfl, AnyB.zero _, Below.refl _ _⟩
  case round =>
    obtain ⟨k, hk, rfl, hp, hb⟩ := hrel
    by_cases hlt : k < n
    · go_wp2_with fail
      refine (HF.out k wr hlt hb).mono ?_
      rintro e w2 ⟨rfl, hb2⟩
      go_wp2_with fail
      · go_ret
        exact ⟨ret_int (idxOf_at hlt hp.out (by assumption)).symm, Bl.call hb hb2⟩
      · go_roundw
        case rel => exact ⟨k + 1, by omega, by go_num, AnyB.succ hp.out (by simpa using ‹_›), Bl.call hb hb2⟩
        case measure => simp [intOf]; omega
    · obtain rfl : n = k := by omega
      go_wp2_with fail
      go_ret
      exact ⟨ret_int (idxOf_none hp.out).symm, hb⟩
def strW (l : List (Int × Int)) (n k : Nat) : Bool := crossW (gt l ((k + n - 1) % n)) (gt l k) (gt l ((k + 1) % n)) == 0
def frW (l : List (Int × Int)) (n k i : Nat) : Bool := eqS (gt l i) (gt l ((k + n - 1) % n)) || eqS (gt l i) (gt l k) || eqS (gt l i) (gt l ((k + 1) % n)) || decide (holdsW (gt l ((k + n - 1) % n)) (gt l k) (gt l ((k + 1) % n)) (gt l i) < 0)
def freeW (l : List (Int × Int)) (n k : Nat) : Bool := decide (0 < crossW (gt l ((k + n - 1) % n)) (gt l k) (gt l ((k + 1) % n))) && AllB (frW l n k) n
set_option maxHeartbeats 1000000 in
theorem straight_any (bc bl g n cap k : Nat) (l : List (Int × Int)) (w : World) (hn : n ≤ 1000000) (hcap : n ≤ cap) (hF : w.cell? ⟨bc, 0, none⟩ = some (.func (.func 183) #[] #[.pointer (some ⟨bl, 0, none⟩)])) (hL : w.cell? ⟨bl, 0, none⟩ = some (.slice (some ⟨g, 0, none⟩) n cap)) (hs : SpS w (some ⟨g, 0, none⟩) n l) (hk : k < n) :
    Calls Tryz.prog 184 #[.int .i64 k, .pointer (some ⟨bc, 0, none⟩)] w fun e w' => e = .returned (.bool (strW l n k)) ∧ Below w.heap.size w w' := by
  go_enter Tryz.func184, Tryz.ntmps184
  go_wp2_with (first | (go_at_call 183; refine (corner_any bl g n cap k l _ hn hcap hL hs hk).mono ?_; rintro e w1 ⟨rfl, hb1⟩) | (go_at_call 185; refine (tcross_any _ _ _ _ _ _ _).mono ?_; rintro e w2 ⟨rfl, hb2⟩))
  go_ret
  exact ⟨rfl, Bl.call hb1 hb2⟩
theorem free_no {l : List (Int × Int)} {n k : Nat} (h : ¬ 0 < crossW (gt l ((k + n - 1) % n)) (gt l k) (gt l ((k + 1) % n))) : freeW l n k = false := by
  unfold freeW; simp [h]
theorem free_hit {l : List (Int × Int)} {n k j : Nat} (hj : j < n) (h : frW l n k j = false) : freeW l n k = false := by
  unfold freeW; rw [AllB.no hj h, Bool.and_false]
theorem free_yes {l : List (Int × Int)} {n k : Nat} (h : 0 < crossW (gt l ((k + n - 1) % n)) (gt l k) (gt l ((k + 1) % n))) (h2 : AllB (frW l n k) n = true) : freeW l n k = true := by
  unfold freeW; rw [h2]; simp [h]
theorem SpS.of3 {w : World} {g : Nat} {t : TypeId} {a0 a1 b0 b1 c0 c1 : Int} (h : BlkS w g t #[.int .i64 a0, .int .i64 a1, .int .i64 b0, .int .i64 b1, .int .i64 c0, .int .i64 c1]) : SpS w (some ⟨g, 0, none⟩) 3 [(a0, a1), (b0, b1), (c0, c1)] := by
  refine ⟨rfl, .inr ⟨g, 0, rfl, fun k hk => ?_⟩⟩
  have e0 := h.cell 0
  have e1 := h.cell 1
  have e2 := h.cell 2
  have e3 := h.cell 3
  have e4 := h.cell 4
  have e5 := h.cell 5
  rcases (show k = 0 ∨ k = 1 ∨ k = 2 by omega) with rfl | rfl | rfl
  · exact ⟨e0, e1⟩
  · exact ⟨e2, e3⟩
  · exact ⟨e4, e5⟩
theorem fr_1 {l : List (Int × Int)} {n k j : Nat} {a : Int × Int} (ha : gt l ((k + n - 1) % n) = a) (h : eqS (gt l j) a = true) : frW l n k j = true := by
  unfold frW; rw [ha, h]; rfl
theorem fr_2 {l : List (Int × Int)} {n k j : Nat} {b : Int × Int} (hb : gt l k = b) (h : eqS (gt l j) b = true) : frW l n k j = true := by
  unfold frW; rw [hb, h]; simp
theorem fr_3 {l : List (Int × Int)} {n k j : Nat} {c : Int × Int} (hc : gt l ((k + 1) % n) = c) (h : eqS (gt l j) c = true) : frW l n k j = true := by
  unfold frW; rw [hc, h]; simp
theorem fr_4 {l : List (Int × Int)} {n k j : Nat} {a b c : Int × Int} (ha : gt l ((k + n - 1) % n) = a) (hb : gt l k = b) (hc : gt l ((k + 1) % n) = c) (h : holdsW a b c (gt l j) < 0) : frW l n k j = true := by
  unfold frW; rw [ha, hb, hc, decide_eq_true h]; simp
theorem fr_5 {l : List (Int × Int)} {n k j : Nat} {a b c : Int × Int} (ha : gt l ((k + n - 1) % n) = a) (hb : gt l k = b) (hc : gt l ((k + 1) % n) = c) (h1 : ¬ eqS (gt l j) a = true) (h2 : ¬ eqS (gt l j) b = true) (h3 : ¬ eqS (gt l j) c = true) (h : 0 ≤ holdsW a b c (gt l j)) : frW l n k j = false := by
  unfold frW; rw [ha, hb, hc]; simp only [Bool.not_eq_true] at h1 h2 h3; rw [h1, h2, h3]; simp; omega
theorem holds3 (g : Nat) (t : TypeId) (a0 a1 b0 b1 c0 c1 x y : Int) (w : World) (h : BlkS w g t #[.int .i64 a0, .int .i64 a1, .int .i64 b0, .int .i64 b1, .int .i64 c0, .int .i64 c1]) :
    Calls Tryz.prog 187 #[.slice (some ⟨g, 0, none⟩) 3 3, .agg #[.int .i64 x, .int .i64 y]] w fun e w' => e = .returned (.int .i64 (holdsW (a0, a1) (b0, b1) (c0, c1) (x, y))) ∧ Below w.heap.size w w' :=
  holds_any g 0 3 [(a0, a1), (b0, b1), (c0, c1)] x y w (Nat.le_refl _) (SpS.of3 h)
set_option maxHeartbeats 2000000 in
theorem free_any (bc bl g n cap k : Nat) (l : List (Int × Int)) (w : World) (hn : n ≤ 1000000) (hcap : n ≤ cap) (hF : w.cell? ⟨bc, 0, none⟩ = some (.func (.func 183) #[] #[.pointer (some ⟨bl, 0, none⟩)])) (hL : w.cell? ⟨bl, 0, none⟩ = some (.slice (some ⟨g, 0, none⟩) n cap)) (hs : SpS w (some ⟨g, 0, none⟩) n l) (hk : k < n) :
    Calls Tryz.prog 186 #[.int .i64 k, .pointer (some ⟨bc, 0, none⟩), .pointer (some ⟨bl, 0, none⟩)] w fun e w' => e = .returned (.bool (freeW l n k)) ∧ Below w.heap.size w w' := by
  have heq := eqInSpot
  have hco := corner_any bl g n cap k l w hn hcap hL hs hk
  obtain ⟨a0, a1, ha⟩ : ∃ a0 a1, gt l ((k + n - 1) % n) = (a0, a1) := ⟨_, _, rfl⟩
  obtain ⟨b0, b1, hbb⟩ : ∃ b0 b1, gt l k = (b0, b1) := ⟨_, _, rfl⟩
  obtain ⟨c0, c1, hcc⟩ : ∃ c0 c1, gt l ((k + 1) % n) = (c0, c1) := ⟨_, _, rfl⟩
  rw [ha, hbb, hcc] at hco
  have HCO := Lib.hid hco
  clear hco
  have HA := Lib.hid ha
  have HB := Lib.hid hbb
  have HC := Lib.hid hcc
  clear ha hbb hcc
  by_cases hp : 0 < crossW (a0, a1) (b0, b1) (c0, c1)
  · go_enter Tryz.func186, Tryz.ntmps186
    go_upto_region 4 with (first | (go_at_call 183; refine HCO.out.mono ?_; rintro e w1 ⟨rfl, hb1⟩) | (go_at_call 185; refine (tcross_any _ _ _ _ _ _ _).mono ?_; rintro e w2 ⟨rfl, hb2⟩))
    have hC : Cls w [(⟨w1.heap.size, 0, none⟩, .int .i64 a0), (⟨w1.heap.size, 1, none⟩, .int .i64 a1), (⟨w1.heap.size + 1, 0, none⟩, .int .i64 b0), (⟨w1.heap.size + 1, 1, none⟩, .int .i64 b1), (⟨w1.heap.size + 1 + 1, 0, none⟩, .int .i64 c0), (⟨w1.heap.size + 1 + 1, 1, none⟩, .int .i64 c1)] w2 := Cls.call ⟨Bl.alloc (Bl.alloc (Bl.alloc hb1 _) _) _, by simp only [List.mem_cons, List.not_mem_nil, forall_eq_or_imp, or_false, forall_eq]; go_simp⟩ hb2
    obtain ⟨B, hB⟩ : ∃ B, B = w1.heap.size := ⟨_, rfl⟩
    have hBw : w.heap.size ≤ B := by rw [hB]; exact hb1.size
    rw [← hB] at hC ⊢
    clear hb1 hb2 hB
    have hL2 := cell_keep hC.1 hL
    go_wp2_with fail
    go_loopw [24] (fun i wr => ∃ j : Nat, j ≤ n ∧ i = .int .i64 j ∧ Hid (AllB (frW l n k) j = true) ∧ Cls w [(⟨B, 0, none⟩, .int .i64 a0), (⟨B, 1, none⟩, .int .i64 a1), (⟨B + 1, 0, none⟩, .int .i64 b0), (⟨B + 1, 1, none⟩, .int .i64 b1), (⟨B + 1 + 1, 0, none⟩, .int .i64 c0), (⟨B + 1 + 1, 1, none⟩, .int .i64 c1)] wr) (fun i _ => n - (intOf i).toNat)
    case atStart => exact ⟨0, Nat.zero_le _, rfl, AllB.zero _, hC⟩
    case round =>
      clear hC hL2
      obtain ⟨j, hj, rfl, hq, hC⟩ := hrel
      by_cases hlt : j < n
      · obtain ⟨h1, h2⟩ := (hs.keep hC.1).cells hlt
        simp only [Nat.zero_add] at h1 h2
        have hx := hC.2
        simp only [List.mem_cons, List.not_mem_nil, forall_eq_or_imp, or_false, forall_eq] at hx
        obtain ⟨x0, x1, x2, x3, x4, x5⟩ := hx
        have l0 : B < wr.heap.size := lt_of_cell x0
        have l1 : B + 1 < wr.heap.size := lt_of_cell x2
        have l2 : B + 1 + 1 < wr.heap.size := lt_of_cell x4
        go_wp2_with (go_at_call 187; refine (holds3 _ _ _ _ _ _ _ _ _ _ _ (BlkS.new2 _ _ _ _)).mono ?_; rintro e w3 ⟨rfl, hb3⟩)
        · exact ⟨⟨j + 1, by omega, by go_num, AllB.succ hq.out (fr_1 HA.out (by assumption)), hC.call (Bl.alloc (Below.refl _ _) _)⟩, by simp [intOf]; omega⟩
        · exact ⟨⟨j + 1, by omega, by go_num, AllB.succ hq.out (fr_2 HB.out (by assumption)), hC.call (Bl.alloc (Below.refl _ _) _)⟩, by simp [intOf]; omega⟩
        · exact ⟨⟨j + 1, by omega, by go_num, AllB.succ hq.out (fr_3 HC.out (by assumption)), hC.call (Bl.alloc (Below.refl _ _) _)⟩, by simp [intOf]; omega⟩
        · go_ret
          exact ⟨ret_bool (free_hit hlt (fr_5 HA.out HB.out HC.out (by assumption) (by assumption) (by assumption) (by assumption))).symm, (hC.call (Bl.call (Bl.alloc (Bl.alloc (Below.refl _ _) _) _) hb3)).1⟩
        · exact ⟨⟨j + 1, by omega, by go_num, AllB.succ hq.out (fr_4 HA.out HB.out HC.out (by assumption)), hC.call (Bl.call (Bl.alloc (Bl.alloc (Below.refl _ _) _) _) hb3)⟩, by simp [intOf]; omega⟩
      · obtain rfl : n = j := by omega
        go_wp2_with fail
        go_ret
        exact ⟨ret_bool (free_yes (by rw [HA.out, HB.out, HC.out]; exact hp) hq.out).symm, hC.1⟩
  · go_enter Tryz.func186, Tryz.ntmps186
    go_wp2_with (first | (go_at_call 183; refine HCO.out.mono ?_; rintro e w1 ⟨rfl, hb1⟩) | (go_at_call 185; refine (tcross_any _ _ _ _ _ _ _).mono ?_; rintro e w2 ⟨rfl, hb2⟩))
    go_ret
    exact ⟨ret_bool (free_no (by rw [HA.out, HB.out, HC.out]; omega)).symm, Bl.call (Bl.alloc (Bl.alloc (Bl.alloc hb1 _) _) _) hb2⟩
end Go.Proofs.YtmdncaoilegnnaaGreat

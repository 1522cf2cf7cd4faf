/- FillRects: the law's walk. -/
import Derived.Test.YtmdncaoilegnnaaGreatUG81
import Derived.Test.YtmdncaoilegnnaaGreatUG31
namespace Go.Proofs.YtmdncaoilegnnaaGreat
set_option linter.unusedVariables false
set_option linter.unusedSimpArgs false
set_option linter.unusedVariables false
set_option linter.unusedSimpArgs false
open Go.RowKit

theorem make_ints (n : Nat) (hn : n ≤ 1000) : ∃ Z : Array Value, (∀ w, (Instr.makeSlice 43 (.int .i64 (n : Int)) (.int .i64 (n : Int))).run Tryz.prog w = .ok (.slice (some ⟨w.heap.size, 0, none⟩) n n) (w.alloc (.cells Z 3))) ∧ ∀ w : World, InS (w.alloc (.cells Z 3)) (some ⟨w.heap.size, 0, none⟩) n (List.replicate n 0) := by
  obtain ⟨i, hi, hz0, hz1, hz2⟩ := info_parts infoI
  refine ⟨madeCells (Value.int IntKind.i64 0).cells (n * 1), fun w => ?_, fun w => ?_⟩
  · have hr := run_make (P := Tryz.prog) w 43 3 i (.int .i64 0) Tryz.underlying43 hi hz0 .i64 .i64 n n (by omega) (by omega) (by rw [hz2]; omega) (by omega)
    rw [hz1] at hr
    simpa using hr
  · refine ⟨List.length_replicate, .inr ⟨_, 0, rfl, fun k hk => ?_⟩⟩
    have h := BlkS.new w 3 (madeCells (Value.int IntKind.i64 0).cells (n * 1))
    rw [Nat.zero_add]
    refine (h.cell k).trans ?_
    have e : (Value.int IntKind.i64 0).cells = #[.int .i64 0] := by kernel_rfl
    rw [e]
    unfold madeCells gi
    rw [Array.getElem?_map, Array.getElem?_range, if_pos (by omega), List.getD, List.getElem?_replicate, if_pos hk]
    simp [Nat.mod_one]
theorem quo_eq {a c : Int} (ha : 0 ≤ a ∧ a ≤ 100000) (hc : 1 ≤ c) : wrap64 (Int.tdiv a c) = a / c := by
  rw [Int.tdiv_eq_ediv_of_nonneg ha.1]
  have h1 := Int.ediv_nonneg ha.1 (by omega : (0 : Int) ≤ c)
  have h2 := Int.ediv_le_self c ha.1
  exact wrap_near (by omega) (by omega)
set_option maxHeartbeats 4000000 in
set_option maxRecDepth 100000 in
theorem rects_main (len wid rx ry w h : Int) (n : Nat) (W : World) (hn : n ≤ 5) (H : RcB ⟨len, wid, rx, ry⟩ w h) :
    Calls Tryz.prog 6 #[.agg #[.int .i64 len, .int .i64 wid, .int .i64 rx, .int .i64 ry], .int .i64 w, .int .i64 h, .int .u8 (n : Int)] W fun e w' => e = .returned (.bool true) ∧ Below W.heap.size W w' := by
  have hpl := Lib.hid (rects_plain H n hn)
  obtain ⟨l1, l2, w1, w2, x1, x2, y1, y2⟩ := H
  dsimp only at l1 l2 w1 w2 x1 x2 y1 y2
  have HA := Lib.hid ex_any
  have H0 := Lib.hid (BlkS.new W 25 #[.int .i64 len, .int .i64 wid, .int .i64 rx, .int .i64 ry])
  have hbw := Lib.hid (show Below W.heap.size W (W.alloc (.cells #[.int .i64 len, .int .i64 wid, .int .i64 rx, .int .i64 ry] 25)) from (Bl.alloc (Below.refl _ _) _))
  obtain ⟨d1, d2, d3, d4, -⟩ := H0.out.cells4
  have n5 : (n : Int) ≤ 5 := by omega
  obtain ⟨Z, hmk, hZ⟩ := make_ints n (by omega)
  have HZ := Lib.hid hZ
  have hwr : IntKind.i64.wrap (n : Int) = (n : Int) := by have := IntWalk.i64_left (n : Int); rw [wrap_near (by omega) (by omega)] at this; exact this
  have hmk2 : ∀ w, (Instr.makeSlice 43 (.int .i64 (IntKind.i64.wrap (n : Int))) (.int .i64 (IntKind.i64.wrap (n : Int)))).run Tryz.prog w = .ok (.slice (some ⟨w.heap.size, 0, none⟩) n n) (w.alloc (.cells Z 3)) := by rw [hwr]; exact hmk
  clear hZ hmk hwr
  go_enter Tryz.func6, Tryz.ntmps6
  go_upto_region 4 with (go_at_call 20; refine (rect_any w h 1 _).mono ?_; rintro e w1 ⟨A1, rfl, hp1, hn1, hb1⟩)
  have hbX := Bl.alloc (Bl.call hbw.out hb1) (.cells #[.slice A1 4 4, .int .i64 1, .bool false, .int .i64 0, .int .i64 0] 49)
  have hB0 := (H0.out.keep hb1).alloc (.cells #[.slice A1 4 4, .int .i64 1, .bool false, .int .i64 0, .int .i64 0] 49)
  have hSX : ShS (w1.alloc (.cells #[.slice A1 4 4, .int .i64 1, .bool false, .int .i64 0, .int .i64 0] 49)) (some ⟨w1.heap.size, 0, none⟩) 1 [recS w h] := by
    have hBX := BlkS.new w1 49 #[.slice A1 4 4, .int .i64 1, .bool false, .int .i64 0, .int .i64 0]
    refine ⟨rfl, by omega, .inr ⟨_, 0, rfl, fun k hk => ?_⟩⟩
    obtain rfl : k = 0 := by omega
    exact shAt_blk (s := recS w h) hBX (hp1.keep (Bl.alloc (Below.refl _ _) _)) (by show 4 ≤ 4; omega) (by omega) (fun h => absurd h hn1) rfl rfl rfl rfl rfl
  refine wp_world (fun X => Below W.heap.size W X ∧ BlkS X W.heap.size 25 #[.int .i64 len, .int .i64 wid, .int .i64 rx, .int .i64 ry] ∧ ShS X (some ⟨w1.heap.size, 0, none⟩) 1 [recS w h]) ⟨hbX, hB0, hSX⟩ ?_
  clear hbX hB0 hSX hp1 hn1 hb1 d1 d2 d3 d4 hbw H0
  rintro X ⟨hbX, hB0, hSX⟩
  obtain ⟨d1, d2, d3, d4, -⟩ := hB0.cells4
  have HB0 := Lib.hid hB0
  clear hB0
  obtain ⟨r, hr⟩ : ∃ r, runW ⟨len, wid, rx, ry⟩ [recS w h] (List.replicate n 0) = r := ⟨_, rfl⟩
  rw [hr] at hpl
  have HR := Lib.hid hr
  clear hr
  obtain ⟨r1, ps⟩ := r
  obtain ⟨np, hnp⟩ : ∃ np, ps.length = np := ⟨_, rfl⟩
  have HNP := Lib.hid hnp
  clear hnp
  have hbZ : Below X.heap.size X ((X.alloc (.cells Z 3)).drew) := Bl.drew (Bl.alloc (Below.refl _ _) _)
  have k1 := cell_keep hbZ d1
  have k2 := cell_keep hbZ d2
  have k3 := cell_keep hbZ d3
  have k4 := cell_keep hbZ d4
  go_cut [10, 11] (fun v10 v11 wx => v11 = .int .i64 r1 ∧ (∃ A5 c5, v10 = .slice A5 np c5 ∧ PuS wx A5 np ps) ∧ Below X.heap.size X wx)
  case first =>
    go_region_held3 (fun w' => w'.cell? ⟨W.heap.size, 0, none⟩ = some (.int .i64 len) ∧ w'.cell? ⟨W.heap.size, 1, none⟩ = some (.int .i64 wid) ∧ w'.cell? ⟨W.heap.size, 2, none⟩ = some (.int .i64 rx) ∧ w'.cell? ⟨W.heap.size, 3, none⟩ = some (.int .i64 ry))
      (first
        | go_keep
        | exact ⟨cell_keep hb5 k1, cell_keep hb5 k2, cell_keep hb5 k3, cell_keep hb5 k4⟩)
      ((first
        | (go_at_call 18; refine (run_any _ _ _ _ _ _ ⟨len, wid, rx, ry⟩ [recS w h] (List.replicate n 0) _ (by omega) (hSX.keep hbZ) ((HZ.out X).keep (Bl.drew (Below.refl _ _)))).mono ?_; rintro e w5 ⟨v5, rfl, ho5, hb5⟩; rw [HR.out] at ho5 ⊢; obtain ⟨A5, c5, rfl, hP5⟩ := OwP.pus ho5; rw [HNP.out] at hP5 ⊢)))
    all_goals go_wp2_with fail
    all_goals go_meet
    all_goals exact ⟨rfl, ⟨_, _, rfl, hP5⟩, Bl.call hbZ hb5⟩
  case rest =>
    clear k1 k2 k3 k4 d1 d2 d3 d4 hbZ hmk2 HZ
    obtain ⟨rfl, ⟨A5, c5, rfl, hP5⟩, hbc⟩ := hcut
    have hbY := Bl.call hbX hbc
    have hSY := hSX.keep hbc
    obtain ⟨d1, d2, d3, d4, -⟩ := (HB0.out.keep hbc).cells4
    clear hbX hSX HB0 hbc
    have hq := quo_eq (a := wid) (c := h) (by omega) (by omega)
    have hh0 : (h == 0) = false := by simp; omega
    obtain ⟨k, hk⟩ : ∃ k : Int, wid / h = k := ⟨_, rfl⟩
    have hkb : 0 ≤ k ∧ k ≤ 10000 := by rw [← hk]; have := Int.ediv_le_self h (show 0 ≤ wid by omega); have := Int.ediv_nonneg (a := wid) (b := h) (by omega) (by omega); omega
    rw [hk] at hpl
    clear hq
    by_cases hn0 : n = 0
    · have h0 := hpl.out.1 hn0
      subst hn0
      injection h0 with h01 h02
      subst h01 h02
      have hnp0 : np = 0 := by rw [← HNP.out]; rfl
      subst hnp0
      go_wp2_with (go_at_call 11; refine (HA.out _).mono ?_; rintro e w9 ⟨rfl, hb9⟩)
      go_ret
      exact ⟨rfl, Bl.call hbY hb9⟩
    · have n1 : 1 ≤ (n : Int) := by omega
      have hne : ((n : Int) == 0) = false := by simp; omega
      have HP2 := Lib.hid (hpl.out.2.1 hn0)
      have HP3 := Lib.hid (hpl.out.2.2 hn0)
      clear hpl
      by_cases hk0 : k = 0
      · have hr := HP2.out (.inl hk0)
        injection hr with h01 h02
        subst h01 h02
        rw [hk0] at hk
        clear hk0
        clear HP2 HP3
        go_wp2_with fail
        rw [hk]
        refine wp_region_cls wc [(⟨W.heap.size, 0, none⟩, .int .i64 len), (⟨W.heap.size, 1, none⟩, .int .i64 wid), (⟨W.heap.size, 2, none⟩, .int .i64 rx), (⟨W.heap.size, 3, none⟩, .int .i64 ry)] (by kernel_rfl) (by kernel_rfl) ⟨Below.refl _ _, by simp only [List.mem_cons, List.not_mem_nil, forall_eq_or_imp, or_false, forall_eq]; go_simp⟩ ?_
        repeat
          first
          | go_big_quiet_skip
          | go_big_quiet_want
            apply Exists.intro
            refine And.intro ?_ ?_
            · intro w1 hw1
              have hx := hw1.2
              simp only [List.mem_cons, List.not_mem_nil, forall_eq_or_imp, or_false, forall_eq] at hx
              go_simp
              first | rfl
            go_simp
            go_big_quiet_on
        refine wpQuiet_nil ?_
        intro w8 hCw8
        go_wp2_with (go_at_call 11; refine (HA.out _).mono ?_; rintro e w9 ⟨rfl, hb9⟩)
        go_ret
        exact ⟨rfl, Bl.call (Bl.call hbY hCw8.1) hb9⟩
      · have hk1 : 1 ≤ k := by omega
        have hke : (k == 0) = false := by simp; omega
        have hq0 : 0 ≤ (((n : Int) + k - 1) / k) ∧ (((n : Int) + k - 1) / k) ≤ 20000 := by
          have h1 := Int.ediv_nonneg (a := (n : Int) + k - 1) (b := k) (by omega) (by omega)
          have h2 := Int.ediv_le_self (a := (n : Int) + k - 1) k (by omega)
          omega
        have hsm : wrap64 ((n : Int) + k) = (n : Int) + k := wrap_near (by omega) (by omega)
        have hsm2 : wrap64 ((n : Int) + k - 1) = (n : Int) + k - 1 := wrap_near (by omega) (by omega)
        have hq2 : wrap64 (Int.tdiv ((n : Int) + k - 1) k) = (((n : Int) + k - 1) / k) := quo_eq (by omega) hk1
        have hml : wrap64 (w * (((n : Int) + k - 1) / k)) = w * (((n : Int) + k - 1) / k) := by
          have h1 := Int.mul_nonneg (show 0 ≤ w by omega) hq0.1
          have h2 := Int.mul_le_mul (show w ≤ 1000 by omega) hq0.2 hq0.1 (by omega)
          exact wrap_near (by omega) (by omega)
        have hwn : wrap64 (n : Int) = (n : Int) := wrap_near (by omega) (by omega)
        have hW : IntKind.i64.wrap (w * IntKind.i64.wrap ((IntKind.i64.wrap (IntKind.i64.wrap (IntKind.i64.wrap (n : Int) + k) - 1)).tdiv k)) = w * (((n : Int) + k - 1) / k) := by
          simp only [IntWalk.i64_left, hwn, hsm, hsm2, hq2, hml]
        by_cases hbig : w * (((n : Int) + k - 1) / k) > len
        · have hb2 : len < IntKind.i64.wrap (w * IntKind.i64.wrap ((IntKind.i64.wrap (IntKind.i64.wrap (IntKind.i64.wrap (n : Int) + k) - 1)).tdiv k)) := by rw [hW]; exact hbig
          have hr := HP2.out (.inr hbig)
          injection hr with h01 h02
          subst h01 h02
          clear HP2 HP3
          go_wp2_with fail
          try rw [hk]
          refine wp_region_cls wc [(⟨W.heap.size, 0, none⟩, .int .i64 len), (⟨W.heap.size, 1, none⟩, .int .i64 wid), (⟨W.heap.size, 2, none⟩, .int .i64 rx), (⟨W.heap.size, 3, none⟩, .int .i64 ry)] (by kernel_rfl) (by kernel_rfl) ⟨Below.refl _ _, by simp only [List.mem_cons, List.not_mem_nil, forall_eq_or_imp, or_false, forall_eq]; go_simp⟩ ?_
          repeat
            first
            | go_big_quiet_skip
            | go_big_quiet_want
              apply Exists.intro
              refine And.intro ?_ ?_
              · intro w1 hw1
                have hx := hw1.2
                simp only [List.mem_cons, List.not_mem_nil, forall_eq_or_imp, or_false, forall_eq] at hx
                go_simp
                first | rfl
              go_simp
              go_big_quiet_on
          refine wpQuiet_nil ?_
          intro w8 hCw8
          go_wp2_with (go_at_call 11; refine (HA.out _).mono ?_; rintro e w9 ⟨rfl, hb9⟩)
          go_ret
          exact ⟨rfl, Bl.call (Bl.call hbY hCw8.1) hb9⟩
        · have hb2 : IntKind.i64.wrap (w * IntKind.i64.wrap ((IntKind.i64.wrap (IntKind.i64.wrap (IntKind.i64.wrap (n : Int) + k) - 1)).tdiv k)) ≤ len := by rw [hW]; omega
          obtain ⟨ps', hr, hl, he⟩ := HP3.out hk0 (by have := hbig; omega)
          injection hr with h01 h02
          subst h01 h02
          have HE := Lib.hid he
          have hnp5 : np ≤ 5 := by rw [← HNP.out, hl]; omega
          clear HP2 HP3 hl he
          go_wp2_with fail
          try rw [hk]
          refine wp_region_cls wc [(⟨W.heap.size, 0, none⟩, .int .i64 len), (⟨W.heap.size, 1, none⟩, .int .i64 wid), (⟨W.heap.size, 2, none⟩, .int .i64 rx), (⟨W.heap.size, 3, none⟩, .int .i64 ry)] (by kernel_rfl) (by kernel_rfl) ⟨Below.refl _ _, by simp only [List.mem_cons, List.not_mem_nil, forall_eq_or_imp, or_false, forall_eq]; go_simp⟩ ?_
          repeat
            first
            | go_big_quiet_skip
            | go_big_quiet_want
              apply Exists.intro
              refine And.intro ?_ ?_
              · intro w1 hw1
                have hx := hw1.2
                simp only [List.mem_cons, List.not_mem_nil, forall_eq_or_imp, or_false, forall_eq] at hx
                go_simp
                first | rfl
              go_simp
              go_big_quiet_on
          refine wpQuiet_nil ?_
          intro w8 hCw8
          go_upto_region 11 with (go_at_call 21; refine (extent_any _ _ _ _ _ _ [recS w h] ps _ (by omega) (hSY.keep hCw8.1) (hP5.keep hCw8.1)).mono ?_; rintro e w7 ⟨rfl, hb7⟩; rw [HE.out])
          have hw8 := Bl.call (Bl.call hbY hCw8.1) hb7
          obtain ⟨q, hqq⟩ : ∃ q, ((n : Int) + k - 1) / k = q := ⟨_, rfl⟩
          rw [hqq] at hq2 hml ⊢
          clear hW hb2 hq0 hbig HE HR hnp5 HNP hP5 hSY d1 d2 d3 d4 hCw8 hkb hk hh0 hb7 hbY
          go_wp2_with (go_at_call 11; refine (HA.out _).mono ?_; rintro e w9 ⟨rfl, hb9⟩)
          go_ret
          exact ⟨rfl, Bl.call hw8 hb9⟩
end Go.Proofs.YtmdncaoilegnnaaGreat

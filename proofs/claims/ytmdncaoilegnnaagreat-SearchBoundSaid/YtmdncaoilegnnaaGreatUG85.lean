/- SearchBound: the law's walk. -/
import Derived.Test.YtmdncaoilegnnaaGreatUG84
import Derived.Test.YtmdncaoilegnnaaGreatUG26
import Derived.Test.YtmdncaoilegnnaaGreatUG28
namespace Go.Proofs.YtmdncaoilegnnaaGreat
set_option linter.unusedVariables false
set_option linter.unusedSimpArgs false
set_option linter.unusedVariables false
set_option linter.unusedSimpArgs false
open Go.RowKit

theorem ord_pos {n : Nat} (hn : n ≤ 3) : 0 < (ordW (n : Int)).length := by
  rcases (by omega : n = 0 ∨ n = 1 ∨ n = 2 ∨ n = 3) with rfl | rfl | rfl | rfl <;> decide +kernel
set_option maxHeartbeats 4000000 in
set_option maxRecDepth 100000 in
theorem lawBound (A1 : Option Addr) (c1 n1 : Nat) (b : Bed4) (S : List Shp) (z : Int) (w : World) (hS : ShW w A1 n1 S) (hz : 0 ≤ z ∧ z ≤ 255) :
    Calls Tryz.prog 9 #[bedV b, .slice A1 n1 c1, .int .u8 z] w fun e w' => e = .returned (.bool true) ∧ Below w.heap.size w w' := by
  have hB := Lib.hid (BlkS.new w 25 #[.int .i64 b.len, .int .i64 b.wid, .int .i64 b.rx, .int .i64 b.ry])
  have hbw := Lib.hid (show Below w.heap.size w (w.alloc (.cells #[.int .i64 b.len, .int .i64 b.wid, .int .i64 b.rx, .int .i64 b.ry] 25)) from (Bl.alloc (Below.refl _ _) _))
  have hl := hS.1
  obtain ⟨len, wid, rx, ry⟩ := b
  unfold bedV
  dsimp only at hB hbw ⊢
  have HA := Lib.hid alive_any
  cases hfew : fewW S with
  | false =>
    have HF := Lib.hid hfew
    clear hfew hl
    go_enter Tryz.func9, Tryz.ntmps9
    go_wp2_with (first | (go_at_call 26; refine (few_any _ _ _ S _ (hS.keep hbw.out)).mono ?_; rintro e w1 ⟨rfl, hb1⟩; rw [HF.out]; obtain ⟨a1, a2, a3, a4, -⟩ := (hB.out.keep hb1).cells4) | (go_at_call 23; refine (HA.out _).mono ?_; rintro e w9 ⟨rfl, hb9⟩))
    go_ret
    exact ⟨rfl, Bl.call (Bl.call hbw.out hb1) hb9⟩
  | true =>
    have hn3 := fewW_len hfew
    have hplain := bound_plain (b := ⟨len, wid, rx, ry⟩) hn3
    rw [hl] at hn3 hplain
    have HF := Lib.hid hfew
    have hSS := hS.shs (by omega)
    obtain ⟨rb, hrb⟩ : ∃ rb, bndW ⟨len, wid, rx, ry⟩ S = rb := ⟨_, rfl⟩
    obtain ⟨r, hr⟩ : ∃ r, bestW ⟨len, wid, rx, ry⟩ S = r := ⟨_, rfl⟩
    rw [hrb, hr] at hplain
    have HBN := Lib.hid hrb
    have HR := Lib.hid hr
    clear hrb hr hfew
    obtain ⟨e1, x⟩ := rb
    obtain ⟨f1, y, o⟩ := r
    dsimp only at hplain
    by_cases he : e1 = 0
    · subst he
      obtain ⟨hp1, hp2⟩ := hplain.2 rfl
      have hdis : (f1 = 0 ∧ x ≤ y) ∨ f1 = 18 := by
        rcases hp1 with ⟨x', o', e, hle⟩ | e
        · injection e with e1 e2
          injection e2 with e2 e3
          left; exact ⟨e1, by omega⟩
        · injection e with e1 e2
          exact .inr e1
      have hp2' : ∀ o ∈ ordW (n1 : Int), (runW ⟨len, wid, rx, ry⟩ S o).1 = 0 → (extW S (runW ⟨len, wid, rx, ry⟩ S o).2).1 = 0 ∧ x ≤ (extW S (runW ⟨len, wid, rx, ry⟩ S o).2).2 ∧ f1 = 0 := fun o ho h => by
        obtain ⟨g1, g2, x', o', g3⟩ := hp2 o ho h
        injection g3 with g3 _
        exact ⟨g1, g2, g3⟩
      have HP := Lib.hid hp2'
      clear hplain hp1 hp2 hp2'
      have hsm := ordW_len n1
      have hpos := ord_pos hn3
      obtain ⟨L, hL⟩ : ∃ L, ordW n1 = L := ⟨_, rfl⟩
      rw [hL] at hsm hpos HP
      have HW := Lib.hid hL
      have HSM := Lib.hid hsm.2
      have hsm1 := hsm.1
      obtain ⟨m, hm⟩ : ∃ m, L.length = m := ⟨_, rfl⟩
      rw [hm] at hsm1 hpos
      have HM := Lib.hid hm
      clear hsm hL hm hl
      go_enter Tryz.func9, Tryz.ntmps9
      go_upto_region 5 with (first | (go_at_call 26; refine (few_any _ _ _ S _ (hS.keep hbw.out)).mono ?_; rintro e w1 ⟨rfl, hb1⟩; rw [HF.out]; obtain ⟨a1, a2, a3, a4, -⟩ := (hB.out.keep hb1).cells4) | (go_at_call 27; refine (best_any _ _ _ ⟨len, wid, rx, ry⟩ S _ (hSS.keep (Bl.call (Bl.call hbw.out hb1) hb2))).mono ?_; rintro e w3 ⟨v3, rfl, hr3, hb3⟩; rw [HR.out] at hr3 ⊢; dsimp only at hr3 ⊢; obtain ⟨Ab, cb, rfl, -, -, -⟩ := hr3) | (go_at_call 24; refine (bound_any _ _ _ ⟨len, wid, rx, ry⟩ S _ (hSS.keep (Bl.call hbw.out hb1))).mono ?_; rintro e w2 ⟨rfl, hb2⟩; rw [HBN.out]; dsimp only; obtain ⟨a1', a2', a3', a4', -⟩ := ((hB.out.keep hb1).keep hb2).cells4))
      have hb12 := Bl.call (Bl.call (Bl.call hbw.out hb1) hb2) hb3
      have HB2 := Lib.hid (((hB.out.keep hb1).keep hb2).keep hb3)
      have hS2 := hSS.keep hb12
      clear hb1 hb2 hb3 a1 a2 a3 a4 a1' a2' a3' a4' hbw hB hSS hS
      go_upto_region 8 with (go_at_call 30; refine (orders_any n1 _ (by omega) (by omega)).mono ?_; rintro e w4 ⟨v4, rfl, ho4, hb4⟩; rw [HW.out] at ho4)
      obtain ⟨A3, c3, rfl, hc3, hI3, -⟩ := ho4.inss
      rw [HM.out] at hI3 hc3 ⊢
      have hbX := Bl.call hb12 hb4
      have HBX := Lib.hid (HB2.out.keep hb4)
      have hSX := hS2.keep hb4
      clear ho4 hb12 hb4 HB2 hS2
      have hm0 : ((m : Int) == 0) = false := by simp; omega
      obtain ⟨j, hj, hjm⟩ : ∃ j : Nat, Int.tmod z (m : Int) = (j : Int) ∧ j < m := by
        refine ⟨(Int.tmod z (m : Int)).toNat, ?_, ?_⟩
        · have := Int.tmod_nonneg (m : Int) hz.1
          omega
        · have h1 := Int.tmod_lt_of_pos z (show (0 : Int) < (m : Int) by omega)
          have h2 := Int.tmod_nonneg (m : Int) hz.1
          omega
      obtain ⟨b1, o1, Ak, ck, rfl, e1, e2, e3, e4⟩ := hI3.at_ hjm
      have hmem : li L j ∈ L := li_mem (by rw [HM.out]; exact hjm)
      have hl5 : (li L j).length ≤ 5 := HSM.out _ hmem
      have hround := HP.out _ hmem
      obtain ⟨ok, hok⟩ : ∃ ok, li L j = ok := ⟨_, rfl⟩
      rw [hok] at e1 e2 e3 hl5 hround
      clear hok HP hmem
      have hpl := runW_len ⟨len, wid, rx, ry⟩ S ok
      obtain ⟨r, hr⟩ : ∃ r, runW ⟨len, wid, rx, ry⟩ S ok = r := ⟨_, rfl⟩
      rw [hr] at hround hpl
      have HRN := Lib.hid hr
      clear hr
      obtain ⟨q1, ps⟩ := r
      dsimp only at hround hpl
      obtain ⟨yy, hy⟩ : ∃ yy, extW S ps = yy := ⟨_, rfl⟩
      rw [hy] at hround
      have HX := Lib.hid hy
      clear hy
      obtain ⟨y1, y2⟩ := yy
      dsimp only at hround
      have HRD := Lib.hid hround
      clear hround
      obtain ⟨nk, hnk⟩ : ∃ nk, ok.length = nk := ⟨_, rfl⟩
      rw [hnk] at e1 e2 e3 hl5 hpl
      clear hnk
      obtain ⟨np, hnp⟩ : ∃ np, ps.length = np := ⟨_, rfl⟩
      rw [hnp] at hpl
      have HPL := Lib.hid hnp
      clear hnp
      have hwz : IntKind.i64.wrap z = z := by rw [IntWalk.i64_left, wrap_near (by omega) (by omega)]
      have hwj : IntKind.i64.wrap ((IntKind.i64.wrap z).tmod (m : Int)) = (j : Int) := by rw [hwz, hj, IntWalk.i64_left, wrap_near (by omega) (by omega)]
      have hwj3 : IntKind.i64.wrap (Int.tmod z (m : Int)) = (j : Int) := by rw [hj, IntWalk.i64_left, wrap_near (by omega) (by omega)]
      have hmn : ¬ m = 0 := by omega
      have hmi : ¬ (m : Int) = 0 := by omega
      have hwj2 : wrap64 (Int.tmod z (m : Int)) = (j : Int) := by rw [hj, wrap_near (by omega) (by omega)]
      obtain ⟨d1, d2, d3, d4, d5⟩ := HBX.out.cells4
      clear d5
      have hjm' : (j : Int) < (m : Int) := by omega
      have hj0 : (0 : Int) ≤ (j : Int) := by omega
      rcases hdis with ⟨rfl, hxy⟩ | rfl
      all_goals
        go_upto_region 10 with fail
        go_cut [13, 14] (fun v13 v14 wx => v14 = .int .i64 q1 ∧ (∃ A5 c5, v13 = .slice A5 np c5 ∧ PuS wx A5 np ps) ∧ Below w4.heap.size w4 wx)
        case first =>
          go_region_held3 (fun w' => w'.cell? ⟨w.heap.size, 0, none⟩ = some (.int .i64 len) ∧ w'.cell? ⟨w.heap.size, 1, none⟩ = some (.int .i64 wid) ∧ w'.cell? ⟨w.heap.size, 2, none⟩ = some (.int .i64 rx) ∧ w'.cell? ⟨w.heap.size, 3, none⟩ = some (.int .i64 ry) ∧ w'.cell? ⟨b1, o1 + j, none⟩ = some (.slice Ak nk ck))
            (first
              | go_keep
              | exact ⟨cell_keep hb5 d1, cell_keep hb5 d2, cell_keep hb5 d3, cell_keep hb5 d4, cell_keep hb5 e1⟩)
            ((first
              | (go_at_call 18; refine (run_any _ _ _ _ _ _ ⟨len, wid, rx, ry⟩ S ok _ (by omega) (hSX.keep (Bl.drew (Below.refl _ _))) (e3.keep (Bl.drew (Below.refl _ _)))).mono ?_; rintro e w5 ⟨v5, rfl, ho5, hb5⟩; rw [HRN.out] at ho5 ⊢; obtain ⟨A5, c5, rfl, hP5⟩ := OwP.pus ho5; rw [HPL.out] at hP5 ⊢)))
          all_goals go_wp2_with fail
          all_goals go_meet
          all_goals exact ⟨rfl, ⟨_, _, rfl, hP5⟩, Bl.call (Bl.drew (Below.refl _ _)) hb5⟩
        case rest =>
          clear d1 d2 d3 d4 e1 e2 e3 e4 hwz hwj hwj2 hwj3 hmn hmi hj hjm' hj0
          obtain ⟨rfl, ⟨A5, c5, rfl, hP5⟩, hbc⟩ := hcut
          have hSc := hSX.keep hbc
          have hbY := Bl.call hbX hbc
          clear hSX hbX hbc
          by_cases hq : q1 = 0
          · obtain ⟨z1, z2, z3⟩ := HRD.out hq
            subst hq z1
            first
              | (exfalso; omega)
              | (clear z3
                 go_wp2_with (first | (go_at_call 23; refine (HA.out _).mono ?_; rintro e w9 ⟨rfl, hb9⟩) | (go_at_call 21; refine (extent_any _ _ _ _ _ _ S ps _ (by omega) hSc hP5).mono ?_; rintro e w6 ⟨rfl, hb6⟩; rw [HX.out]))
                 go_ret
                 exact ⟨rfl, Bl.call (Bl.call hbY hb6) hb9⟩)
          · have q := (show (q1 != 0) = true by simpa using hq)
            clear hq HRD
            go_wp2_with (go_at_call 23; refine (HA.out _).mono ?_; rintro e w9 ⟨rfl, hb9⟩)
            go_ret
            exact ⟨rfl, Bl.call hbY hb9⟩
    · obtain ⟨e, hx⟩ := hplain.1 he
      injection e with e2 e3
      injection e3 with e3 e4
      subst e2 e3 e4 hx
      have hq : (f1 != 0) = true := by simpa using he
      clear he hplain hl
      go_enter Tryz.func9, Tryz.ntmps9
      go_wp2_with (first | (go_at_call 23; refine (HA.out _).mono ?_; rintro e w9 ⟨rfl, hb9⟩) | (go_at_call 26; refine (few_any _ _ _ S _ (hS.keep hbw.out)).mono ?_; rintro e w1 ⟨rfl, hb1⟩; rw [HF.out]; obtain ⟨a1, a2, a3, a4, -⟩ := (hB.out.keep hb1).cells4) | (go_at_call 27; refine (best_any _ _ _ ⟨len, wid, rx, ry⟩ S _ (hSS.keep (Bl.call (Bl.call hbw.out hb1) hb2))).mono ?_; rintro e w3 ⟨v3, rfl, hr3, hb3⟩; rw [HR.out] at hr3 ⊢; dsimp only at hr3 ⊢; obtain ⟨Ab, cb, rfl, -, -, -⟩ := hr3) | (go_at_call 24; refine (bound_any _ _ _ ⟨len, wid, rx, ry⟩ S _ (hSS.keep (Bl.call hbw.out hb1))).mono ?_; rintro e w2 ⟨rfl, hb2⟩; rw [HBN.out]; dsimp only; obtain ⟨a1', a2', a3', a4', -⟩ := ((hB.out.keep hb1).keep hb2).cells4))
      go_ret
      exact ⟨rfl, Bl.call (Bl.call (Bl.call (Bl.call hbw.out hb1) hb2) hb3) hb9⟩
end Go.Proofs.YtmdncaoilegnnaaGreat

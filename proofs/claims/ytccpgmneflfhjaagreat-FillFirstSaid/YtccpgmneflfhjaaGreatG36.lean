/- The law FillFirst: the walk. -/
import Derived.Test.YtccpgmneflfhjaaGreatG35
import Derived.Test.YtccpgmneflfhjaaGreatG33
namespace Go.Proofs.YtccpgmneflfhjaaGreat
set_option linter.unusedVariables false
set_option linter.unusedSimpArgs false
open Go.RowKit

theorem eqInRect (a b c d : Int) (w : World) : (Op.equalIn 10000 46 (.agg #[.int .i64 a, .int .i64 b, .int .i64 c, .int .i64 d]) (.agg #[.int .i64 a, .int .i64 b, .int .i64 c, .int .i64 d])).run Tryz.prog w = .ok true w := by
  have u3 := Tryz.underlying3
  have a3 := Tryz.isAgg3
  have z3 := Tryz.sizeOf3
  have hS : Tryz.prog.underlying 46 = some (.struct (Tryz.prog.fieldsOf 46)) := by kernel_rfl
  have hp : Tryz.prog.stoodInHeld 46 = false := by kernel_rfl
  rw [show (10000 : Nat) = 9999 + 1 from rfl, run_equalIn_agg w 9999 46 _ _ hS hp]
  simp only [Program.fieldsOf, Tryz.underlying46]
  go_simp

/-- The shortest turn up to k: its length and height. -/
def foW (l : List (Int × Int)) (ts : List Trn) : Nat → Int × Int
  | 0 => (-1, 0)
  | k + 1 => if (foW l ts k).1 < 0 ∨ Wd (tpolW false (tr ts k).2 l) < (foW l ts k).1 then (Wd (tpolW false (tr ts k).2 l), Hd (tpolW false (tr ts k).2 l)) else foW l ts k
theorem wd_nonneg {l : List (Int × Int)} (h : 0 < l.length) : 0 ≤ Wd l := by
  unfold Wd
  have h1 := loX_le (l := l) h
  have h2 := hiX_ge (l := l) h
  omega
theorem fo_facts {l : List (Int × Int)} (h0 : 0 < l.length) {ts : List Trn} : ∀ k, (k = 0 ∧ foW l ts k = (-1, 0)) ∨ (∃ i, i < k ∧ foW l ts k = (Wd (tpolW false (tr ts i).2 l), Hd (tpolW false (tr ts i).2 l)) ∧ ∀ j, j < k → (foW l ts k).1 ≤ Wd (tpolW false (tr ts j).2 l)) := by
  intro k
  induction k with
  | zero => exact .inl ⟨rfl, rfl⟩
  | succ k ih =>
    right
    have hw := wd_nonneg (l := tpolW false (tr ts k).2 l) (by rw [tpolW_len]; exact h0)
    rw [foW]
    rcases ih with ⟨rfl, e⟩ | ⟨i, hi, e, hm⟩
    · rw [if_pos (.inl (by rw [e]; decide))]
      exact ⟨0, by omega, rfl, fun j hj => by obtain rfl : j = 0 := by omega
                                              exact Int.le_refl _⟩
    · split
      · rename_i hc
        refine ⟨k, by omega, rfl, fun j hj => ?_⟩
        dsimp only
        rcases Nat.lt_or_ge j k with h | h
        · have := hm j h
          have h9 := wd_nonneg (l := tpolW false (tr ts j).2 l) (by rw [tpolW_len]; exact h0)
          have h8 := wd_nonneg (l := tpolW false (tr ts i).2 l) (by rw [tpolW_len]; exact h0)
          rw [e] at hc this
          dsimp only at hc this
          omega
        · obtain rfl : j = k := by omega
          exact Int.le_refl _
      · rename_i hc
        refine ⟨i, by omega, e, fun j hj => ?_⟩
        rcases Nat.lt_or_ge j k with h | h
        · exact hm j h
        · obtain rfl : j = k := by omega
          omega

set_option maxHeartbeats 4000000 in
set_option maxRecDepth 100000 in
theorem first_main (A : Option Addr) (c n : Nat) (len wid : Int) (l : List (Int × Int)) (g ax ay : Int) (w : World) (hc : n ≤ c) (hm : c ≤ 9223372036854775807) (hA : A = none → c = 0) (hs : SpS w A n l) (h12 : n ≤ 12) (hl1 : 1 ≤ len) (hl2 : len ≤ 1048576) (hw1 : 1 ≤ wid) (hw2 : wid ≤ 1048576) (hck : checkW l n = 0) :
    Calls Tryz.prog 4 #[.int .i64 len, .int .i64 wid, .agg #[.slice A n c, .int .i64 g, .bool false, .int .i64 ax, .int .i64 ay]] w fun e w' => e = .returned (.bool true) ∧ Below w.heap.size w w' := by
  have hB := Lib.hid (BlkS.new w 39 #[.slice A n c, .int .i64 g, .bool false, .int .i64 ax, .int .i64 ay])
  have hbw := Lib.hid (show Below w.heap.size w (w.alloc (.cells #[.slice A n c, .int .i64 g, .bool false, .int .i64 ax, .int .i64 ay] 39)) from (Bl.alloc (Below.refl _ _) _))
  have HEX := Lib.hid ex_any
  have hn := hs.1
  have hck' : checkW l l.length = 0 := by rw [hn]; exact hck
  have h3 := check_len hck
  have h0 : 0 < l.length := by omega
  obtain ⟨ts, hts⟩ : ∃ ts, allW g false = ts := ⟨_, rfl⟩
  obtain ⟨nt, hnt⟩ : ∃ nt, ts.length = nt := ⟨_, rfl⟩
  have hn8 : nt ≤ 8 := by rw [← hnt, ← hts]; exact allW_len _ _
  have HAL := Lib.hid (show ∀ i, i < nt → (tr ts i).1 = false from fun i hi => by rw [← hts]; exact (allTo_mem (n := 4) (tr_mem (ts := allW g false) (by rw [← hts] at hnt; rw [hnt]; exact hi))).1)
  have HFO := Lib.hid (fo_facts h0 (ts := ts) nt)
  have HFI := Lib.hid (fun i0 (h1 : i0 < nt) => first_facts (s := ⟨l, g, false, (ax, ay)⟩) (len := len) (wid := wid) hck' rfl ⟨hl1, hl2⟩ ⟨hw1, hw2⟩ (i0 := i0) (by dsimp only; rw [hts, hnt]; exact h1))
  have HTC := Lib.hid (show ∀ u, checkW (tpolW false u l) n = 0 from fun u => by rw [← hn]; exact check_turn hck' u)
  have HWD := Lib.hid (show ∀ u, wrap64 (hiX (tpolW false u l) n - loX (tpolW false u l) n) = Wd (tpolW false u l) ∧ wrap64 (hiY (tpolW false u l) n - loY (tpolW false u l) n) = Hd (tpolW false u l) from fun u => by
    have ht := tpol_near (M := 1048576) (by omega) (f := false) (u := u) (check_near hck')
    have hTl : (tpolW false u l).length = n := by rw [tpolW_len, hn]
    obtain ⟨i1, k1, e1⟩ := loX_at (l := tpolW false u l) (n := n) (by omega)
    obtain ⟨i2, k2, e2⟩ := loY_at (l := tpolW false u l) (n := n) (by omega)
    obtain ⟨i3, k3, e3⟩ := hiX_at (l := tpolW false u l) (n := n) (by omega)
    obtain ⟨i4, k4, e4⟩ := hiY_at (l := tpolW false u l) (n := n) (by omega)
    have n1 := ht _ (gt_in (i := i1) (by omega))
    have n2 := ht _ (gt_in (i := i2) (by omega))
    have n3 := ht _ (gt_in (i := i3) (by omega))
    have n4 := ht _ (gt_in (i := i4) (by omega))
    unfold nearB at n1 n2 n3 n4
    unfold Wd Hd
    rw [hTl, wrap_near (by omega) (by omega), wrap_near (by omega) (by omega)]
    exact ⟨rfl, rfl⟩)
  have HTL := Lib.hid (show ∀ u, (tpolW false u l).length = n from fun u => by rw [tpolW_len, hn])
  have HN := Lib.hid hn
  have HCK := Lib.hid hck
  have HTS := Lib.hid hts
  have HNT := Lib.hid hnt
  clear hn hck hck' h0 hts hnt
  obtain ⟨d1, d2, d3, d4, d5, d6⟩ := hB.out.cells5
  go_enter Tryz.func4, Tryz.ntmps4
  go_upto_region 5 with (go_at_call 18; refine (check_any A c n l _ (by omega) hc (hs.keep hbw.out)).mono ?_; rintro e w1 ⟨rfl, hb1⟩; rw [HCK.out])
  have HB1 := Lib.hid (hB.out.keep hb1)
  have hw1' := Bl.call hbw.out hb1
  have hs1 := hs.keep hw1'
  clear d1 d2 d3 d4 d5 d6 hB hbw hb1 hs
  obtain ⟨d1, d2, d3, d4, d5, d6⟩ := HB1.out.cells5
  go_upto_region 7 with (go_at_call 19; refine (all_any _ _ _).mono ?_; rintro e w2 ⟨v2, rfl, ho2, hb2⟩; rw [HTS.out] at ho2; obtain ⟨At, ct, rfl, hTt, -⟩ := OwT.trs ho2; rw [HNT.out] at hTt ⊢)
  have HB2 := Lib.hid (HB1.out.keep hb2)
  have hw2' := Bl.call hw1' hb2
  have hs2 := hs1.keep hb2
  clear d1 d2 d3 d4 d5 d6 HB1 hw1' hs1 hb2 ho2
  go_loopw [7, 8, 55] (fun v7 v8 i wr => ∃ k : Nat, k ≤ nt ∧ i = .int .i64 k ∧ v7 = .int .i64 (foW l ts k).1 ∧ v8 = .int .i64 (foW l ts k).2 ∧ Below w2.heap.size w2 wr) (fun _ _ i _ => nt - (intOf i).toNat)
  case atStart => exact ⟨0, Nat.zero_le _, rfl, rfl, rfl, Below.refl _ _⟩
  case round =>
    obtain ⟨i, hi, rfl, rfl, rfl, hbr⟩ := hrel
    by_cases hlt : i < nt
    · obtain ⟨bt, rfl, t1, t2⟩ := (hTt.keep hbr).at_ hlt
      have hstep := Lib.hid (show foW l ts (i + 1) = if (foW l ts i).1 < 0 ∨ Wd (tpolW false (tr ts i).2 l) < (foW l ts i).1 then (Wd (tpolW false (tr ts i).2 l), Hd (tpolW false (tr ts i).2 l)) else foW l ts i from rfl)
      rw [HAL.out i hlt] at t1
      obtain ⟨u, hu⟩ : ∃ u, (tr ts i).2 = u := ⟨_, rfl⟩
      rw [hu] at t2 hstep
      clear hu
      have htc := Lib.hid (HTC.out u)
      have htl := Lib.hid (HTL.out u)
      have hwd := Lib.hid (HWD.out u)
      obtain ⟨T, hT⟩ : ∃ T, tpolW false u l = T := ⟨_, rfl⟩
      rw [hT] at htc htl hwd hstep
      have HT := Lib.hid hT
      clear hT
      go_upto_region 9 with fail
      have hbX := Bl.alloc hbr (.cells #[.bool false, .int .i64 u] 44)
      have hBX := BlkS.new wr 44 #[.bool false, .int .i64 u]
      refine wp_world (fun X => Below w2.heap.size w2 X ∧ BlkS X wr.heap.size 44 #[.bool false, .int .i64 u]) ⟨hbX, hBX⟩ ?_
      clear hbX hBX t1 t2 hbr
      rintro X ⟨hbr, hBX⟩
      obtain ⟨t1, t2, t3, t4, t5⟩ := hBX.cells2
      obtain ⟨d1, d2, d3, d4, d5, d6⟩ := (HB2.out.keep hbr).cells5
      go_upto_region 10 with (first | (go_at_call 20; refine (box_ok gb 0 c5 n T w5 (by omega) hc5 hS5 htc.out (by omega)).mono ?_; rintro e w6 ⟨rfl, hb6⟩; rw [hwd.out.1, hwd.out.2]) | (go_at_call 21; refine (tpoly_any false u A c n l X (by omega) (hs2.keep hbr)).mono ?_; rintro e w5 ⟨v5, rfl, ho5, hb5⟩; rw [HT.out] at ho5; obtain ⟨A5, c5, rfl, hc5, hS5, hA5⟩ := OwS.sps ho5; rw [htl.out] at hS5 hc5 hA5 ⊢; obtain ⟨gb, rfl, hgb1, hgb2⟩ := hA5 (by omega)))
      have hbX := Bl.alloc (Bl.call (Bl.call hbr hb5) hb6) (.cells #[.int .i64 (loX T n), .int .i64 (loY T n), .int .i64 (Wd T), .int .i64 (Hd T)] 46)
      have hBX := BlkS.new w6 46 #[.int .i64 (loX T n), .int .i64 (loY T n), .int .i64 (Wd T), .int .i64 (Hd T)]
      refine wp_world (fun X => Below w2.heap.size w2 X ∧ BlkS X w6.heap.size 46 #[.int .i64 (loX T n), .int .i64 (loY T n), .int .i64 (Wd T), .int .i64 (Hd T)]) ⟨hbX, hBX⟩ ?_
      clear hbX hBX t1 t2 t3 t4 t5 d1 d2 d3 d4 d5 d6 hbr hb5 hb6 hS5 ho5 hgb1 hgb2
      rintro Z ⟨hbr, hBZ⟩
      obtain ⟨t1, t2, t3, t4, t5⟩ := hBZ.cells4
      obtain ⟨W, hW⟩ : ∃ W, Wd T = W := ⟨_, rfl⟩
      obtain ⟨Hh, hH⟩ : ∃ Hh, Hd T = Hh := ⟨_, rfl⟩
      rw [hW, hH] at hstep
      rw [hW] at t3
      rw [hH] at t4
      clear hW hH hBZ htc htl hwd
      obtain ⟨f, hf⟩ : ∃ f, foW l ts i = f := ⟨_, rfl⟩
      rw [hf] at hstep ⊢
      clear hf
      obtain ⟨f1, f2⟩ := f
      dsimp only at hstep ⊢
      by_cases hneg : f1 < 0
      · have hst : foW l ts (i + 1) = (W, Hh) := by rw [hstep.out, if_pos (.inl hneg)]
        have HST := Lib.hid hst
        clear hst hstep
        go_wp2_with fail
        go_quiet (fail)
        have hbq := Bl.drewN hbr nq
        clear hbr
        go_wp2_with fail
        exact ⟨⟨i + 1, by omega, by go_num, by rw [HST.out], by rw [HST.out], hbq⟩, by simp [intOf]; omega⟩
      · by_cases hsm : W < f1
        · have hst : foW l ts (i + 1) = (W, Hh) := by rw [hstep.out, if_pos (.inr hsm)]
          have HST := Lib.hid hst
          clear hst hstep
          go_wp2_with fail
          go_quiet (fail)
          have hbq := Bl.drewN hbr nq
          clear hbr
          go_wp2_with fail
          exact ⟨⟨i + 1, by omega, by go_num, by rw [HST.out], by rw [HST.out], hbq⟩, by simp [intOf]; omega⟩
        · have hst : foW l ts (i + 1) = (f1, f2) := by rw [hstep.out, if_neg (by omega)]
          have HST := Lib.hid hst
          clear hst hstep
          go_wp2_with fail
          exact ⟨⟨i + 1, by omega, by go_num, by rw [HST.out], by rw [HST.out], hbr⟩, by simp [intOf]; omega⟩
    · obtain rfl : nt = i := by omega
      have hw3 := Bl.call hw2' hbr
      have HB3 := Lib.hid (HB2.out.keep hbr)
      have hs3 := hs2.keep hbr
      obtain ⟨f, hf⟩ : ∃ f, foW l ts nt = f := ⟨_, rfl⟩
      rw [hf]
      have hfo := HFO.out
      rw [hf] at hfo
      clear hf HFO HB2 hs2 hw2' hTt hbr
      obtain ⟨f1, f2⟩ := f
      dsimp only at hfo ⊢
      by_cases c1 : f1 < 0
      · clear hfo
        go_wp2_with (go_at_call 15; refine (HEX.out _).mono ?_; rintro e w4 ⟨rfl, hb4⟩)
        go_ret
        exact ⟨rfl, Bl.call hw3 hb4⟩
      · by_cases c2 : f2 > wid
        · clear hfo
          go_wp2_with (go_at_call 15; refine (HEX.out _).mono ?_; rintro e w4 ⟨rfl, hb4⟩)
          go_ret
          exact ⟨rfl, Bl.call hw3 hb4⟩
        · by_cases c3 : f1 > len
          · clear hfo
            go_wp2_with (go_at_call 15; refine (HEX.out _).mono ?_; rintro e w4 ⟨rfl, hb4⟩)
            go_ret
            exact ⟨rfl, Bl.call hw3 hb4⟩
          · obtain ⟨p, r, hst, hpo, hrl, hrc, hx0, hy0, hx1, hy1⟩ : ∃ p r, stepW ⟨len, wid, 0, 0⟩ [⟨l, g, false, (ax, ay)⟩] [] 0 = (0, p) ∧ polyW [⟨l, g, false, (ax, ay)⟩] p = (0, r) ∧ r.length = n ∧ checkW r n = 0 ∧ loX r n = 0 ∧ loY r n = 0 ∧ wrap64 (hiX r n - loX r n) = f1 ∧ wrap64 (hiY r n - loY r n) = f2 := by
              rcases hfo with ⟨-, e⟩ | ⟨i0, hi0, e, hmin⟩
              · injection e with e1 e2
                omega
              · injection e with e1 e2
                obtain ⟨p, r, q1, q2, q3, q4, q5, q6, q7, q8⟩ := HFI.out i0 hi0 (by rw [HTS.out]; omega) (by rw [HTS.out]; omega) (fun i hi => by
                  try dsimp only at hi ⊢
                  rw [HTS.out] at hi ⊢
                  rw [HNT.out] at hi
                  have := hmin i hi
                  omega)
                try dsimp only at q3 q7 q8
                rw [HN.out] at q3
                rw [HTS.out] at q7 q8
                rw [q3] at q4 q5 q6 q7 q8
                refine ⟨p, r, q1, q2, q3, q4, q5, q6, ?_, ?_⟩
                · rw [q5, q7, ← e1, wrap_near (by omega) (by omega)]; omega
                · rw [q6, q8, ← e2]
                  have h9 := HWD.out (tr ts i0).2
                  rw [← e2] at h9
                  have hnn : 0 ≤ f2 := by
                    have g1 := loY_le (l := tpolW false (tr ts i0).2 l) (n := (tpolW false (tr ts i0).2 l).length) (i := 0) (by rw [HTL.out]; omega)
                    have g2 := hiY_ge (l := tpolW false (tr ts i0).2 l) (n := (tpolW false (tr ts i0).2 l).length) (i := 0) (by rw [HTL.out]; omega)
                    rw [e2]; unfold Hd; omega
                  rw [wrap_near (by omega) (by omega)]; omega
            have HST := Lib.hid hst
            have HPO := Lib.hid hpo
            have HRL := Lib.hid hrl
            have HRC := Lib.hid hrc
            have HX0 := Lib.hid hx0
            have HY0 := Lib.hid hy0
            have HX1 := Lib.hid hx1
            have HY1 := Lib.hid hy1
            clear hfo hst hpo hrl hrc hx0 hy0 hx1 hy1 HFI HWD HTC HAL
            obtain ⟨d1, d2, d3, d4, d5, d6⟩ := HB3.out.cells5
            go_upto_region 18 with fail
            have hbX := Bl.alloc (Below.refl _ wr) (.cells #[.slice A n c, .int .i64 g, .bool false, .int .i64 ax, .int .i64 ay] 39)
            have hSX : ShS (wr.alloc (.cells #[.slice A n c, .int .i64 g, .bool false, .int .i64 ax, .int .i64 ay] 39)) (some ⟨wr.heap.size, 0, none⟩) 1 [⟨l, g, false, (ax, ay)⟩] := by
              have hBX := BlkS.new wr 39 #[.slice A n c, .int .i64 g, .bool false, .int .i64 ax, .int .i64 ay]
              refine ⟨rfl, by omega, .inr ⟨_, 0, rfl, fun k hk => ?_⟩⟩
              obtain rfl : k = 0 := by omega
              refine ⟨A, c, blk_cell hBX _ _ ?_, by show l.length ≤ c; rw [HN.out]; exact hc, hm, ?_, hA, blk_cell hBX _ _ rfl, blk_cell hBX _ _ rfl, blk_cell hBX _ _ rfl, blk_cell hBX _ _ rfl⟩
              · show _ = some (Value.slice A l.length c); rw [HN.out]; rfl
              · show SpS _ A l.length l; rw [HN.out]; exact hs3.keep hbX
            have hwX := Bl.call hw3 hbX
            refine wp_world (fun X => Below w.heap.size w X ∧ ShS X (some ⟨wr.heap.size, 0, none⟩) 1 [⟨l, g, false, (ax, ay)⟩]) ⟨hwX, hSX⟩ ?_
            clear hbX hSX hwX d1 d2 d3 d4 d5 d6 hs3 hw3 HB3
            rintro X ⟨hwX, hSX⟩
            have hBX := BlkS.new X 25 #[.int .i64 len, .int .i64 wid, .int .i64 0, .int .i64 0]
            have hbX := Bl.alloc (Below.refl _ X) (.cells #[.int .i64 len, .int .i64 wid, .int .i64 0, .int .i64 0] 25)
            go_upto_region 20 with (go_at_call 22; refine (step_any (some ⟨wr.heap.size, 0, none⟩) none 1 0 1 0 ⟨len, wid, 0, 0⟩ [⟨l, g, false, (ax, ay)⟩] [] 0 _ (by omega) (hSX.keep hbX) ⟨rfl, .inl rfl⟩).mono ?_; rintro e w5 ⟨rfl, hb5⟩; rw [HST.out]; unfold putV; dsimp only)
            have hbY := Bl.alloc (Bl.call hbX hb5) (.cells #[.int .i64 p.sh, .bool p.fl, .int .i64 p.qu, .int .i64 p.x, .int .i64 p.y] 51)
            have hBY := BlkS.new w5 51 #[.int .i64 p.sh, .bool p.fl, .int .i64 p.qu, .int .i64 p.x, .int .i64 p.y]
            refine wp_world (fun Y => Below X.heap.size X Y ∧ BlkS Y w5.heap.size 51 #[.int .i64 p.sh, .bool p.fl, .int .i64 p.qu, .int .i64 p.x, .int .i64 p.y]) ⟨hbY, hBY⟩ ?_
            clear hbY hBY hb5 hBX hbX
            rintro Y ⟨hbY, hBY⟩
            obtain ⟨e1, e2, e3, e4, e5, e6⟩ := hBY.cells5
            go_upto_region 21 with (go_at_call 23; refine (ppoly_any (some ⟨wr.heap.size, 0, none⟩) 1 1 [⟨l, g, false, (ax, ay)⟩] p Y (hSX.keep hbY)).mono ?_; rintro e w6 ⟨v6, rfl, ho6, hb6⟩; rw [HPO.out] at ho6 ⊢)
            obtain ⟨A6, c6, rfl, hc6, hS6, hA6⟩ := OwS.sps ho6
            try dsimp only at hc6 hS6 hA6
            try dsimp only
            rw [HRL.out] at hS6 hc6 hA6 ⊢
            obtain ⟨gb, rfl, hgb1, hgb2⟩ := hA6 (by omega)
            have hw6 := Bl.call hwX (Bl.call hbY hb6)
            clear e1 e2 e3 e4 e5 e6 hBY hwX hSX hbY hb6 ho6 hgb1 hgb2
            have heqr := eqInRect
            go_wp2_with (first | (go_at_call 20; refine (box_ok gb 0 c6 n r w6 (by omega) hc6 hS6 HRC.out (by omega)).mono ?_; rintro e w7 ⟨rfl, hb7⟩; rw [HX1.out, HY1.out, HX0.out, HY0.out]) | (go_at_call 15; refine (HEX.out _).mono ?_; rintro e w8 ⟨rfl, hb8⟩))
            go_ret
            exact ⟨rfl, Bl.call (Bl.alloc (Bl.call hw6 hb7) _) hb8⟩

set_option maxHeartbeats 4000000 in
set_option maxRecDepth 100000 in
theorem lawFirst (A : Option Addr) (c : Nat) (len wid : Int) (s : Shp) (w : World) (hc : s.poly.length ≤ c) (hm : c ≤ 9223372036854775807) (hA : A = none → c = 0) (hs : SpS w A s.poly.length s.poly) :
    Calls Tryz.prog 4 #[.int .i64 len, .int .i64 wid, .agg #[.slice A s.poly.length c, .int .i64 s.grain, .bool s.mat, .int .i64 s.anc.1, .int .i64 s.anc.2]] w fun e w' => e = .returned (.bool true) ∧ Below w.heap.size w w' := by
  obtain ⟨l, g, m, ⟨ax, ay⟩⟩ := s
  dsimp only at hc hs ⊢
  obtain ⟨n, hn⟩ : ∃ n, l.length = n := ⟨_, rfl⟩
  rw [hn] at hc hs ⊢
  clear hn
  have hB := Lib.hid (BlkS.new w 39 #[.slice A n c, .int .i64 g, .bool m, .int .i64 ax, .int .i64 ay])
  have hbw := Lib.hid (show Below w.heap.size w (w.alloc (.cells #[.slice A n c, .int .i64 g, .bool m, .int .i64 ax, .int .i64 ay] 39)) from (Bl.alloc (Below.refl _ _) _))
  have HA := Lib.hid ex_any
  obtain ⟨d1, d2, d3, d4, d5, d6⟩ := hB.out.cells5
  by_cases k1 : 12 < n
  · go_enter Tryz.func4, Tryz.ntmps4
    go_wp2_with (go_at_call 15; refine (HA.out _).mono ?_; rintro e w2 ⟨rfl, hb2⟩)
    go_ret
    exact ⟨rfl, Bl.call hbw.out hb2⟩
  · cases m
    · by_cases k3 : len < 1
      · go_enter Tryz.func4, Tryz.ntmps4
        go_wp2_with (go_at_call 15; refine (HA.out _).mono ?_; rintro e w2 ⟨rfl, hb2⟩)
        go_ret
        exact ⟨rfl, Bl.call hbw.out hb2⟩
      · by_cases k4 : len > 1048576
        · go_enter Tryz.func4, Tryz.ntmps4
          go_wp2_with (go_at_call 15; refine (HA.out _).mono ?_; rintro e w2 ⟨rfl, hb2⟩)
          go_ret
          exact ⟨rfl, Bl.call hbw.out hb2⟩
        · by_cases k5 : wid < 1
          · go_enter Tryz.func4, Tryz.ntmps4
            go_wp2_with (go_at_call 15; refine (HA.out _).mono ?_; rintro e w2 ⟨rfl, hb2⟩)
            go_ret
            exact ⟨rfl, Bl.call hbw.out hb2⟩
          · by_cases k6 : wid > 1048576
            · go_enter Tryz.func4, Tryz.ntmps4
              go_wp2_with (go_at_call 15; refine (HA.out _).mono ?_; rintro e w2 ⟨rfl, hb2⟩)
              go_ret
              exact ⟨rfl, Bl.call hbw.out hb2⟩
            · by_cases k7 : checkW l n = 0
              · exact first_main A c n len wid l g ax ay w hc hm hA hs (by omega) (by omega) (by omega) (by omega) (by omega) k7
              · have q7 : (checkW l n != 0) = true := by simpa using k7
                clear k7
                go_enter Tryz.func4, Tryz.ntmps4
                go_wp2_with (first | (go_at_call 15; refine (HA.out _).mono ?_; rintro e w2 ⟨rfl, hb2⟩) | (go_at_call 18; refine (check_any A c n l _ (by omega) hc (hs.keep hbw.out)).mono ?_; rintro e w1 ⟨rfl, hb1⟩))
                go_ret
                exact ⟨rfl, Bl.call (Bl.call hbw.out hb1) hb2⟩
    · go_enter Tryz.func4, Tryz.ntmps4
      go_wp2_with (go_at_call 15; refine (HA.out _).mono ?_; rintro e w2 ⟨rfl, hb2⟩)
      go_ret
      exact ⟨rfl, Bl.call hbw.out hb2⟩

end Go.Proofs.YtccpgmneflfhjaaGreat

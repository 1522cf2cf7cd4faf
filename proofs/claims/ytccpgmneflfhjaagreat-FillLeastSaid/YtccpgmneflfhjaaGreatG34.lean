/- FillLeast: the walk where Step answers 0. FillLeast: the walk where Step answers 18. The law FillLeast: joined. -/
import Derived.Test.YtccpgmneflfhjaaGreatG33
namespace Go.Proofs.YtccpgmneflfhjaaGreat
set_option linter.unusedVariables false
set_option linter.unusedSimpArgs false
open Go.RowKit

set_option maxHeartbeats 4000000 in
set_option maxRecDepth 100000 in
theorem least_0 (A1 A2 : Option Addr) (c1 c2 n1 n2 : Nat) (b : Bed4) (S : List Shp) (ps : List Pt5) (sh : Int) (p : Pt5) (w : World) (hS : ShW w A1 n1 S) (hP : PuS w A2 n2 ps) (hn1 : n1 ≤ 4) (hn2 : n2 ≤ 3) (hfew : few4W S = true) (h : stepW b S ps sh = (0, p)) :
    Calls Tryz.prog 5 #[bedV b, .slice A1 n1 c1, .slice A2 n2 c2, .int .i64 sh] w fun e w' => e = .returned (.bool true) ∧ Below w.heap.size w w' := by
  have hB := Lib.hid (BlkS.new w 25 #[.int .i64 b.len, .int .i64 b.wid, .int .i64 b.rx, .int .i64 b.ry])
  have hbw := Lib.hid (show Below w.heap.size w (w.alloc (.cells #[.int .i64 b.len, .int .i64 b.wid, .int .i64 b.rx, .int .i64 b.ry] 25)) from (Bl.alloc (Below.refl _ _) _))
  have HW := Lib.hid (show (few4W S && decide (n2 ≤ 3)) = true by rw [hfew]; simp [hn2])
  have HA := Lib.hid ex_any
  have hSS := hS.shs (by omega)
  obtain ⟨⟨k, rfl, hkl⟩, hf1, Q, hQ, hQ2, hQ3⟩ := least_facts h (.inl rfl)
  rw [Int.toNat_natCast] at hQ hQ2 hQ3
  have hkn : k < n1 := by rw [← hS.1]; exact hkl
  have hkI : (k : Int) < (n1 : Int) := by omega
  have hk0 : (0 : Int) ≤ (k : Int) := by omega
  obtain ⟨ts, hts⟩ : ∃ ts, allW (shp S k).grain false = ts := ⟨_, rfl⟩
  rw [hts] at hQ hQ2 hQ3
  obtain ⟨nt, hnt⟩ : ∃ nt, ts.length = nt := ⟨_, rfl⟩
  rw [hnt] at hQ hQ2 hQ3
  have HTS := Lib.hid hts
  have HNT := Lib.hid hnt
  have HQ := Lib.hid hQ
  have HQ2 := Lib.hid hQ2
  have HQ3 := Lib.hid hQ3
  have HST := Lib.hid h
  have hn8 : nt ≤ 8 := by rw [← hnt, ← hts]; exact allW_len _ _
  obtain ⟨hsh, hfit, hext⟩ := hf1 rfl
  have qsh : (p.sh != (k : Int)) = false := by simp [hsh]
  have HF := Lib.hid hfit
  have HX := Lib.hid hext
  clear hsh hfit hext
  clear hf1 hQ hQ2 hQ3 h hfew hkl hts hnt
  obtain ⟨len, wid, rx, ry⟩ := b
  unfold bedV
  dsimp only at hB hbw ⊢
  have heqp := eqInPut
  go_enter Tryz.func5, Tryz.ntmps5
  go_upto_region 4 with (first | (go_at_call 22; refine (step_any _ _ _ _ _ _ ⟨len, wid, rx, ry⟩ S ps _ w1 (by omega) (hSS.keep (Bl.call hbw.out hb1)) (hP.keep (Bl.call hbw.out hb1))).mono ?_; rintro e w2 ⟨rfl, hb2⟩; rw [HST.out]; unfold putV; dsimp only) | (go_at_call 25; refine (lawFew_any _ _ _ _ _ _ S _ (hS.keep hbw.out) (by omega)).mono ?_; rintro e w1 ⟨rfl, hb1⟩; rw [HW.out]; obtain ⟨a1, a2, a3, a4, a5⟩ := (hB.out.keep hb1).cells4))
  have hY := Bl.call (Below.refl _ (w.alloc (.cells #[.int .i64 len, .int .i64 wid, .int .i64 rx, .int .i64 ry] 25))) (Bl.alloc (Bl.call hb1 hb2) (.cells #[.int .i64 p.sh, .bool p.fl, .int .i64 p.qu, .int .i64 p.x, .int .i64 p.y] 51))
  have hB5 := BlkS.new w2 51 #[.int .i64 p.sh, .bool p.fl, .int .i64 p.qu, .int .i64 p.x, .int .i64 p.y]
  refine wp_world (fun Y => Below (w.alloc (.cells #[.int .i64 len, .int .i64 wid, .int .i64 rx, .int .i64 ry] 25)).heap.size (w.alloc (.cells #[.int .i64 len, .int .i64 wid, .int .i64 rx, .int .i64 ry] 25)) Y ∧ BlkS Y w2.heap.size 51 #[.int .i64 p.sh, .bool p.fl, .int .i64 p.qu, .int .i64 p.x, .int .i64 p.y]) ⟨hY, hB5⟩ ?_
  clear hY hB5
  rintro Y ⟨hY, hB5⟩
  obtain ⟨P0, hP0⟩ : ∃ P0, w2.heap.size = P0 := ⟨_, rfl⟩
  rw [hP0] at hB5 ⊢
  have HBY := Lib.hid (hB.out.keep hY)
  have hwY := Bl.call hbw.out hY
  have hSY := hSS.keep hwY
  have hPY := hP.keep hwY
  have HPU := Lib.hid hB5
  clear hb1 hb2 hbw hB hSS hS hP a1 a2 a3 a4 a5 hP0 hB5 hY
  obtain ⟨e1, e2, e3, e4, e5, e6⟩ := HPU.out.cells5
  obtain ⟨d1, d2, d3, d4, d5⟩ := HBY.out.cells4
  go_upto_region 8 with (go_at_call 26; refine (fits_any _ _ _ _ _ _ ⟨len, wid, rx, ry⟩ S ps p _ (by omega) hSY hPY).mono ?_; rintro e w3 ⟨rfl, hb3⟩; rw [HF.out])
  have HBZ := Lib.hid (HBY.out.keep hb3)
  have HPZ := Lib.hid (HPU.out.keep hb3)
  have hSZ := hSY.keep hb3
  have hPZ := hPY.keep hb3
  have hwZ := Bl.call hwY hb3
  clear HBY HPU hSY hPY hwY hb3 e1 e2 e3 e4 e5 e6 d1 d2 d3 d4 d5
  obtain ⟨e1, e2, e3, e4, e5, e6⟩ := HPZ.out.cells5
  go_upto_region 9 with (go_at_call 27; refine (extent_any _ _ _ _ _ _ S [p] (w3.alloc (.cells #[.int .i64 p.sh, .bool p.fl, .int .i64 p.qu, .int .i64 p.x, .int .i64 p.y] 51)) (by omega) (hSZ.keep (Bl.alloc (Below.refl _ _) _)) (pus1 w3 p)).mono ?_; rintro e w4 ⟨rfl, hb4⟩)
  rw [HX.out]
  have hb34 := Bl.call (Bl.alloc (Below.refl _ w3) (.cells #[.int .i64 p.sh, .bool p.fl, .int .i64 p.qu, .int .i64 p.x, .int .i64 p.y] 51)) hb4
  have HB := Lib.hid (HBZ.out.keep hb34)
  have HP := Lib.hid (HPZ.out.keep hb34)
  have hS := hSZ.keep hb34
  have hP := hPZ.keep hb34
  have hw4 := Bl.call hwZ hb34
  clear HBZ HPZ hSZ hPZ hwZ hb34 hb4 e1 e2 e3 e4 e5 e6
  obtain ⟨ba, oa, rfl, hbl, hshA⟩ := hS.at_ hkn
  obtain ⟨sk, hsk⟩ : ∃ sk, shp S k = sk := ⟨_, rfl⟩
  rw [hsk] at hshA HTS
  clear hsk
  obtain ⟨spl, gr, mt, ⟨ax, ay⟩⟩ := sk
  obtain ⟨Ak, ck, g1, g2, g3, g4, g5, g6, g7, g8, g9⟩ := hshA
  dsimp only at g6 HTS
  clear g1 g2 g3 g4 g5 g7 g8 g9
  go_upto_region 13 with (go_at_call 19; refine (all_any _ _ _).mono ?_; rintro e w5 ⟨v5, rfl, ho5, hb5⟩; rw [HTS.out] at ho5; obtain ⟨At, ct, rfl, hTt, -⟩ := OwT.trs ho5; rw [HNT.out] at hTt ⊢)
  have HB5 := Lib.hid (HB.out.keep hb5)
  have HP5 := Lib.hid (HP.out.keep hb5)
  have hS5 := hS.keep hb5
  have hP5 := hP.keep hb5
  have hw5 := Bl.call hw4 hb5
  clear HB HP hS hP hb5 g6 ho5
  obtain ⟨F, hF⟩ : ∃ F : Nat → Nat → Bool, F = fun i j => fitsW ⟨len, wid, rx, ry⟩ S ps (pt (Q i) j) == 0 && eqP p (pt (Q i) j) := ⟨_, rfl⟩
  have HFF := Lib.hid hF
  clear hF
  go_loopw [13, 93] (fun v i wr => ∃ k : Nat, k ≤ nt ∧ i = .int .i64 k ∧ v = .bool (AnyB (fun i => AnyB (F i) (Q i).length) k) ∧ Below w5.heap.size w5 wr) (fun _ i _ => nt - (intOf i).toNat)
  case atStart => exact ⟨0, Nat.zero_le _, rfl, rfl, Below.refl _ _⟩
  case round =>
    obtain ⟨i, hi, rfl, rfl, hbr⟩ := hrel
    by_cases hlt : i < nt
    · obtain ⟨bt, rfl, t1, t2⟩ := (hTt.keep hbr).at_ hlt
      have hcq := HQ.out i hlt
      obtain ⟨tj, htj⟩ : ∃ tj, tr ts i = tj := ⟨_, rfl⟩
      rw [htj] at t1 t2 hcq
      clear htj
      obtain ⟨tf, tq⟩ := tj
      dsimp only at t1 t2 hcq
      have HC := Lib.hid hcq
      clear hcq
      have hcf : ∀ j, j < (Q i).length → fitsW ⟨len, wid, rx, ry⟩ S ps (pt (Q i) j) = 0 → _ := HQ2.out i hlt
      have HC2 := Lib.hid hcf
      clear hcf
      obtain ⟨a1, a2, a3, a4, a5⟩ := (HB5.out.keep hbr).cells4
      go_upto_region 15 with fail
      have hbX := Bl.alloc hbr (.cells #[.bool tf, .int .i64 tq] 44)
      have hBX := BlkS.new wr 44 #[.bool tf, .int .i64 tq]
      refine wp_world (fun X => Below w5.heap.size w5 X ∧ BlkS X wr.heap.size 44 #[.bool tf, .int .i64 tq]) ⟨hbX, hBX⟩ ?_
      clear hbX hBX t1 t2 a1 a2 a3 a4 a5 hbr
      rintro X ⟨hbr, hBX⟩
      obtain ⟨t1, t2, t3, t4, t5⟩ := hBX.cells2
      obtain ⟨a1, a2, a3, a4, a5⟩ := (HB5.out.keep hbr).cells4
      go_upto_region 16 with (go_at_call 28; refine (cands_any _ _ _ _ _ _ ⟨len, wid, rx, ry⟩ S ps _ tf tq X (by omega) (hS5.keep hbr) (hP5.keep hbr)).mono ?_; rintro e w6 ⟨v6, rfl, ho6, hb6⟩; rw [HC.out] at ho6 ⊢)
      obtain ⟨A6, c6, rfl, hQi⟩ := OwP.pus ho6
      have hl6 : (Q i).length ≤ 9223372036854775807 := by
        rcases OwG.form ho6 with ⟨e1, e2⟩ | ⟨g, cap, e1, _, _, e3, e9⟩
        · rw [e2]; exact Nat.zero_le _
        · unfold maxLen at e9; omega
      obtain ⟨nq6, hnq6⟩ : ∃ nq6, (Q i).length = nq6 := ⟨_, rfl⟩
      rw [hnq6] at hQi hl6 HC2 ⊢
      have HNQ := Lib.hid hnq6
      clear hnq6 ho6 t1 t2 t3 t4 t5 a1 a2 a3 a4 a5 hBX
      have hb56 := Bl.call hbr hb6
      clear hbr hb6
      go_wp2_with fail
      go_loopw [13, 110] (fun v i1 wr => ∃ m : Nat, m ≤ nq6 ∧ i1 = .int .i64 m ∧ v = .bool (AnyB (fun i => AnyB (F i) (Q i).length) i || AnyB (F i) m) ∧ Below w6.heap.size w6 wr) (fun _ i _ => nq6 - (intOf i).toNat)
      case atStart => exact ⟨0, Nat.zero_le _, rfl, by rw [AnyB.zero, Bool.or_false], Below.refl _ _⟩
      case round =>
        obtain ⟨m, hm, rfl, rfl, hb7⟩ := hrel
        by_cases hlm : m < nq6
        · have hb57 := Bl.call hb56 hb7
          obtain ⟨b1, o1, rfl, -, r1, r2, r3, r4, r5⟩ := (hQi.keep hb7).at_ hlm
          have HFm := Lib.hid (fun h => HC2.out m hlm h)
          obtain ⟨q, hq⟩ : ∃ q, pt (Q i) m = q := ⟨_, rfl⟩
          rw [hq] at r1 r2 r3 r4 r5 HFm
          have HQQ := Lib.hid hq
          clear hq
          have hstep := Lib.hid (any_snoc (F i) m)
          have hFm : F i m = (fitsW ⟨len, wid, rx, ry⟩ S ps q == 0 && eqP p q) := by rw [HFF.out]; dsimp only; rw [HQQ.out]
          rw [hFm] at hstep
          clear hFm
          obtain ⟨x, hx⟩ : ∃ x, fitsW ⟨len, wid, rx, ry⟩ S ps q = x := ⟨_, rfl⟩
          rw [hx] at HFm hstep
          have HXX := Lib.hid hx
          clear hx
          go_upto_region 21 with fail
          have hbX := Bl.alloc hb7 (.cells #[.int .i64 q.sh, .bool q.fl, .int .i64 q.qu, .int .i64 q.x, .int .i64 q.y] 51)
          have hBX := BlkS.new wr 51 #[.int .i64 q.sh, .bool q.fl, .int .i64 q.qu, .int .i64 q.x, .int .i64 q.y]
          refine wp_world (fun X => Below w6.heap.size w6 X ∧ BlkS X wr.heap.size 51 #[.int .i64 q.sh, .bool q.fl, .int .i64 q.qu, .int .i64 q.x, .int .i64 q.y]) ⟨hbX, hBX⟩ ?_
          clear hbX hBX hb57 hb7 r1 r2 r3 r4 r5
          rintro X ⟨hb7, hBX⟩
          obtain ⟨Q0, hQ0⟩ : ∃ Q0, wr.heap.size = Q0 := ⟨_, rfl⟩
          rw [hQ0] at hBX ⊢
          clear hQ0
          have hb57 := Bl.call hb56 hb7
          obtain ⟨r1, r2, r3, r4, r5, r6⟩ := hBX.cells5
          obtain ⟨a1, a2, a3, a4, a5⟩ := (HB5.out.keep hb57).cells4
          by_cases hx0 : x = 0
          · subst hx0
            obtain ⟨-, hxt, hle⟩ := HFm.out rfl
            have HXT := Lib.hid hxt
            clear hxt
            go_upto_region 22 with (go_at_call 26; refine (fits_any _ _ _ _ _ _ ⟨len, wid, rx, ry⟩ S ps q _ (by omega) (hS5.keep hb57) (hP5.keep hb57)).mono ?_; rintro e w8 ⟨rfl, hb8⟩; rw [HXX.out])
            have hb78 := Bl.call hb7 hb8
            have hb58 := Bl.call hb56 hb78
            have HQ8 := Lib.hid (hBX.keep hb8)
            clear r1 r2 r3 r4 r5 r6 a1 a2 a3 a4 a5 hb8 hb7 hb57 hBX
            obtain ⟨r1, r2, r3, r4, r5, r6⟩ := HQ8.out.cells5
            go_upto_region 23 with (go_at_call 27; refine (extent_any _ _ _ _ _ _ S [q] (w8.alloc (.cells #[.int .i64 q.sh, .bool q.fl, .int .i64 q.qu, .int .i64 q.x, .int .i64 q.y] 51)) (by omega) ((hS5.keep hb58).keep (Bl.alloc (Below.refl _ _) _)) (pus1 w8 q)).mono ?_; rintro e w9 ⟨rfl, hb9⟩; rw [HXT.out])
            have hb89 := Bl.call (Bl.alloc (Below.refl _ w8) (.cells #[.int .i64 q.sh, .bool q.fl, .int .i64 q.qu, .int .i64 q.x, .int .i64 q.y] 51)) hb9
            have hb79 := Bl.call hb78 hb89
            have hb59 := Bl.call hb58 hb89
            have HQ9 := Lib.hid (HQ8.out.keep hb89)
            clear r1 r2 r3 r4 r5 r6 hb89 hb9 hb78 hb58 HQ8
            obtain ⟨r1, r2, r3, r4, r5, r6⟩ := HQ9.out.cells5
            obtain ⟨e1, e2, e3, e4, e5, e6⟩ := (HP5.out.keep hb59).cells5
            have hnl : ¬ maxX (polyW S q).2 < maxX (polyW S p).2 := by omega
            clear hle
            obtain ⟨ob, hob⟩ : ∃ ob, AnyB (fun i => AnyB (F i) (Q i).length) i = ob := ⟨_, rfl⟩
            obtain ⟨ib, hib⟩ : ∃ ib, AnyB (F i) m = ib := ⟨_, rfl⟩
            rw [hob, hib]
            rw [hib] at hstep
            have HOB := Lib.hid hob
            clear hob hib
            cases hcc : (ob || ib)
            · go_wp2_with fail
              exact ⟨⟨m + 1, by omega, by go_num, by rw [hstep.out, ← Bool.or_assoc, HOB.out, hcc]; simp, hb79⟩, by simp [intOf]; omega⟩
            · go_wp2_with fail
              exact ⟨⟨m + 1, by omega, by go_num, by rw [hstep.out, ← Bool.or_assoc, HOB.out, hcc]; simp, hb79⟩, by simp [intOf]; omega⟩
          · have qx : (x != 0) = true := by simpa using hx0
            go_upto_region 22 with (go_at_call 26; refine (fits_any _ _ _ _ _ _ ⟨len, wid, rx, ry⟩ S ps q _ (by omega) (hS5.keep hb57) (hP5.keep hb57)).mono ?_; rintro e w8 ⟨rfl, hb8⟩; rw [HXX.out])
            go_wp2_with fail
            exact ⟨⟨m + 1, by omega, by go_num, by rw [hstep.out, show (x == 0) = false by simpa using hx0]; simp, Bl.call hb7 hb8⟩, by simp [intOf]; omega⟩
        · obtain rfl : nq6 = m := by omega
          go_wp2_with fail
          exact ⟨⟨i + 1, by omega, by go_num, by rw [any_snoc, HNQ.out], Bl.call hb56 hb7⟩, by simp [intOf]; omega⟩
    · obtain rfl : nt = i := by omega
      have hfd : AnyB (fun i => AnyB (F i) (Q i).length) nt = true := by
        obtain ⟨i, j, h1, h2, h3, h4⟩ := HQ3.out trivial
        refine AnyB.yes h1 (AnyB.yes h2 ?_)
        rw [HFF.out]
        dsimp only
        rw [h3, h4, eqP_iff.2 rfl]
        rfl
      rw [hfd]
      clear hfd
      go_wp2_with (go_at_call 15; refine (HA.out _).mono ?_; rintro e w7 ⟨rfl, hb7⟩)
      go_ret
      exact ⟨rfl, Bl.call (Bl.call hw5 hbr) hb7⟩

end Go.Proofs.YtccpgmneflfhjaaGreat

namespace Go.Proofs.YtccpgmneflfhjaaGreat
set_option linter.unusedVariables false
set_option linter.unusedSimpArgs false
open Go.RowKit

set_option maxHeartbeats 4000000 in
set_option maxRecDepth 100000 in
theorem least_18 (A1 A2 : Option Addr) (c1 c2 n1 n2 : Nat) (b : Bed4) (S : List Shp) (ps : List Pt5) (sh : Int) (p : Pt5) (w : World) (hS : ShW w A1 n1 S) (hP : PuS w A2 n2 ps) (hn1 : n1 ≤ 4) (hn2 : n2 ≤ 3) (hfew : few4W S = true) (h : stepW b S ps sh = (18, p)) :
    Calls Tryz.prog 5 #[bedV b, .slice A1 n1 c1, .slice A2 n2 c2, .int .i64 sh] w fun e w' => e = .returned (.bool true) ∧ Below w.heap.size w w' := by
  have hB := Lib.hid (BlkS.new w 25 #[.int .i64 b.len, .int .i64 b.wid, .int .i64 b.rx, .int .i64 b.ry])
  have hbw := Lib.hid (show Below w.heap.size w (w.alloc (.cells #[.int .i64 b.len, .int .i64 b.wid, .int .i64 b.rx, .int .i64 b.ry] 25)) from (Bl.alloc (Below.refl _ _) _))
  have HW := Lib.hid (show (few4W S && decide (n2 ≤ 3)) = true by rw [hfew]; simp [hn2])
  have HA := Lib.hid ex_any
  have hSS := hS.shs (by omega)
  obtain ⟨⟨k, rfl, hkl⟩, hf1, Q, hQ, hQ2, hQ3⟩ := least_facts h (.inr rfl)
  rw [Int.toNat_natCast] at hQ hQ2 hQ3
  have hkn : k < n1 := by rw [← hS.1]; exact hkl
  have hkI : (k : Int) < (n1 : Int) := by omega
  have hk0 : (0 : Int) ≤ (k : Int) := by omega
  obtain ⟨ts, hts⟩ : ∃ ts, allW (shp S k).grain false = ts := ⟨_, rfl⟩
  rw [hts] at hQ hQ2 hQ3
  obtain ⟨nt, hnt⟩ : ∃ nt, ts.length = nt := ⟨_, rfl⟩
  rw [hnt] at hQ hQ2 hQ3
  have HTS := Lib.hid hts
  have HNT := Lib.hid hnt
  have HQ := Lib.hid hQ
  have HQ2 := Lib.hid hQ2
  have HQ3 := Lib.hid hQ3
  have HST := Lib.hid h
  have hn8 : nt ≤ 8 := by rw [← hnt, ← hts]; exact allW_len _ _
  clear hf1 hQ hQ2 hQ3 h hfew hkl hts hnt
  obtain ⟨len, wid, rx, ry⟩ := b
  unfold bedV
  dsimp only at hB hbw ⊢
  have heqp := eqInPut
  go_enter Tryz.func5, Tryz.ntmps5
  go_upto_region 4 with (first | (go_at_call 22; refine (step_any _ _ _ _ _ _ ⟨len, wid, rx, ry⟩ S ps _ w1 (by omega) (hSS.keep (Bl.call hbw.out hb1)) (hP.keep (Bl.call hbw.out hb1))).mono ?_; rintro e w2 ⟨rfl, hb2⟩; rw [HST.out]; unfold putV; dsimp only) | (go_at_call 25; refine (lawFew_any _ _ _ _ _ _ S _ (hS.keep hbw.out) (by omega)).mono ?_; rintro e w1 ⟨rfl, hb1⟩; rw [HW.out]; obtain ⟨a1, a2, a3, a4, a5⟩ := (hB.out.keep hb1).cells4))
  have hY := Bl.call (Below.refl _ (w.alloc (.cells #[.int .i64 len, .int .i64 wid, .int .i64 rx, .int .i64 ry] 25))) (Bl.alloc (Bl.call hb1 hb2) (.cells #[.int .i64 p.sh, .bool p.fl, .int .i64 p.qu, .int .i64 p.x, .int .i64 p.y] 51))
  have hB5 := BlkS.new w2 51 #[.int .i64 p.sh, .bool p.fl, .int .i64 p.qu, .int .i64 p.x, .int .i64 p.y]
  refine wp_world (fun Y => Below (w.alloc (.cells #[.int .i64 len, .int .i64 wid, .int .i64 rx, .int .i64 ry] 25)).heap.size (w.alloc (.cells #[.int .i64 len, .int .i64 wid, .int .i64 rx, .int .i64 ry] 25)) Y ∧ BlkS Y w2.heap.size 51 #[.int .i64 p.sh, .bool p.fl, .int .i64 p.qu, .int .i64 p.x, .int .i64 p.y]) ⟨hY, hB5⟩ ?_
  clear hY hB5
  rintro Y ⟨hY, hB5⟩
  obtain ⟨P0, hP0⟩ : ∃ P0, w2.heap.size = P0 := ⟨_, rfl⟩
  rw [hP0] at hB5 ⊢
  have HBY := Lib.hid (hB.out.keep hY)
  have hwY := Bl.call hbw.out hY
  have hSY := hSS.keep hwY
  have hPY := hP.keep hwY
  have HPU := Lib.hid hB5
  clear hb1 hb2 hbw hB hSS hS hP a1 a2 a3 a4 a5 hP0 hB5 hY
  obtain ⟨e1, e2, e3, e4, e5, e6⟩ := HPU.out.cells5
  obtain ⟨d1, d2, d3, d4, d5⟩ := HBY.out.cells4
  go_upto_region 8 with fail
  have hb3 := Below.refl Y.heap.size Y
  have HBZ := Lib.hid (HBY.out.keep hb3)
  have HPZ := Lib.hid (HPU.out.keep hb3)
  have hSZ := hSY.keep hb3
  have hPZ := hPY.keep hb3
  have hwZ := Bl.call hwY hb3
  clear HBY HPU hSY hPY hwY hb3 e1 e2 e3 e4 e5 e6 d1 d2 d3 d4 d5
  obtain ⟨e1, e2, e3, e4, e5, e6⟩ := HPZ.out.cells5
  go_upto_region 9 with (go_at_call 27; refine (extent_any _ _ _ _ _ _ S [p] (Y.alloc (.cells #[.int .i64 p.sh, .bool p.fl, .int .i64 p.qu, .int .i64 p.x, .int .i64 p.y] 51)) (by omega) (hSZ.keep (Bl.alloc (Below.refl _ _) _)) (pus1 Y p)).mono ?_; rintro e w4 ⟨rfl, hb4⟩)
  have hb34 := Bl.call (Bl.alloc (Below.refl _ Y) (.cells #[.int .i64 p.sh, .bool p.fl, .int .i64 p.qu, .int .i64 p.x, .int .i64 p.y] 51)) hb4
  have HB := Lib.hid (HBZ.out.keep hb34)
  have HP := Lib.hid (HPZ.out.keep hb34)
  have hS := hSZ.keep hb34
  have hP := hPZ.keep hb34
  have hw4 := Bl.call hwZ hb34
  clear HBZ HPZ hSZ hPZ hwZ hb34 hb4 e1 e2 e3 e4 e5 e6
  obtain ⟨ba, oa, rfl, hbl, hshA⟩ := hS.at_ hkn
  obtain ⟨sk, hsk⟩ : ∃ sk, shp S k = sk := ⟨_, rfl⟩
  rw [hsk] at hshA HTS
  clear hsk
  obtain ⟨spl, gr, mt, ⟨ax, ay⟩⟩ := sk
  obtain ⟨Ak, ck, g1, g2, g3, g4, g5, g6, g7, g8, g9⟩ := hshA
  dsimp only at g6 HTS
  clear g1 g2 g3 g4 g5 g7 g8 g9
  go_upto_region 13 with (go_at_call 19; refine (all_any _ _ _).mono ?_; rintro e w5 ⟨v5, rfl, ho5, hb5⟩; rw [HTS.out] at ho5; obtain ⟨At, ct, rfl, hTt, -⟩ := OwT.trs ho5; rw [HNT.out] at hTt ⊢)
  have HB5 := Lib.hid (HB.out.keep hb5)
  have HP5 := Lib.hid (HP.out.keep hb5)
  have hS5 := hS.keep hb5
  have hP5 := hP.keep hb5
  have hw5 := Bl.call hw4 hb5
  clear HB HP hS hP hb5 g6 ho5
  go_loopw [13, 93] (fun v i wr => ∃ k : Nat, k ≤ nt ∧ i = .int .i64 k ∧ v = .bool false ∧ Below w5.heap.size w5 wr) (fun _ i _ => nt - (intOf i).toNat)
  case atStart => exact ⟨0, Nat.zero_le _, rfl, rfl, Below.refl _ _⟩
  case round =>
    obtain ⟨i, hi, rfl, rfl, hbr⟩ := hrel
    by_cases hlt : i < nt
    · obtain ⟨bt, rfl, t1, t2⟩ := (hTt.keep hbr).at_ hlt
      have hcq := HQ.out i hlt
      obtain ⟨tj, htj⟩ : ∃ tj, tr ts i = tj := ⟨_, rfl⟩
      rw [htj] at t1 t2 hcq
      clear htj
      obtain ⟨tf, tq⟩ := tj
      dsimp only at t1 t2 hcq
      have HC := Lib.hid hcq
      clear hcq
      have hcf : ∀ j, j < (Q i).length → fitsW ⟨len, wid, rx, ry⟩ S ps (pt (Q i) j) = 0 → _ := HQ2.out i hlt
      have HC2 := Lib.hid hcf
      clear hcf
      obtain ⟨a1, a2, a3, a4, a5⟩ := (HB5.out.keep hbr).cells4
      go_upto_region 15 with fail
      have hbX := Bl.alloc hbr (.cells #[.bool tf, .int .i64 tq] 44)
      have hBX := BlkS.new wr 44 #[.bool tf, .int .i64 tq]
      refine wp_world (fun X => Below w5.heap.size w5 X ∧ BlkS X wr.heap.size 44 #[.bool tf, .int .i64 tq]) ⟨hbX, hBX⟩ ?_
      clear hbX hBX t1 t2 a1 a2 a3 a4 a5 hbr
      rintro X ⟨hbr, hBX⟩
      obtain ⟨t1, t2, t3, t4, t5⟩ := hBX.cells2
      obtain ⟨a1, a2, a3, a4, a5⟩ := (HB5.out.keep hbr).cells4
      go_upto_region 16 with (go_at_call 28; refine (cands_any _ _ _ _ _ _ ⟨len, wid, rx, ry⟩ S ps _ tf tq X (by omega) (hS5.keep hbr) (hP5.keep hbr)).mono ?_; rintro e w6 ⟨v6, rfl, ho6, hb6⟩; rw [HC.out] at ho6 ⊢)
      obtain ⟨A6, c6, rfl, hQi⟩ := OwP.pus ho6
      have hl6 : (Q i).length ≤ 9223372036854775807 := by
        rcases OwG.form ho6 with ⟨e1, e2⟩ | ⟨g, cap, e1, _, _, e3, e9⟩
        · rw [e2]; exact Nat.zero_le _
        · unfold maxLen at e9; omega
      obtain ⟨nq6, hnq6⟩ : ∃ nq6, (Q i).length = nq6 := ⟨_, rfl⟩
      rw [hnq6] at hQi hl6 HC2 ⊢
      have HNQ := Lib.hid hnq6
      clear hnq6 ho6 t1 t2 t3 t4 t5 a1 a2 a3 a4 a5 hBX
      have hb56 := Bl.call hbr hb6
      clear hbr hb6
      go_wp2_with fail
      go_loopw [13, 110] (fun v i1 wr => ∃ m : Nat, m ≤ nq6 ∧ i1 = .int .i64 m ∧ v = .bool false ∧ Below w6.heap.size w6 wr) (fun _ i _ => nq6 - (intOf i).toNat)
      case atStart => exact ⟨0, Nat.zero_le _, rfl, rfl, Below.refl _ _⟩
      case round =>
        obtain ⟨m, hm, rfl, rfl, hb7⟩ := hrel
        by_cases hlm : m < nq6
        · have hb57 := Bl.call hb56 hb7
          obtain ⟨b1, o1, rfl, -, r1, r2, r3, r4, r5⟩ := (hQi.keep hb7).at_ hlm
          have HFm := Lib.hid (fun h => HC2.out m hlm h)
          obtain ⟨q, hq⟩ : ∃ q, pt (Q i) m = q := ⟨_, rfl⟩
          rw [hq] at r1 r2 r3 r4 r5 HFm
          have HQQ := Lib.hid hq
          clear hq
          obtain ⟨x, hx⟩ : ∃ x, fitsW ⟨len, wid, rx, ry⟩ S ps q = x := ⟨_, rfl⟩
          rw [hx] at HFm
          have HXX := Lib.hid hx
          clear hx
          go_upto_region 21 with fail
          have hbX := Bl.alloc hb7 (.cells #[.int .i64 q.sh, .bool q.fl, .int .i64 q.qu, .int .i64 q.x, .int .i64 q.y] 51)
          have hBX := BlkS.new wr 51 #[.int .i64 q.sh, .bool q.fl, .int .i64 q.qu, .int .i64 q.x, .int .i64 q.y]
          refine wp_world (fun X => Below w6.heap.size w6 X ∧ BlkS X wr.heap.size 51 #[.int .i64 q.sh, .bool q.fl, .int .i64 q.qu, .int .i64 q.x, .int .i64 q.y]) ⟨hbX, hBX⟩ ?_
          clear hbX hBX hb57 hb7 r1 r2 r3 r4 r5
          rintro X ⟨hb7, hBX⟩
          obtain ⟨Q0, hQ0⟩ : ∃ Q0, wr.heap.size = Q0 := ⟨_, rfl⟩
          rw [hQ0] at hBX ⊢
          clear hQ0
          have hb57 := Bl.call hb56 hb7
          obtain ⟨r1, r2, r3, r4, r5, r6⟩ := hBX.cells5
          obtain ⟨a1, a2, a3, a4, a5⟩ := (HB5.out.keep hb57).cells4
          by_cases hx0 : x = 0
          · exact absurd (HFm.out hx0).1 (by decide)
          · have qx : (x != 0) = true := by simpa using hx0
            go_upto_region 22 with (go_at_call 26; refine (fits_any _ _ _ _ _ _ ⟨len, wid, rx, ry⟩ S ps q _ (by omega) (hS5.keep hb57) (hP5.keep hb57)).mono ?_; rintro e w8 ⟨rfl, hb8⟩; rw [HXX.out])
            go_wp2_with fail
            exact ⟨⟨m + 1, by omega, by go_num, Bl.call hb7 hb8⟩, by simp [intOf]; omega⟩
        · obtain rfl : nq6 = m := by omega
          go_wp2_with fail
          exact ⟨⟨i + 1, by omega, by go_num, rfl, Bl.call hb56 hb7⟩, by simp [intOf]; omega⟩
    · obtain rfl : nt = i := by omega
      go_wp2_with (go_at_call 15; refine (HA.out _).mono ?_; rintro e w7 ⟨rfl, hb7⟩)
      go_ret
      exact ⟨rfl, Bl.call (Bl.call hw5 hbr) hb7⟩

end Go.Proofs.YtccpgmneflfhjaaGreat

namespace Go.Proofs.YtccpgmneflfhjaaGreat
set_option linter.unusedVariables false
set_option linter.unusedSimpArgs false
open Go.RowKit

set_option maxHeartbeats 4000000 in
set_option maxRecDepth 100000 in
theorem least_few (A1 A2 : Option Addr) (c1 c2 n1 n2 : Nat) (b : Bed4) (S : List Shp) (sh : Int) (w : World) (hS : ShW w A1 n1 S) (hm : n2 ≤ 9223372036854775807) (hfew : (few4W S && decide (n2 ≤ 3)) = false) :
    Calls Tryz.prog 5 #[bedV b, .slice A1 n1 c1, .slice A2 n2 c2, .int .i64 sh] w fun e w' => e = .returned (.bool true) ∧ Below w.heap.size w w' := by
  have hbw := Lib.hid (show Below w.heap.size w (w.alloc (.cells #[.int .i64 b.len, .int .i64 b.wid, .int .i64 b.rx, .int .i64 b.ry] 25)) from (Bl.alloc (Below.refl _ _) _))
  have HW := Lib.hid hfew
  have HA := Lib.hid ex_any
  clear hfew
  obtain ⟨len, wid, rx, ry⟩ := b
  unfold bedV
  dsimp only at hbw ⊢
  go_enter Tryz.func5, Tryz.ntmps5
  go_wp2_with (first | (go_at_call 15; refine (HA.out _).mono ?_; rintro e w2 ⟨rfl, hb2⟩) | (go_at_call 25; refine (lawFew_any _ _ _ _ _ _ S _ (hS.keep hbw.out) (by omega)).mono ?_; rintro e w1 ⟨rfl, hb1⟩; rw [HW.out]))
  go_ret
  exact ⟨rfl, Bl.call (Bl.call hbw.out hb1) hb2⟩

theorem lawLeast (A1 A2 : Option Addr) (c1 c2 n1 n2 : Nat) (b : Bed4) (S : List Shp) (ps : List Pt5) (sh : Int) (w : World) (hS : ShW w A1 n1 S) (hP : PuS w A2 n2 ps) (hm : n2 ≤ 9223372036854775807) :
    Calls Tryz.prog 5 #[bedV b, .slice A1 n1 c1, .slice A2 n2 c2, .int .i64 sh] w fun e w' => e = .returned (.bool true) ∧ Below w.heap.size w w' := by
  cases hfew : (few4W S && decide (n2 ≤ 3)) with
  | false => exact least_few A1 A2 c1 c2 n1 n2 b S sh w hS hm hfew
  | true =>
    obtain ⟨h4, h3⟩ := Bool.and_eq_true_iff.1 hfew
    have hn1 := few4_len h4
    rw [hS.1] at hn1
    have hn2 : n2 ≤ 3 := by simpa using h3
    rcases step_cases b S ps sh with ⟨g1, g2, g3⟩ | ⟨-, -, E, -, hc⟩
    · exact least_bad A1 A2 c1 c2 n1 n2 b S ps sh (stepW b S ps sh).1 w hS hP hn1 hn2 h4 (Prod.ext rfl g3) g1 g2
    · rcases hc with ⟨-, e⟩ | ⟨-, e⟩
      · exact least_18 A1 A2 c1 c2 n1 n2 b S ps sh _ w hS hP hn1 hn2 h4 e
      · exact least_0 A1 A2 c1 c2 n1 n2 b S ps sh _ w hS hP hn1 hn2 h4 e

end Go.Proofs.YtccpgmneflfhjaaGreat

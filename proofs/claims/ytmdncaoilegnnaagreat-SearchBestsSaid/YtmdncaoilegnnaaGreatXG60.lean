/- Lean texts of the claim. -/
import Derived.Test.YtmdncaoilegnnaaGreatXG59
import Derived.Test.YtmdncaoilegnnaaGreatXE
import Derived.Test.YtmdncaoilegnnaaGreatXG24
import Derived.Test.YtmdncaoilegnnaaGreatXG18
import Derived.Test.YtmdncaoilegnnaaGreatXG56
import Derived.Test.YtmdncaoilegnnaaGreatXB
namespace Go.Proofs.YtmdncaoilegnnaaGreat
set_option linter.unusedVariables false
set_option linter.unusedSimpArgs false
section
open Go.RowKit
set_option maxHeartbeats 2000000 in
theorem ron_any (bd : Bed4) (A : Option Addr) (cap n : Nat) (l : List (Int × Int)) (w : World) (hl : n ≤ 1000000) (hs : SpS w A n l) :
 Calls Tryz.prog 82 #[bedV bd, .slice A n cap] w fun e w' => e = .returned (.bool (!AnyB (fun i => outBed bd (gt l i)) n)) ∧ Below w.heap.size w w' := by
 obtain ⟨len, wid, rx, ry⟩ := bd
 unfold bedV
 dsimp only
 go_enter Tryz.func82, Tryz.ntmps82
 go_wp2_with fail
 go_loopw [5] (fun i wr => ∃ j : Nat, j ≤ n ∧ i = .int .i64 j ∧ Hid (AnyB (fun i => outBed ⟨len, wid, rx, ry⟩ (gt l i)) j = false) ∧ Cls w [(⟨w.heap.size, 0, none⟩, .int .i64 len), (⟨w.heap.size, 1, none⟩, .int .i64 wid)] wr) (fun i _ => n - (intOf i).toNat)
 case atStart => exact ⟨0, Nat.zero_le _, rfl, Hj (AnyB.zero _), (Bl.alloc Br _), by simp only [List.mem_cons, List.not_mem_nil, forall_eq_or_imp, or_false, forall_eq]; go_simp⟩
 case round =>
  obtain ⟨j, hj, rfl, hp, hC⟩ := hrel
  by_cases hlt : j < n
  ·obtain ⟨b, off, rfl, -, hcc⟩ := (hs.keep hC.1).at_ hlt
   obtain ⟨c1, c2⟩ := hcc j hlt
   clear hcc
   have hx := hC.2
   simp only [List.mem_cons, List.not_mem_nil, forall_eq_or_imp, or_false, forall_eq] at hx
   have z1 : (j : Int) < (n : Int) := by omega
   have HO := Hj (show outBed ⟨len, wid, rx, ry⟩ (gt l j) = (decide ((gt l j).1 < 0) || decide (len < (gt l j).1) || decide ((gt l j).2 < 0) || decide (wid < (gt l j).2)) from rfl)
   obtain ⟨v, hv⟩ : ∃ v, gt l j = v := ⟨_, rfl⟩
   have HGV := Hj hv
   rw [hv] at c1 c2
   replace HO := Hj (show outBed ⟨len, wid, rx, ry⟩ (gt l j) = (decide (v.1 < 0) || decide (len < v.1) || decide (v.2 < 0) || decide (wid < v.2)) by rw [HO.out, hv])
   clear hv
   cases h1 : decide (v.1 < 0) with
   | true =>
     rw [h1, Bool.true_or, Bool.true_or, Bool.true_or] at HO
     have h1' := of_decide_eq_true h1
     go_wp2_with fail
     refine Xc w [(⟨b, off + j * 2, none⟩, .int .i64 v.1), (⟨b, off + j * 2 + 1, none⟩, .int .i64 v.2), (⟨w.heap.size, 0, none⟩, .int .i64 len), (⟨w.heap.size, 1, none⟩, .int .i64 wid)] (by kernel_rfl) (by kernel_rfl) ⟨hC.1, by simp only [List.mem_cons, List.not_mem_nil, forall_eq_or_imp, or_false, forall_eq]; go_simp⟩ ?_
     repeat
      first
      | go_big_quiet_skip
      | go_big_quiet_want
        apply Exists.intro
        refine And.intro ?_ ?_
        ·intro w1 hw1
         have hx := hw1.2
         simp only [List.mem_cons, List.not_mem_nil, forall_eq_or_imp, or_false, forall_eq] at hx
         go_simp
         first | rfl
        go_simp
        go_big_quiet_on
     refine wpQuiet_nil ?_
     intro w9 hCw9
     have hC9 : Cls w [(⟨w.heap.size, 0, none⟩, .int .i64 len), (⟨w.heap.size, 1, none⟩, .int .i64 wid)] w9 := ⟨hCw9.1, fun z hz => hCw9.2 z (List.mem_cons_of_mem _ (List.mem_cons_of_mem _ hz))⟩
     clear hCw9 c1 c2 hx hC
     go_wp2_with fail
     go_ret
     exact ⟨ret_bool (show (!AnyB (fun i => outBed ⟨len, wid, rx, ry⟩ (gt l i)) n) = false by rw [AnyB.yes hlt HO.out]; rfl).symm, hC9.1⟩
   | false =>
     have h1' := of_decide_eq_false h1
     cases h2 : decide (len < v.1) with
     | true =>
       rw [h2, Bool.or_true, Bool.true_or, Bool.true_or] at HO
       have h2' := of_decide_eq_true h2
       go_wp2_with fail
       refine Xc w [(⟨b, off + j * 2, none⟩, .int .i64 v.1), (⟨b, off + j * 2 + 1, none⟩, .int .i64 v.2), (⟨w.heap.size, 0, none⟩, .int .i64 len), (⟨w.heap.size, 1, none⟩, .int .i64 wid)] (by kernel_rfl) (by kernel_rfl) ⟨hC.1, by simp only [List.mem_cons, List.not_mem_nil, forall_eq_or_imp, or_false, forall_eq]; go_simp⟩ ?_
       repeat
        first
        | go_big_quiet_skip
        | go_big_quiet_want
          apply Exists.intro
          refine And.intro ?_ ?_
          ·intro w1 hw1
           have hx := hw1.2
           simp only [List.mem_cons, List.not_mem_nil, forall_eq_or_imp, or_false, forall_eq] at hx
           go_simp
           first | rfl
          go_simp
          go_big_quiet_on
       refine wpQuiet_nil ?_
       intro w9 hCw9
       have hC9 : Cls w [(⟨w.heap.size, 0, none⟩, .int .i64 len), (⟨w.heap.size, 1, none⟩, .int .i64 wid)] w9 := ⟨hCw9.1, fun z hz => hCw9.2 z (List.mem_cons_of_mem _ (List.mem_cons_of_mem _ hz))⟩
       clear hCw9 c1 c2 hx hC
       go_wp2_with fail
       go_ret
       exact ⟨ret_bool (show (!AnyB (fun i => outBed ⟨len, wid, rx, ry⟩ (gt l i)) n) = false by rw [AnyB.yes hlt HO.out]; rfl).symm, hC9.1⟩
     | false =>
       have h2' := of_decide_eq_false h2
       cases h3 : decide (v.2 < 0) with
       | true =>
         rw [h3, Bool.or_true, Bool.true_or] at HO
         have h3' := of_decide_eq_true h3
         go_wp2_with fail
         refine Xc w [(⟨b, off + j * 2, none⟩, .int .i64 v.1), (⟨b, off + j * 2 + 1, none⟩, .int .i64 v.2), (⟨w.heap.size, 0, none⟩, .int .i64 len), (⟨w.heap.size, 1, none⟩, .int .i64 wid)] (by kernel_rfl) (by kernel_rfl) ⟨hC.1, by simp only [List.mem_cons, List.not_mem_nil, forall_eq_or_imp, or_false, forall_eq]; go_simp⟩ ?_
         repeat
          first
          | go_big_quiet_skip
          | go_big_quiet_want
            apply Exists.intro
            refine And.intro ?_ ?_
            ·intro w1 hw1
             have hx := hw1.2
             simp only [List.mem_cons, List.not_mem_nil, forall_eq_or_imp, or_false, forall_eq] at hx
             go_simp
             first | rfl
            go_simp
            go_big_quiet_on
         refine wpQuiet_nil ?_
         intro w9 hCw9
         have hC9 : Cls w [(⟨w.heap.size, 0, none⟩, .int .i64 len), (⟨w.heap.size, 1, none⟩, .int .i64 wid)] w9 := ⟨hCw9.1, fun z hz => hCw9.2 z (List.mem_cons_of_mem _ (List.mem_cons_of_mem _ hz))⟩
         clear hCw9 c1 c2 hx hC
         go_wp2_with fail
         go_ret
         exact ⟨ret_bool (show (!AnyB (fun i => outBed ⟨len, wid, rx, ry⟩ (gt l i)) n) = false by rw [AnyB.yes hlt HO.out]; rfl).symm, hC9.1⟩
       | false =>
         have h3' := of_decide_eq_false h3
         cases h4 : decide (wid < v.2) with
         | true =>
           rw [h4, Bool.or_true] at HO
           have h4' := of_decide_eq_true h4
           go_wp2_with fail
           refine Xc w [(⟨b, off + j * 2, none⟩, .int .i64 v.1), (⟨b, off + j * 2 + 1, none⟩, .int .i64 v.2), (⟨w.heap.size, 0, none⟩, .int .i64 len), (⟨w.heap.size, 1, none⟩, .int .i64 wid)] (by kernel_rfl) (by kernel_rfl) ⟨hC.1, by simp only [List.mem_cons, List.not_mem_nil, forall_eq_or_imp, or_false, forall_eq]; go_simp⟩ ?_
           repeat
            first
            | go_big_quiet_skip
            | go_big_quiet_want
              apply Exists.intro
              refine And.intro ?_ ?_
              ·intro w1 hw1
               have hx := hw1.2
               simp only [List.mem_cons, List.not_mem_nil, forall_eq_or_imp, or_false, forall_eq] at hx
               go_simp
               first | rfl
              go_simp
              go_big_quiet_on
           refine wpQuiet_nil ?_
           intro w9 hCw9
           have hC9 : Cls w [(⟨w.heap.size, 0, none⟩, .int .i64 len), (⟨w.heap.size, 1, none⟩, .int .i64 wid)] w9 := ⟨hCw9.1, fun z hz => hCw9.2 z (List.mem_cons_of_mem _ (List.mem_cons_of_mem _ hz))⟩
           clear hCw9 c1 c2 hx hC
           go_wp2_with fail
           go_ret
           exact ⟨ret_bool (show (!AnyB (fun i => outBed ⟨len, wid, rx, ry⟩ (gt l i)) n) = false by rw [AnyB.yes hlt HO.out]; rfl).symm, hC9.1⟩
         | false =>
           have h4' := of_decide_eq_false h4
           rw [h1, h2, h3, h4] at HO
           go_wp2_with fail
           refine Xc w [(⟨b, off + j * 2, none⟩, .int .i64 v.1), (⟨b, off + j * 2 + 1, none⟩, .int .i64 v.2), (⟨w.heap.size, 0, none⟩, .int .i64 len), (⟨w.heap.size, 1, none⟩, .int .i64 wid)] (by kernel_rfl) (by kernel_rfl) ⟨hC.1, by simp only [List.mem_cons, List.not_mem_nil, forall_eq_or_imp, or_false, forall_eq]; go_simp⟩ ?_
           repeat
            first
            | go_big_quiet_skip
            | go_big_quiet_want
              apply Exists.intro
              refine And.intro ?_ ?_
              ·intro w1 hw1
               have hx := hw1.2
               simp only [List.mem_cons, List.not_mem_nil, forall_eq_or_imp, or_false, forall_eq] at hx
               go_simp
               first | rfl
              go_simp
              go_big_quiet_on
           refine wpQuiet_nil ?_
           intro w9 hCw9
           have hC9 : Cls w [(⟨w.heap.size, 0, none⟩, .int .i64 len), (⟨w.heap.size, 1, none⟩, .int .i64 wid)] w9 := ⟨hCw9.1, fun z hz => hCw9.2 z (List.mem_cons_of_mem _ (List.mem_cons_of_mem _ hz))⟩
           clear hCw9 c1 c2 hx hC
           go_wp2_with fail
           exact ⟨⟨j + 1, by omega, by go_num, Hj (AnyB.succ hp.out HO.out), hC9⟩, by simp [intOf]; omega⟩
  ·obtain rfl : n = j := by omega
   go_wp2_with fail
   go_ret
   exact ⟨ret_bool (by rw [hp.out]; rfl), hC.1⟩
end
section
set_option maxRecDepth 100000
open Go.RowKit
set_option maxHeartbeats 1000000 in
theorem rmatched_any (rx ry : Int) (Ak : Option Addr) (nk ck : Nat) (gr : Int) (mt : Bool) (ax ay : Int) (p : Pt5) (w : World) :
 Calls Tryz.prog 83 #[.agg #[.int .i64 rx, .int .i64 ry], .agg #[.slice Ak nk ck, .int .i64 gr, .bool mt, .int .i64 ax, .int .i64 ay], putV p] w fun e w' => e = .returned (.bool (!mt || matW rx ry (ax, ay) p)) ∧ Below w.heap.size w w' := by
 obtain ⟨sh, fl, qu, x, y⟩ := p
 unfold putV
 dsimp only
 cases mt with
 | false =>
   go_enter Tryz.func83, Tryz.ntmps83
   go_wp2_with fail
   go_ret
   exact ⟨rfl, (Bl.alloc (Bl.alloc (Bl.alloc Br _) _) _)⟩
 | true =>
   obtain ⟨W3, hW3⟩ : ∃ W3, W3 = (((w.alloc (.cells #[.int .i64 rx, .int .i64 ry] 23)).alloc (.cells #[.slice Ak nk ck, .int .i64 gr, .bool true, .int .i64 ax, .int .i64 ay] 49)).alloc (.cells #[.int .i64 sh, .bool fl, .int .i64 qu, .int .i64 x, .int .i64 y] 39)) := ⟨_, rfl⟩
   have h0 : BlkS W3 w.heap.size 23 #[.int .i64 rx, .int .i64 ry] := by rw [hW3]; exact ((BlkS.new _ _ _).alloc _).alloc _
   have h1 : BlkS W3 (w.heap.size + 1) 49 #[.slice Ak nk ck, .int .i64 gr, .bool true, .int .i64 ax, .int .i64 ay] := by rw [hW3]; exact (BlkS.new2 _ _ _ _).alloc _
   have h2 : BlkS W3 (w.heap.size + 1 + 1) 39 #[.int .i64 sh, .bool fl, .int .i64 qu, .int .i64 x, .int .i64 y] := by rw [hW3]; exact BlkS.new3 _ _ _ _ _
   have hbw : Below w.heap.size w W3 := by rw [hW3]; exact (Bl.alloc (Bl.alloc (Bl.alloc Br _) _) _)
   have H0 := Hj h0
   have H1 := Hj h1
   have H2 := Hj h2
   have HBW := Hj hbw
   subst hW3
   clear h0 h1 h2 hbw
   have tok : True := trivial
   cases ho : outB 1048576 (ax, ay) with
   | true =>
     have HMM := Hj (show matW rx ry (ax, ay) ⟨sh, fl, qu, x, y⟩ = false by unfold matW; rw [ho]; rfl)
     have HO := Hj ho
     clear ho
     go_enter Tryz.func83, Tryz.ntmps83
     go_wp2_with (go_at_call 64; have _t := tok; refine (rnear_any _ _ _).mono ?_; rintro e w1 ⟨rfl, hb1⟩; rw [HO.out]; clear tok; have k01 := H0.out.keep hb1; have k11 := H1.out.keep hb1; have k21 := H2.out.keep hb1; obtain ⟨a1, a2, a3, a4, a5, a6⟩ := k11.cells5; obtain ⟨b1, b2, b3, b4, b5, b6⟩ := k21.cells5)
     go_ret
     exact ⟨ret_bool (by rw [HMM.out]; rfl), Bl.call HBW.out hb1⟩
   | false =>
     have HO := Hj ho
     obtain ⟨im, him⟩ : ∃ im, applyW fl qu (ax, ay) = im := ⟨_, rfl⟩
     obtain ⟨ix, iy⟩ := im
     have HIM := Hj him
     have HMM := Hj (show matW rx ry (ax, ay) ⟨sh, fl, qu, x, y⟩ = (!outB 1048576 (wrap64 (ix + x), wrap64 (iy + y)) && sameW rx ry (wrap64 (ix + x)) (wrap64 (iy + y)) 0 0) by unfold matW; rw [ho, him]; rfl)
     clear him ho
     cases ho2 : outB 1048576 (wrap64 (ix + x), wrap64 (iy + y)) with
     | true =>
       have HO2 := Hj ho2
       rw [ho2] at HMM
       clear ho2
       go_enter Tryz.func83, Tryz.ntmps83
       go_wp2_with (first | (go_at_call 64; have _t2 := hb2; refine (rnear_any _ _ _).mono ?_; rintro e w3 ⟨rfl, hb3⟩; rw [HO2.out]; have k03 := ((k02.alloc _).alloc _).keep hb3; have k33 := BlkS.keep (BlkS.new2 w2 (.cells #[.int .i64 ix, .int .i64 iy] 37) 37 #[.int .i64 (wrap64 (ix + x)), .int .i64 (wrap64 (iy + y))]) hb3; obtain ⟨m1, m2, m3, m4, m5⟩ := k03.cells2; obtain ⟨r1, r2, r3, r4, r5⟩ := k33.cells2) | (go_at_call 69; refine (rapply_any _ _ _ _ _).mono ?_; rintro e w2 ⟨rfl, hb2⟩; rw [HIM.out]; have k02 := k01.keep hb2; have k22 := k21.keep hb2; obtain ⟨c1, c2, c3, c4, c5, c6⟩ := k22.cells5; obtain ⟨n1, n2, n3, n4, n5⟩ := k02.cells2) | (go_at_call 64; have _t := tok; refine (rnear_any _ _ _).mono ?_; rintro e w1 ⟨rfl, hb1⟩; rw [HO.out]; clear tok; have k01 := H0.out.keep hb1; have k11 := H1.out.keep hb1; have k21 := H2.out.keep hb1; obtain ⟨a1, a2, a3, a4, a5, a6⟩ := k11.cells5; obtain ⟨b1, b2, b3, b4, b5, b6⟩ := k21.cells5))
       go_ret
       exact ⟨ret_bool (by rw [HMM.out]; rfl), Bl.call (Bl.alloc (Bl.alloc (Bl.call (Bl.call HBW.out hb1) hb2) _) _) hb3⟩
     | false =>
       have HO2 := Hj ho2
       rw [ho2] at HMM
       clear ho2
       go_enter Tryz.func83, Tryz.ntmps83
       go_wp2_with (first | (go_at_call 112; refine (rsame_any _ _ _ _ _ _ _).mono ?_; rintro e w4 ⟨rfl, hb4⟩) | (go_at_call 64; have _t2 := hb2; refine (rnear_any _ _ _).mono ?_; rintro e w3 ⟨rfl, hb3⟩; rw [HO2.out]; have k03 := ((k02.alloc _).alloc _).keep hb3; have k33 := BlkS.keep (BlkS.new2 w2 (.cells #[.int .i64 ix, .int .i64 iy] 37) 37 #[.int .i64 (wrap64 (ix + x)), .int .i64 (wrap64 (iy + y))]) hb3; obtain ⟨m1, m2, m3, m4, m5⟩ := k03.cells2; obtain ⟨r1, r2, r3, r4, r5⟩ := k33.cells2) | (go_at_call 69; refine (rapply_any _ _ _ _ _).mono ?_; rintro e w2 ⟨rfl, hb2⟩; rw [HIM.out]; have k02 := k01.keep hb2; have k22 := k21.keep hb2; obtain ⟨c1, c2, c3, c4, c5, c6⟩ := k22.cells5; obtain ⟨n1, n2, n3, n4, n5⟩ := k02.cells2) | (go_at_call 64; have _t := tok; refine (rnear_any _ _ _).mono ?_; rintro e w1 ⟨rfl, hb1⟩; rw [HO.out]; clear tok; have k01 := H0.out.keep hb1; have k11 := H1.out.keep hb1; have k21 := H2.out.keep hb1; obtain ⟨a1, a2, a3, a4, a5, a6⟩ := k11.cells5; obtain ⟨b1, b2, b3, b4, b5, b6⟩ := k21.cells5))
       go_ret
       exact ⟨ret_bool (by rw [HMM.out]; rfl), Bl.call (Bl.call (Bl.alloc (Bl.alloc (Bl.call (Bl.call HBW.out hb1) hb2) _) _) hb3) hb4⟩
set_option maxHeartbeats 2000000 in
theorem rextent_any (A1 A2 : Option Addr) (c1 c2 n1 n2 : Nat) (S : List Shp) (ps : List Pt5) (w : World) (hn2 : n2 ≤ 1000000) (hS : ShS w A1 n1 S) (hPu : PuS w A2 n2 ps) :
 Calls Tryz.prog 56 #[.slice A1 n1 c1, .slice A2 n2 c2] w fun e w' => e = .returned (.tuple #[.int .i64 (extW S ps).2, .int .i64 (extW S ps).1]) ∧ Below w.heap.size w w' := by
 have HR := Hj (show extW S ps = extTo S ps n2 by unfold extW; rw [hPu.1])
 go_enter Tryz.func56, Tryz.ntmps56
 go_wp2_with fail
 go_loopw [6, 7] (fun v i wr => ∃ k : Nat, k ≤ n2 ∧ i = .int .i64 k ∧ Hid ((extTo S ps k).1 = 0) ∧ v = .int .i64 (extTo S ps k).2 ∧ Below w.heap.size w wr) (fun _ i _ => n2 - (intOf i).toNat)
 case atStart => exact ⟨0, Nat.zero_le _, rfl, Hj rfl, rfl, Below.refl _ _⟩
 case round =>
  obtain ⟨k, hk, rfl, hz, rfl, hb⟩ := hrel
  by_cases hlt : k < n2
  ·obtain ⟨-, hP2⟩ := hPu.keep hb
   rcases hP2 with h | ⟨ba, oa, rfl, hP2⟩
   ·omega
   obtain ⟨d1, d2, d3, d4, d5⟩ := hP2 k hlt
   clear hP2
   have hstep := Hj (show extTo S ps (k + 1) = _ by rw [extTo, if_neg (by rw [hz.out]; simp)])
   obtain ⟨p, hp⟩ : ∃ p, pt ps k = p := ⟨_, rfl⟩
   rw [hp] at d1 d2 d3 d4 d5 hstep
   clear hp
   obtain ⟨p1, p2, p3, p4, p5⟩ := p
   dsimp only at d1 d2 d3 d4 d5
   have hrl := polyW_len S ⟨p1, p2, p3, p4, p5⟩
   obtain ⟨r, hr⟩ : ∃ r, Xe S ⟨p1, p2, p3, p4, p5⟩ = r := ⟨_, rfl⟩
   rw [hr] at hstep hrl
   have HP := Hj hr
   clear hr
   obtain ⟨r1, r⟩ := r
   dsimp only at hstep hrl
   obtain ⟨ee, hee⟩ : ∃ ee, (extTo S ps k).2 = ee := ⟨_, rfl⟩
   rw [hee] at hstep ⊢
   clear hee
   by_cases hr1 : r1 = 0
   ·subst hr1
    rw [if_neg (by simp)] at hstep
    obtain ⟨nr, hnr⟩ : ∃ nr, r.length = nr := ⟨_, rfl⟩
    rw [hnr] at hstep hrl
    have HNR := Hj hnr
    clear hnr
    go_upto_region 8 with (go_at_call 35; refine (rpoly_any _ _ _ S ⟨p1, p2, p3, p4, p5⟩ _ (hS.keep hb)).mono ?_; rintro e w5 ⟨v5, rfl, ho5, hb5⟩; rw [HP.out] at ho5 ⊢; obtain ⟨A5, c5, rfl, hc5, hS5, -⟩ := OwS.sps ho5; rw [HNR.out] at hS5 hc5 ⊢)
    have hb5' := Bl.call hb hb5
    clear hb5 ho5
    go_wp2_with fail
    go_loopw [6, 10] (fun v i wr => ∃ j : Nat, j ≤ nr ∧ i = .int .i64 j ∧ v = .int .i64 (extIn (decide (k = 0)) r ee j) ∧ Below w5.heap.size w5 wr) (fun _ i _ => nr - (intOf i).toNat)
    case atStart => exact ⟨0, Nat.zero_le _, rfl, rfl, Below.refl _ _⟩
    case round =>
     obtain ⟨j, hj, rfl, rfl, hbj⟩ := hrel
     by_cases hjn : j < nr
     ·obtain ⟨bc, oc, rfl, hblc, hccc⟩ := (hS5.keep hbj).at_ hjn
      obtain ⟨x1, x2⟩ := hccc j hjn
      clear hccc
      have hext : extIn (decide (k = 0)) r ee (j + 1) = if (decide (k = 0) && decide (j = 0)) = true ∨ extIn (decide (k = 0)) r ee j < (gt r j).1 then (gt r j).1 else extIn (decide (k = 0)) r ee j := rfl
      by_cases h0 : k = 0
      ·have q0 : ((k : Int) == 0) = true := by simp [h0]
       by_cases h1 : j = 0
       ·have q1 : ((j : Int) == 0) = true := by simp [h1]
        rw [if_pos (by simp [h0, h1])] at hext
        have HE := Hj hext
        clear hext h0 h1
        go_wp2_with fail
        exact ⟨⟨j + 1, by omega, by go_num, by rw [HE.out], hbj⟩, by simp [intOf]; omega⟩
       ·have q1 : ((j : Int) == 0) = false := by simp; omega
        by_cases h2 : extIn (decide (k = 0)) r ee j < (gt r j).1
        ·rw [if_pos (.inr h2)] at hext
         have HE := Hj hext
         clear hext h0 h1
         go_wp2_with fail
         exact ⟨⟨j + 1, by omega, by go_num, by rw [HE.out], hbj⟩, by simp [intOf]; omega⟩
        ·rw [if_neg (by simp [h1]; omega)] at hext
         have HE := Hj hext
         have h2' := Int.not_lt.1 h2
         clear hext h0 h1
         go_wp2_with fail
         exact ⟨⟨j + 1, by omega, by go_num, by rw [HE.out], hbj⟩, by simp [intOf]; omega⟩
      ·have q0 : ((k : Int) == 0) = false := by simp; omega
       by_cases h2 : extIn (decide (k = 0)) r ee j < (gt r j).1
       ·rw [if_pos (.inr h2)] at hext
        have HE := Hj hext
        clear hext h0
        go_wp2_with fail
        exact ⟨⟨j + 1, by omega, by go_num, by rw [HE.out], hbj⟩, by simp [intOf]; omega⟩
       ·rw [if_neg (by simp [h0] at h2 ⊢; omega)] at hext
        have HE := Hj hext
        have h2' := Int.not_lt.1 h2
        clear hext h0
        go_wp2_with fail
        exact ⟨⟨j + 1, by omega, by go_num, by rw [HE.out], hbj⟩, by simp [intOf]; omega⟩
     ·obtain rfl : nr = j := by omega
      go_wp2_with fail
      exact ⟨⟨k + 1, by omega, by go_num, Hj (by rw [hstep.out]), by rw [hstep.out], Bl.call hb5' hbj⟩, by simp [intOf]; omega⟩
   ·have qo : (r1 != 0) = true := by simpa using hr1
    rw [if_pos hr1] at hstep
    have hbad := extTo_bad hstep.out hr1 (n2 - (k + 1))
    rw [show k + 1 + (n2 - (k + 1)) = n2 by omega] at hbad
    have HF := Hj hbad
    clear hbad hr1
    go_wp2_with (go_at_call 35; refine (rpoly_any _ _ _ S ⟨p1, p2, p3, p4, p5⟩ _ (hS.keep hb)).mono ?_; rintro e w5 ⟨v5, rfl, ho5, hb5⟩; rw [HP.out])
    exact bodyPost_ret (v := .tuple #[.int .i64 0, .int .i64 r1]) (by simp [results, Tryz.results56, go_sem]) rfl ⟨by rw [HR.out, HF.out], Bl.call hb hb5⟩
  ·obtain rfl : n2 = k := by omega
   go_wp2_with fail
   exact bodyPost_ret (v := .tuple #[.int .i64 (extTo S ps n2).2, .int .i64 0]) (by simp [results, Tryz.results56, go_sem]) rfl ⟨by rw [HR.out, hz.out], hb⟩
end
section
set_option maxRecDepth 100000
open Go.RowKit
def optR (p : Int × Int) (o : Option (Int × Int)) : Value := .tuple #[.agg #[.int .i64 (o.getD p).1, .int .i64 (o.getD p).2], .bool o.isSome]
set_option maxHeartbeats 1000000 in
theorem rmatch_any (len wid rx ry : Int) (Ak : Option Addr) (nk ck : Nat) (pl : List (Int × Int)) (gr : Int) (mt : Bool) (ax ay : Int) (fl : Bool) (qu x y : Int) (w : World) :
 Calls Tryz.prog 37 #[.agg #[.int .i64 len, .int .i64 wid, .int .i64 rx, .int .i64 ry], .agg #[.slice Ak nk ck, .int .i64 gr, .bool mt, .int .i64 ax, .int .i64 ay], .agg #[.bool fl, .int .i64 qu], .agg #[.int .i64 x, .int .i64 y]] w fun e w' => e = .returned (optR (x, y) (setlW rx ry ⟨pl, gr, mt, (ax, ay)⟩ fl qu (x, y))) ∧ Below w.heap.size w w' := by
 obtain ⟨W5, hW5⟩ : ∃ W5, W5 = (((((w.alloc (.cells #[.int .i64 len, .int .i64 wid, .int .i64 rx, .int .i64 ry] 25)).alloc (.cells #[.slice Ak nk ck, .int .i64 gr, .bool mt, .int .i64 ax, .int .i64 ay] 49)).alloc (.cells #[.bool fl, .int .i64 qu] 29)).alloc (.cells #[.int .i64 x, .int .i64 y] 37)).alloc (.cells #[.int .i64 0, .int .i64 0] 37)) := ⟨_, rfl⟩
 have h0 : BlkS W5 w.heap.size 25 #[.int .i64 len, .int .i64 wid, .int .i64 rx, .int .i64 ry] := by rw [hW5]; exact ((((BlkS.new _ _ _).alloc _).alloc _).alloc _).alloc _
 have h1 : BlkS W5 (w.heap.size + 1) 49 #[.slice Ak nk ck, .int .i64 gr, .bool mt, .int .i64 ax, .int .i64 ay] := by rw [hW5]; exact (((BlkS.new2 _ _ _ _).alloc _).alloc _).alloc _
 have h2 : BlkS W5 (w.heap.size + 1 + 1) 29 #[.bool fl, .int .i64 qu] := by rw [hW5]; exact ((BlkS.new3 _ _ _ _ _).alloc _).alloc _
 have h3 : BlkS W5 (w.heap.size + 1 + 1 + 1) 37 #[.int .i64 x, .int .i64 y] := by
  rw [hW5]
  have := (BlkS.new (((w.alloc (.cells #[.int .i64 len, .int .i64 wid, .int .i64 rx, .int .i64 ry] 25)).alloc (.cells #[.slice Ak nk ck, .int .i64 gr, .bool mt, .int .i64 ax, .int .i64 ay] 49)).alloc (.cells #[.bool fl, .int .i64 qu] 29)) 37 #[.int .i64 x, .int .i64 y]).alloc (.cells #[.int .i64 0, .int .i64 0] 37)
  simpa using this
 have h4 : BlkS W5 (w.heap.size + 1 + 1 + 1 + 1) 37 #[.int .i64 0, .int .i64 0] := by
  rw [hW5]
  have := BlkS.new ((((w.alloc (.cells #[.int .i64 len, .int .i64 wid, .int .i64 rx, .int .i64 ry] 25)).alloc (.cells #[.slice Ak nk ck, .int .i64 gr, .bool mt, .int .i64 ax, .int .i64 ay] 49)).alloc (.cells #[.bool fl, .int .i64 qu] 29)).alloc (.cells #[.int .i64 x, .int .i64 y] 37)) 37 #[.int .i64 0, .int .i64 0]
  simpa using this
 have hbw : Below w.heap.size w W5 := by rw [hW5]; exact (Bl.alloc (Bl.alloc (Bl.alloc (Bl.alloc (Bl.alloc Br _) _) _) _) _)
 have H0 := Hj h0
 have H1 := Hj h1
 have H2 := Hj h2
 have H3 := Hj h3
 have H4 := Hj h4
 have HBW := Hj hbw
 subst hW5
 clear h0 h1 h2 h3 h4 hbw
 cases mt with
 | false =>
   go_enter Tryz.func37, Tryz.ntmps37
   go_wp2_with fail
   exact bodyPost_ret (v := .tuple #[.agg #[.int .i64 x, .int .i64 y], .bool true]) (by simp [results, Tryz.results37, go_sem]) rfl ⟨rfl, (Bl.alloc (Bl.alloc (Bl.alloc (Bl.alloc (Bl.alloc Br _) _) _) _) _)⟩
 | true =>
   by_cases ho : outB 1048576 (ax, ay) = true
   ·have HE := Hj (show setlW rx ry ⟨pl, gr, true, (ax, ay)⟩ fl qu (x, y) = none by unfold setlW; dsimp only; rw [if_pos rfl, if_pos ho])
    go_enter Tryz.func37, Tryz.ntmps37
    go_wp2_with (go_at_call 64; refine (rnear_any _ _ _).mono ?_; rintro e w1 ⟨rfl, hb1⟩; obtain ⟨a1, a2, a3, a4, a5⟩ := (H4.out.keep hb1).cells2; obtain ⟨p1, p2, p3, p4, p5⟩ := (H3.out.keep hb1).cells2)
    exact bodyPost_ret (v := .tuple #[.agg #[.int .i64 x, .int .i64 y], .bool false]) (by simp [results, Tryz.results37, go_sem, a1, a2]) rfl ⟨by rw [HE.out]; rfl, by have hbb := Bl.call HBW.out hb1; (repeat first | exact hbb | refine Bl.set ?_ (by dsimp only; omega) _)⟩
   ·have ho' : outB 1048576 (ax, ay) = false := by simpa using ho
    clear ho
    obtain ⟨im, him⟩ : ∃ im, applyW fl qu (ax, ay) = im := ⟨_, rfl⟩
    obtain ⟨ix, iy⟩ := im
    have HIM := Hj him
    have hE : setlW rx ry ⟨pl, gr, true, (ax, ay)⟩ fl qu (x, y) = if outB 1048576 (wrap64 (ix + x), wrap64 (iy + y)) = true then none else some (wrap64 ((snextW rx ry (wrap64 (ix + x)) (wrap64 (iy + y)) 0 0).1 - ix), wrap64 ((snextW rx ry (wrap64 (ix + x)) (wrap64 (iy + y)) 0 0).2 - iy)) := by
     unfold setlW; dsimp only; rw [if_pos rfl, if_neg (by rw [ho']; simp), him]; rfl
    have HE := Hj hE
    clear hE him
    by_cases ho2 : outB 1048576 (wrap64 (ix + x), wrap64 (iy + y)) = true
    ·rw [if_pos ho2] at HE
     have tok : True := trivial
     go_enter Tryz.func37, Tryz.ntmps37
     go_wp2_with (first | (go_at_call 69; refine (rapply_any _ _ _ _ _).mono ?_; rintro e w2 ⟨rfl, hb2⟩; rw [HIM.out]; have k32 := k31.keep hb2; have k42 := k41.keep hb2; obtain ⟨c1, c2, c3, c4, c5⟩ := k32.cells2; have kk2 := BlkS.lt k42) | (go_at_call 64; first | (have _t := tok; refine (rnear_any _ _ _).mono ?_; rintro e w1 ⟨rfl, hb1⟩; clear tok; have k11 := H1.out.keep hb1; have k21 := H2.out.keep hb1; have k31 := H3.out.keep hb1; have k41 := H4.out.keep hb1; obtain ⟨a1, a2, a3, a4, a5, a6⟩ := k11.cells5; obtain ⟨b1, b2, b3, b4, b5⟩ := k21.cells2) | (refine (rnear_any _ _ _).mono ?_; rintro e w3 ⟨rfl, hb3⟩; have k43 := ((k42.alloc _).alloc _).keep hb3; obtain ⟨m1, m2, m3, m4, m5⟩ := k43.cells2; have k33 := ((k32.alloc _).alloc _).keep hb3; obtain ⟨p1, p2, p3, p4, p5⟩ := k33.cells2)))
     exact bodyPost_ret (v := .tuple #[.agg #[.int .i64 x, .int .i64 y], .bool false]) (by simp [results, Tryz.results37, go_sem, m1, m2]) rfl ⟨by rw [HE.out]; rfl, by have hbb := Bl.call (Bl.alloc (Bl.alloc (Bl.call (Bl.call HBW.out hb1) hb2) _) _) hb3; (repeat first | exact hbb | refine Bl.set ?_ (by dsimp only; omega) _)⟩
    ·have ho3 : outB 1048576 (wrap64 (ix + x), wrap64 (iy + y)) = false := by simpa using ho2
     rw [if_neg ho2] at HE
     clear ho2
     obtain ⟨nx, hnx⟩ : ∃ nx, snextW rx ry (wrap64 (ix + x)) (wrap64 (iy + y)) 0 0 = nx := ⟨_, rfl⟩
     rw [hnx] at HE
     have HNX := Hj hnx
     clear hnx
     obtain ⟨nx1, nx2⟩ := nx
     have tok : True := trivial
     go_enter Tryz.func37, Tryz.ntmps37
     go_wp2_with (first | (go_at_call 69; refine (rapply_any _ _ _ _ _).mono ?_; rintro e w2 ⟨rfl, hb2⟩; rw [HIM.out]; have k32 := k31.keep hb2; have k42 := k41.keep hb2; have k02 := k01.keep hb2; obtain ⟨c1, c2, c3, c4, c5⟩ := k32.cells2; have kk2 := BlkS.lt k42) | (go_at_call 70; refine (rsnext_any _ _ _ _ _ _ _).mono ?_; rintro e w4 ⟨rfl, hb4⟩; rw [HNX.out]; have k44 := k43.keep hb4; have k54 := k53.keep hb4; obtain ⟨s1, s2, s3, s4, s5⟩ := k44.cells2; obtain ⟨t1, t2, t3, t4, t5⟩ := k54.cells2) | (go_at_call 64; first | (have _t := tok; refine (rnear_any _ _ _).mono ?_; rintro e w1 ⟨rfl, hb1⟩; clear tok; have k11 := H1.out.keep hb1; have k21 := H2.out.keep hb1; have k31 := H3.out.keep hb1; have k41 := H4.out.keep hb1; have k01 := H0.out.keep hb1; obtain ⟨a1, a2, a3, a4, a5, a6⟩ := k11.cells5; obtain ⟨b1, b2, b3, b4, b5⟩ := k21.cells2) | (refine (rnear_any _ _ _).mono ?_; rintro e w3 ⟨rfl, hb3⟩; have k43 := ((k42.alloc _).alloc _).keep hb3; have k03 := ((k02.alloc _).alloc _).keep hb3; have k53 := BlkS.keep ((BlkS.new w2 37 #[.int .i64 ix, .int .i64 iy]).alloc _) hb3; have k63 := BlkS.keep (BlkS.new2 w2 _ 37 #[.int .i64 (wrap64 (ix + x)), .int .i64 (wrap64 (iy + y))]) hb3; obtain ⟨m0, m0', m1, m2, m5⟩ := k03.cells4; obtain ⟨n1, n2, n3, n4, n5⟩ := k63.cells2)))
     exact bodyPost_ret (v := .tuple #[.agg #[.int .i64 (wrap64 (nx1 - ix)), .int .i64 (wrap64 (nx2 - iy))], .bool true]) (by simp [results, Tryz.results37, go_sem, s1, s2, s5]) rfl ⟨by rw [HE.out]; rfl, by have hbb := Bl.call (Bl.call (Bl.alloc (Bl.alloc (Bl.call (Bl.call HBW.out hb1) hb2) _) _) hb3) hb4; (repeat first | exact hbb | refine Bl.alloc ?_ _ | refine Bl.set ?_ (by dsimp only; omega) _)⟩
end
end Go.Proofs.YtmdncaoilegnnaaGreat

/- Lean texts of the claim. -/
import Derived.Test.YtmdncaoilegnnaaGreatXG50
namespace Go.Proofs.YtmdncaoilegnnaaGreat
set_option linter.unusedVariables false
set_option linter.unusedSimpArgs false
section
open Go.RowKit
def frR (l : List (Int × Int)) (n k j : Nat) : Bool := eqS (gt l j) (gt l ((k + n - 1) % n)) || eqS (gt l j) (gt l k) || eqS (gt l j) (gt l ((k + 1) % n)) || decide (plcW (gt l ((k + n - 1) % n)) (gt l k) (gt l ((k + 1) % n)) (gt l j) < 0)
def earR (l : List (Int × Int)) (n k : Nat) : Bool := decide (0 < bendW l n k) && AllB (frR l n k) n
set_option maxHeartbeats 2000000 in
theorem rfree_any (b off cap n k : Nat) (l : List (Int × Int)) (w : World) (hl : n ≤ 1000000) (hcap : n ≤ cap) (hs : SpS w (some ⟨b, off, none⟩) n l) (hk : k < n) :
 Calls Tryz.prog 193 #[.slice (some ⟨b, off, none⟩) n cap, .int .i64 k] w fun e w' => e = .returned (.bool (AllB (frR l n k) n)) ∧ Below w.heap.size w w' := by
 obtain ⟨p, hp⟩ : ∃ p, gt l ((k + n - 1) % n) = p := ⟨_, rfl⟩
 obtain ⟨q, hq⟩ : ∃ q, gt l k = q := ⟨_, rfl⟩
 obtain ⟨r, hr⟩ : ∃ r, gt l ((k + 1) % n) = r := ⟨_, rfl⟩
 have HT := Hj (show triW l n k = [p, q, r] by unfold triW; rw [hp, hq, hr])
 have HF := Hj (show ∀ j, frR l n k j = (eqS (gt l j) p || eqS (gt l j) q || eqS (gt l j) r || decide (plcW p q r (gt l j) < 0)) from fun j => by unfold frR; rw [hp, hq, hr])
 clear hp hq hr
 have heqs := eqInSpot
 go_enter Tryz.func193, Tryz.ntmps193
 go_wp2_with (go_at_call 154; refine (around_any _ _ _ _ _ l _ hl hcap hs hk).mono ?_; rintro e w1 ⟨g, rfl, ho1, hb1⟩; rw [HT.out] at ho1; obtain ⟨h1, h2, h3, h4, h5, h6, h7⟩ := three ho1)
 have hC0 : Cls w [(⟨g, 0, none⟩, .int .i64 p.1), (⟨g, 1, none⟩, .int .i64 p.2), (⟨g, 2, none⟩, .int .i64 q.1), (⟨g, 3, none⟩, .int .i64 q.2), (⟨g, 4, none⟩, .int .i64 r.1), (⟨g, 5, none⟩, .int .i64 r.2)] w1 := ⟨hb1, by simp only [List.mem_cons, List.not_mem_nil, forall_eq_or_imp, or_false, forall_eq]; exact ⟨h1, h2, h3, h4, h5, h6⟩⟩
 clear h1 h2 h3 h4 h5 h6 h7 ho1 hb1
 go_loopw [6] (fun i wr => ∃ j : Nat, j ≤ n ∧ i = .int .i64 j ∧ Hid (AllB (frR l n k) j = true) ∧ Cls w [(⟨g, 0, none⟩, .int .i64 p.1), (⟨g, 1, none⟩, .int .i64 p.2), (⟨g, 2, none⟩, .int .i64 q.1), (⟨g, 3, none⟩, .int .i64 q.2), (⟨g, 4, none⟩, .int .i64 r.1), (⟨g, 5, none⟩, .int .i64 r.2)] wr) (fun i _ => n - (intOf i).toNat)
 case atStart => exact ⟨0, Nat.zero_le _, rfl, Hj (AllB.zero _), hC0⟩
 case round =>
  clear hC0
  obtain ⟨j, hj, rfl, hp, hC⟩ := hrel
  by_cases hlt : j < n
  ·obtain ⟨c1, c2⟩ := (hs.keep hC.1).cells hlt
   have HFJ := Hj (HF.out j)
   obtain ⟨x, hx⟩ : ∃ x, gt l j = x := ⟨_, rfl⟩
   rw [hx] at c1 c2 HFJ
   clear hx
   have hx := hC.2
   simp only [List.mem_cons, List.not_mem_nil, forall_eq_or_imp, or_false, forall_eq] at hx
   have z2 : (j : Int) < (n : Int) := by omega
   cases hv1 : eqS (x.1, x.2) (p.1, p.2) with
   | true =>
     have HV := Hj (show frR l n k j = true by rw [HFJ.out, show eqS x p = true from hv1]; rfl)
     go_wp2_with fail
     refine Xc w [(⟨b, off + j * 2, none⟩, .int .i64 x.1), (⟨b, off + j * 2 + 1, none⟩, .int .i64 x.2), (⟨g, 0, none⟩, .int .i64 p.1), (⟨g, 1, none⟩, .int .i64 p.2), (⟨g, 2, none⟩, .int .i64 q.1), (⟨g, 3, none⟩, .int .i64 q.2), (⟨g, 4, none⟩, .int .i64 r.1), (⟨g, 5, none⟩, .int .i64 r.2)] (by kernel_rfl) (by kernel_rfl) ⟨hC.1, by simp only [List.mem_cons, List.not_mem_nil, forall_eq_or_imp, or_false, forall_eq]; go_simp⟩ ?_
     repeat
      first
      | go_big_quiet_skip
      | go_big_quiet_want
        apply Exists.intro
        refine And.intro ?_ ?_
        ·intro w1 hw1
         have hx := hw1.2
         simp only [List.mem_cons, List.not_mem_nil, forall_eq_or_imp, or_false, forall_eq] at hx
         go_simp
         first | rfl | exact calls_cls hw1 (rplace_any _ _ p q r _ _ _ (Nat.le_refl _) hx.2.2.1 hx.2.2.2.1 hx.2.2.2.2.1 hx.2.2.2.2.2.1 hx.2.2.2.2.2.2.1 hx.2.2.2.2.2.2.2)
        go_simp
        go_big_quiet_on
     refine wpQuiet_nil ?_
     intro w9 hCw9
     have hC9 : Cls w [(⟨g, 0, none⟩, .int .i64 p.1), (⟨g, 1, none⟩, .int .i64 p.2), (⟨g, 2, none⟩, .int .i64 q.1), (⟨g, 3, none⟩, .int .i64 q.2), (⟨g, 4, none⟩, .int .i64 r.1), (⟨g, 5, none⟩, .int .i64 r.2)] w9 := ⟨hCw9.1, fun z hz => hCw9.2 z (List.mem_cons_of_mem _ (List.mem_cons_of_mem _ hz))⟩
     clear hCw9 hC hx c1 c2
     go_wp2_with fail
     exact ⟨⟨j + 1, by omega, by go_num, Hj (AllB.succ hp.out HV.out), hC9⟩, by simp [intOf]; omega⟩
   | false =>
     cases hv2 : eqS (x.1, x.2) (q.1, q.2) with
     | true =>
       have HV := Hj (show frR l n k j = true by rw [HFJ.out, show eqS x q = true from hv2]; simp)
       go_wp2_with fail
       refine Xc w [(⟨b, off + j * 2, none⟩, .int .i64 x.1), (⟨b, off + j * 2 + 1, none⟩, .int .i64 x.2), (⟨g, 0, none⟩, .int .i64 p.1), (⟨g, 1, none⟩, .int .i64 p.2), (⟨g, 2, none⟩, .int .i64 q.1), (⟨g, 3, none⟩, .int .i64 q.2), (⟨g, 4, none⟩, .int .i64 r.1), (⟨g, 5, none⟩, .int .i64 r.2)] (by kernel_rfl) (by kernel_rfl) ⟨hC.1, by simp only [List.mem_cons, List.not_mem_nil, forall_eq_or_imp, or_false, forall_eq]; go_simp⟩ ?_
       repeat
        first
        | go_big_quiet_skip
        | go_big_quiet_want
          apply Exists.intro
          refine And.intro ?_ ?_
          ·intro w1 hw1
           have hx := hw1.2
           simp only [List.mem_cons, List.not_mem_nil, forall_eq_or_imp, or_false, forall_eq] at hx
           go_simp
           first | rfl | exact calls_cls hw1 (rplace_any _ _ p q r _ _ _ (Nat.le_refl _) hx.2.2.1 hx.2.2.2.1 hx.2.2.2.2.1 hx.2.2.2.2.2.1 hx.2.2.2.2.2.2.1 hx.2.2.2.2.2.2.2)
          go_simp
          go_big_quiet_on
       refine wpQuiet_nil ?_
       intro w9 hCw9
       have hC9 : Cls w [(⟨g, 0, none⟩, .int .i64 p.1), (⟨g, 1, none⟩, .int .i64 p.2), (⟨g, 2, none⟩, .int .i64 q.1), (⟨g, 3, none⟩, .int .i64 q.2), (⟨g, 4, none⟩, .int .i64 r.1), (⟨g, 5, none⟩, .int .i64 r.2)] w9 := ⟨hCw9.1, fun z hz => hCw9.2 z (List.mem_cons_of_mem _ (List.mem_cons_of_mem _ hz))⟩
       clear hCw9 hC hx c1 c2
       go_wp2_with fail
       exact ⟨⟨j + 1, by omega, by go_num, Hj (AllB.succ hp.out HV.out), hC9⟩, by simp [intOf]; omega⟩
     | false =>
       cases hv3 : eqS (x.1, x.2) (r.1, r.2) with
       | true =>
         have HV := Hj (show frR l n k j = true by rw [HFJ.out, show eqS x r = true from hv3]; simp)
         go_wp2_with fail
         refine Xc w [(⟨b, off + j * 2, none⟩, .int .i64 x.1), (⟨b, off + j * 2 + 1, none⟩, .int .i64 x.2), (⟨g, 0, none⟩, .int .i64 p.1), (⟨g, 1, none⟩, .int .i64 p.2), (⟨g, 2, none⟩, .int .i64 q.1), (⟨g, 3, none⟩, .int .i64 q.2), (⟨g, 4, none⟩, .int .i64 r.1), (⟨g, 5, none⟩, .int .i64 r.2)] (by kernel_rfl) (by kernel_rfl) ⟨hC.1, by simp only [List.mem_cons, List.not_mem_nil, forall_eq_or_imp, or_false, forall_eq]; go_simp⟩ ?_
         repeat
          first
          | go_big_quiet_skip
          | go_big_quiet_want
            apply Exists.intro
            refine And.intro ?_ ?_
            ·intro w1 hw1
             have hx := hw1.2
             simp only [List.mem_cons, List.not_mem_nil, forall_eq_or_imp, or_false, forall_eq] at hx
             go_simp
             first | rfl | exact calls_cls hw1 (rplace_any _ _ p q r _ _ _ (Nat.le_refl _) hx.2.2.1 hx.2.2.2.1 hx.2.2.2.2.1 hx.2.2.2.2.2.1 hx.2.2.2.2.2.2.1 hx.2.2.2.2.2.2.2)
            go_simp
            go_big_quiet_on
         refine wpQuiet_nil ?_
         intro w9 hCw9
         have hC9 : Cls w [(⟨g, 0, none⟩, .int .i64 p.1), (⟨g, 1, none⟩, .int .i64 p.2), (⟨g, 2, none⟩, .int .i64 q.1), (⟨g, 3, none⟩, .int .i64 q.2), (⟨g, 4, none⟩, .int .i64 r.1), (⟨g, 5, none⟩, .int .i64 r.2)] w9 := ⟨hCw9.1, fun z hz => hCw9.2 z (List.mem_cons_of_mem _ (List.mem_cons_of_mem _ hz))⟩
         clear hCw9 hC hx c1 c2
         go_wp2_with fail
         exact ⟨⟨j + 1, by omega, by go_num, Hj (AllB.succ hp.out HV.out), hC9⟩, by simp [intOf]; omega⟩
       | false =>
         by_cases hv4 : 0 ≤ plcW p q r (x.1, x.2)
         ·have HV := Hj (show frR l n k j = false by rw [HFJ.out, show eqS x p = false from hv1, show eqS x q = false from hv2, show eqS x r = false from hv3]; simp; exact hv4)
          have hd : decide (0 ≤ plcW p q r (x.1, x.2)) = true := decide_eq_true hv4
          go_wp2_with fail
          refine Xc w [(⟨b, off + j * 2, none⟩, .int .i64 x.1), (⟨b, off + j * 2 + 1, none⟩, .int .i64 x.2), (⟨g, 0, none⟩, .int .i64 p.1), (⟨g, 1, none⟩, .int .i64 p.2), (⟨g, 2, none⟩, .int .i64 q.1), (⟨g, 3, none⟩, .int .i64 q.2), (⟨g, 4, none⟩, .int .i64 r.1), (⟨g, 5, none⟩, .int .i64 r.2)] (by kernel_rfl) (by kernel_rfl) ⟨hC.1, by simp only [List.mem_cons, List.not_mem_nil, forall_eq_or_imp, or_false, forall_eq]; go_simp⟩ ?_
          repeat
           first
           | go_big_quiet_skip
           | go_big_quiet_want
             apply Exists.intro
             refine And.intro ?_ ?_
             ·intro w1 hw1
              have hx := hw1.2
              simp only [List.mem_cons, List.not_mem_nil, forall_eq_or_imp, or_false, forall_eq] at hx
              go_simp
              first | rfl | exact calls_cls hw1 (rplace_any _ _ p q r _ _ _ (Nat.le_refl _) hx.2.2.1 hx.2.2.2.1 hx.2.2.2.2.1 hx.2.2.2.2.2.1 hx.2.2.2.2.2.2.1 hx.2.2.2.2.2.2.2)
             go_simp
             go_big_quiet_on
          refine wpQuiet_nil ?_
          intro w9 hCw9
          have hC9 : Cls w [(⟨g, 0, none⟩, .int .i64 p.1), (⟨g, 1, none⟩, .int .i64 p.2), (⟨g, 2, none⟩, .int .i64 q.1), (⟨g, 3, none⟩, .int .i64 q.2), (⟨g, 4, none⟩, .int .i64 r.1), (⟨g, 5, none⟩, .int .i64 r.2)] w9 := ⟨hCw9.1, fun z hz => hCw9.2 z (List.mem_cons_of_mem _ (List.mem_cons_of_mem _ hz))⟩
          clear hCw9 hC hx c1 c2
          go_wp2_with fail
          go_ret
          exact ⟨ret_bool (AllB.no hlt HV.out).symm, hC9.1⟩
         ·have HV := Hj (show frR l n k j = true by rw [HFJ.out, decide_eq_true (show plcW p q r x < 0 from Int.not_le.1 hv4)]; simp)
          have hd : decide (0 ≤ plcW p q r (x.1, x.2)) = false := decide_eq_false hv4
          go_wp2_with fail
          refine Xc w [(⟨b, off + j * 2, none⟩, .int .i64 x.1), (⟨b, off + j * 2 + 1, none⟩, .int .i64 x.2), (⟨g, 0, none⟩, .int .i64 p.1), (⟨g, 1, none⟩, .int .i64 p.2), (⟨g, 2, none⟩, .int .i64 q.1), (⟨g, 3, none⟩, .int .i64 q.2), (⟨g, 4, none⟩, .int .i64 r.1), (⟨g, 5, none⟩, .int .i64 r.2)] (by kernel_rfl) (by kernel_rfl) ⟨hC.1, by simp only [List.mem_cons, List.not_mem_nil, forall_eq_or_imp, or_false, forall_eq]; go_simp⟩ ?_
          repeat
           first
           | go_big_quiet_skip
           | go_big_quiet_want
             apply Exists.intro
             refine And.intro ?_ ?_
             ·intro w1 hw1
              have hx := hw1.2
              simp only [List.mem_cons, List.not_mem_nil, forall_eq_or_imp, or_false, forall_eq] at hx
              go_simp
              first | rfl | exact calls_cls hw1 (rplace_any _ _ p q r _ _ _ (Nat.le_refl _) hx.2.2.1 hx.2.2.2.1 hx.2.2.2.2.1 hx.2.2.2.2.2.1 hx.2.2.2.2.2.2.1 hx.2.2.2.2.2.2.2)
             go_simp
             go_big_quiet_on
          refine wpQuiet_nil ?_
          intro w9 hCw9
          have hC9 : Cls w [(⟨g, 0, none⟩, .int .i64 p.1), (⟨g, 1, none⟩, .int .i64 p.2), (⟨g, 2, none⟩, .int .i64 q.1), (⟨g, 3, none⟩, .int .i64 q.2), (⟨g, 4, none⟩, .int .i64 r.1), (⟨g, 5, none⟩, .int .i64 r.2)] w9 := ⟨hCw9.1, fun z hz => hCw9.2 z (List.mem_cons_of_mem _ (List.mem_cons_of_mem _ hz))⟩
          clear hCw9 hC hx c1 c2
          go_wp2_with fail
          exact ⟨⟨j + 1, by omega, by go_num, Hj (AllB.succ hp.out HV.out), hC9⟩, by simp [intOf]; omega⟩
  ·obtain rfl : n = j := by omega
   go_wp2_with fail
   go_ret
   exact ⟨ret_bool hp.out.symm, hC.1⟩
set_option maxHeartbeats 1000000 in
theorem rear_any (b off cap n : Nat) (l : List (Int × Int)) (w : World) (hl : n ≤ 1000000) (hcap : n ≤ cap) (hs : SpS w (some ⟨b, off, none⟩) n l) :
 Calls Tryz.prog 153 #[.slice (some ⟨b, off, none⟩) n cap] w fun e w' => e = .returned (.int .i64 (idxOf (earR l n) n)) ∧ Below w.heap.size w w' := by
 go_enter Tryz.func153, Tryz.ntmps153
 go_wp2_with fail
 go_loopw [3] (fun i wr => ∃ k : Nat, k ≤ n ∧ i = .int .i64 k ∧ Hid (AnyB (earR l n) k = false) ∧ Below w.heap.size w wr) (fun i _ => n - (intOf i).toNat)
 case atStart => exact ⟨0, Nat.zero_le _, rfl, Hj (AnyB.zero _), Below.refl _ _⟩
 case round =>
  obtain ⟨k, hk, rfl, hp, hb⟩ := hrel
  by_cases hlt : k < n
  ·have HE := Hj (show earR l n k = (decide (0 < bendW l n k) && AllB (frR l n k) n) from rfl)
   by_cases hv : 0 < bendW l n k
   ·rw [decide_eq_true hv, Bool.true_and] at HE
    cases hv2 : AllB (frR l n k) n with
    | true =>
      have HV := Hj (HE.out.trans hv2)
      have HF := Hj hv2
      clear hv2
      go_wp2_with (first
       | (go_at_call 193; have hz := hb2; refine (rfree_any _ _ _ _ k l _ hl hcap (hs.keep (Bl.call hb hb2)) hlt).mono ?_; rintro e w3 ⟨rfl, hb3⟩; rw [HF.out])
       | (go_at_call 192; refine (rbend_any _ _ _ _ k l _ hl hcap (hs.keep hb) hlt).mono ?_; rintro e w2 ⟨rfl, hb2⟩))
      go_ret
      exact ⟨ret_int (idxOf_at hlt hp.out HV.out).symm, Bl.call (Bl.call hb hb2) hb3⟩
    | false =>
      have HV := Hj (HE.out.trans hv2)
      have HF := Hj hv2
      clear hv2
      go_wp2_with (first
       | (go_at_call 193; have hz := hb2; refine (rfree_any _ _ _ _ k l _ hl hcap (hs.keep (Bl.call hb hb2)) hlt).mono ?_; rintro e w3 ⟨rfl, hb3⟩; rw [HF.out])
       | (go_at_call 192; refine (rbend_any _ _ _ _ k l _ hl hcap (hs.keep hb) hlt).mono ?_; rintro e w2 ⟨rfl, hb2⟩))
      exact ⟨⟨k + 1, by omega, by go_num, Hj (AnyB.succ hp.out HV.out), Bl.call (Bl.call hb hb2) hb3⟩, by simp [intOf]; omega⟩
   ·have HV := Hj (show earR l n k = false by rw [HE.out, decide_eq_false hv, Bool.false_and])
    go_wp2_with (go_at_call 192; refine (rbend_any _ _ _ _ k l _ hl hcap (hs.keep hb) hlt).mono ?_; rintro e w2 ⟨rfl, hb2⟩)
    exact ⟨⟨k + 1, by omega, by go_num, Hj (AnyB.succ hp.out HV.out), Bl.call hb hb2⟩, by simp [intOf]; omega⟩
  ·obtain rfl : n = k := by omega
   go_wp2_with fail
   go_ret
   exact ⟨ret_int (idxOf_none hp.out).symm, hb⟩
end
end Go.Proofs.YtmdncaoilegnnaaGreat

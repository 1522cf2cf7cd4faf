/- Lean texts of the claim. -/
import Derived.Test.YtmdncaoilegnnaaGreatXG64
import Derived.Test.YtmdncaoilegnnaaGreatXG52
import Derived.Test.YtmdncaoilegnnaaGreatXG60
import Derived.Test.YtmdncaoilegnnaaGreatXG22
namespace Go.Proofs.YtmdncaoilegnnaaGreat
set_option linter.unusedVariables false
set_option linter.unusedSimpArgs false
section
open Go.RowKit
theorem lt_inO {ls : List (List (Int × Int))} {i : Nat} (h : i < ls.length) : lt_ ls i ∈ ls := List.mem_of_getElem? (lt_some h)
set_option maxHeartbeats 400000 in
theorem rside_any (ax ay bx bY cx cy : Int) (w : World) :
 Calls Tryz.prog 221 #[.agg #[.int .i64 ax, .int .i64 ay], .agg #[.int .i64 bx, .int .i64 bY], .agg #[.int .i64 cx, .int .i64 cy]] w fun e w' => e = .returned (.int .i64 (cmpI (crossW (ax, ay) (bx, bY) (cx, cy)) 0)) ∧ Below w.heap.size w w' := by
 go_enter Tryz.func221, Tryz.ntmps221
 go_wp2
 all_goals go_ret
 all_goals exact ⟨ret_int (by show _ = cmpI (crossW (ax, ay) (bx, bY) (cx, cy)) 0; unfold cmpI crossW; dsimp only; (repeat split) <;> omega), (Bl.alloc (Bl.alloc (Bl.alloc Br _) _) _)⟩
set_option maxHeartbeats 1000000 in
theorem rbeyond_any (ax ay bx bY : Int) (A : Option Addr) (cap n : Nat) (l : List (Int × Int)) (w : World) (hl : n ≤ 1000000) (hs : SpS w A n l) :
 Calls Tryz.prog 206 #[.agg #[.int .i64 ax, .int .i64 ay], .agg #[.int .i64 bx, .int .i64 bY], .slice A n cap] w fun e w' => e = .returned (.bool (beyR (ax, ay) (bx, bY) l n)) ∧ Below w.heap.size w w' := by
 go_enter Tryz.func206, Tryz.ntmps206
 go_wp2_with fail
 go_loopw [7] (fun i wr => ∃ j : Nat, j ≤ n ∧ i = .int .i64 j ∧ Hid (AllB (fun i => decide (cmpI (crossW (ax, ay) (bx, bY) (gt l i)) 0 ≤ 0)) j = true) ∧ Cls w [(⟨w.heap.size, 0, none⟩, .int .i64 ax), (⟨w.heap.size, 1, none⟩, .int .i64 ay), (⟨w.heap.size + 1, 0, none⟩, .int .i64 bx), (⟨w.heap.size + 1, 1, none⟩, .int .i64 bY)] wr) (fun i _ => n - (intOf i).toNat)
 case atStart => exact ⟨0, Nat.zero_le _, rfl, Hj (AllB.zero _), (Bl.alloc (Bl.alloc Br _) _), by simp only [List.mem_cons, List.not_mem_nil, forall_eq_or_imp, or_false, forall_eq]; go_simp⟩
 case round =>
  obtain ⟨j, hj, rfl, hp, hC⟩ := hrel
  by_cases hlt : j < n
  ·obtain ⟨b, off, rfl, -, hcc⟩ := (hs.keep hC.1).at_ hlt
   obtain ⟨c1, c2⟩ := hcc j hlt
   clear hcc
   have hx := hC.2
   simp only [List.mem_cons, List.not_mem_nil, forall_eq_or_imp, or_false, forall_eq] at hx
   have z1 : (j : Int) < (n : Int) := by omega
   by_cases hv : 0 < cmpI (crossW (ax, ay) (bx, bY) ((gt l j).1, (gt l j).2)) 0
   ·have hd : decide (0 < cmpI (crossW (ax, ay) (bx, bY) ((gt l j).1, (gt l j).2)) 0) = true := decide_eq_true hv
    go_wp2_with fail
    refine Xc w [(⟨b, off + j * 2, none⟩, .int .i64 (gt l j).1), (⟨b, off + j * 2 + 1, none⟩, .int .i64 (gt l j).2), (⟨w.heap.size, 0, none⟩, .int .i64 ax), (⟨w.heap.size, 1, none⟩, .int .i64 ay), (⟨w.heap.size + 1, 0, none⟩, .int .i64 bx), (⟨w.heap.size + 1, 1, none⟩, .int .i64 bY)] (by kernel_rfl) (by kernel_rfl) ⟨hC.1, by simp only [List.mem_cons, List.not_mem_nil, forall_eq_or_imp, or_false, forall_eq]; go_simp⟩ ?_
    repeat
     apply wq_plain
     ·rfl
     ·intro w1 hw1
      have hx := hw1.2
      simp only [List.mem_cons, List.not_mem_nil, forall_eq_or_imp, or_false, forall_eq] at hx
      go_simp
      first | rfl | exact calls_cls hw1 (rside_any _ _ _ _ _ _ _)
     go_simp
    refine wpQuiet_nil ?_
    intro w9 hCw9
    have hb9 := hCw9.1
    clear hCw9 c1 c2 hx hC
    go_wp2_with fail
    go_ret
    exact ⟨ret_bool (show beyR (ax, ay) (bx, bY) l n = false from AllB.no hlt (decide_eq_false (show ¬ cmpI (crossW (ax, ay) (bx, bY) (gt l j)) 0 ≤ 0 from fun h => by have hv' : 0 < cmpI (crossW (ax, ay) (bx, bY) (gt l j)) 0 := hv; omega))).symm, hb9⟩
   ·have hd : decide (0 < cmpI (crossW (ax, ay) (bx, bY) ((gt l j).1, (gt l j).2)) 0) = false := decide_eq_false hv
    go_wp2_with fail
    refine Xc w [(⟨b, off + j * 2, none⟩, .int .i64 (gt l j).1), (⟨b, off + j * 2 + 1, none⟩, .int .i64 (gt l j).2), (⟨w.heap.size, 0, none⟩, .int .i64 ax), (⟨w.heap.size, 1, none⟩, .int .i64 ay), (⟨w.heap.size + 1, 0, none⟩, .int .i64 bx), (⟨w.heap.size + 1, 1, none⟩, .int .i64 bY)] (by kernel_rfl) (by kernel_rfl) ⟨hC.1, by simp only [List.mem_cons, List.not_mem_nil, forall_eq_or_imp, or_false, forall_eq]; go_simp⟩ ?_
    repeat
     apply wq_plain
     ·rfl
     ·intro w1 hw1
      have hx := hw1.2
      simp only [List.mem_cons, List.not_mem_nil, forall_eq_or_imp, or_false, forall_eq] at hx
      go_simp
      first | rfl | exact calls_cls hw1 (rside_any _ _ _ _ _ _ _)
     go_simp
    refine wpQuiet_nil ?_
    intro w9 hCw9
    have hC9 : Cls w [(⟨w.heap.size, 0, none⟩, .int .i64 ax), (⟨w.heap.size, 1, none⟩, .int .i64 ay), (⟨w.heap.size + 1, 0, none⟩, .int .i64 bx), (⟨w.heap.size + 1, 1, none⟩, .int .i64 bY)] w9 := ⟨hCw9.1, fun z hz => hCw9.2 z (List.mem_cons_of_mem _ (List.mem_cons_of_mem _ hz))⟩
    clear hCw9 c1 c2 hx hC
    go_wp2_with fail
    exact ⟨⟨j + 1, by omega, by go_num, Hj (AllB.succ hp.out (decide_eq_true (show cmpI (crossW (ax, ay) (bx, bY) (gt l j)) 0 ≤ 0 from hv))), hC9⟩, by simp [intOf]; omega⟩
  ·obtain rfl : n = j := by omega
   go_wp2_with fail
   go_ret
   exact ⟨ret_bool (show beyR (ax, ay) (bx, bY) l n = true from hp.out).symm, hC.1⟩
set_option maxHeartbeats 1000000 in
theorem rapart_any (A B : Option Addr) (ca cb na nb : Nat) (a b : List (Int × Int)) (w : World) (hna : na ≤ 1000000) (hnb : nb ≤ 1000000) (hsA : SpS w A na a) (hsB : SpS w B nb b) :
 Calls Tryz.prog 194 #[.slice A na ca, .slice B nb cb] w fun e w' => e = .returned (.bool (aprR a b)) ∧ Below w.heap.size w w' := by
 have HR := Hj (show aprR a b = AnyB (fun i => beyR (gt a i) (gt a ((i + 1) % na)) b nb) na by unfold aprR; rw [hsA.1, hsB.1])
 rw [HR.out]
 go_enter Tryz.func194, Tryz.ntmps194
 go_wp2_with fail
 go_loopw [5] (fun i wr => ∃ j : Nat, j ≤ na ∧ i = .int .i64 j ∧ Hid (AnyB (fun i => beyR (gt a i) (gt a ((i + 1) % na)) b nb) j = false) ∧ Below w.heap.size w wr) (fun i _ => na - (intOf i).toNat)
 case atStart => exact ⟨0, Nat.zero_le _, rfl, Hj (AnyB.zero _), Below.refl _ _⟩
 case round =>
  obtain ⟨j, hj, rfl, hp, hb⟩ := hrel
  by_cases hlt : j < na
  ·obtain ⟨g, off, rfl, -, hcc⟩ := (hsA.keep hb).at_ hlt
   have hm1 : (j + 1) % na < na := Nat.mod_lt _ (by omega)
   obtain ⟨c1, c2⟩ := hcc j hlt
   obtain ⟨c3, c4⟩ := hcc _ hm1
   clear hcc
   have m1 := modf ((j : Int) + 1) (j + 1) na rfl (by omega)
   have q1 : IntKind.i64.wrap ((j : Int) + 1) = (j : Int) + 1 := wrap_add j 1 (by omega)
   have q4 : ¬ na = 0 := by omega
   have z1 : (j : Int) < (na : Int) := by omega
   have HV := Hj (fun (w' : World) (hb' : Below wr.heap.size wr w') => rbeyond_any (gt a j).1 (gt a j).2 (gt a ((j + 1) % na)).1 (gt a ((j + 1) % na)).2 B cb nb b w' hnb (hsB.keep (Bl.call hb hb')))
   cases hv : beyR ((gt a j).1, (gt a j).2) ((gt a ((j + 1) % na)).1, (gt a ((j + 1) % na)).2) b nb with
   | true =>
     rw [hv] at HV
     have HB := Hj (show beyR (gt a j) (gt a ((j + 1) % na)) b nb = true from hv)
     clear hv
     go_wp2_with fail
     refine Xc wr [(⟨g, off + j * 2, none⟩, .int .i64 (gt a j).1), (⟨g, off + j * 2 + 1, none⟩, .int .i64 (gt a j).2), (⟨g, off + (j + 1) % na * 2, none⟩, .int .i64 (gt a ((j + 1) % na)).1), (⟨g, off + (j + 1) % na * 2 + 1, none⟩, .int .i64 (gt a ((j + 1) % na)).2)] (by kernel_rfl) (by kernel_rfl) ⟨Br, by simp only [List.mem_cons, List.not_mem_nil, forall_eq_or_imp, or_false, forall_eq]; go_simp⟩ ?_
     repeat
      apply wq_plain
      ·rfl
      ·intro w1 hw1
       have hx := hw1.2
       simp only [List.mem_cons, List.not_mem_nil, forall_eq_or_imp, or_false, forall_eq] at hx
       go_simp
       first | rfl | exact calls_cls hw1 (HV.out _ hw1.1)
      go_simp
     refine wpQuiet_nil ?_
     intro w9 hCw9
     have hb9 := Bl.call hb hCw9.1
     clear hCw9 c1 c2 c3 c4 m1 q1
     go_wp2_with fail
     go_ret
     exact ⟨ret_bool (AnyB.yes hlt HB.out).symm, hb9⟩
   | false =>
     rw [hv] at HV
     have HB := Hj (show beyR (gt a j) (gt a ((j + 1) % na)) b nb = false from hv)
     clear hv
     go_wp2_with fail
     refine Xc wr [(⟨g, off + j * 2, none⟩, .int .i64 (gt a j).1), (⟨g, off + j * 2 + 1, none⟩, .int .i64 (gt a j).2), (⟨g, off + (j + 1) % na * 2, none⟩, .int .i64 (gt a ((j + 1) % na)).1), (⟨g, off + (j + 1) % na * 2 + 1, none⟩, .int .i64 (gt a ((j + 1) % na)).2)] (by kernel_rfl) (by kernel_rfl) ⟨Br, by simp only [List.mem_cons, List.not_mem_nil, forall_eq_or_imp, or_false, forall_eq]; go_simp⟩ ?_
     repeat
      apply wq_plain
      ·rfl
      ·intro w1 hw1
       have hx := hw1.2
       simp only [List.mem_cons, List.not_mem_nil, forall_eq_or_imp, or_false, forall_eq] at hx
       go_simp
       first | rfl | exact calls_cls hw1 (HV.out _ hw1.1)
      go_simp
     refine wpQuiet_nil ?_
     intro w9 hCw9
     have hb9 := Bl.call hb hCw9.1
     clear hCw9 c1 c2 c3 c4 m1 q1
     go_wp2_with fail
     exact ⟨⟨j + 1, by omega, by go_num, Hj (AnyB.succ hp.out HB.out), hb9⟩, by simp [intOf]; omega⟩
  ·obtain rfl : na = j := by omega
   go_wp2_with fail
   go_ret
   exact ⟨ret_bool hp.out.symm, hb⟩
set_option maxHeartbeats 1000000 in
theorem rmeets_any (A B : Option Addr) (ca cb na nb : Nat) (a b : List (Int × Int)) (w : World) (hna : na ≤ 1000000) (hnb : nb ≤ 1000000) (hsA : SpS w A na a) (hsB : SpS w B nb b) :
 Calls Tryz.prog 156 #[.slice A na ca, .slice B nb cb] w fun e w' => e = .returned (.bool (metR a b)) ∧ Below w.heap.size w w' := by
 have HR := Hj (show metR a b = (!aprR a b && !aprR b a) from rfl)
 cases hv : aprR a b with
 | true =>
   have HV := Hj hv
   rw [hv] at HR
   clear hv
   go_enter Tryz.func156, Tryz.ntmps156
   go_wp2_with (go_at_call 194; refine (rapart_any _ _ _ _ _ _ a b _ hna hnb hsA hsB).mono ?_; rintro e w1 ⟨rfl, hb1⟩; rw [HV.out])
   go_ret
   exact ⟨ret_bool HR.out.symm, hb1⟩
 | false =>
   have HV := Hj hv
   rw [hv] at HR
   clear hv
   go_enter Tryz.func156, Tryz.ntmps156
   go_wp2_with (first
    | (go_at_call 194; have hz := hb1; refine (rapart_any _ _ _ _ _ _ b a _ hnb hna (hsB.keep hb1) (hsA.keep hb1)).mono ?_; rintro e w2 ⟨rfl, hb2⟩)
    | (go_at_call 194; refine (rapart_any _ _ _ _ _ _ a b _ hna hnb hsA hsB).mono ?_; rintro e w1 ⟨rfl, hb1⟩; rw [HV.out]))
   go_ret
   exact ⟨ret_bool HR.out.symm, Bl.call hb1 hb2⟩
set_option maxHeartbeats 1000000 in
theorem rsome_any (A B : Option Addr) (ca cb na nb : Nat) (a b : List (List (Int × Int))) (w : World) (hna : na ≤ 1000000) (hnb : nb ≤ 1000000) (hla : ∀ t ∈ a, t.length ≤ 1000000) (hlb : ∀ t ∈ b, t.length ≤ 1000000) (hsA : SpSS w A na a) (hsB : SpSS w B nb b) :
 Calls Tryz.prog 115 #[.slice A na ca, .slice B nb cb] w fun e w' => e = .returned (.bool (somR a b)) ∧ Below w.heap.size w w' := by
 have HNA := Hj hsA.1
 have HNB := Hj hsB.1
 have HR := Hj (show somR a b = AnyB (fun i => AnyB (fun k => metR (lt_ a i) (lt_ b k)) nb) na by unfold somR; rw [hsA.1, hsB.1])
 rw [HR.out]
 have HLA := Hj hla
 have HLB := Hj hlb
 clear hla hlb
 go_enter Tryz.func115, Tryz.ntmps115
 go_wp2_with fail
 go_loopw [5] (fun s wr => ∃ i : Nat, i ≤ na ∧ s = .int .i64 i ∧ Hid (AnyB (fun i => AnyB (fun k => metR (lt_ a i) (lt_ b k)) nb) i = false) ∧ Below w.heap.size w wr) (fun i _ => na - (intOf i).toNat)
 case atStart => exact ⟨0, Nat.zero_le _, rfl, Hj (AnyB.zero _), Below.refl _ _⟩
 case round =>
  obtain ⟨i, hi, rfl, hp, hb⟩ := hrel
  by_cases hlt : i < na
  ·have z1 : (i : Int) < (na : Int) := by omega
   have hAl := HLA.out _ (lt_inO (ls := a) (i := i) (by rw [HNA.out]; exact hlt))
   go_wp2_with fail
   obtain ⟨wo, rfl⟩ : ∃ wo : World, wo = wr := ⟨_, rfl⟩
   go_loopw [6] (fun s wr => ∃ k : Nat, k ≤ nb ∧ s = .int .i64 k ∧ Hid (AnyB (fun k => metR (lt_ a i) (lt_ b k)) k = false) ∧ Below w.heap.size w wr) (fun i _ => nb - (intOf i).toNat)
   case atStart => exact ⟨0, Nat.zero_le _, rfl, Hj (AnyB.zero _), hb⟩
   case round =>
    clear hb
    obtain ⟨k, hk, rfl, hq, hb⟩ := hrel
    by_cases hkn : k < nb
    ·obtain ⟨b1, o1, Ak, ck, rfl, -, x1, -, x3, -⟩ := (hsA.keep hb).at_ hlt
     obtain ⟨b2, o2, Bk, dk, rfl, -, y1, -, y3, -⟩ := (hsB.keep hb).at_ hkn
     have hBl := HLB.out _ (lt_inO (ls := b) (i := k) (by rw [HNB.out]; exact hkn))
     obtain ⟨xl, hxl⟩ : ∃ xl, (lt_ a i).length = xl := ⟨_, rfl⟩
     obtain ⟨yl, hyl⟩ : ∃ yl, (lt_ b k).length = yl := ⟨_, rfl⟩
     rw [hxl] at x1 x3 hAl
     rw [hyl] at y1 y3 hBl
     have z2 : (k : Int) < (nb : Int) := by omega
     have HV := Hj (fun (w' : World) (hb' : Below wr.heap.size wr w') => rmeets_any Ak Bk ck dk xl yl (lt_ a i) (lt_ b k) w' hAl hBl (x3.keep hb') (y3.keep hb'))
     cases hv : metR (lt_ a i) (lt_ b k) with
     | true =>
       rw [hv] at HV
       have HM := Hj (show AnyB (fun i => AnyB (fun k => metR (lt_ a i) (lt_ b k)) nb) na = true from AnyB.yes (f := fun i => AnyB (fun k => metR (lt_ a i) (lt_ b k)) nb) hlt (AnyB.yes (f := fun k => metR (lt_ a i) (lt_ b k)) hkn hv))
       clear hv
       go_wp2_with fail
       refine Xc wr [(⟨b1, o1 + i, none⟩, .slice Ak xl ck), (⟨b2, o2 + k, none⟩, .slice Bk yl dk)] (by kernel_rfl) (by kernel_rfl) ⟨Br, by simp only [List.mem_cons, List.not_mem_nil, forall_eq_or_imp, or_false, forall_eq]; go_simp⟩ ?_
       repeat
        apply wq_plain
        ·rfl
        ·intro w1 hw1
         have hx := hw1.2
         simp only [List.mem_cons, List.not_mem_nil, forall_eq_or_imp, or_false, forall_eq] at hx
         go_simp
         first | rfl | exact calls_cls hw1 (HV.out _ hw1.1)
        go_simp
       refine wpQuiet_nil ?_
       intro wy hCwy
       have hby := hCwy.1
       clear hCwy
       go_wp2_with fail
       go_ret
       exact ⟨ret_bool HM.out.symm, Bl.call hb hby⟩
     | false =>
       rw [hv] at HV
       have HM := Hj hv
       clear hv
       go_wp2_with fail
       refine Xc wr [(⟨b1, o1 + i, none⟩, .slice Ak xl ck), (⟨b2, o2 + k, none⟩, .slice Bk yl dk)] (by kernel_rfl) (by kernel_rfl) ⟨Br, by simp only [List.mem_cons, List.not_mem_nil, forall_eq_or_imp, or_false, forall_eq]; go_simp⟩ ?_
       repeat
        apply wq_plain
        ·rfl
        ·intro w1 hw1
         have hx := hw1.2
         simp only [List.mem_cons, List.not_mem_nil, forall_eq_or_imp, or_false, forall_eq] at hx
         go_simp
         first | rfl | exact calls_cls hw1 (HV.out _ hw1.1)
        go_simp
       refine wpQuiet_nil ?_
       intro wy hCwy
       have hby := hCwy.1
       clear hCwy
       go_wp2_with fail
       exact ⟨⟨k + 1, by omega, by go_num, Hj (AnyB.succ hq.out HM.out), Bl.call hb hby⟩, by simp [intOf]; omega⟩
    ·obtain rfl : nb = k := by omega
     go_wp2_with fail
     exact ⟨⟨i + 1, by omega, by go_num, Hj (AnyB.succ hp.out hq.out), hb⟩, by simp [intOf]; omega⟩
  ·obtain rfl : na = i := by omega
   go_wp2_with fail
   go_ret
   exact ⟨ret_bool hp.out.symm, hb⟩
set_option maxHeartbeats 1000000 in
theorem rcheck2_any (A B : Option Addr) (ca cb na nb : Nat) (a b : List (Int × Int)) (w : World) (hna : na ≤ 9223372036854775807) (hnb : nb ≤ 9223372036854775807) (hca : na ≤ ca) (hcb : nb ≤ cb) (hsA : SpS w A na a) (hsB : SpS w B nb b) (ha : checkW a na = 0) (hb : checkW b nb = 0) :
 Calls Tryz.prog 113 #[.slice A na ca, .slice B nb cb] w fun e w' => e = .returned (.int .i64 0) ∧ Below w.heap.size w w' := by
 have HA := Hj ha
 have HB := Hj hb
 clear ha hb
 go_enter Tryz.func113, Tryz.ntmps113
 go_wp2_with (first
  | (go_at_call 52; have hz := hb1; refine (rcheck_any _ _ _ b _ hnb hcb (hsB.keep hb1)).mono ?_; rintro e w2 ⟨rfl, hb2⟩; rw [HB.out])
  | (go_at_call 52; refine (rcheck_any _ _ _ a _ hna hca hsA).mono ?_; rintro e w1 ⟨rfl, hb1⟩; rw [HA.out]))
 go_ret
 exact ⟨rfl, Bl.call hb1 hb2⟩
set_option maxHeartbeats 1000000 in
theorem roverlap_ok (A B : Option Addr) (ca cb na nb : Nat) (a b : List (Int × Int)) (w : World) (hna : na ≤ 9223372036854775807) (hnb : nb ≤ 9223372036854775807) (hca : na ≤ ca) (hcb : nb ≤ cb) (hsA : SpS w A na a) (hsB : SpS w B nb b) (ha : checkW a na = 0) (hb : checkW b nb = 0) :
 Calls Tryz.prog 84 #[.slice A na ca, .slice B nb cb] w fun e w' => e = .returned (.tuple #[.bool (overW a b).1, .int .i64 (overW a b).2]) ∧ Below w.heap.size w w' := by
 rw [over_some (a := a) (b := b) (by rw [hsA.1]; exact ha) (by rw [hsB.1]; exact hb)]
 have s1 := splitAllW_small a
 have s2 := splitAllW_small b
 have HC := Hj (rcheck2_any A B ca cb na nb a b w hna hnb hca hcb hsA hsB ha hb)
 clear ha hb
 obtain ⟨x, hx⟩ : ∃ x, Xb a = x := ⟨_, rfl⟩
 obtain ⟨y, hy⟩ : ∃ y, Xb b = y := ⟨_, rfl⟩
 have H1 := Hj (fun (w' : World) (hb' : Below w.heap.size w w') => rsplit_any A ca na a w' hna hca (hsA.keep hb'))
 have H2 := Hj (fun (w' : World) (hb' : Below w.heap.size w w') => rsplit_any B cb nb b w' hnb hcb (hsB.keep hb'))
 rw [hx] at s1 H1 ⊢
 rw [hy] at s2 H2 ⊢
 clear hx hy
 go_enter Tryz.func84, Tryz.ntmps84
 go_wp2_with (first
  | (go_at_call 115; have hz := hb3; refine (rsome_any _ _ _ _ _ _ x.2 y.2 _ (by omega) (by omega) (fun t ht => by have := s1.2 t ht; omega) (fun t ht => by have := s2.2 t ht; omega) (hS2.keep hb3) hS3).mono ?_; rintro e w4 ⟨rfl, hb4⟩)
  | (go_at_call 114; have hz := hb2; refine (H2.out _ (Bl.call hb1 hb2)).mono ?_; rintro e w3 ⟨v3, rfl, ho3, hb3⟩; obtain ⟨A3, c3, rfl, -, hS3, -⟩ := ho3.spss)
  | (go_at_call 114; have hz := hb1; refine (H1.out _ hb1).mono ?_; rintro e w2 ⟨v2, rfl, ho2, hb2⟩; obtain ⟨A2, c2, rfl, -, hS2, -⟩ := ho2.spss)
  | (go_at_call 113; refine HC.out.mono ?_; rintro e w1 ⟨rfl, hb1⟩))
 go_ret2
 exact ⟨rfl, Bl.call (Bl.call (Bl.call hb1 hb2) hb3) hb4⟩
end
section
set_option maxRecDepth 100000
open Go.RowKit
set_option maxHeartbeats 1000000 in
theorem rfits_1 (A1 A2 : Option Addr) (c1 c2 n1 n2 : Nat) (b : Bed4) (S : List Shp) (ps : List Pt5) (p : Pt5) (w : World) (hb : bedBad b = true) :
 Calls Tryz.prog 47 #[bedV b, .slice A1 n1 c1, .slice A2 n2 c2, putV p] w fun e w' => e = .returned (.int .i64 3) ∧ Below w.heap.size w w' := by
 have HB := Hj hb
 clear hb
 obtain ⟨sh, fl, qu, x, y⟩ := p
 obtain ⟨len, wid, rx, ry⟩ := b
 unfold putV bedV
 dsimp only
 go_enter Tryz.func47, Tryz.ntmps47
 go_wp2_with (go_at_call 34; refine (rsound_any ⟨len, wid, rx, ry⟩ _).mono ?_; rintro e w1 ⟨rfl, hb1⟩; rw [HB.out])
 go_ret
 exact ⟨rfl, Bl.call (Bl.alloc (Bl.alloc Br _) _) hb1⟩
set_option maxHeartbeats 1000000 in
theorem rfits_2 (A1 A2 : Option Addr) (c1 c2 n1 n2 : Nat) (b : Bed4) (S : List Shp) (ps : List Pt5) (p : Pt5) (w : World) (hS : ShS w A1 n1 S) (hb : bedBad b = false) (hp : ¬ (Xe S p).1 = 0) :
 Calls Tryz.prog 47 #[bedV b, .slice A1 n1 c1, .slice A2 n2 c2, putV p] w fun e w' => e = .returned (.int .i64 (Xe S p).1) ∧ Below w.heap.size w w' := by
 have hp' : ((Xe S p).1 != 0) = true := by simpa using hp
 clear hp
 have HB := Hj hb
 clear hb
 obtain ⟨len, wid, rx, ry⟩ := b
 obtain ⟨r, hr⟩ : ∃ r, Xe S p = r := ⟨_, rfl⟩
 rw [hr] at hp' ⊢
 have HR := Hj hr
 clear hr
 obtain ⟨r1, r2⟩ := r
 dsimp only at hp' ⊢
 obtain ⟨sh, fl, qu, x, y⟩ := p
 have H1 := Hj (BlkS.new2 w (.cells #[.int .i64 len, .int .i64 wid, .int .i64 rx, .int .i64 ry] 25) 39 #[.int .i64 sh, .bool fl, .int .i64 qu, .int .i64 x, .int .i64 y])
 unfold putV bedV
 dsimp only
 go_enter Tryz.func47, Tryz.ntmps47
 go_wp2_with (first
  | (go_at_call 35; refine (rpoly_any _ _ _ S ⟨sh, fl, qu, x, y⟩ _ (hS.keep (Bl.call (Bl.alloc (Bl.alloc Br _) _) hb1))).mono ?_; rintro e w2 ⟨v2, rfl, ho2, hb2⟩; rw [HR.out])
  | (go_at_call 34; refine (rsound_any ⟨len, wid, rx, ry⟩ _).mono ?_; rintro e w1 ⟨rfl, hb1⟩; rw [HB.out]; have k11 := H1.out.keep hb1; obtain ⟨b1, b2, b3, b4, b5, b6⟩ := k11.cells5))
 go_ret
 exact ⟨rfl, Bl.call (Bl.call (Bl.alloc (Bl.alloc Br _) _) hb1) hb2⟩
set_option maxHeartbeats 2000000 in
theorem rfits_3 (A1 A2 : Option Addr) (c1 c2 n1 n2 : Nat) (b : Bed4) (S : List Shp) (ps : List Pt5) (p : Pt5) (w : World) (hn2 : n2 ≤ 1000000) (hS : ShS w A1 n1 S) (hPu : PuS w A2 n2 ps) (hb : bedBad b = false) (hp : (Xe S p).1 = 0) :
 Calls Tryz.prog 47 #[bedV b, .slice A1 n1 c1, .slice A2 n2 c2, putV p] w fun e w' => e = .returned (.int .i64 (fitIn b S ps p (shp S p.sh.toNat) (Xe S p).2)) ∧ Below w.heap.size w w' := by
 obtain ⟨k, hk, hkn, hkt⟩ := polyW_sh hp
 have hck := polyW_check hp
 rw [hkt]
 clear hkt
 have HB := Hj hb
 clear hb
 obtain ⟨len, wid, rx, ry⟩ := b
 have hrl := polyW_len S p
 obtain ⟨r, hr⟩ : ∃ r, Xe S p = r := ⟨_, rfl⟩
 rw [hr] at hp hrl hck ⊢
 have HR := Hj hr
 clear hr
 obtain ⟨r1, r⟩ := r
 dsimp only at hp hrl hck ⊢
 subst hp
 have HCK := Hj hck
 clear hck
 obtain ⟨sh, fl, qu, x, y⟩ := p
 dsimp only at hk
 subst hk
 have hn1 : k < n1 := by rw [← hS.1]; exact hkn
 have hn1' := hS.2.1
 clear hkn
 obtain ⟨ba, oa, rfl, hbl, Ak, ck, g1, g2, g3, g4, g5, g6, g7, g8, g9⟩ := hS.at_ hn1
 obtain ⟨s, hs⟩ : ∃ s, shp S k = s := ⟨_, rfl⟩
 rw [hs] at g1 g2 g4 g6 g7 g8 g9 ⊢
 clear hs
 obtain ⟨pl, gr, mt, ⟨ax, ay⟩⟩ := s
 dsimp only at g1 g2 g4 g6 g7 g8 g9
 obtain ⟨npl, hnpl⟩ : ∃ npl, pl.length = npl := ⟨_, rfl⟩
 rw [hnpl] at g1 g2 g4
 clear hnpl g4 g2
 unfold putV bedV
 dsimp only
 obtain ⟨RES, hres⟩ : ∃ RES, fitIn ⟨len, wid, rx, ry⟩ S ps ⟨(k : Int), fl, qu, x, y⟩ ⟨pl, gr, mt, (ax, ay)⟩ r = RES := ⟨_, rfl⟩
 rw [hres]
 have HRES := Hj (show RES = if alwW gr false fl qu = false then 12 else if AnyB (fun i => outBed ⟨len, wid, rx, ry⟩ (gt r i)) r.length then 13 else if mt && !matW rx ry (ax, ay) ⟨(k : Int), fl, qu, x, y⟩ then 15 else fitTo S r ps ps.length from hres.symm)
 clear hres
 obtain ⟨nr, hnr⟩ : ∃ nr, r.length = nr := ⟨_, rfl⟩
 have HNR := Hj hnr
 rw [hnr] at hrl HRES HCK
 clear hnr
 obtain ⟨W2, hW2⟩ : ∃ W2, W2 = ((w.alloc (.cells #[.int .i64 len, .int .i64 wid, .int .i64 rx, .int .i64 ry] 25)).alloc (.cells #[.int .i64 (k : Int), .bool fl, .int .i64 qu, .int .i64 x, .int .i64 y] 39)) := ⟨_, rfl⟩
 have h0 : BlkS W2 w.heap.size 25 #[.int .i64 len, .int .i64 wid, .int .i64 rx, .int .i64 ry] := by rw [hW2]; exact (BlkS.new _ _ _).alloc _
 have h1 : BlkS W2 (w.heap.size + 1) 39 #[.int .i64 (k : Int), .bool fl, .int .i64 qu, .int .i64 x, .int .i64 y] := by rw [hW2]; exact BlkS.new2 _ _ _ _
 have hbw : Below w.heap.size w W2 := by rw [hW2]; exact (Bl.alloc (Bl.alloc Br _) _)
 have H0 := Hj h0
 have H1 := Hj h1
 have HBW := Hj hbw
 subst hW2
 clear h0 h1 hbw
 cases ha : alwW gr false fl qu with
 | false =>
   rw [if_pos ha] at HRES
   have HA := Hj ha
   clear ha
   go_enter Tryz.func47, Tryz.ntmps47
   go_wp2_with (first | (go_at_call 81; refine (rallowed_any _ _ _ _ _).mono ?_; rintro e w3 ⟨rfl, hb3⟩; rw [HA.out]) | (go_at_call 35; have _t := hb1; refine (rpoly_any _ _ _ S ⟨(k : Int), fl, qu, x, y⟩ _ (hS.keep hbb1)).mono ?_; rintro e w2 ⟨v2, rfl, ho2, hb2⟩; rw [HR.out] at ho2 ⊢; clear a1 a2 a3 a4 a5 b1 b2 b3 b4 b5 b6; have k02 := k01.keep hb2; have k12 := k11.keep hb2; obtain ⟨a1, a2, a3, a4, a5⟩ := k02.cells4; obtain ⟨b1, b2, b3, b4, b5, b6⟩ := k12.cells5; have hbb := Bl.call hbb1 hb2; have e1 := Xa hbb g1; have e2 := Xa hbb g6; have e3 := Xa hbb g7; have e4 := Xa hbb g8; have e5 := Xa hbb g9) | (go_at_call 34; refine (rsound_any ⟨len, wid, rx, ry⟩ _).mono ?_; rintro e w1 ⟨rfl, hb1⟩; rw [HB.out]; have k01 := H0.out.keep hb1; have k11 := H1.out.keep hb1; obtain ⟨a1, a2, a3, a4, a5⟩ := k01.cells4; obtain ⟨b1, b2, b3, b4, b5, b6⟩ := k11.cells5; have hbb1 := Bl.call HBW.out hb1))
   go_ret
   exact ⟨ret_int HRES.out.symm, Bl.call (Bl.alloc hbb _) hb3⟩
 | true =>
   rw [if_neg (by rw [ha]; simp)] at HRES
   have HA := Hj ha
   clear ha
   go_enter Tryz.func47, Tryz.ntmps47
   go_upto_region 9 with (first | (go_at_call 81; refine (rallowed_any _ _ _ _ _).mono ?_; rintro e w3 ⟨rfl, hb3⟩; rw [HA.out]) | (go_at_call 35; have _t := hb1; refine (rpoly_any _ _ _ S ⟨(k : Int), fl, qu, x, y⟩ _ (hS.keep hbb1)).mono ?_; rintro e w2 ⟨v2, rfl, ho2, hb2⟩; rw [HR.out] at ho2 ⊢; clear a1 a2 a3 a4 a5 b1 b2 b3 b4 b5 b6; have k02 := k01.keep hb2; have k12 := k11.keep hb2; obtain ⟨a1, a2, a3, a4, a5⟩ := k02.cells4; obtain ⟨b1, b2, b3, b4, b5, b6⟩ := k12.cells5; have hbb := Bl.call hbb1 hb2; have e1 := Xa hbb g1; have e2 := Xa hbb g6; have e3 := Xa hbb g7; have e4 := Xa hbb g8; have e5 := Xa hbb g9) | (go_at_call 34; refine (rsound_any ⟨len, wid, rx, ry⟩ _).mono ?_; rintro e w1 ⟨rfl, hb1⟩; rw [HB.out]; have k01 := H0.out.keep hb1; have k11 := H1.out.keep hb1; obtain ⟨a1, a2, a3, a4, a5⟩ := k01.cells4; obtain ⟨b1, b2, b3, b4, b5, b6⟩ := k11.cells5; have hbb1 := Bl.call HBW.out hb1))
   have hbA : Below w.heap.size w w3 := Bl.call (Bl.alloc hbb _) hb3
   have K0 := (k02.alloc (.cells #[.slice Ak npl ck, .int .i64 gr, .bool mt, .int .i64 ax, .int .i64 ay] 49)).keep hb3
   have K1 := (k12.alloc (.cells #[.slice Ak npl ck, .int .i64 gr, .bool mt, .int .i64 ax, .int .i64 ay] 49)).keep hb3
   have K2 := (BlkS.new w2 49 #[.slice Ak npl ck, .int .i64 gr, .bool mt, .int .i64 ax, .int .i64 ay]).keep hb3
   have hoA := OwG.keep (OwG.alloc ho2 (.cells #[.slice Ak npl ck, .int .i64 gr, .bool mt, .int .i64 ax, .int .i64 ay] 49)) hb3
   obtain ⟨B11, hB11⟩ : ∃ B11, B11 = w2.heap.size := ⟨_, rfl⟩
   rw [← hB11] at K2 ⊢
   obtain ⟨A9, c9, rfl, hc9, hS9, -, -⟩ := OwS.els hoA
   rw [HNR.out] at hc9 hS9 ⊢
   have hSA := hS.keep hbA
   have hPA := hPu.keep hbA
   have HK0 := Hj K0
   have HK1 := Hj K1
   have HK2 := Hj K2
   clear ho2 hoA a1 a2 a3 a4 a5 b1 b2 b3 b4 b5 b6 e1 e2 e3 e4 e5 k01 k11 k02 k12 hb1 hb2 hb3 hbb hbb1 _t hB11 K0 K1 K2 g1 g6 g7 g8 g9 hbl hS hPu H0 H1 HBW
   obtain ⟨a1, a2, a3, a4, a5⟩ := HK0.out.cells4
   cases hon : AnyB (fun i => outBed ⟨len, wid, rx, ry⟩ (gt r i)) nr with
   | true =>
     rw [if_pos hon] at HRES
     have HON := Hj hon
     clear hon
     go_wp2_with (go_at_call 82; refine (ron_any ⟨len, wid, rx, ry⟩ _ _ _ r _ (by omega) hS9).mono ?_; rintro e w4 ⟨rfl, hb4⟩; rw [HON.out])
     go_ret
     exact ⟨ret_int HRES.out.symm, Bl.call hbA hb4⟩
   | false =>
     rw [if_neg (by rw [hon]; simp)] at HRES
     have HON := Hj hon
     clear hon
     cases hmm : (!mt || matW rx ry (ax, ay) ⟨(k : Int), fl, qu, x, y⟩) with
     | false =>
       rw [if_pos (show (mt && !matW rx ry (ax, ay) ⟨(k : Int), fl, qu, x, y⟩) = true by cases mt <;> simp_all)] at HRES
       have HMM := Hj hmm
       clear hmm
       go_wp2_with (first
        | (go_at_call 83; have _t3 := hb4; refine (rmatched_any _ _ _ _ _ _ mt _ _ ⟨(k : Int), fl, qu, x, y⟩ _).mono ?_; rintro e w5 ⟨rfl, hb5⟩; rw [HMM.out])
        | (go_at_call 82; refine (ron_any ⟨len, wid, rx, ry⟩ _ _ _ r _ (by omega) hS9).mono ?_; rintro e w4 ⟨rfl, hb4⟩; rw [HON.out]; clear a1 a2 a3 a4 a5; obtain ⟨a1, a2, a3, a4, a5⟩ := (HK0.out.keep hb4).cells4; obtain ⟨b1, b2, b3, b4, b5, b6⟩ := (HK1.out.keep hb4).cells5; obtain ⟨e1, e2, e3, e4, e5, e6⟩ := (HK2.out.keep hb4).cells5))
       go_ret
       exact ⟨ret_int HRES.out.symm, Bl.call (Bl.call hbA hb4) hb5⟩
     | true =>
       rw [if_neg (show ¬ (mt && !matW rx ry (ax, ay) ⟨(k : Int), fl, qu, x, y⟩) = true by cases mt <;> simp_all)] at HRES
       have HMM := Hj hmm
       clear hmm
       go_wp2_with (first
        | (go_at_call 83; have _t3 := hb4; refine (rmatched_any _ _ _ _ _ _ mt _ _ ⟨(k : Int), fl, qu, x, y⟩ _).mono ?_; rintro e w5 ⟨rfl, hb5⟩; rw [HMM.out])
        | (go_at_call 82; refine (ron_any ⟨len, wid, rx, ry⟩ _ _ _ r _ (by omega) hS9).mono ?_; rintro e w4 ⟨rfl, hb4⟩; rw [HON.out]; clear a1 a2 a3 a4 a5; obtain ⟨a1, a2, a3, a4, a5⟩ := (HK0.out.keep hb4).cells4; obtain ⟨b1, b2, b3, b4, b5, b6⟩ := (HK1.out.keep hb4).cells5; obtain ⟨e1, e2, e3, e4, e5, e6⟩ := (HK2.out.keep hb4).cells5))
       have hbL := Bl.call hb4 hb5
       clear a1 a2 a3 a4 a5 b1 b2 b3 b4 b5 b6 e1 e2 e3 e4 e5 e6 hb4 hb5 _t3
       go_loopw [12] (fun i wx => ∃ j : Nat, j ≤ n2 ∧ i = .int .i64 j ∧ Hid (fitTo S r ps j = 0) ∧ Below w3.heap.size w3 wx) (fun i _ => n2 - (intOf i).toNat)
       case atStart => exact ⟨0, Nat.zero_le _, rfl, Hj rfl, hbL⟩
       case round =>
        clear hbL
        obtain ⟨j, hj, rfl, hp, hbr⟩ := hrel
        by_cases hlt2 : j < n2
        ·obtain ⟨bb, ob, rfl, hbl, d1, d2, d3, d4, d5⟩ := (hPA.keep hbr).at_ hlt2
         have hql := polyW_len S (pt ps j)
         have hqc := fun (h : (Xe S (pt ps j)).1 = 0) => polyW_check h
         have hstep := Hj (show fitTo S r ps (j + 1) = if (Xe S (pt ps j)).1 ≠ 0 then (Xe S (pt ps j)).1 else if (overW (Xe S (pt ps j)).2 r).2 ≠ 0 then (overW (Xe S (pt ps j)).2 r).2 else if (overW (Xe S (pt ps j)).2 r).1 then 14 else 0 by rw [fitTo, if_neg (by rw [hp.out]; simp)])
         obtain ⟨qq, hqq⟩ : ∃ qq, Xe S (pt ps j) = qq := ⟨_, rfl⟩
         rw [hqq] at hql hstep hqc
         have HQQ := Hj hqq
         clear hqq
         obtain ⟨q1, q⟩ := qq
         dsimp only at hql hstep hqc
         obtain ⟨pq, hpt⟩ : ∃ pq, pt ps j = pq := ⟨_, rfl⟩
         rw [hpt] at d1 d2 d3 d4 d5 HQQ
         clear hpt
         obtain ⟨sh2, fl2, qu2, x2, y2⟩ := pq
         dsimp only at d1 d2 d3 d4 d5
         obtain ⟨nq, hnq⟩ : ∃ nq, q.length = nq := ⟨_, rfl⟩
         have HNQ := Hj hnq
         rw [hnq] at hql hqc
         clear hnq
         have z1 : (j : Int) < (n2 : Int) := by omega
         by_cases hq1 : q1 = 0
         ·have HQC := Hj (hqc hq1)
          subst hq1
          have hov := over_some (a := q) (b := r) (by rw [HNQ.out]; exact HQC.out) (by rw [HNR.out]; exact HCK.out)
          have hz2 : (overW q r).2 = 0 := by rw [hov]
          rw [if_neg (by simp), if_neg (by rw [hz2]; simp)] at hstep
          have HOK := Hj (fun (A5 : Option Addr) (c5 : Nat) (w' : World) (h1 : nq ≤ c5) (h2 : SpS w' A5 nq q) (h3 : SpS w' A9 nr r) => roverlap_ok A5 A9 c5 c9 nq nr q r w' (by omega) (by omega) h1 hc9 h2 h3 HQC.out HCK.out)
          rw [hz2] at HOK
          clear hov hz2 hqc
          cases ho2 : (overW q r).1 with
          | true =>
            rw [if_pos ho2] at hstep
            rw [ho2] at HOK
            clear ho2
            have hbad := fitTo_bad hstep.out (by omega) (n2 - (j + 1))
            rw [show j + 1 + (n2 - (j + 1)) = n2 by omega] at hbad
            rw [hPA.1, hbad] at HRES
            clear hbad
            go_wp2_with (first
             | (go_at_call 84; refine (HOK.out _ _ _ hc5 hS5 (hS9.keep (Bl.call hbr hb5))).mono ?_; rintro e w6 ⟨rfl, hb6⟩)
             | (go_at_call 35; refine (rpoly_any _ _ _ S ⟨sh2, fl2, qu2, x2, y2⟩ _ (hSA.keep hbr)).mono ?_; rintro e w5 ⟨v5, rfl, ho5, hb5⟩; rw [HQQ.out] at ho5 ⊢; obtain ⟨A5, c5, rfl, hc5, hS5, -, -⟩ := OwS.els ho5; rw [HNQ.out] at hc5 hS5 ⊢))
            go_ret
            exact ⟨ret_int HRES.out.symm, Bl.call hbA (Bl.call (Bl.call hbr hb5) hb6)⟩
          | false =>
            rw [if_neg (by rw [ho2]; simp)] at hstep
            rw [ho2] at HOK
            clear ho2
            go_wp2_with (first
             | (go_at_call 84; refine (HOK.out _ _ _ hc5 hS5 (hS9.keep (Bl.call hbr hb5))).mono ?_; rintro e w6 ⟨rfl, hb6⟩)
             | (go_at_call 35; refine (rpoly_any _ _ _ S ⟨sh2, fl2, qu2, x2, y2⟩ _ (hSA.keep hbr)).mono ?_; rintro e w5 ⟨v5, rfl, ho5, hb5⟩; rw [HQQ.out] at ho5 ⊢; obtain ⟨A5, c5, rfl, hc5, hS5, -, -⟩ := OwS.els ho5; rw [HNQ.out] at hc5 hS5 ⊢))
            exact ⟨⟨j + 1, by omega, by go_num, hstep, Bl.call (Bl.call hbr hb5) hb6⟩, by simp [intOf]; omega⟩
         ·have qo : (q1 != 0) = true := by simpa using hq1
          rw [if_pos hq1] at hstep
          have hbad := fitTo_bad hstep.out hq1 (n2 - (j + 1))
          rw [show j + 1 + (n2 - (j + 1)) = n2 by omega] at hbad
          rw [hPA.1, hbad] at HRES
          clear hbad hq1 hqc
          go_wp2_with (go_at_call 35; refine (rpoly_any _ _ _ S ⟨sh2, fl2, qu2, x2, y2⟩ _ (hSA.keep hbr)).mono ?_; rintro e w5 ⟨v5, rfl, ho5, hb5⟩; rw [HQQ.out])
          go_ret
          exact ⟨ret_int HRES.out.symm, Bl.call hbA (Bl.call hbr hb5)⟩
        ·obtain rfl : n2 = j := by omega
         rw [hPA.1, hp.out] at HRES
         go_wp2_with fail
         go_ret
         exact ⟨ret_int HRES.out.symm, Bl.call hbA hbr⟩
theorem rfits_any (A1 A2 : Option Addr) (c1 c2 n1 n2 : Nat) (b : Bed4) (S : List Shp) (ps : List Pt5) (p : Pt5) (w : World) (hn2 : n2 ≤ 1000000) (hS : ShS w A1 n1 S) (hPu : PuS w A2 n2 ps) :
 Calls Tryz.prog 47 #[bedV b, .slice A1 n1 c1, .slice A2 n2 c2, putV p] w fun e w' => e = .returned (.int .i64 (fitsW b S ps p)) ∧ Below w.heap.size w w' := by
 by_cases hb : bedBad b = true
 ·rw [show fitsW b S ps p = 3 by unfold fitsW; rw [if_pos hb]]
  exact rfits_1 A1 A2 c1 c2 n1 n2 b S ps p w hb
 ·by_cases hp : (Xe S p).1 = 0
  ·rw [show fitsW b S ps p = fitIn b S ps p (shp S p.sh.toNat) (Xe S p).2 by unfold fitsW; rw [if_neg hb, if_neg (by rw [hp]; simp)]]
   exact rfits_3 A1 A2 c1 c2 n1 n2 b S ps p w hn2 hS hPu (by simpa using hb) hp
  ·rw [show fitsW b S ps p = (Xe S p).1 by unfold fitsW; rw [if_neg hb, if_pos hp]]
   exact rfits_2 A1 A2 c1 c2 n1 n2 b S ps p w hS (by simpa using hb) hp
end
end Go.Proofs.YtmdncaoilegnnaaGreat

/- Lean texts of the claim. -/
import Derived.Test.YtmdncaoilegnnaaGreatXG52
import Derived.Test.YtmdncaoilegnnaaGreatXG50
import Derived.Test.YtmdncaoilegnnaaGreatXG41
namespace Go.Proofs.YtmdncaoilegnnaaGreat
set_option linter.unusedVariables false
set_option linter.unusedSimpArgs false
section
set_option maxRecDepth 100000
open Go.RowKit
set_option maxHeartbeats 400000 in
theorem rdist_any (ax ay bx bY : Int) (w : World) (ha : nearB 4194304 (ax, ay)) (hb : nearB 4194304 (bx, bY)) :
 Calls Tryz.prog 200 #[.agg #[.int .i64 ax, .int .i64 ay], .agg #[.int .i64 bx, .int .i64 bY]] w fun e w' => e = .returned (.int .i64 (Ears.ds (ax, ay) (bx, bY))) ∧ Below w.heap.size w w' := by
 unfold nearB at ha hb
 simp only at ha hb
 obtain ⟨a1, a2, a3, a4⟩ := ha
 obtain ⟨b1, b2, b3, b4⟩ := hb
 have q1 : IntKind.i64.wrap (ax - bx) = ax - bx := wrap_in _ (by omega) (by omega)
 have q2 : IntKind.i64.wrap (bx - ax) = bx - ax := wrap_in _ (by omega) (by omega)
 have q3 : IntKind.i64.wrap (ay - bY) = ay - bY := wrap_in _ (by omega) (by omega)
 have q4 : IntKind.i64.wrap (bY - ay) = bY - ay := wrap_in _ (by omega) (by omega)
 have HB := Hj (show (-4194304 ≤ ax ∧ ax ≤ 4194304 ∧ -4194304 ≤ ay ∧ ay ≤ 4194304) ∧ (-4194304 ≤ bx ∧ bx ≤ 4194304 ∧ -4194304 ≤ bY ∧ bY ≤ 4194304) from ⟨⟨a1, a2, a3, a4⟩, b1, b2, b3, b4⟩)
 clear a1 a2 a3 a4 b1 b2 b3 b4
 go_enter Tryz.func200, Tryz.ntmps200
 go_wp2_with fail
 all_goals go_ret
 all_goals exact ⟨ret_int (by have hB := HB.out; unfold Ears.ds wrap64; simp only; omega), (Bl.alloc (Bl.alloc Br _) _)⟩
theorem gt_rot0 {l : List (Int × Int)} {f : Nat} (h : f < l.length) : gt (rot l f) 0 = gt l f := by
 unfold rot gt
 have : l.drop f = l[f] :: l.drop (f + 1) := List.drop_eq_getElem_cons h
 rw [this, List.cons_append, List.getD_cons_zero, List.getD_eq_getElem?_getD, List.getElem?_eq_getElem h]
 rfl
theorem rot_len {l : List (Int × Int)} {f : Nat} (h : f ≤ l.length) : (rot l f).length = l.length := by
 unfold rot; rw [List.length_append, List.length_drop, List.length_take]; omega
theorem frst_least {l : List (Int × Int)} : ∀ k i, i < k → lessS (gt l i) (gt l (frst l k)) = false
 | 0, i, h => absurd h (Nat.not_lt_zero _)
 | k + 1, i, h => by
   by_cases c : lessS (gt l k) (gt l (frst l k)) = true
   ·rw [frst, if_pos c]
    by_cases e : i = k
    ·subst e; unfold lessS; simp
    ·have := frst_least (l := l) k i (by omega)
     unfold lessS at *; simp at *; omega
   ·rw [frst, if_neg c]
    by_cases e : i = k
    ·subst e; simpa using c
    ·exact frst_least k i (by omega)
theorem lit1 (w : World) (p : Int × Int) : OwS (w.alloc (.cells #[.int .i64 p.1, .int .i64 p.2] 37)) w.heap.size (.slice (some ⟨w.heap.size, 0, none⟩) 1 1) [p] :=
 World.ownsRow_lit w #[.int .i64 p.1, .int .i64 p.2] 1 (Nat.le_refl _) (by unfold maxLen; omega) rfl
theorem crs_wide {a b c : Int × Int} (ha : nearB 4194304 a) (hb : nearB 4194304 b) (hc : nearB 4194304 c) : crossW a b c = Ears.cr a b c := by
 have md : ∀ {x y : Int}, -8388608 ≤ x → x ≤ 8388608 → -8388608 ≤ y → y ≤ 8388608 → -70368744177664 ≤ x * y ∧ x * y ≤ 70368744177664 := by
  intro x y h1 h2 h3 h4
  have h := Nat.mul_le_mul (show x.natAbs ≤ 8388608 by omega) (show y.natAbs ≤ 8388608 by omega)
  rw [← Int.natAbs_mul] at h
  generalize x * y = z at h ⊢
  omega
 unfold nearB at ha hb hc
 unfold crossW Ears.cr
 rw [wrap_near (z := b.1 - a.1) (by omega) (by omega), wrap_near (z := c.2 - a.2) (by omega) (by omega), wrap_near (z := b.2 - a.2) (by omega) (by omega), wrap_near (z := c.1 - a.1) (by omega) (by omega)]
 have m1 := md (x := b.1 - a.1) (y := c.2 - a.2) (by omega) (by omega) (by omega) (by omega)
 have m2 := md (x := b.2 - a.2) (y := c.1 - a.1) (by omega) (by omega) (by omega) (by omega)
 generalize (b.1 - a.1) * (c.2 - a.2) = u at m1 ⊢
 generalize (b.2 - a.2) * (c.1 - a.1) = v at m2 ⊢
 rw [show wrap64 u = u by unfold wrap64; omega, show wrap64 v = v by unfold wrap64; omega, show wrap64 (u - v) = u - v by unfold wrap64; omega]
theorem gt_app0 {l m : List (Int × Int)} (h : 0 < l.length) : gt (l ++ m) 0 = gt l 0 := by unfold gt; simp [List.getD, List.getElem?_append_left h]
def nxTo (l : List (Int × Int)) (o : Int × Int) (k : Nat) : Int × Int := (l.take k).foldl (Ears.nxStep o) o
theorem nxTo_succ {l : List (Int × Int)} {o : Int × Int} {k : Nat} (h : k < l.length) : nxTo l o (k + 1) = Ears.nxStep o (nxTo l o k) (gt l k) := by
 unfold nxTo
 rw [List.take_succ_eq_append_getElem h, List.foldl_append]
 simp [gt, h]
theorem nxTo_end {l : List (Int × Int)} {o : Int × Int} {n : Nat} (h : l.length = n) : nxTo l o n = Ears.nxt o l := by
 unfold nxTo Ears.nxt; rw [List.take_of_length_le (by omega)]
theorem nx_yes {o nx x : Int × Int} (h1 : eqS x o = false) (h2 : nx = o ∨ Ears.cr o nx x < 0 ∨ (Ears.cr o nx x = 0 ∧ Ears.ds o nx < Ears.ds o x)) : Ears.nxStep o nx x = x := by
 unfold Ears.nxStep; rw [if_pos ⟨(eqS_false _ _).1 h1, h2⟩]
theorem nx_no1 {o nx x : Int × Int} (h1 : eqS x o = true) : Ears.nxStep o nx x = nx := by
 unfold Ears.nxStep; rw [if_neg]; rintro ⟨h, -⟩; exact h ((eqS_iff _ _).1 h1)
theorem nx_no2 {o nx x : Int × Int} (h2 : ¬ (nx = o ∨ Ears.cr o nx x < 0 ∨ (Ears.cr o nx x = 0 ∧ Ears.ds o nx < Ears.ds o x))) : Ears.nxStep o nx x = nx := by
 unfold Ears.nxStep; rw [if_neg]; rintro ⟨-, h⟩; exact h2 h
set_option maxHeartbeats 4000000 in
theorem rwrap_any (b off cap n : Nat) (l : List (Int × Int)) (w : World) (hl : n ≤ 1000) (h0 : 0 < n) (hcap : n ≤ cap) (hs : SpS w (some ⟨b, off, none⟩) n l) (hnr : ∀ q ∈ l, nearB 4194304 q) :
 Calls Tryz.prog 176 #[.slice (some ⟨b, off, none⟩) n cap] w (RetS w (Ears.wrapGo l (gt l (frst l n)) n (gt l (frst l n)) [gt l (frst l n)])) := by
 have HL := Hj hs.1
 have hf := frst_lt l n h0
 have HR0 := Hj (show gt (rot l (frst l n)) 0 = gt l (frst l n) from gt_rot0 (by rw [HL.out]; exact hf))
 have HR1 := Hj (show (rot l (frst l n)).length = n by rw [rot_len (by rw [HL.out]; omega), HL.out])
 have hNa : nearB 4194304 (gt l (frst l n)) := hnr _ (gt_in (by rw [HL.out]; exact hf))
 have HNR := Hj (show ∀ j, j < n → nearB 4194304 (gt l j) from fun j hj => hnr _ (gt_in (by rw [HL.out]; exact hj)))
 have HLS := Hj (rleast_any b off cap n l w (by omega) h0 hcap hs)
 obtain ⟨rl, hrl⟩ : ∃ rl, rot l (frst l n) = rl := ⟨_, rfl⟩
 rw [hrl] at HR0 HR1 HLS
 obtain ⟨a, ha⟩ : ∃ a, gt l (frst l n) = a := ⟨_, rfl⟩
 rw [ha] at HR0 hNa ⊢
 have HNA := Hj hNa
 clear hrl ha hf hnr hNa
 have q0 : ¬ n = 0 := by omega
 have heqs := eqInSpot
 go_enter Tryz.func176, Tryz.ntmps176
 go_wp2_with (go_at_call 191; refine HLS.out.mono ?_; rintro e w1 ⟨v1, rfl, ho1, hb1⟩; obtain ⟨g1, c1, rfl, hc1, hs1⟩ := ho1.formS HR1.out h0; obtain ⟨d1, d2⟩ := hs1.cells (k := 0) h0; rw [HR0.out] at d1 d2; simp only [Nat.zero_mul, Nat.add_zero, Nat.zero_add] at d1 d2)
 obtain ⟨B3, hB3e⟩ : ∃ B3, w1.heap.size = B3 := ⟨_, rfl⟩
 have hw3 : w.heap.size ≤ B3 := by rw [← hB3e]; exact hb1.size
 have hI := Hj (show BlkS ((w1.alloc (.cells #[.int .i64 a.1, .int .i64 a.2] 37)).alloc (.cells #[.int .i64 a.1, .int .i64 a.2] 37)) B3 37 #[.int .i64 a.1, .int .i64 a.2] ∧ OwS ((w1.alloc (.cells #[.int .i64 a.1, .int .i64 a.2] 37)).alloc (.cells #[.int .i64 a.1, .int .i64 a.2] 37)) (B3 + 1) (.slice (some ⟨B3 + 1, 0, none⟩) 1 1) [a] ∧ Below w.heap.size w ((w1.alloc (.cells #[.int .i64 a.1, .int .i64 a.2] 37)).alloc (.cells #[.int .i64 a.1, .int .i64 a.2] 37)) from by
  subst hB3e
  exact ⟨(BlkS.new _ _ _).alloc _, by have := lit1 (w1.alloc (.cells #[.int .i64 a.1, .int .i64 a.2] 37)) a; simpa using this, Bl.alloc (Bl.alloc hb1 _) _⟩)
 rw [hB3e]
 clear hB3e d1 d2 hs1 hc1 ho1 hb1 HLS HR0 HR1
 go_loopw [4, 5] (fun s4 s5 wr => ∃ (i : Nat) (o : Int × Int) (out : List (Int × Int)), i ≤ n ∧ s5 = .int .i64 i ∧ out.length ≤ i + 1 ∧ 0 < out.length ∧ Hid (gt out 0 = a) ∧ Hid (nearB 4194304 o) ∧ BlkS wr B3 37 #[.int .i64 o.1, .int .i64 o.2] ∧ OwS wr (B3 + 1) s4 out ∧ Below w.heap.size w wr ∧ Hid (Ears.wrapGo l a (n - i) o out = Ears.wrapGo l a n a [a])) (fun _ i _ => n - (intOf i).toNat)
 case atStart => exact ⟨0, a, [a], Nat.zero_le _, rfl, by simp, by simp, Hj rfl, HNA, hI.out.1, hI.out.2.1, hI.out.2.2, Hj rfl⟩
 case round =>
  clear hI HNA
  obtain ⟨i, o, out, hi, rfl, hol, hop, HO, HNo, hB3, ho, hb, HW⟩ := hrel
  by_cases hil : i < n
  ·obtain ⟨d1, d2, d3, d4, d5⟩ := hB3.two
   have q1 : (i : Int) < (n : Int) := by omega
   go_wp2_with fail
   obtain ⟨B6, hB6e⟩ : ∃ B6, wr.heap.size = B6 := ⟨_, rfl⟩
   rw [hB6e]
   have h36 : B3 < B6 := by rw [← hB6e]; exact d5
   have HI2 := Hj (show BlkS (wr.alloc (.cells #[.int .i64 o.1, .int .i64 o.2] 37)) B6 37 #[.int .i64 o.1, .int .i64 o.2] ∧ Below wr.heap.size wr (wr.alloc (.cells #[.int .i64 o.1, .int .i64 o.2] 37)) from ⟨by rw [← hB6e]; exact BlkS.new _ _ _, Bl.alloc Br _⟩)
   obtain ⟨wo, rfl⟩ : ∃ wo : World, wo = wr := ⟨_, rfl⟩
   clear d1 d2 d3 d4
   go_loopw [7] (fun s7 wx => ∃ (j : Nat) (nx : Int × Int), j ≤ n ∧ s7 = .int .i64 j ∧ Hid (nearB 4194304 nx) ∧ Hid (nxTo l o j = nx) ∧ BlkS wx B6 37 #[.int .i64 nx.1, .int .i64 nx.2] ∧ Below wo.heap.size wo wx) (fun i _ => n - (intOf i).toNat)
   case atStart => exact ⟨0, o, Nat.zero_le _, rfl, HNo, Hj rfl, HI2.out.1, HI2.out.2⟩
   case round =>
    clear HI2
    obtain ⟨j, nx, hj, rfl, HNn, HJ, hB6, hbx⟩ := hrel
    have hB30 := hB3
    clear hB3
    have hB3 := hB30.keep hbx
    by_cases hlt : j < n
    ·have q2 : (j : Int) < (n : Int) := by omega
     obtain ⟨c1, c2⟩ := (hs.keep (Bl.call hb hbx)).cells hlt
     have HNx := Hj (HNR.out j hlt)
     have HX : Hid (gt l j = gt l j) := Hj rfl
     obtain ⟨x, hx⟩ : ∃ x, gt l j = x := ⟨_, rfl⟩
     rw [hx] at c1 c2 HNx
     replace HX := Hj hx
     clear hx
     obtain ⟨d1, d2, d3, d4, d5⟩ := hB3.two
     obtain ⟨f1, f2, f3, f4, f5⟩ := hB6.two
     go_wp2_with fail
     refine Xc wr [(⟨B3, 0, none⟩, .int .i64 o.1), (⟨B3, 1, none⟩, .int .i64 o.2), (⟨B6, 0, none⟩, .int .i64 nx.1), (⟨B6, 1, none⟩, .int .i64 nx.2), (⟨b, off + j * 2, none⟩, .int .i64 x.1), (⟨b, off + j * 2 + 1, none⟩, .int .i64 x.2)] (by kernel_rfl) (by kernel_rfl) ⟨Br, by simp only [List.mem_cons, List.not_mem_nil, forall_eq_or_imp, or_false, forall_eq]; go_simp⟩ ?_
     repeat
      apply wq_plain
      ·rfl
      ·intro w1 hw1
       have hx := hw1.2
       simp only [List.mem_cons, List.not_mem_nil, forall_eq_or_imp, or_false, forall_eq] at hx
       go_simp
       first | rfl | exact calls_cls hw1 (rcross_any _ _ _ _ _ _ _)
      go_simp
     refine wpQuiet_nil ?_
     intro wz hCwz
     have hbz := hCwz.1
     clear hCwz d1 d2 d3 d4 d5 f1 f2 f3 f4 f5
     obtain ⟨wx, hwx⟩ : ∃ wx : World, wx = wz := ⟨_, rfl⟩
     rw [← hwx] at hbz ⊢
     clear hwx
     have z3 := hB3.keep hbz
     have z6 := hB6.keep hbz
     have y1 := Xa hbz c1
     have y2 := Xa hbz c2
     have hbW := Bl.call hbx hbz
     clear c1 c2 hB3 hB6 hbx hbz
     have hB3 := z3
     have hB6 := z6
     have c1 := y1
     have c2 := y2
     have hbx := hbW
     clear z3 z6 y1 y2 hbW
     obtain ⟨d1, d2, d3, d4, d5⟩ := hB3.two
     obtain ⟨f1, f2, f3, f4, f5⟩ := hB6.two
     obtain ⟨c, hc⟩ : ∃ c, crossW (o.1, o.2) (nx.1, nx.2) (x.1, x.2) = c := ⟨_, rfl⟩
     rw [hc]
     have HC := Hj (show Ears.cr o nx x = c from (crs_wide HNo.out HNn.out HNx.out).symm.trans hc)
     clear hc
     cases hv1 : eqS (x.1, x.2) (o.1, o.2) with
     | true =>
       have HV := Hj (show Ears.nxStep o nx x = nx from nx_no1 hv1)
       go_wp2_with fail
       refine Xc wx [(⟨B3, 0, none⟩, .int .i64 o.1), (⟨B3, 1, none⟩, .int .i64 o.2), (⟨B6, 0, none⟩, .int .i64 nx.1), (⟨B6, 1, none⟩, .int .i64 nx.2), (⟨b, off + j * 2, none⟩, .int .i64 x.1), (⟨b, off + j * 2 + 1, none⟩, .int .i64 x.2)] (by kernel_rfl) (by kernel_rfl) ⟨Br, by simp only [List.mem_cons, List.not_mem_nil, forall_eq_or_imp, or_false, forall_eq]; go_simp⟩ ?_
       repeat
        first
        | go_big_quiet_skip
        | go_big_quiet_want
          apply Exists.intro
          refine And.intro ?_ ?_
          ·intro w1 hw1
           have hx := hw1.2
           simp only [List.mem_cons, List.not_mem_nil, forall_eq_or_imp, or_false, forall_eq] at hx
           go_simp
           first | rfl | exact calls_cls hw1 (rdist_any _ _ _ _ _ HNo.out HNx.out) | exact calls_cls hw1 (rdist_any _ _ _ _ _ HNo.out HNn.out)
          go_simp
          go_big_quiet_on
       refine wpQuiet_nil ?_
       intro wy hCwy
       have hby := hCwy.1
       clear hCwy
       have k3 := hB3.keep hby
       have k6 := hB6.keep hby
       obtain ⟨x1, x2, x3, x4, x5⟩ := k6.two
       have y1 := Xa hby c1
       have y2 := Xa hby c2
       have hbW : Below wo.heap.size wo wy := Bl.call hbx hby
       clear d1 d2 d3 d4 d5 f1 f2 f3 f4 f5 c1 c2 hB3 hB6 hbx hby
       go_wp2_with fail
       exact ⟨⟨j + 1, nx, by omega, by go_num, HNn, Hj (by rw [nxTo_succ (by rw [HL.out]; exact hlt), HX.out, HJ.out]; exact HV.out), k6, hbW⟩, by simp [intOf]; omega⟩
     | false =>
       cases hv2 : eqS (nx.1, nx.2) (o.1, o.2) with
       | true =>
         have HV := Hj (show Ears.nxStep o nx x = x from nx_yes hv1 (.inl ((eqS_iff _ _).1 hv2)))
         go_wp2_with fail
         refine Xc wx [(⟨B3, 0, none⟩, .int .i64 o.1), (⟨B3, 1, none⟩, .int .i64 o.2), (⟨B6, 0, none⟩, .int .i64 nx.1), (⟨B6, 1, none⟩, .int .i64 nx.2), (⟨b, off + j * 2, none⟩, .int .i64 x.1), (⟨b, off + j * 2 + 1, none⟩, .int .i64 x.2)] (by kernel_rfl) (by kernel_rfl) ⟨Br, by simp only [List.mem_cons, List.not_mem_nil, forall_eq_or_imp, or_false, forall_eq]; go_simp⟩ ?_
         repeat
          first
          | go_big_quiet_skip
          | go_big_quiet_want
            apply Exists.intro
            refine And.intro ?_ ?_
            ·intro w1 hw1
             have hx := hw1.2
             simp only [List.mem_cons, List.not_mem_nil, forall_eq_or_imp, or_false, forall_eq] at hx
             go_simp
             first | rfl | exact calls_cls hw1 (rdist_any _ _ _ _ _ HNo.out HNx.out) | exact calls_cls hw1 (rdist_any _ _ _ _ _ HNo.out HNn.out)
            go_simp
            go_big_quiet_on
         refine wpQuiet_nil ?_
         intro wy hCwy
         have hby := hCwy.1
         clear hCwy
         have k3 := hB3.keep hby
         have k6 := hB6.keep hby
         obtain ⟨x1, x2, x3, x4, x5⟩ := k6.two
         have y1 := Xa hby c1
         have y2 := Xa hby c2
         have hbW : Below wo.heap.size wo wy := Bl.call hbx hby
         clear d1 d2 d3 d4 d5 f1 f2 f3 f4 f5 c1 c2 hB3 hB6 hbx hby
         go_wp2_with fail
         refine ⟨⟨j + 1, x, by omega, by go_num, HNx, Hj (by rw [nxTo_succ (by rw [HL.out]; exact hlt), HX.out, HJ.out]; exact HV.out), ?_, ?_⟩, by simp [intOf]; omega⟩
         ·exact (k6.set_ 0 _).set_ 1 _
         ·exact Below.setCell (Below.setCell hbW (by simp; omega) _) (by simp; omega) _
       | false =>
         have HN := Hj ((eqS_false nx o).1 hv2)
         by_cases hc0 : c < 0
         ·have HV := Hj (show Ears.nxStep o nx x = x from nx_yes hv1 (.inr (.inl (by rw [HC.out]; exact hc0))))
          have hv3 : decide (c < 0) = true := decide_eq_true hc0
          go_wp2_with fail
          refine Xc wx [(⟨B3, 0, none⟩, .int .i64 o.1), (⟨B3, 1, none⟩, .int .i64 o.2), (⟨B6, 0, none⟩, .int .i64 nx.1), (⟨B6, 1, none⟩, .int .i64 nx.2), (⟨b, off + j * 2, none⟩, .int .i64 x.1), (⟨b, off + j * 2 + 1, none⟩, .int .i64 x.2)] (by kernel_rfl) (by kernel_rfl) ⟨Br, by simp only [List.mem_cons, List.not_mem_nil, forall_eq_or_imp, or_false, forall_eq]; go_simp⟩ ?_
          repeat
           first
           | go_big_quiet_skip
           | go_big_quiet_want
             apply Exists.intro
             refine And.intro ?_ ?_
             ·intro w1 hw1
              have hx := hw1.2
              simp only [List.mem_cons, List.not_mem_nil, forall_eq_or_imp, or_false, forall_eq] at hx
              go_simp
              first | rfl | exact calls_cls hw1 (rdist_any _ _ _ _ _ HNo.out HNx.out) | exact calls_cls hw1 (rdist_any _ _ _ _ _ HNo.out HNn.out)
             go_simp
             go_big_quiet_on
          refine wpQuiet_nil ?_
          intro wy hCwy
          have hby := hCwy.1
          clear hCwy
          have k3 := hB3.keep hby
          have k6 := hB6.keep hby
          obtain ⟨x1, x2, x3, x4, x5⟩ := k6.two
          have y1 := Xa hby c1
          have y2 := Xa hby c2
          have hbW : Below wo.heap.size wo wy := Bl.call hbx hby
          clear d1 d2 d3 d4 d5 f1 f2 f3 f4 f5 c1 c2 hB3 hB6 hbx hby
          go_wp2_with fail
          refine ⟨⟨j + 1, x, by omega, by go_num, HNx, Hj (by rw [nxTo_succ (by rw [HL.out]; exact hlt), HX.out, HJ.out]; exact HV.out), ?_, ?_⟩, by simp [intOf]; omega⟩
          ·exact (k6.set_ 0 _).set_ 1 _
          ·exact Below.setCell (Below.setCell hbW (by simp; omega) _) (by simp; omega) _
         ·have hv3 : decide (c < 0) = false := decide_eq_false hc0
          by_cases hc1 : c = 0
          ·have hv4 : (c == 0) = true := by rw [hc1]; rfl
           by_cases hd : Ears.ds (o.1, o.2) (nx.1, nx.2) < Ears.ds (o.1, o.2) (x.1, x.2)
           ·have HV := Hj (show Ears.nxStep o nx x = x from nx_yes hv1 (.inr (.inr ⟨by rw [HC.out]; exact hc1, hd⟩)))
            have hv5 : decide (Ears.ds (o.1, o.2) (nx.1, nx.2) < Ears.ds (o.1, o.2) (x.1, x.2)) = true := decide_eq_true hd
            clear hc1 hc0
            go_wp2_with fail
            refine Xc wx [(⟨B3, 0, none⟩, .int .i64 o.1), (⟨B3, 1, none⟩, .int .i64 o.2), (⟨B6, 0, none⟩, .int .i64 nx.1), (⟨B6, 1, none⟩, .int .i64 nx.2), (⟨b, off + j * 2, none⟩, .int .i64 x.1), (⟨b, off + j * 2 + 1, none⟩, .int .i64 x.2)] (by kernel_rfl) (by kernel_rfl) ⟨Br, by simp only [List.mem_cons, List.not_mem_nil, forall_eq_or_imp, or_false, forall_eq]; go_simp⟩ ?_
            repeat
             first
             | go_big_quiet_skip
             | go_big_quiet_want
               apply Exists.intro
               refine And.intro ?_ ?_
               ·intro w1 hw1
                have hx := hw1.2
                simp only [List.mem_cons, List.not_mem_nil, forall_eq_or_imp, or_false, forall_eq] at hx
                go_simp
                first | rfl | exact calls_cls hw1 (rdist_any _ _ _ _ _ HNo.out HNx.out) | exact calls_cls hw1 (rdist_any _ _ _ _ _ HNo.out HNn.out)
               go_simp
               go_big_quiet_on
            refine wpQuiet_nil ?_
            intro wy hCwy
            have hby := hCwy.1
            clear hCwy
            have k3 := hB3.keep hby
            have k6 := hB6.keep hby
            obtain ⟨x1, x2, x3, x4, x5⟩ := k6.two
            have y1 := Xa hby c1
            have y2 := Xa hby c2
            have hbW : Below wo.heap.size wo wy := Bl.call hbx hby
            clear d1 d2 d3 d4 d5 f1 f2 f3 f4 f5 c1 c2 hB3 hB6 hbx hby
            go_wp2_with fail
            refine ⟨⟨j + 1, x, by omega, by go_num, HNx, Hj (by rw [nxTo_succ (by rw [HL.out]; exact hlt), HX.out, HJ.out]; exact HV.out), ?_, ?_⟩, by simp [intOf]; omega⟩
            ·exact (k6.set_ 0 _).set_ 1 _
            ·exact Below.setCell (Below.setCell hbW (by simp; omega) _) (by simp; omega) _
           ·have HV := Hj (show Ears.nxStep o nx x = nx from nx_no2 (by rintro (h | h | ⟨-, h⟩); exact HN.out h; rw [HC.out] at h; omega; exact hd h))
            have hv5 : decide (Ears.ds (o.1, o.2) (nx.1, nx.2) < Ears.ds (o.1, o.2) (x.1, x.2)) = false := decide_eq_false hd
            clear hc1 hc0
            go_wp2_with fail
            refine Xc wx [(⟨B3, 0, none⟩, .int .i64 o.1), (⟨B3, 1, none⟩, .int .i64 o.2), (⟨B6, 0, none⟩, .int .i64 nx.1), (⟨B6, 1, none⟩, .int .i64 nx.2), (⟨b, off + j * 2, none⟩, .int .i64 x.1), (⟨b, off + j * 2 + 1, none⟩, .int .i64 x.2)] (by kernel_rfl) (by kernel_rfl) ⟨Br, by simp only [List.mem_cons, List.not_mem_nil, forall_eq_or_imp, or_false, forall_eq]; go_simp⟩ ?_
            repeat
             first
             | go_big_quiet_skip
             | go_big_quiet_want
               apply Exists.intro
               refine And.intro ?_ ?_
               ·intro w1 hw1
                have hx := hw1.2
                simp only [List.mem_cons, List.not_mem_nil, forall_eq_or_imp, or_false, forall_eq] at hx
                go_simp
                first | rfl | exact calls_cls hw1 (rdist_any _ _ _ _ _ HNo.out HNx.out) | exact calls_cls hw1 (rdist_any _ _ _ _ _ HNo.out HNn.out)
               go_simp
               go_big_quiet_on
            refine wpQuiet_nil ?_
            intro wy hCwy
            have hby := hCwy.1
            clear hCwy
            have k3 := hB3.keep hby
            have k6 := hB6.keep hby
            obtain ⟨x1, x2, x3, x4, x5⟩ := k6.two
            have y1 := Xa hby c1
            have y2 := Xa hby c2
            have hbW : Below wo.heap.size wo wy := Bl.call hbx hby
            clear d1 d2 d3 d4 d5 f1 f2 f3 f4 f5 c1 c2 hB3 hB6 hbx hby
            go_wp2_with fail
            exact ⟨⟨j + 1, nx, by omega, by go_num, HNn, Hj (by rw [nxTo_succ (by rw [HL.out]; exact hlt), HX.out, HJ.out]; exact HV.out), k6, hbW⟩, by simp [intOf]; omega⟩
          ·have HV := Hj (show Ears.nxStep o nx x = nx from nx_no2 (by rintro (h | h | ⟨h, -⟩); exact HN.out h; rw [HC.out] at h; omega; rw [HC.out] at h; exact hc1 h))
           have hv4 : (c == 0) = false := by rw [beq_eq_false_iff_ne]; exact hc1
           clear hc1 hc0
           go_wp2_with fail
           refine Xc wx [(⟨B3, 0, none⟩, .int .i64 o.1), (⟨B3, 1, none⟩, .int .i64 o.2), (⟨B6, 0, none⟩, .int .i64 nx.1), (⟨B6, 1, none⟩, .int .i64 nx.2), (⟨b, off + j * 2, none⟩, .int .i64 x.1), (⟨b, off + j * 2 + 1, none⟩, .int .i64 x.2)] (by kernel_rfl) (by kernel_rfl) ⟨Br, by simp only [List.mem_cons, List.not_mem_nil, forall_eq_or_imp, or_false, forall_eq]; go_simp⟩ ?_
           repeat
            first
            | go_big_quiet_skip
            | go_big_quiet_want
              apply Exists.intro
              refine And.intro ?_ ?_
              ·intro w1 hw1
               have hx := hw1.2
               simp only [List.mem_cons, List.not_mem_nil, forall_eq_or_imp, or_false, forall_eq] at hx
               go_simp
               first | rfl | exact calls_cls hw1 (rdist_any _ _ _ _ _ HNo.out HNx.out) | exact calls_cls hw1 (rdist_any _ _ _ _ _ HNo.out HNn.out)
              go_simp
              go_big_quiet_on
           refine wpQuiet_nil ?_
           intro wy hCwy
           have hby := hCwy.1
           clear hCwy
           have k3 := hB3.keep hby
           have k6 := hB6.keep hby
           obtain ⟨x1, x2, x3, x4, x5⟩ := k6.two
           have y1 := Xa hby c1
           have y2 := Xa hby c2
           have hbW : Below wo.heap.size wo wy := Bl.call hbx hby
           clear d1 d2 d3 d4 d5 f1 f2 f3 f4 f5 c1 c2 hB3 hB6 hbx hby
           go_wp2_with fail
           exact ⟨⟨j + 1, nx, by omega, by go_num, HNn, Hj (by rw [nxTo_succ (by rw [HL.out]; exact hlt), HX.out, HJ.out]; exact HV.out), k6, hbW⟩, by simp [intOf]; omega⟩
    ·obtain rfl : n = j := by omega
     have HN := Hj (show Ears.nxt o l = nx from (nxTo_end HL.out).symm.trans HJ.out)
     have HW2 := Hj (show Ears.wrapGo l a (n - i - 1 + 1) o out = Ears.wrapGo l a n a [a] by rw [show n - i - 1 + 1 = n - i by omega]; exact HW.out)
     obtain ⟨g4, c4, hu4, -, hs4⟩ := ho.formS rfl hop
     obtain ⟨e1, e2⟩ := hs4.cells (k := 0) hop
     rw [HO.out] at e1 e2
     simp only [Nat.zero_mul, Nat.add_zero, Nat.zero_add] at e1 e2
     replace e1 := Xa hbx e1
     replace e2 := Xa hbx e2
     have hl4 : ∀ k, u4.ownBlock = some k → B3 + 1 ≤ k ∧ k < B6 := fun k hk => by have := OwG.lt ho k hk; rw [hB6e] at this; exact this
     rw [hu4] at ho hl4 ⊢
     clear hu4 hs4 HJ HW
     obtain ⟨m, hm⟩ : ∃ m, out.length = m := ⟨_, rfl⟩
     rw [hm] at ho hl4 hop hol ⊢
     have HM := Hj hm
     have qm : (0 : Int) < (m : Int) := by omega
     clear hm
     obtain ⟨d1, d2, d3, d4, d5⟩ := hB3.two
     obtain ⟨f1, f2, f3, f4, f5⟩ := hB6.two
     cases hv1 : eqS (nx.1, nx.2) (a.1, a.2) with
     | true =>
       have HV := Hj (show Ears.wrapGo l a n a [a] = out by rw [← HW2.out, Ears.wrapGo, if_pos (.inl (by rw [HN.out]; exact (eqS_iff _ _).1 hv1))])
       go_wp2_with fail
       refine Xc wr [(⟨B3, 0, none⟩, .int .i64 o.1), (⟨B3, 1, none⟩, .int .i64 o.2), (⟨B6, 0, none⟩, .int .i64 nx.1), (⟨B6, 1, none⟩, .int .i64 nx.2), (⟨g4, 0, none⟩, .int .i64 a.1), (⟨g4, 1, none⟩, .int .i64 a.2)] (by kernel_rfl) (by kernel_rfl) ⟨Br, by simp only [List.mem_cons, List.not_mem_nil, forall_eq_or_imp, or_false, forall_eq]; go_simp⟩ ?_
       repeat
        first
        | go_big_quiet_skip
        | go_big_quiet_want
          apply Exists.intro
          refine And.intro ?_ ?_
          ·intro w1 hw1
           have hx := hw1.2
           simp only [List.mem_cons, List.not_mem_nil, forall_eq_or_imp, or_false, forall_eq] at hx
           go_simp
           first | rfl
          go_simp
          go_big_quiet_on
       refine wpQuiet_nil ?_
       intro wy hCwy
       have hby := Bl.call hbx hCwy.1
       clear hCwy
       go_wp2_with fail
       go_ret
       refine ⟨_, rfl, ?_, Bl.call hb hby⟩
       rw [HV.out]
       exact OwG.lower (OwG.keep ho hby) (by omega)
     | false =>
       cases hv2 : eqS (nx.1, nx.2) (o.1, o.2) with
       | true =>
         have HV := Hj (show Ears.wrapGo l a n a [a] = out by rw [← HW2.out, Ears.wrapGo, if_pos (.inr (by rw [HN.out]; exact (eqS_iff _ _).1 hv2))])
         go_wp2_with fail
         refine Xc wr [(⟨B3, 0, none⟩, .int .i64 o.1), (⟨B3, 1, none⟩, .int .i64 o.2), (⟨B6, 0, none⟩, .int .i64 nx.1), (⟨B6, 1, none⟩, .int .i64 nx.2), (⟨g4, 0, none⟩, .int .i64 a.1), (⟨g4, 1, none⟩, .int .i64 a.2)] (by kernel_rfl) (by kernel_rfl) ⟨Br, by simp only [List.mem_cons, List.not_mem_nil, forall_eq_or_imp, or_false, forall_eq]; go_simp⟩ ?_
         repeat
          first
          | go_big_quiet_skip
          | go_big_quiet_want
            apply Exists.intro
            refine And.intro ?_ ?_
            ·intro w1 hw1
             have hx := hw1.2
             simp only [List.mem_cons, List.not_mem_nil, forall_eq_or_imp, or_false, forall_eq] at hx
             go_simp
             first | rfl
            go_simp
            go_big_quiet_on
         refine wpQuiet_nil ?_
         intro wy hCwy
         have hby := Bl.call hbx hCwy.1
         clear hCwy
         go_wp2_with fail
         go_ret
         refine ⟨_, rfl, ?_, Bl.call hb hby⟩
         rw [HV.out]
         exact OwG.lower (OwG.keep ho hby) (by omega)
       | false =>
         have HV := Hj (show Ears.wrapGo l a (n - (i + 1)) nx (out ++ [nx]) = Ears.wrapGo l a n a [a] by
          rw [← HW2.out, Ears.wrapGo, HN.out, if_neg (by rintro (h | h); exact (eqS_false _ _).1 hv1 h; exact (eqS_false _ _).1 hv2 h), show n - (i + 1) = n - i - 1 by omega])
         go_wp2_with fail
         refine Xc wr [(⟨B3, 0, none⟩, .int .i64 o.1), (⟨B3, 1, none⟩, .int .i64 o.2), (⟨B6, 0, none⟩, .int .i64 nx.1), (⟨B6, 1, none⟩, .int .i64 nx.2), (⟨g4, 0, none⟩, .int .i64 a.1), (⟨g4, 1, none⟩, .int .i64 a.2)] (by kernel_rfl) (by kernel_rfl) ⟨Br, by simp only [List.mem_cons, List.not_mem_nil, forall_eq_or_imp, or_false, forall_eq]; go_simp⟩ ?_
         repeat
          first
          | go_big_quiet_skip
          | go_big_quiet_want
            apply Exists.intro
            refine And.intro ?_ ?_
            ·intro w1 hw1
             have hx := hw1.2
             simp only [List.mem_cons, List.not_mem_nil, forall_eq_or_imp, or_false, forall_eq] at hx
             go_simp
             first | rfl
            go_simp
            go_big_quiet_on
         refine wpQuiet_nil ?_
         intro wy hCwy
         have hby := Bl.call hbx hCwy.1
         have k3 := hB3.keep hCwy.1
         have k6 := hB6.keep hCwy.1
         have hoy : OwS wy (B3 + 1) (.slice (some ⟨g4, 0, none⟩) m c4) out := OwG.keep ho hby
         have hbY := Bl.call hb hby
         clear hCwy d1 d2 d3 d4 d5 f1 f2 f3 f4 f5 e1 e2 hB3 hB6 hB30 hbx
         obtain ⟨d1, d2, d3, d4, d5⟩ := k3.two
         obtain ⟨f1, f2, f3, f4, f5⟩ := k6.two
         go_wp2_with (at_builtin; refine wpList_appS rfl _ _ rfl (B3 + 1) _ out rfl (hoy.alloc _) wy.heap.size 1 nx 37 rfl (BlkS.new _ _ _) (by rw [HM.out]; omega) (by simp; omega) ?_; intro v' wv ho' hg' hat'; have j3 := (hg'.block B3 (k3.alloc _).lt (fun e => by have := (hl4 B3 e.symm).1; omega)).trans (k3.alloc _); have j6 := (hg'.block B6 (k6.alloc _).lt (fun e => by have := (hl4 B6 e.symm).2; omega)).trans (k6.alloc _); obtain ⟨p1, p2, p3, p4, p5⟩ := BlkS.two j3; obtain ⟨r1, r2, r3, r4, r5⟩ := BlkS.two j6)
         have hne : ∀ k, v'.ownBlock = some k → B3 + 1 ≤ k := fun k hk => (OwG.lt ho' k hk).1
         have hne3 : v'.ownBlock ≠ some B3 := fun e => by have := hne B3 e; omega
         have hbV : Below w.heap.size w wv := below_app (Bl.alloc hbY _) (OwG.lower (hoy.alloc _) (by omega)) hg'
         exact ⟨⟨i + 1, nx, out ++ [nx], by omega, by go_num, by rw [List.length_append, HM.out]; simp; omega, by simp, Hj (by rw [gt_app0 (by rw [HM.out]; exact hop)]; exact HO.out), HNn, (BlkS.set_ j3 0 _).set_ 1 _, OwG.far (p := ⟨B3, 1, none⟩) (OwG.far (p := ⟨B3, 0, none⟩) ho' hne3 _) hne3 _, Bl.set (Bl.set hbV (p := ⟨B3, 0, none⟩) (by simp; omega) _) (p := ⟨B3, 1, none⟩) (by simp; omega) _, HV⟩, by simp [intOf]; omega⟩
  ·obtain rfl : n = i := by omega
   rw [Nat.sub_self] at HW
   go_wp2_with fail
   go_ret
   refine ⟨_, rfl, ?_, hb⟩
   rw [← HW.out]
   exact OwG.lower ho (by omega)
end
end Go.Proofs.YtmdncaoilegnnaaGreat

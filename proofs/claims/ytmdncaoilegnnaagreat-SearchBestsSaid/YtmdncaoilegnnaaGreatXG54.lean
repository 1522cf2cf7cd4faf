/- Lean texts of the claim. -/
import Derived.Test.YtmdncaoilegnnaaGreatXG53
import Derived.Test.YtmdncaoilegnnaaGreatXG42
namespace Go.Proofs.YtmdncaoilegnnaaGreat
set_option linter.unusedVariables false
set_option linter.unusedSimpArgs false
section
set_option maxRecDepth 100000
open Go.RowKit
def wrapR (l : List (Int × Int)) : List (Int × Int) := Ears.wrapGo l (gt l (frst l l.length)) l.length (gt l (frst l l.length)) [gt l (frst l l.length)]
def accTo (q p : List (Int × Int)) : Nat → List (Int × Int)
 | 0 => []
 | i + 1 => accTo q p i ++ movW q (gt p i)
theorem accTo_len (q p : List (Int × Int)) : ∀ i, (accTo q p i).length = i * q.length
 | 0 => by simp [accTo]
 | i + 1 => by rw [accTo, List.length_append, accTo_len q p i, movW_len, Nat.add_mul]; omega
namespace Ears
theorem acc_mem {q p : List P} : ∀ i, i ≤ p.length → ∀ x, x ∈ accTo q p i ↔ ∃ j, j < i ∧ ∃ y ∈ q, x = addS (gt p j) y
 | 0, _, x => by simp [accTo]
 | i + 1, hi, x => by
   rw [accTo, List.mem_append, acc_mem i (by omega)]
   constructor
   ·rintro (⟨j, hj, h⟩ | h)
    ·exact ⟨j, by omega, h⟩
    ·unfold movW at h
     obtain ⟨y, hy, rfl⟩ := List.mem_map.1 h
     refine ⟨i, by omega, y, hy, ?_⟩
     unfold addS; rw [Int.add_comm y.1, Int.add_comm y.2]
   ·rintro ⟨j, hj, y, hy, rfl⟩
    by_cases c : j = i
    ·right
     subst c
     unfold movW
     refine List.mem_map.2 ⟨y, hy, ?_⟩
     unfold addS; rw [Int.add_comm y.1, Int.add_comm y.2]
    ·exact .inl ⟨j, by omega, y, hy, rfl⟩
theorem accs_mem {q p : List P} {x : P} : x ∈ accTo q p p.length ↔ ∃ z ∈ p, ∃ y ∈ q, x = addS z y := by
 rw [acc_mem _ (Nat.le_refl _)]
 constructor
 ·rintro ⟨j, hj, h⟩; exact ⟨_, gt_in hj, h⟩
 ·rintro ⟨z, hz, h⟩; obtain ⟨j, hj, rfl⟩ := mem_gt hz; exact ⟨j, hj, h⟩
theorem wrap_same {l l' r k : List P} {a : P} (cv : HullCvx l r) (hk : r = a :: k) (least : ∀ q ∈ l, q = a ∨ lessS a q = true) (mem : ∀ q, q ∈ l ↔ q ∈ l') : wrapR l' = r := by
 have ha : a ∈ l' := (mem a).1 (cv.sub a (by rw [hk]; simp))
 have h0 : 0 < l'.length := List.length_pos_of_mem ha
 have hf := frst_lt l' l'.length h0
 have e : gt l' (frst l' l'.length) = a := by
  rcases least _ ((mem _).2 (gt_in hf)) with h | h
  ·exact h
  ·obtain ⟨i, hi, rfl⟩ := mem_gt ha
   rw [frst_least _ i hi] at h; cases h
 unfold wrapR
 rw [e]
 exact wrap_hull (cv.congr mem) hk
theorem wrap_tri {t : List P} (h : Tri 1048576 t) : (∀ q, q ∈ wrapR t ↔ q ∈ t) ∧ (wrapR t).length = 3 ∧ HullW t = (0, wrapR t) := by
 obtain ⟨r, h1, h2, h3⟩ := Hull_tri h
 have hn := h.near
 obtain ⟨a, b, c, rfl, D, _⟩ := h
 obtain ⟨r', x, y, k, g1, g2, g3, g4, g5, _⟩ := hull_w (l := [a, b, c]) (fun q hq => near_mono (hn q hq) (by omega)) ⟨a, by simp, b, by simp, c, by simp, by omega⟩
 have e : wrapR [a, b, c] = r' := wrap_same g3 g4 g5 (fun q => Iff.rfl)
 have e2 : r' = r := by
  unfold HullW at h1
  rw [if_neg (by simp), any_out (fun q hq => near_mono (hn q hq) (by omega)), g1] at h1
  simpa using h1
 rw [e, e2]
 exact ⟨h2, h3, h1⟩
theorem sum_same {s t : List P} (hs : Tri 1048576 s) (ht : Tri 1048576 t) :
 (∀ q ∈ accTo (wrapR (negW t)) (wrapR s) (wrapR s).length, nearB 2097152 q) ∧ wrapR (accTo (wrapR (negW t)) (wrapR s) (wrapR s).length) = (SumW s (negW t)).2 ∧ (SumW s (negW t)).1 = 0 ∧ (SumW s (negW t)).2.length ≤ 9 ∧ (∀ q ∈ (SumW s (negW t)).2, nearB 2097152 q) := by
 obtain ⟨L, a, b, h0, R⟩ := Sum_tri hs ht
 obtain ⟨m1, _, _⟩ := wrap_tri hs
 obtain ⟨nt, nm⟩ := neg_tri ht
 obtain ⟨m2, _, _⟩ := wrap_tri nt
 have add_eq : ∀ p ∈ s, ∀ q ∈ t, addS p (-q.1, -q.2) = sb p q := by
  intro p hp q hq
  have h1 := hs.near p hp; have h2 := ht.near q hq
  unfold nearB at h1 h2
  unfold addS sb
  rw [wrap_near (by simp only; omega) (by simp only; omega), wrap_near (by simp only; omega) (by simp only; omega)]
  exact Prod.ext (by simp only; omega) (by simp only; omega)
 have mem : ∀ q, q ∈ L ↔ q ∈ accTo (wrapR (negW t)) (wrapR s) (wrapR s).length := by
  intro x
  rw [accs_mem]
  constructor
  ·intro hx
   obtain ⟨p, hp, q, hq, rfl⟩ := R.diff.into x hx
   exact ⟨p, (m1 p).2 hp, _, (m2 _).2 ((nm _).2 ⟨q, hq, rfl⟩), (add_eq p hp q hq).symm⟩
  ·rintro ⟨p, hp, y, hy, rfl⟩
   obtain ⟨q, hq, rfl⟩ := (nm y).1 ((m2 y).1 hy)
   rw [add_eq p ((m1 p).1 hp) q hq]
   exact R.diff.all p ((m1 p).1 hp) q hq
 obtain ⟨k, hk⟩ := R.head
 refine ⟨fun q hq => R.near q ((mem q).2 hq), wrap_same R.cvx hk R.least mem, h0, R.small, fun q hq => R.near q (R.cvx.sub q hq)⟩
end Ears
set_option maxHeartbeats 400000 in
theorem rwithin4_any (ax ay : Int) (w : World) :
 Calls Tryz.prog 87 #[.agg #[.int .i64 ax, .int .i64 ay], .int .i64 4194304] w fun e w' => e = .returned (.bool (!outB 4194304 (ax, ay))) ∧ Below w.heap.size w w' := by
 go_enter Tryz.func87, Tryz.ntmps87
 go_wp2
 all_goals go_ret
 all_goals exact ⟨ret_bool (by rw [Bool.eq_iff_iff]; simp [outB] <;> omega), Bl.alloc Br _⟩
set_option maxHeartbeats 1000000 in
theorem rhull_ok (b off cap n : Nat) (l : List (Int × Int)) (w : World) (hl : n ≤ 160) (h0 : 0 < n) (hcap : n ≤ cap) (hs : SpS w (some ⟨b, off, none⟩) n l) (hnr : ∀ q ∈ l, nearB 4194304 q) (h3 : 3 ≤ (wrapR l).length) :
 Calls Tryz.prog 175 #[.slice (some ⟨b, off, none⟩) n cap] w (RetSE w (0, wrapR l)) := by
 have HNR := Hj (show ∀ j, j < n → outB 4194304 (gt l j) = false from fun j hj => Ears.out_near (hnr _ (gt_in (by rw [hs.1]; exact hj))))
 have HWR := Hj (fun (w' : World) (hb : Below w.heap.size w w') => rwrap_any b off cap n l w' (by omega) h0 hcap (hs.keep hb) hnr)
 have HE := Hj (show wrapR l = Ears.wrapGo l (gt l (frst l n)) n (gt l (frst l n)) [gt l (frst l n)] by unfold wrapR; rw [hs.1])
 obtain ⟨R, hR⟩ : ∃ R, wrapR l = R := ⟨_, rfl⟩
 rw [hR] at h3 HE ⊢
 rw [← HE.out] at HWR
 clear hR hnr HE
 go_enter Tryz.func175, Tryz.ntmps175
 have q0 : ¬ (160 : Int) < (n : Int) := by omega
 go_wp2_with fail
 go_loopw [4] (fun s4 wr => ∃ j : Nat, j ≤ n ∧ s4 = .int .i64 j ∧ Below w.heap.size w wr) (fun i _ => n - (intOf i).toNat)
 case atStart => exact ⟨0, Nat.zero_le _, rfl, Below.refl _ _⟩
 case round =>
  obtain ⟨j, hj, rfl, hb⟩ := hrel
  by_cases hlt : j < n
  ·obtain ⟨c1, c2⟩ := (hs.keep hb).cells hlt
   have HO := Hj (HNR.out j hlt)
   go_wp2_with (go_at_call 87; refine (rwithin4_any _ _ _).mono ?_; rintro e w1 ⟨rfl, hb1⟩; rw [show outB 4194304 ((gt l j).1, (gt l j).2) = false from HO.out])
   exact ⟨⟨j + 1, by omega, by go_num, Bl.call hb hb1⟩, by simp [intOf]; omega⟩
  ·obtain rfl : n = j := by omega
   obtain ⟨m, hm⟩ : ∃ m, R.length = m := ⟨_, rfl⟩
   rw [hm] at h3
   have HM := Hj hm
   clear hm
   have q3 : ¬ (m : Int) < 3 := by omega
   go_wp2_with (go_at_call 176; refine (HWR.out _ hb).mono ?_; rintro e w2 ⟨v2, rfl, ho2, hb2⟩; obtain ⟨g2, c2, rfl, hc2, hs2⟩ := ho2.formS HM.out (by omega))
   go_ret2
   exact ⟨_, rfl, OwG.lower ho2 hb.size, Bl.call hb hb2⟩
set_option maxHeartbeats 2000000 in
theorem rsum_tri (b off cap b' off' cap' : Nat) (s t : List (Int × Int)) (w : World) (hcap : 3 ≤ cap) (hcap' : 3 ≤ cap') (hs : SpS w (some ⟨b, off, none⟩) 3 s) (ht : SpS w (some ⟨b', off', none⟩) 3 (negW t)) (hS : Ears.Tri 1048576 s) (hT : Ears.Tri 1048576 t) :
 Calls Tryz.prog 135 #[.slice (some ⟨b, off, none⟩) 3 cap, .slice (some ⟨b', off', none⟩) 3 cap'] w (RetSE w (0, (SumW s (negW t)).2)) := by
 obtain ⟨p1, p2, -⟩ := Ears.wrap_tri hS
 obtain ⟨hN, -⟩ := Ears.neg_tri hT
 obtain ⟨q1, q2, -⟩ := Ears.wrap_tri hN
 obtain ⟨a1, a2, a3, a4, a5⟩ := Ears.sum_same hS hT
 have H1 := Hj (rhull_ok b off cap 3 s w (by omega) (by omega) hcap hs (fun q hq => Ears.near_mono (hS.near q hq) (by omega)) (by rw [p2]; omega))
 have H2 := Hj (fun (w' : World) (hb : Below w.heap.size w w') => rhull_ok b' off' cap' 3 (negW t) w' (by omega) (by omega) hcap' (ht.keep hb) (fun q hq => Ears.near_mono (hN.near q hq) (by omega)) (by rw [q2]; omega))
 obtain ⟨R, hR⟩ : ∃ R, (SumW s (negW t)).2 = R := ⟨_, rfl⟩
 rw [hR] at a2 a4 a5 ⊢
 obtain ⟨p, hp⟩ : ∃ p, wrapR s = p := ⟨_, rfl⟩
 obtain ⟨q, hq⟩ : ∃ q, wrapR (negW t) = q := ⟨_, rfl⟩
 rw [hp] at a1 a2 H1 p2
 rw [hq] at a1 a2 H2 q2
 rw [p2] at a1 a2
 have HP := Hj p2
 have HQ := Hj q2
 have HA1 := Hj a1
 have HA2 := Hj a2
 have HLA := Hj (show (accTo q p 3).length = 9 by rw [accTo_len, q2])
 have HO := Hj (show ∀ j, j < R.length → outB 4194304 (gt R j) = false from fun j hj => Ears.out_near (Ears.near_mono (a5 _ (gt_in hj)) (by omega)))
 clear p1 q1 hN hS hT a1 a2 a3 a5 hR hp hq p2 q2 hs ht
 go_enter Tryz.func135, Tryz.ntmps135
 go_wp2_with (first
  | (go_at_call 175; have hz := hb1; refine (H2.out _ hb1).mono ?_; rintro e w2 ⟨v2, rfl, ho2, hb2⟩; obtain ⟨g2, c2, rfl, hc2, hs2⟩ := ho2.formS HQ.out (by omega))
  | (go_at_call 175; refine H1.out.mono ?_; rintro e w1 ⟨v1, rfl, ho1, hb1⟩; obtain ⟨g1, c1, rfl, hc1, hs1⟩ := ho1.formS HP.out (by omega)))
 have hs1' := hs1.keep hb2
 have hbB := Bl.call hb1 hb2
 clear H1 H2 ho1 ho2 hs1 hb1 hb2 hz
 go_loopw [10, 11] (fun sl si wr => ∃ i : Nat, i ≤ 3 ∧ si = .int .i64 i ∧ OwS wr w2.heap.size sl (accTo q p i) ∧ Below w2.heap.size w2 wr) (fun _ i _ => 3 - (intOf i).toNat)
 case atStart => exact ⟨0, by omega, rfl, OwG.nil, Below.refl _ _⟩
 case round =>
  obtain ⟨i, hi, rfl, ho, hb⟩ := hrel
  by_cases hlt : i < 3
  ·obtain ⟨c1, c2⟩ := (hs1'.keep hb).cells hlt
   simp only [Nat.zero_add] at c1 c2
   have z1 : (i : Int) < 3 := by omega
   have HLI := Hj (show (accTo q p i).length = i * 3 by rw [accTo_len, HQ.out])
   have HMQ := Hj (show (movW q (gt p i)).length = 3 by rw [movW_len, HQ.out])
   go_wp2_with (first
    | (at_builtin; have hz := hb3; refine wpList_appSS rfl _ _ rfl w2.heap.size _ (accTo q p i) rfl (OwG.keep ho hb3) (some ⟨g3, 0, none⟩) 3 c3 (movW q (gt p i)) rfl hs3 (fun h => by cases h) (by rw [HLI.out]; omega) (Nat.le_trans hb.size hb3.size) ?_; intro v' wv ho' hg' hat')
    | (go_at_call 65; refine (rmove_any (some ⟨g2, 0, none⟩) _ 3 q (gt p i).1 (gt p i).2 _ (by omega) (hs2.keep hb)).mono ?_; rintro e w3 ⟨v3, rfl, ho3, hb3⟩; obtain ⟨g3, c3, rfl, hc3, hs3⟩ := ho3.formS HMQ.out (by omega)))
   exact ⟨⟨i + 1, by omega, by go_num, ho', below_app (Bl.call hb hb3) (OwG.keep ho hb3) hg'⟩, by simp [intOf]; omega⟩
  ·obtain rfl : i = 3 := by omega
   obtain ⟨gl, cl, rfl, hcl, hsl⟩ := ho.formS HLA.out (by omega)
   have HWR := Hj (rwrap_any gl 0 cl 9 (accTo q p 3) wr (by omega) (by omega) hcl hsl (fun x hx => Ears.near_mono (HA1.out x hx) (by omega)))
   have HE := Hj (show Ears.wrapGo (accTo q p 3) (gt (accTo q p 3) (frst (accTo q p 3) 9)) 9 (gt (accTo q p 3) (frst (accTo q p 3) 9)) [gt (accTo q p 3) (frst (accTo q p 3) 9)] = R by rw [← HA2.out]; unfold wrapR; rw [HLA.out])
   rw [HE.out] at HWR
   clear HE
   obtain ⟨m, hm⟩ : ∃ m, R.length = m := ⟨_, rfl⟩
   rw [hm] at a4 HO
   have HM := Hj hm
   clear hm
   have q9 : ¬ (160 : Int) < (m : Int) := by omega
   have hbX := Bl.call hbB hb
   clear hs1' hbB hb HLA hsl
   go_wp2_with (go_at_call 176; refine HWR.out.mono ?_; rintro e w4 ⟨v4, rfl, ho4, hb4⟩; obtain ⟨A4, c4, rfl, hc4, hs4, -⟩ := ho4.sps; rw [HM.out] at hs4 hc4 ⊢)
   rw [HM.out] at ho4
   go_loopw [13] (fun si wr => ∃ j : Nat, j ≤ m ∧ si = .int .i64 j ∧ Below w4.heap.size w4 wr) (fun i _ => m - (intOf i).toNat)
   case atStart => exact ⟨0, Nat.zero_le _, rfl, Below.refl _ _⟩
   case round =>
    obtain ⟨j, hj, rfl, hbj⟩ := hrel
    by_cases hlt : j < m
    ·obtain ⟨b5, o5, rfl, -, hcc⟩ := (hs4.keep hbj).at_ hlt
     obtain ⟨c1, c2⟩ := hcc j hlt
     clear hcc
     have z1 : (j : Int) < (m : Int) := by omega
     have HOJ := Hj (HO.out j hlt)
     go_wp2_with (go_at_call 87; refine (rwithin4_any _ _ _).mono ?_; rintro e w5 ⟨rfl, hb5⟩; rw [show outB 4194304 ((gt R j).1, (gt R j).2) = false from HOJ.out])
     exact ⟨⟨j + 1, by omega, by go_num, Bl.call hbj hb5⟩, by simp [intOf]; omega⟩
    ·obtain rfl : m = j := by omega
     go_wp2_with fail
     go_ret2
     exact ⟨_, rfl, OwG.lower (OwG.keep ho4 hbj) hbX.size, Bl.call hbX (Bl.call hb4 hbj)⟩
theorem rint_eq {l : List (Int × Int)} {d : Int × Int} {i : Nat} {n : Nat} (hi : i < n) (h : ¬ 0 < crossW (gt l i) (gt l ((i + 1) % n)) d) : AllB (intW l n d) n = false := AllB.no hi (by unfold intW; exact decide_eq_false h)
set_option maxHeartbeats 1000000 in
theorem rinterior_any (A : Option Addr) (cap n : Nat) (l : List (Int × Int)) (x y : Int) (w : World) (hl : n ≤ 1000000) (hcap : n ≤ cap) (hs : SpS w A n l) :
 Calls Tryz.prog 138 #[.slice A n cap, .agg #[.int .i64 x, .int .i64 y]] w fun e w' => e = .returned (.bool (!outB 4194304 (x, y) && AllB (intW l n (x, y)) n)) ∧ Below w.heap.size w w' := by
 cases hv : outB 4194304 (x, y) with
 | true =>
   have HV := Hj hv
   clear hv
   go_enter Tryz.func138, Tryz.ntmps138
   go_wp2_with (go_at_call 87; refine (rwithin4_any _ _ _).mono ?_; rintro e w1 ⟨rfl, hb1⟩; rw [HV.out])
   go_ret
   exact ⟨rfl, Bl.call (Bl.alloc Br _) hb1⟩
 | false =>
   have HV := Hj hv
   clear hv
   go_enter Tryz.func138, Tryz.ntmps138
   go_wp2_with (go_at_call 87; refine (rwithin4_any _ _ _).mono ?_; rintro e w1 ⟨rfl, hb1⟩; rw [HV.out])
   have hC0 : Cls w [(⟨w.heap.size, 0, none⟩, .int .i64 x), (⟨w.heap.size, 1, none⟩, .int .i64 y)] w1 := Cls.call ⟨Bl.alloc Br _, by simp only [List.mem_cons, List.not_mem_nil, forall_eq_or_imp, or_false, forall_eq]; go_simp⟩ hb1
   clear hb1
   go_loopw [5] (fun si wr => ∃ j : Nat, j ≤ n ∧ si = .int .i64 j ∧ Hid (AllB (intW l n (x, y)) j = true) ∧ Cls w [(⟨w.heap.size, 0, none⟩, .int .i64 x), (⟨w.heap.size, 1, none⟩, .int .i64 y)] wr) (fun i _ => n - (intOf i).toNat)
   case atStart => exact ⟨0, Nat.zero_le _, rfl, Hj (AllB.zero _), hC0⟩
   case round =>
    clear hC0
    obtain ⟨j, hj, rfl, hp, hC⟩ := hrel
    by_cases hlt : j < n
    ·obtain ⟨b, off, rfl, -, hcc⟩ := (hs.keep hC.1).at_ hlt
     have hm1 : (j + 1) % n < n := Nat.mod_lt _ (by omega)
     obtain ⟨c1, c2⟩ := hcc j hlt
     obtain ⟨c3, c4⟩ := hcc _ hm1
     clear hcc
     have hx := hC.2
     simp only [List.mem_cons, List.not_mem_nil, forall_eq_or_imp, or_false, forall_eq] at hx
     have m1 := modf ((j : Int) + 1) (j + 1) n rfl (by omega)
     have q1 : IntKind.i64.wrap ((j : Int) + 1) = (j : Int) + 1 := wrap_add j 1 (by omega)
     have q4 : ¬ n = 0 := by omega
     have z1 : (j : Int) < (n : Int) := by omega
     obtain ⟨c, hc⟩ : ∃ c, crossW ((gt l j).1, (gt l j).2) ((gt l ((j + 1) % n)).1, (gt l ((j + 1) % n)).2) (x, y) = c := ⟨_, rfl⟩
     have HC := Hj (show crossW (gt l j) (gt l ((j + 1) % n)) (x, y) = c from hc)
     by_cases hc0 : c ≤ 0
     ·have hd : decide (c ≤ 0) = true := decide_eq_true hc0
      go_wp2_with fail
      refine Xc w [(⟨w.heap.size, 0, none⟩, .int .i64 x), (⟨w.heap.size, 1, none⟩, .int .i64 y), (⟨b, off + j * 2, none⟩, .int .i64 (gt l j).1), (⟨b, off + j * 2 + 1, none⟩, .int .i64 (gt l j).2), (⟨b, off + (j + 1) % n * 2, none⟩, .int .i64 (gt l ((j + 1) % n)).1), (⟨b, off + (j + 1) % n * 2 + 1, none⟩, .int .i64 (gt l ((j + 1) % n)).2)] (by kernel_rfl) (by kernel_rfl) ⟨hC.1, by simp only [List.mem_cons, List.not_mem_nil, forall_eq_or_imp, or_false, forall_eq]; go_simp⟩ ?_
      repeat
       apply wq_plain
       ·rfl
       ·intro w1 hw1
        have hx := hw1.2
        simp only [List.mem_cons, List.not_mem_nil, forall_eq_or_imp, or_false, forall_eq] at hx
        go_simp
        first | rfl | exact calls_cls hw1 (rcross_any _ _ _ _ _ _ _)
       go_simp
      refine wpQuiet_nil ?_
      intro w9 hCw9
      have hb9 := hCw9.1
      clear hCw9 m1 q1 c1 c2 c3 c4 hx hC
      go_wp2_with fail
      go_ret
      exact ⟨ret_bool (by rw [rint_eq hlt (by rw [HC.out]; omega)]; rfl), hb9⟩
     ·have hd : decide (c ≤ 0) = false := decide_eq_false hc0
      go_wp2_with fail
      refine Xc w [(⟨w.heap.size, 0, none⟩, .int .i64 x), (⟨w.heap.size, 1, none⟩, .int .i64 y), (⟨b, off + j * 2, none⟩, .int .i64 (gt l j).1), (⟨b, off + j * 2 + 1, none⟩, .int .i64 (gt l j).2), (⟨b, off + (j + 1) % n * 2, none⟩, .int .i64 (gt l ((j + 1) % n)).1), (⟨b, off + (j + 1) % n * 2 + 1, none⟩, .int .i64 (gt l ((j + 1) % n)).2)] (by kernel_rfl) (by kernel_rfl) ⟨hC.1, by simp only [List.mem_cons, List.not_mem_nil, forall_eq_or_imp, or_false, forall_eq]; go_simp⟩ ?_
      repeat
       apply wq_plain
       ·rfl
       ·intro w1 hw1
        have hx := hw1.2
        simp only [List.mem_cons, List.not_mem_nil, forall_eq_or_imp, or_false, forall_eq] at hx
        go_simp
        first | rfl | exact calls_cls hw1 (rcross_any _ _ _ _ _ _ _)
       go_simp
      refine wpQuiet_nil ?_
      intro w9 hCw9
      have hC9 : Cls w [(⟨w.heap.size, 0, none⟩, .int .i64 x), (⟨w.heap.size, 1, none⟩, .int .i64 y)] w9 := ⟨hCw9.1, fun z hz => hCw9.2 z (by simp only [List.mem_cons, List.not_mem_nil, or_false] at hz ⊢; rcases hz with h | h <;> simp [h])⟩
      clear hCw9 m1 q1 c1 c2 c3 c4 hx hC
      go_wp2_with fail
      exact ⟨⟨j + 1, by omega, by go_num, Hj (AllB.succ hp.out (by unfold intW; rw [HC.out]; exact decide_eq_true (by omega))), hC9⟩, by simp [intOf]; omega⟩
    ·obtain rfl : n = j := by omega
     go_wp2_with fail
     go_ret
     exact ⟨ret_bool (by rw [hp.out]; rfl), hC.1⟩
end
end Go.Proofs.YtmdncaoilegnnaaGreat

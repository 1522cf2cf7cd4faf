/- turn.Norm, Apply, Allowed, All, Poly. stripe.period, limited, modulo, next, Norm, Phase, Same, Next. Stripes in plain words: phases are remainders. garmentref28: norm, within, phase, next, Phase, Same, Next. -/
import Derived.Test.YtmdncaoilegnnaaGreatUG11
import Derived.Test.YtmdncaoilegnnaaGreatUD
import Derived.Laws.BitsLemmas
namespace Go.Proofs.YtmdncaoilegnnaaGreat
set_option linter.unusedVariables false
set_option linter.unusedSimpArgs false
set_option linter.unusedVariables false
set_option linter.unusedSimpArgs false
open Go.RowKit

theorem and3 (n : Int) : bits .and .i64 n 3 = n % 4 := by
  have h3 : (BitVec.ofInt 64 3).toNat = 2 ^ 2 - 1 := by decide
  have key : (BitVec.ofInt 64 n &&& BitVec.ofInt 64 3).toNat = (n % ((2 ^ 64 : Nat) : Int)).toNat % 2 ^ 2 := by
    rw [BitVec.toNat_and, BitVec.toNat_ofInt, h3, Nat.and_two_pow_sub_one_eq_mod]
  show IntKind.i64.wrap ((BitVec.ofInt 64 n &&& BitVec.ofInt 64 3).toNat : Nat) = n % 4
  rw [key, IntKind.wrap_i64]
  omega
set_option maxHeartbeats 400000 in
theorem tnorm_any (f : Bool) (q : Int) (w : World) :
    Calls Tryz.prog 104 #[.agg #[.bool f, .int .i64 q]] w fun e w' => e = .returned (.agg #[.bool f, .int .i64 (q % 4)]) ∧ Below w.heap.size w w' := by
  have h3 := and3 q
  go_enter Tryz.func104, Tryz.ntmps104
  go_wp2
  exact bodyPost_ret (v := .agg #[.bool f, .int .i64 (q % 4)]) (by simp [results, Tryz.results104, go_sem]) rfl ⟨rfl, Bl.alloc (Bl.alloc (Below.refl _ _) _) _⟩
def rot1 (p : Int × Int) : Int × Int := (wrap64 (-p.2), p.1)
def rotN : Nat → Int × Int → Int × Int
  | 0, p => p
  | k + 1, p => rot1 (rotN k p)
def flipW (f : Bool) (p : Int × Int) : Int × Int := if f then (wrap64 (-p.1), p.2) else p
def applyW (f : Bool) (q : Int) (p : Int × Int) : Int × Int := rotN (q % 4).toNat (flipW f p)
set_option maxHeartbeats 1000000 in
theorem apply_any (f : Bool) (q x y : Int) (w : World) :
    Calls Tryz.prog 94 #[.agg #[.bool f, .int .i64 q], .agg #[.int .i64 x, .int .i64 y]] w fun e w' => e = .returned (.agg #[.int .i64 (applyW f q (x, y)).1, .int .i64 (applyW f q (x, y)).2]) ∧ Below w.heap.size w w' := by
  obtain ⟨m, hm, hm3, hmq⟩ : ∃ m : Nat, bits .and .i64 q 3 = (m : Int) ∧ m ≤ 3 ∧ Hid ((q % 4).toNat = m) := ⟨(q % 4).toNat, by rw [and3]; omega, by omega, rfl⟩
  cases f with
  | true =>
    go_enter Tryz.func94, Tryz.ntmps94
    go_wp2
    go_loopw [14] (fun i wr => ∃ k : Nat, k ≤ m ∧ i = .int .i64 k ∧ BlkS wr (w.heap.size + 1) 37 #[.int .i64 (rotN k (wrap64 (-x), y)).1, .int .i64 (rotN k (wrap64 (-x), y)).2] ∧ BlkS wr (w.heap.size + 1 + 1) 37 #[.int .i64 0, .int .i64 0] ∧ Below w.heap.size w wr) (fun i _ => m - (intOf i).toNat)
    case atStart => exact ⟨0, Nat.zero_le _, rfl, (BlkS.new2 _ _ _ _).alloc _, BlkS.new3 _ _ _ _ _, Bl.alloc (Bl.alloc (Bl.alloc (Below.refl _ _) _) _) _⟩
    case round =>
      clear hm
      obtain ⟨k, hk, rfl, hB, hC, hb⟩ := hrel
      have c1 := hB.cell 0
      have c2 := hB.cell 1
      have f1 := hB.frozen 0
      have f2 := hB.frozen 1
      have l1 := hB.lt
      have c3 := hC.cell 0
      have c4 := hC.cell 1
      have f3 := hC.frozen 0
      have f4 := hC.frozen 1
      have l2 := hC.lt
      simp only [List.getElem?_toArray, List.getElem?_cons_zero, List.getElem?_cons_succ] at c1 c2 c3 c4
      by_cases hlt : k < m
      · go_wp2_with fail
        exact ⟨⟨k + 1, by omega, by go_num, (hB.set_ 0 _).set_ 1 _, (hC.far (p := ⟨w.heap.size + 1, 0, none⟩) (by simp) _).far (p := ⟨w.heap.size + 1, 1, none⟩) (by simp) _, Bl.set (Bl.set hb (p := ⟨w.heap.size + 1, 0, none⟩) (by simp) _) (p := ⟨w.heap.size + 1, 1, none⟩) (by simp) _⟩, by simp [intOf]; omega⟩
      · obtain rfl : m = k := by omega
        go_wp2_with fail
        refine bodyPost_ret (v := .agg #[.int .i64 (rotN m (wrap64 (-x), y)).1, .int .i64 (rotN m (wrap64 (-x), y)).2]) (by simp [results, Tryz.results94, go_sem, c3, c4]) rfl ⟨by unfold applyW; rw [hmq.out]; rfl, Bl.set (Bl.set hb (p := ⟨w.heap.size + 1 + 1, 0, none⟩) (by simp; omega) _) (p := ⟨w.heap.size + 1 + 1, 1, none⟩) (by simp; omega) _⟩
  | false =>
    go_enter Tryz.func94, Tryz.ntmps94
    go_wp2
    go_loopw [14] (fun i wr => ∃ k : Nat, k ≤ m ∧ i = .int .i64 k ∧ BlkS wr (w.heap.size + 1) 37 #[.int .i64 (rotN k (x, y)).1, .int .i64 (rotN k (x, y)).2] ∧ BlkS wr (w.heap.size + 1 + 1) 37 #[.int .i64 0, .int .i64 0] ∧ Below w.heap.size w wr) (fun i _ => m - (intOf i).toNat)
    case atStart => exact ⟨0, Nat.zero_le _, rfl, (BlkS.new2 _ _ _ _).alloc _, BlkS.new3 _ _ _ _ _, Bl.alloc (Bl.alloc (Bl.alloc (Below.refl _ _) _) _) _⟩
    case round =>
      clear hm
      obtain ⟨k, hk, rfl, hB, hC, hb⟩ := hrel
      have c1 := hB.cell 0
      have c2 := hB.cell 1
      have f1 := hB.frozen 0
      have f2 := hB.frozen 1
      have l1 := hB.lt
      have c3 := hC.cell 0
      have c4 := hC.cell 1
      have f3 := hC.frozen 0
      have f4 := hC.frozen 1
      have l2 := hC.lt
      simp only [List.getElem?_toArray, List.getElem?_cons_zero, List.getElem?_cons_succ] at c1 c2 c3 c4
      by_cases hlt : k < m
      · go_wp2_with fail
        exact ⟨⟨k + 1, by omega, by go_num, (hB.set_ 0 _).set_ 1 _, (hC.far (p := ⟨w.heap.size + 1, 0, none⟩) (by simp) _).far (p := ⟨w.heap.size + 1, 1, none⟩) (by simp) _, Bl.set (Bl.set hb (p := ⟨w.heap.size + 1, 0, none⟩) (by simp) _) (p := ⟨w.heap.size + 1, 1, none⟩) (by simp) _⟩, by simp [intOf]; omega⟩
      · obtain rfl : m = k := by omega
        go_wp2_with fail
        refine bodyPost_ret (v := .agg #[.int .i64 (rotN m (x, y)).1, .int .i64 (rotN m (x, y)).2]) (by simp [results, Tryz.results94, go_sem, c3, c4]) rfl ⟨by unfold applyW; rw [hmq.out]; rfl, Bl.set (Bl.set hb (p := ⟨w.heap.size + 1 + 1, 0, none⟩) (by simp; omega) _) (p := ⟨w.heap.size + 1 + 1, 1, none⟩) (by simp; omega) _⟩
def alwW (g : Int) (m f : Bool) (q : Int) : Bool := (f == m) && (if g == 1 then q % 4 == 0 else if g == 2 then (q % 4 == 0 || q % 4 == 2) else g == 4)
set_option maxHeartbeats 1000000 in
theorem allowed_any (g : Int) (m f : Bool) (q : Int) (w : World) :
    Calls Tryz.prog 72 #[.int .i64 g, .bool m, .agg #[.bool f, .int .i64 q]] w fun e w' => e = .returned (.bool (alwW g m f q)) ∧ Below w.heap.size w w' := by
  have h0 := Lib.hid (BlkS.new w 29 #[.bool f, .int .i64 q])
  go_enter Tryz.func72, Tryz.ntmps72
  go_wp2_with (go_at_call 104; refine (tnorm_any _ _ _).mono ?_; rintro e w1 ⟨rfl, hb1⟩; have k0 := h0.out.keep hb1; have a1 := k0.cell 0; have a2 := k0.cell 1; have a3 := k0.frozen 0; have a4 := k0.frozen 1; have l0 := k0.lt; simp only [List.getElem?_toArray, List.getElem?_cons_zero, List.getElem?_cons_succ] at a1 a2)
  all_goals go_ret
  all_goals refine ⟨ret_bool ?_, Bl.set (Bl.set (Bl.call (Bl.alloc (Below.refl _ _) _) hb1) (p := ⟨w.heap.size, 0, none⟩) (by simp) _) (p := ⟨w.heap.size, 1, none⟩) (by simp) _⟩
  all_goals clear hb1 k0 a1 a2 a3 a4 l0 h0
  all_goals (unfold alwW; simp_all)
abbrev Trn := Bool × Int
def enT (p : Trn) : List Value := [.bool p.1, .int .i64 p.2]
theorem enT_len (p : Trn) : (enT p).length = 2 := rfl
theorem enT_one (p : Trn) : ∀ u ∈ enT p, u.oneCell' = true := by
  intro u hu; simp [enT] at hu; rcases hu with rfl | rfl <;> rfl
theorem infoT : (Tryz.prog.info? 29).map (fun i => (i.zero, i.size, i.bytes)) = some (some (.agg #[.bool false, .int .i64 0]), 2, 16) := by kernel_rfl
def allTo (g : Int) (m : Bool) : Nat → List Trn
  | 0 => []
  | k + 1 => allTo g m k ++ (if alwW g m m (k : Int) then [(m, (k : Int))] else [])
def allW (g : Int) (m : Bool) : List Trn := allTo g m 4
theorem allTo_len (g : Int) (m : Bool) (k : Nat) : (allTo g m k).length ≤ k := by
  induction k with
  | zero => exact Nat.le_refl _
  | succ k ih => rw [allTo, List.length_append]; split <;> simp <;> omega
set_option maxHeartbeats 1000000 in
theorem all_any (g : Int) (m : Bool) (w : World) :
    Calls Tryz.prog 39 #[.int .i64 g, .bool m] w fun e w' => ∃ v, e = .returned v ∧ OwG 29 2 enT w' w.heap.size v (allW g m) ∧ Below w.heap.size w w' := by
  go_enter Tryz.func39, Tryz.ntmps39
  go_wp2_with fail
  go_loopw [5, 8] (fun v i wr => ∃ k : Nat, k ≤ 4 ∧ i = .int .i64 k ∧ OwG 29 2 enT wr w.heap.size v (allTo g m k) ∧ Below w.heap.size w wr) (fun _ i _ => 4 - (intOf i).toNat)
  case atStart => exact ⟨0, Nat.zero_le _, rfl, OwG.nil, Below.refl _ _⟩
  case round =>
    obtain ⟨k, hk, rfl, ho, hb⟩ := hrel
    by_cases hlt : k < 4
    · have hlt' : (k : Int) < 4 := by omega
      have hB := Lib.hid (BlkS.new wr 29 #[.bool m, .int .i64 (k : Int)])
      by_cases ha : alwW g m m (k : Int) = true
      · have e1 := Lib.hid (show allTo g m (k + 1) = allTo g m k ++ [(m, (k : Int))] by rw [allTo, if_pos ha])
        go_wp2_with (first | (go_at_call 72; refine (allowed_any _ _ _ _ _).mono ?_; rintro e w1 ⟨rfl, hb1⟩; have k0 := hB.out.keep hb1; have a1 := k0.cell 0; have a2 := k0.cell 1; simp only [List.getElem?_toArray, List.getElem?_cons_zero, List.getElem?_cons_succ] at a1 a2) | (at_builtin; refine wpList_app1 rfl _ _ 79 rfl enT w.heap.size 29 (.agg #[.bool false, .int .i64 0]) 2 16 Tryz.underlying79 infoT rfl (by omega) enT_len enT_one _ (allTo g m k) rfl (((ho.alloc _).keep hb1).alloc _) w1.heap.size 1 (m, (k : Int)) 29 rfl (BlkS.new _ _ _) (by have := allTo_len g m k; unfold maxLen; omega) (by have := allTo_len g m k; omega) (Bl.alloc (Bl.call (Bl.alloc hb _) hb1) _).size ?_; intro v' w2 ho' hg' hat'))
        exact ⟨⟨k + 1, by omega, by go_num, by rw [e1.out]; exact ho', below_app (Bl.alloc (Bl.call (Bl.alloc hb _) hb1) _) (((ho.alloc _).keep hb1).alloc _) hg'⟩, by simp [intOf]; omega⟩
      · have ha' : alwW g m m (k : Int) = false := by simpa using ha
        have e1 := Lib.hid (show allTo g m (k + 1) = allTo g m k by rw [allTo, if_neg ha, List.append_nil])
        clear ha
        go_wp2_with (go_at_call 72; refine (allowed_any _ _ _ _ _).mono ?_; rintro e w1 ⟨rfl, hb1⟩)
        exact ⟨⟨k + 1, by omega, by go_num, by rw [e1.out]; exact (ho.alloc _).keep hb1, Bl.call (Bl.alloc hb _) hb1⟩, by simp [intOf]; omega⟩
    · obtain rfl : k = 4 := by omega
      go_wp2_with fail
      go_ret
      exact ⟨_, rfl, ho, hb⟩
def tpolW (f : Bool) (q : Int) (l : List (Int × Int)) : List (Int × Int) := if f then (l.map (applyW f q)).reverse else l.map (applyW f q)
theorem tpolW_len (f : Bool) (q : Int) (l : List (Int × Int)) : (tpolW f q l).length = l.length := by unfold tpolW; split <;> simp
theorem gt_rev {l : List (Int × Int)} {p : Nat} (hp : p < l.length) : gt l.reverse p = gt l (l.length - 1 - p) := by
  unfold gt; rw [List.getD, List.getElem?_reverse hp]; rfl
theorem tpolW_gt {f : Bool} {q : Int} {l : List (Int × Int)} {p : Nat} (hp : p < l.length) : gt (tpolW f q l) p = applyW f q (gt l (if f then l.length - 1 - p else p)) := by
  unfold tpolW; cases f
  · simp only [Bool.false_eq_true, if_false]; exact gt_map hp
  · simp only [if_true]; rw [gt_rev (by simpa using hp), List.length_map, gt_map (by omega)]
set_option maxHeartbeats 1000000 in
theorem tpoly_any (f : Bool) (q : Int) (A : Option Addr) (cap n : Nat) (l : List (Int × Int)) (w : World) (hn : n ≤ 1000000) (hs : SpS w A n l) :
    Calls Tryz.prog 76 #[.agg #[.bool f, .int .i64 q], .slice A n cap] w (RetS w (tpolW f q l)) := by
  obtain ⟨Z, hmk, hZ⟩ := make_spots n hn
  go_enter Tryz.func76, Tryz.ntmps76
  go_wp2_with fail
  go_loopw [13] (fun i wr => ∃ (k : Nat) (z : List (Int × Int)), k ≤ n ∧ i = .int .i64 k ∧ z.length = n ∧ (∀ p, p < k → gt z (if f then n - 1 - p else p) = applyW f q (gt l p)) ∧ BlkS wr w.heap.size 29 #[.bool f, .int .i64 q] ∧ OwS wr (w.heap.size + 1) (.slice (some ⟨w.heap.size + 1, 0, none⟩) n n) z ∧ Below w.heap.size w wr) (fun i _ => n - (intOf i).toNat)
  case atStart => exact ⟨0, _, Nat.zero_le _, rfl, List.length_replicate, fun p hp => absurd hp (Nat.not_lt_zero _), (BlkS.new _ _ _).alloc _, by have := hZ (w.alloc (.cells #[.bool f, .int .i64 q] 29)); simpa using this, Bl.alloc (Bl.alloc (Below.refl _ _) _) _⟩
  case round =>
    clear hmk hZ
    obtain ⟨k, z, hk, rfl, hz, hp, hB, ho, hb⟩ := hrel
    by_cases hlt : k < n
    · obtain ⟨b, off, rfl, hbl, hc⟩ := (hs.keep hb).at_ hlt
      obtain ⟨h1, h2⟩ := hc k hlt
      clear hc
      have hB1 : BlkS (wr.alloc (.cells #[.int .i64 (gt l k).1, .int .i64 (gt l k).2] 37)) w.heap.size 29 #[.bool f, .int .i64 q] := hB.alloc _
      have d1 := hB.cell 0
      have d2 := hB.cell 1
      have hHl := hB.lt
      simp only [List.getElem?_toArray, List.getElem?_cons_zero, List.getElem?_cons_succ] at d1 d2
      have HP := Lib.hid hp
      clear hp
      have hoA := Lib.hid (OwG.alloc ho (.cells #[.int .i64 (gt l k).1, .int .i64 (gt l k).2] 37))
      have hgl : w.heap.size + 1 < wr.heap.size := lt_of_cell (ho.cells hz hlt).1
      cases f with
      | true =>
        obtain ⟨i, hi, hin⟩ : ∃ i : Nat, n - 1 - k = i ∧ i < n := ⟨_, rfl, by omega⟩
        have hii : (n : Int) - 1 - (k : Int) = (i : Int) := by omega
        have HI := Lib.hid hi
        clear hi
        go_wp2_with (go_at_call 94; refine (apply_any _ _ _ _ _).mono ?_; rintro e w1 ⟨rfl, hb1⟩; have ho1 := OwG.keep hoA.out hb1; obtain ⟨c1, c2, f1, f2⟩ := OwS.cells ho1 hz hin; have hg1 : w.heap.size + 1 < w1.heap.size := lt_of_cell c1)
        refine ⟨⟨k + 1, z.set i (applyW true q ((gt l k).1, (gt l k).2)), by omega, by go_num, by rw [List.length_set]; exact hz, fun p h => ?_, ((hB1.keep hb1).far (p := ⟨w.heap.size + 1, i * 2, none⟩) (Nat.ne_of_lt (Nat.lt_succ_self _)) _).far (p := ⟨w.heap.size + 1, i * 2 + 1, none⟩) (Nat.ne_of_lt (Nat.lt_succ_self _)) _, OwS.store ho1 hz hin _ _, Bl.set (Bl.set (Bl.call (Bl.alloc hb _) hb1) (p := ⟨w.heap.size + 1, i * 2, none⟩) (Nat.le_succ _) _) (p := ⟨w.heap.size + 1, i * 2 + 1, none⟩) (Nat.le_succ _) _⟩, by simp [intOf]; omega⟩
        rw [gt_set (by rw [hz]; exact hin)]
        have hi := HI.out
        try simp only [if_true, if_false, Bool.false_eq_true]
        by_cases h2 : k = p
        · subst h2
          rw [if_pos (by omega)]
        · rw [if_neg (by omega)]
          have := HP.out p (by omega)
          simpa using this
      | false =>
        have hin := hlt
        go_wp2_with (go_at_call 94; refine (apply_any _ _ _ _ _).mono ?_; rintro e w1 ⟨rfl, hb1⟩; have ho1 := OwG.keep hoA.out hb1; obtain ⟨c1, c2, f1, f2⟩ := OwS.cells ho1 hz hin; have hg1 : w.heap.size + 1 < w1.heap.size := lt_of_cell c1)
        refine ⟨⟨k + 1, z.set k (applyW false q ((gt l k).1, (gt l k).2)), by omega, by go_num, by rw [List.length_set]; exact hz, fun p h => ?_, ((hB1.keep hb1).far (p := ⟨w.heap.size + 1, k * 2, none⟩) (Nat.ne_of_lt (Nat.lt_succ_self _)) _).far (p := ⟨w.heap.size + 1, k * 2 + 1, none⟩) (Nat.ne_of_lt (Nat.lt_succ_self _)) _, OwS.store ho1 hz hin _ _, Bl.set (Bl.set (Bl.call (Bl.alloc hb _) hb1) (p := ⟨w.heap.size + 1, k * 2, none⟩) (Nat.le_succ _) _) (p := ⟨w.heap.size + 1, k * 2 + 1, none⟩) (Nat.le_succ _) _⟩, by simp [intOf]; omega⟩
        rw [gt_set (by rw [hz]; exact hin)]
        skip
        try simp only [if_true, if_false, Bool.false_eq_true]
        by_cases h2 : k = p
        · subst h2
          rw [if_pos (by omega)]
        · rw [if_neg (by omega)]
          have := HP.out p (by omega)
          simpa using this
    · obtain rfl : n = k := by omega
      go_wp2_with fail
      go_ret
      refine ⟨_, rfl, ?_, hb⟩
      have he : tpolW f q l = z := list_ext (by rw [tpolW_len, hs.1, hz]) (fun p h => by
        rw [tpolW_len] at h
        rw [tpolW_gt h, hs.1]
        rw [hs.1] at h
        cases f
        · have := hp p h
          simp only [Bool.false_eq_true, if_false] at this ⊢
          exact this.symm
        · have := hp (n - 1 - p) (by omega)
          simp only [if_true] at this ⊢
          rw [← this]; congr 1; omega)
      rw [he]
      exact ho.lower (Nat.le_succ _)
end Go.Proofs.YtmdncaoilegnnaaGreat

namespace Go.Proofs.YtmdncaoilegnnaaGreat
set_option linter.unusedVariables false
set_option linter.unusedSimpArgs false
set_option linter.unusedVariables false
set_option linter.unusedSimpArgs false
open Go.RowKit

def perW (n : Int) : Int := if n < 1 ∨ n > 1048576 then 0 else n
def limW (n : Int) : Int := min (max n (-1048576)) 1048576
def modW (n p : Int) : Int := if p = 0 then 0 else (wrap64 (n.tmod p + p)).tmod p
def nextW (p a b : Int) : Int := wrap64 (a + modW (wrap64 (b - a)) p)
set_option maxHeartbeats 400000 in
theorem period_any (n : Int) (w : World) : Calls Tryz.prog 168 #[.int .i64 n] w fun e w' => e = .returned (.int .i64 (perW n)) ∧ w' = w := by
  go_enter Tryz.func168, Tryz.ntmps168
  go_wp2
  all_goals go_ret
  all_goals exact ⟨ret_int (by unfold perW; split <;> omega), rfl⟩
set_option maxHeartbeats 400000 in
theorem limited_any (n : Int) (w : World) : Calls Tryz.prog 124 #[.int .i64 n] w fun e w' => e = .returned (.int .i64 (limW n)) ∧ w' = w := by
  go_enter Tryz.func124, Tryz.ntmps124
  go_wp2
  all_goals go_ret
  all_goals exact ⟨ret_int (by unfold limW; omega), rfl⟩
set_option maxHeartbeats 400000 in
theorem modulo_any (n p : Int) (w : World) : Calls Tryz.prog 169 #[.int .i64 n, .int .i64 p] w fun e w' => e = .returned (.int .i64 (modW n p)) ∧ w' = w := by
  by_cases hp : p = 0
  · subst hp
    go_enter Tryz.func169, Tryz.ntmps169
    go_wp2
    all_goals go_ret
    all_goals exact ⟨ret_int rfl, rfl⟩
  · have hq : (p == 0) = false := by simpa using hp
    go_enter Tryz.func169, Tryz.ntmps169
    go_wp2
    all_goals go_ret
    all_goals exact ⟨ret_int (by unfold modW; rw [if_neg hp]), rfl⟩
set_option maxHeartbeats 400000 in
theorem next_any (p a b : Int) (w : World) : Calls Tryz.prog 123 #[.int .i64 p, .int .i64 a, .int .i64 b] w fun e w' => e = .returned (.int .i64 (nextW p a b)) ∧ w' = w := by
  go_enter Tryz.func123, Tryz.ntmps123
  go_wp2_with (go_at_call 169; refine (modulo_any _ _ _).mono ?_; rintro e w1 ⟨rfl, rfl⟩)
  all_goals go_ret
  all_goals exact ⟨ret_int rfl, rfl⟩
set_option maxHeartbeats 400000 in
set_option maxRecDepth 100000 in
theorem snorm_any (x y : Int) (w : World) : Calls Tryz.prog 122 #[.agg #[.int .i64 x, .int .i64 y]] w fun e w' => e = .returned (.agg #[.int .i64 (perW x), .int .i64 (perW y)]) ∧ Below w.heap.size w w' := by
  go_enter Tryz.func122, Tryz.ntmps122
  go_wp2_with fail
  refine wp_region_tailD 7 (by kernel_rfl) (by kernel_rfl) ?_
  simp only [List.take_succ_cons, List.take_zero, List.drop_succ_cons, List.drop_zero]
  repeat still_step
  still_call (period_any _ _)
  repeat still_step
  still_call (period_any _ _)
  repeat still_step
  refine wpStill_nil ?_
  go_wp2_with fail
  exact bodyPost_ret (v := .agg #[.int .i64 (perW x), .int .i64 (perW y)]) (by simp [results, Tryz.results122, go_sem]) rfl ⟨rfl, Bl.drew (Bl.alloc (Bl.alloc (Below.refl _ _) _) _)⟩
def phaseW (rx ry x y : Int) : Int × Int := (modW (limW x) (perW rx), modW (limW y) (perW ry))
def snextW (rx ry ax ay bx bY : Int) : Int × Int := (nextW (perW rx) (limW ax) (limW bx), nextW (perW ry) (limW ay) (limW bY))
set_option maxHeartbeats 1000000 in
set_option maxRecDepth 100000 in
theorem phase_any (rx ry x y : Int) (w : World) : Calls Tryz.prog 147 #[.agg #[.int .i64 rx, .int .i64 ry], .agg #[.int .i64 x, .int .i64 y]] w fun e w' => e = .returned (.agg #[.int .i64 (phaseW rx ry x y).1, .int .i64 (phaseW rx ry x y).2]) ∧ Below w.heap.size w w' := by
  go_enter Tryz.func147, Tryz.ntmps147
  have h0 : BlkS (((w.alloc (.cells #[.int .i64 rx, .int .i64 ry] 23)).alloc (.cells #[.int .i64 x, .int .i64 y] 37)).alloc (.cells #[.int .i64 0, .int .i64 0] 37)) w.heap.size 23 #[.int .i64 rx, .int .i64 ry] := ((BlkS.new _ _ _).alloc _).alloc _
  have h1 : BlkS (((w.alloc (.cells #[.int .i64 rx, .int .i64 ry] 23)).alloc (.cells #[.int .i64 x, .int .i64 y] 37)).alloc (.cells #[.int .i64 0, .int .i64 0] 37)) (w.heap.size + 1) 37 #[.int .i64 x, .int .i64 y] := (BlkS.new2 _ _ _ _).alloc _
  have h2 : BlkS (((w.alloc (.cells #[.int .i64 rx, .int .i64 ry] 23)).alloc (.cells #[.int .i64 x, .int .i64 y] 37)).alloc (.cells #[.int .i64 0, .int .i64 0] 37)) (w.heap.size + 1 + 1) 37 #[.int .i64 0, .int .i64 0] := BlkS.new3 _ _ _ _ _
  have H0 := Lib.hid h0
  have H1 := Lib.hid h1
  have H2 := Lib.hid h2
  clear h0 h1 h2
  go_wp2_with (go_at_call 122; refine (snorm_any _ _ _).mono ?_; rintro e w1 ⟨rfl, hb1⟩; have k0 := H0.out.keep hb1; have k1 := H1.out.keep hb1; have k2 := H2.out.keep hb1; have a1 := k0.cell 0; have a2 := k0.cell 1; have a3 := k0.frozen 0; have a4 := k0.frozen 1; have a5 := k1.cell 0; have a6 := k1.cell 1; have a7 := k2.cell 0; have a8 := k2.cell 1; have a9 := k2.frozen 0; have a10 := k2.frozen 1; have l0 := k0.lt; have l1 := k1.lt; have l2 := k2.lt; simp only [List.getElem?_toArray, List.getElem?_cons_zero, List.getElem?_cons_succ] at a1 a2 a5 a6 a7 a8)
  refine wp_region_tailD 13 (by kernel_rfl) (by kernel_rfl) ?_
  simp only [List.take_succ_cons, List.take_zero, List.drop_succ_cons, List.drop_zero]
  repeat still_step
  still_call (limited_any _ _)
  repeat still_step
  still_call (modulo_any _ _ _)
  repeat still_step
  still_call (limited_any _ _)
  repeat still_step
  still_call (modulo_any _ _ _)
  repeat still_step
  refine wpStill_nil ?_
  go_wp2_with fail
  exact bodyPost_ret (v := .agg #[.int .i64 (phaseW rx ry x y).1, .int .i64 (phaseW rx ry x y).2]) (by simp [results, Tryz.results147, go_sem, a7, a8, phaseW]) rfl ⟨rfl, by have hbb := Bl.call (Bl.alloc (Bl.alloc (Bl.alloc (Below.refl _ _) _) _) _) hb1; (repeat first | exact hbb | refine Bl.drew ?_ | refine Bl.set ?_ (by dsimp only; omega) _)⟩
def sameW (rx ry ax ay bx bY : Int) : Bool := eqS (phaseW rx ry ax ay) (phaseW rx ry bx bY)
set_option maxHeartbeats 1000000 in
set_option maxRecDepth 100000 in
theorem same_any (rx ry ax ay bx bY : Int) (w : World) : Calls Tryz.prog 109 #[.agg #[.int .i64 rx, .int .i64 ry], .agg #[.int .i64 ax, .int .i64 ay], .agg #[.int .i64 bx, .int .i64 bY]] w fun e w' => e = .returned (.bool (sameW rx ry ax ay bx bY)) ∧ Below w.heap.size w w' := by
  have heq := eqInSpot
  go_enter Tryz.func109, Tryz.ntmps109
  go_wp2_with fail
  refine wp_region_cls w [(⟨w.heap.size, 0, none⟩, .int .i64 rx), (⟨w.heap.size, 1, none⟩, .int .i64 ry), (⟨w.heap.size + 1, 0, none⟩, .int .i64 ax), (⟨w.heap.size + 1, 1, none⟩, .int .i64 ay), (⟨w.heap.size + 1 + 1, 0, none⟩, .int .i64 bx), (⟨w.heap.size + 1 + 1, 1, none⟩, .int .i64 bY)] (by kernel_rfl) (by kernel_rfl) ⟨(Bl.alloc (Bl.alloc (Bl.alloc (Below.refl _ _) _) _) _), by simp only [List.mem_cons, List.not_mem_nil, forall_eq_or_imp, or_false, forall_eq]; go_simp⟩ ?_
  repeat
    apply wq_plain
    · rfl
    · intro w1 hw1
      have hx := hw1.2
      simp only [List.mem_cons, List.not_mem_nil, forall_eq_or_imp, or_false, forall_eq] at hx
      go_simp
      first | rfl | exact calls_cls hw1 (phase_any _ _ _ _ _)
    go_simp
  refine wpQuiet_nil ?_
  intro w1 hCw1
  have hb := hCw1.1
  clear hCw1
  go_wp2
  go_ret
  exact ⟨rfl, hb⟩
set_option maxHeartbeats 1000000 in
set_option maxRecDepth 100000 in
theorem snext_any (rx ry x y bx bY : Int) (w : World) : Calls Tryz.prog 95 #[.agg #[.int .i64 rx, .int .i64 ry], .agg #[.int .i64 x, .int .i64 y], .agg #[.int .i64 bx, .int .i64 bY]] w fun e w' => e = .returned (.agg #[.int .i64 (snextW rx ry x y bx bY).1, .int .i64 (snextW rx ry x y bx bY).2]) ∧ Below w.heap.size w w' := by
  go_enter Tryz.func95, Tryz.ntmps95
  obtain ⟨W4, hW4⟩ : ∃ W4, W4 = ((((w.alloc (.cells #[.int .i64 rx, .int .i64 ry] 23)).alloc (.cells #[.int .i64 x, .int .i64 y] 37)).alloc (.cells #[.int .i64 bx, .int .i64 bY] 37)).alloc (.cells #[.int .i64 0, .int .i64 0] 37)) := ⟨_, rfl⟩
  have h0 : BlkS W4 w.heap.size 23 #[.int .i64 rx, .int .i64 ry] := by rw [hW4]; exact (((BlkS.new _ _ _).alloc _).alloc _).alloc _
  have h1 : BlkS W4 (w.heap.size + 1) 37 #[.int .i64 x, .int .i64 y] := by rw [hW4]; exact ((BlkS.new2 _ _ _ _).alloc _).alloc _
  have h2 : BlkS W4 (w.heap.size + 1 + 1) 37 #[.int .i64 bx, .int .i64 bY] := by rw [hW4]; exact (BlkS.new3 _ _ _ _ _).alloc _
  have h3 : BlkS W4 (w.heap.size + 1 + 1 + 1) 37 #[.int .i64 0, .int .i64 0] := by
    rw [hW4]
    have := BlkS.new (((w.alloc (.cells #[.int .i64 rx, .int .i64 ry] 23)).alloc (.cells #[.int .i64 x, .int .i64 y] 37)).alloc (.cells #[.int .i64 bx, .int .i64 bY] 37)) 37 #[.int .i64 0, .int .i64 0]
    simpa using this
  subst hW4
  have H0 := Lib.hid h0
  have H1 := Lib.hid h1
  have H2 := Lib.hid h2
  have H3 := Lib.hid h3
  clear h0 h1 h2 h3
  go_wp2_with (go_at_call 122; refine (snorm_any _ _ _).mono ?_; rintro e w1 ⟨rfl, hb1⟩; have k0 := H0.out.keep hb1; have k1 := H1.out.keep hb1; have k2 := H2.out.keep hb1; have k3 := H3.out.keep hb1; have a1 := k0.cell 0; have a2 := k0.cell 1; have a3 := k0.frozen 0; have a4 := k0.frozen 1; have a5 := k1.cell 0; have a6 := k1.cell 1; have a7 := k2.cell 0; have a8 := k2.cell 1; have b1 := k3.cell 0; have b2 := k3.cell 1; have a9 := k3.frozen 0; have a10 := k3.frozen 1; have l0 := k0.lt; have l1 := k1.lt; have l2 := k2.lt; have l3 := k3.lt; simp only [List.getElem?_toArray, List.getElem?_cons_zero, List.getElem?_cons_succ] at a1 a2 a5 a6 a7 a8 b1 b2)
  refine wp_region_tailD 19 (by kernel_rfl) (by kernel_rfl) ?_
  simp only [List.take_succ_cons, List.take_zero, List.drop_succ_cons, List.drop_zero]
  repeat still_step
  still_call (limited_any _ _)
  repeat still_step
  still_call (limited_any _ _)
  repeat still_step
  still_call (next_any _ _ _ _)
  repeat still_step
  still_call (limited_any _ _)
  repeat still_step
  still_call (limited_any _ _)
  repeat still_step
  still_call (next_any _ _ _ _)
  repeat still_step
  refine wpStill_nil ?_
  go_wp2_with fail
  exact bodyPost_ret (v := .agg #[.int .i64 (snextW rx ry x y bx bY).1, .int .i64 (snextW rx ry x y bx bY).2]) (by simp [results, Tryz.results95, go_sem, b1, b2, snextW]) rfl ⟨rfl, by have hbb := Bl.call (Bl.alloc (Bl.alloc (Bl.alloc (Bl.alloc (Below.refl _ _) _) _) _) _) hb1; (repeat first | exact hbb | refine Bl.drew ?_ | refine Bl.set ?_ (by dsimp only; omega) _)⟩
end Go.Proofs.YtmdncaoilegnnaaGreat

namespace Go.Proofs.YtmdncaoilegnnaaGreat
set_option linter.unusedVariables false
set_option linter.unusedSimpArgs false
set_option linter.unusedVariables false
set_option linter.unusedSimpArgs false
open Go.RowKit

theorem tmod_add (n p : Int) (hp : 0 < p) : (n.tmod p + p) % p = n % p := by
  have h := Int.tmod_add_mul_tdiv n p
  have e : n % p = (n.tmod p + p * n.tdiv p) % p := by rw [h]
  rw [e, Int.add_mul_emod_self_left, Int.add_emod_right]
theorem tmod_rng (n p : Int) (hp : 0 < p) : -p < n.tmod p ∧ n.tmod p < p := by
  have h1 := Int.tmod_lt_of_pos n hp
  have h2 := Int.tmod_lt_of_pos (-n) hp
  rw [Int.neg_tmod] at h2
  omega
end Go.Proofs.YtmdncaoilegnnaaGreat

namespace Go.Proofs.YtmdncaoilegnnaaGreat
set_option linter.unusedVariables false
set_option linter.unusedSimpArgs false
set_option linter.unusedVariables false
set_option linter.unusedSimpArgs false
open Go.RowKit

end Go.Proofs.YtmdncaoilegnnaaGreat

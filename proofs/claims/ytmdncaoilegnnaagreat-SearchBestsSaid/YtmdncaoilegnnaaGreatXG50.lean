/- Lean texts of the claim. -/
import Derived.Test.YtmdncaoilegnnaaGreatXG49
import Derived.Test.YtmdncaoilegnnaaGreatXC
import Derived.Test.YtmdncaoilegnnaaGreatXG08
import Derived.Test.YtmdncaoilegnnaaGreatXG11
import Derived.BigRegion
import Derived.Deep.AppendLies
import Derived.Deep.RegionHeld3
namespace Go.Proofs.YtmdncaoilegnnaaGreat
set_option linter.unusedVariables false
set_option linter.unusedSimpArgs false
section
open Go.RowKit
theorem rfrst_yes {l : List (Int × Int)} {k j : Nat} (hj : frst l k = j) (h : lessS (gt l k) (gt l j) = true) : frst l (k + 1) = k := by
 rw [frst, hj, if_pos h]
theorem rfrst_no {l : List (Int × Int)} {k j : Nat} (hj : frst l k = j) (h : lessS (gt l k) (gt l j) = false) : frst l (k + 1) = j := by
 rw [frst, hj, if_neg (by rw [h]; simp)]
set_option maxHeartbeats 2000000 in
theorem rleast_any (b off cap n : Nat) (l : List (Int × Int)) (w : World) (hl : n ≤ 1000000) (h0 : 0 < n) (hcap : n ≤ cap) (hs : SpS w (some ⟨b, off, none⟩) n l) :
 Calls Tryz.prog 191 #[.slice (some ⟨b, off, none⟩) n cap] w (RetS w (rot l (frst l n))) := by
 have HL := Hj hs.1
 go_enter Tryz.func191, Tryz.ntmps191
 go_wp2_with fail
 go_loopw [3, 4] (fun s i wr => ∃ k j : Nat, 1 ≤ k ∧ k ≤ n ∧ i = .int .i64 k ∧ s = .int .i64 j ∧ Hid (frst l k = j) ∧ Below w.heap.size w wr) (fun _ i _ => n - (intOf i).toNat)
 case atStart => exact ⟨1, 0, by omega, by omega, rfl, rfl, Hj (by have := frst_lt l 1 (by omega); omega), Below.refl _ _⟩
 case round =>
  obtain ⟨k, j, hk1, hk2, rfl, rfl, hj, hb⟩ := hrel
  have hjk : j < k := by have := frst_lt l k (by omega); rw [hj.out] at this; exact this
  by_cases hlt : k < n
  ·obtain ⟨h1, h2⟩ := (hs.keep hb).cells hlt
   obtain ⟨h3, h4⟩ := (hs.keep hb).cells (show j < n by omega)
   have q1 : (j : Int) < (n : Int) := by omega
   have q2 : (k : Int) < (n : Int) := by omega
   cases hv : lessS ((gt l k).1, (gt l k).2) ((gt l j).1, (gt l j).2) with
   | false =>
     go_wp2_with fail
     refine Xc w [(⟨b, off + k * 2, none⟩, .int .i64 (gt l k).1), (⟨b, off + k * 2 + 1, none⟩, .int .i64 (gt l k).2), (⟨b, off + j * 2, none⟩, .int .i64 (gt l j).1), (⟨b, off + j * 2 + 1, none⟩, .int .i64 (gt l j).2)] (by kernel_rfl) (by kernel_rfl) ⟨hb, by simp only [List.mem_cons, List.not_mem_nil, forall_eq_or_imp, or_false, forall_eq]; go_simp⟩ ?_
     repeat
      apply wq_plain
      ·rfl
      ·intro w1 hw1
       have hx := hw1.2
       simp only [List.mem_cons, List.not_mem_nil, forall_eq_or_imp, or_false, forall_eq] at hx
       go_simp
       first | rfl | exact calls_cls hw1 (rless_any _ _ _ _ _)
      go_simp
     refine wpQuiet_nil ?_
     intro w1 hCw1
     have hb2 := hCw1.1
     clear hCw1 h1 h2 h3 h4 hb
     go_wp2_with fail
     exact ⟨⟨k + 1, j, by omega, by omega, by go_num, rfl, Hj (rfrst_no hj.out hv), hb2⟩, by simp [intOf]; omega⟩
   | true =>
     go_wp2_with fail
     refine Xc w [(⟨b, off + k * 2, none⟩, .int .i64 (gt l k).1), (⟨b, off + k * 2 + 1, none⟩, .int .i64 (gt l k).2), (⟨b, off + j * 2, none⟩, .int .i64 (gt l j).1), (⟨b, off + j * 2 + 1, none⟩, .int .i64 (gt l j).2)] (by kernel_rfl) (by kernel_rfl) ⟨hb, by simp only [List.mem_cons, List.not_mem_nil, forall_eq_or_imp, or_false, forall_eq]; go_simp⟩ ?_
     repeat
      apply wq_plain
      ·rfl
      ·intro w1 hw1
       have hx := hw1.2
       simp only [List.mem_cons, List.not_mem_nil, forall_eq_or_imp, or_false, forall_eq] at hx
       go_simp
       first | rfl | exact calls_cls hw1 (rless_any _ _ _ _ _)
      go_simp
     refine wpQuiet_nil ?_
     intro w1 hCw1
     have hb2 := hCw1.1
     clear hCw1 h1 h2 h3 h4 hb
     go_wp2_with fail
     exact ⟨⟨k + 1, k, by omega, by omega, by go_num, rfl, Hj (rfrst_yes hj.out hv), hb2⟩, by simp [intOf]; omega⟩
  ·obtain rfl : n = k := by omega
   have hjn : j ≤ n := by omega
   have q1 : (j : Int) ≤ (n : Int) := by omega
   have q2 : (j : Int) ≤ (cap : Int) := by omega
   have q3 : j < cap := by omega
   have hlen1 : ([] : List (Int × Int)).length + (n - j) ≤ 1000000 := by simp; omega
   have hlen2 : (l.drop j).length + j ≤ 1000000 := by rw [List.length_drop, HL.out]; omega
   have hnil : OwS wr w.heap.size (.slice none 0 0) [] := OwG.nil
   go_wp2_with (first
    | (at_builtin; refine wpList_appSS rfl _ _ rfl w.heap.size _ (l.drop j) rfl ho1 (some ⟨b, off, none⟩) j cap (l.take j) rfl ((hs.keep hb1).take hjn) (fun h => by cases h) hlen2 hb1.size ?_; intro v2 w2 ho2 hg2 hat2; have hb2 := below_app hb1 ho1 hg2)
    | (at_builtin; refine wpList_appSS rfl _ _ rfl w.heap.size _ [] rfl hnil (some ⟨b, off + j * 2, none⟩) (n - j) (cap - j) (l.drop j) rfl ((hs.keep hb).drop hjn) (fun h => by cases h) hlen1 hb.size ?_; intro v1 w1 ho1 hg1 hat1; rw [List.nil_append] at ho1; have hb1 := below_app hb hnil hg1))
   go_ret
   refine ⟨_, rfl, ?_, hb2⟩
   rw [hj.out]
   exact ho2
end
section
set_option maxRecDepth 100000
open Go.RowKit
set_option maxHeartbeats 400000 in
theorem sign13_any (x : Int) (w : World) : Calls Tryz.prog 220 #[.int .i64 x] w fun e w' => e = .returned (.int .i64 (cmpI x 0)) ∧ Below w.heap.size w w' := by
 go_enter Tryz.func220, Tryz.ntmps220
 go_wp2
 all_goals go_ret
 all_goals exact ⟨ret_int (by unfold cmpI; (repeat split) <;> omega), Below.refl _ _⟩
theorem lit3 (w : World) (p q r : Int × Int) : OwS (w.alloc (.cells #[.int .i64 p.1, .int .i64 p.2, .int .i64 q.1, .int .i64 q.2, .int .i64 r.1, .int .i64 r.2] 37)) w.heap.size (.slice (some ⟨w.heap.size, 0, none⟩) 3 3) [p, q, r] :=
 World.ownsRow_lit w #[.int .i64 p.1, .int .i64 p.2, .int .i64 q.1, .int .i64 q.2, .int .i64 r.1, .int .i64 r.2] 3 (Nat.le_refl _) (by unfold maxLen; omega) rfl
set_option maxHeartbeats 2000000 in
theorem around_any (b off cap n k : Nat) (l : List (Int × Int)) (w : World) (hl : n ≤ 1000000) (hcap : n ≤ cap) (hs : SpS w (some ⟨b, off, none⟩) n l) (hk : k < n) :
 Calls Tryz.prog 154 #[.slice (some ⟨b, off, none⟩) n cap, .int .i64 k] w fun e w' => ∃ g, e = .returned (.slice (some ⟨g, 0, none⟩) 3 3) ∧ OwS w' w.heap.size (.slice (some ⟨g, 0, none⟩) 3 3) (triW l n k) ∧ Below w.heap.size w w' := by
 have hm1 : (k + 1) % n < n := Nat.mod_lt _ (by omega)
 have hm2 : (k + n - 1) % n < n := Nat.mod_lt _ (by omega)
 obtain ⟨h1, h2⟩ := hs.cells hk
 obtain ⟨h3, h4⟩ := hs.cells hm1
 obtain ⟨h5, h6⟩ := hs.cells hm2
 have m1 := modf ((k : Int) + 1) (k + 1) n rfl (by omega)
 have m2 := modf ((k : Int) + (n : Int) - 1) (k + n - 1) n (by omega) (by omega)
 have q1 : IntKind.i64.wrap ((k : Int) + 1) = (k : Int) + 1 := wrap_add k 1 (by omega)
 have q2 : IntKind.i64.wrap ((k : Int) + (n : Int)) = (k : Int) + (n : Int) := wrap_add k n (by omega)
 have q3 : IntKind.i64.wrap ((k : Int) + (n : Int) - 1) = (k : Int) + (n : Int) - 1 := wrap_in _ (by omega) (by omega)
 have q4 : ¬ n = 0 := by omega
 have hbl : b < w.heap.size := lt_of_cell h1
 go_enter Tryz.func154, Tryz.ntmps154
 go_wp2_with fail
 go_region
 all_goals go_wp2_with fail
 all_goals go_ret
 all_goals exact ⟨w.heap.size, rfl, OwG.keep (lit3 _ _ _ _) (Bl.drew Br), Bl.drew (Bl.alloc Br _)⟩
set_option maxHeartbeats 1000000 in
theorem without_any (b off cap n j : Nat) (l : List (Int × Int)) (w : World) (hl : n ≤ 1000000) (hcap : n ≤ cap) (hs : SpS w (some ⟨b, off, none⟩) n l) (hj : j < n) :
 Calls Tryz.prog 155 #[.slice (some ⟨b, off, none⟩) n cap, .int .i64 j] w (RetS w (l.eraseIdx j)) := by
 have HL := Hj hs.1
 have hjn : j ≤ n := by omega
 have hj1 : j + 1 ≤ n := hj
 have q1 : (j : Int) ≤ (n : Int) := by omega
 have q2 : (j : Int) ≤ (cap : Int) := by omega
 have q3 : j < cap := by omega
 have q4 : IntKind.i64.wrap ((j : Int) + 1) = (j : Int) + 1 := wrap_add j 1 (by omega)
 have q5 : (j : Int) + 1 ≤ (n : Int) := by omega
 have hlen1 : ([] : List (Int × Int)).length + j ≤ 1000000 := by simp; omega
 have hlen2 : (l.take j).length + (n - (j + 1)) ≤ 1000000 := by rw [List.length_take]; omega
 have hnil : OwS w w.heap.size (.slice none 0 0) [] := OwG.nil
 have hb := Below.refl w.heap.size w
 obtain ⟨A2, hA2⟩ : ∃ A2 : Option Addr, (if cap = j + 1 then some ⟨b, off, none⟩ else some ⟨b, off + (j + 1) * 2, none⟩) = A2 := ⟨_, rfl⟩
 have HA := Hj hA2
 have hz2 : A2 = none → cap - (j + 1) = 0 := by
  intro h; subst h; split at hA2 <;> cases hA2
 have hs2 : ∀ w', SpS w' (some ⟨b, off, none⟩) n l → SpS w' A2 (n - (j + 1)) (l.drop (j + 1)) := by
  intro w' h
  by_cases hc : cap = j + 1
  ·rw [if_pos hc] at hA2
   have h2 := h.take (Nat.zero_le n)
   rw [← hA2, show n - (j + 1) = 0 by omega, List.drop_of_length_le (by rw [h.1]; omega)]
   exact h2
  ·rw [if_neg hc] at hA2
   rw [← hA2]
   exact h.drop hj1
 clear hA2
 go_enter Tryz.func155, Tryz.ntmps155
 go_wp2_with (first
  | (at_builtin; refine wpList_appSS rfl _ _ rfl w.heap.size _ (l.take j) rfl ho1 A2 (n - (j + 1)) (cap - (j + 1)) (l.drop (j + 1)) (by rw [← HA.out]; rfl) (hs2 _ (hs.keep hb1)) hz2 hlen2 hb1.size ?_; intro v2 w2 ho2 hg2 hat2; have hb2 := below_app hb1 ho1 hg2)
  | (at_builtin; (refine wpList_appSS rfl _ _ rfl w.heap.size _ [] rfl hnil (some ⟨b, off, none⟩) j cap (l.take j) rfl (hs.take hjn) (fun h => by cases h) hlen1 hb.size ?_; intro v1 w1 ho1 hg1 hat1; rw [List.nil_append] at ho1; have hb1 := below_app hb hnil hg1)))
 all_goals go_ret
 all_goals refine ⟨_, rfl, ?_, hb2⟩
 all_goals rw [List.eraseIdx_eq_take_drop_succ]
 all_goals exact ho2
end
section
open Go.RowKit
theorem three {w : World} {base g : Nat} {p q r : Int × Int} (h : OwS w base (.slice (some ⟨g, 0, none⟩) 3 3) [p, q, r]) : w.cell? ⟨g, 0, none⟩ = some (.int .i64 p.1) ∧ w.cell? ⟨g, 1, none⟩ = some (.int .i64 p.2) ∧ w.cell? ⟨g, 2, none⟩ = some (.int .i64 q.1) ∧ w.cell? ⟨g, 3, none⟩ = some (.int .i64 q.2) ∧ w.cell? ⟨g, 4, none⟩ = some (.int .i64 r.1) ∧ w.cell? ⟨g, 5, none⟩ = some (.int .i64 r.2) ∧ g < w.heap.size := by
 have c := fun k hk => (OwG.cells h k hk)
 have c0 := (c 0 (by simp)).trans rfl
 exact ⟨c0, (c 1 (by simp)).trans rfl, (c 2 (by simp)).trans rfl, (c 3 (by simp)).trans rfl, (c 4 (by simp)).trans rfl, (c 5 (by simp)).trans rfl, lt_of_cell c0⟩
set_option maxHeartbeats 1000000 in
theorem rbend_any (b off cap n k : Nat) (l : List (Int × Int)) (w : World) (hl : n ≤ 1000000) (hcap : n ≤ cap) (hs : SpS w (some ⟨b, off, none⟩) n l) (hk : k < n) :
 Calls Tryz.prog 192 #[.slice (some ⟨b, off, none⟩) n cap, .int .i64 k] w fun e w' => e = .returned (.int .i64 (bendW l n k)) ∧ Below w.heap.size w w' := by
 go_enter Tryz.func192, Tryz.ntmps192
 go_wp2_with (go_at_call 154; refine (around_any _ _ _ _ _ l _ hl hcap hs hk).mono ?_; rintro e w1 ⟨g, rfl, ho1, hb1⟩; obtain ⟨h1, h2, h3, h4, h5, h6, h7⟩ := three ho1)
 refine Xc w [(⟨g, 0, none⟩, .int .i64 (gt l ((k + n - 1) % n)).1), (⟨g, 1, none⟩, .int .i64 (gt l ((k + n - 1) % n)).2), (⟨g, 2, none⟩, .int .i64 (gt l k).1), (⟨g, 3, none⟩, .int .i64 (gt l k).2), (⟨g, 4, none⟩, .int .i64 (gt l ((k + 1) % n)).1), (⟨g, 5, none⟩, .int .i64 (gt l ((k + 1) % n)).2)] (by kernel_rfl) (by kernel_rfl) ⟨hb1, by simp only [List.mem_cons, List.not_mem_nil, forall_eq_or_imp, or_false, forall_eq]; go_simp⟩ ?_
 repeat
  apply wq_plain
  ·rfl
  ·intro w1 hw1
   have hx := hw1.2
   simp only [List.mem_cons, List.not_mem_nil, forall_eq_or_imp, or_false, forall_eq] at hx
   go_simp
   first | rfl | exact calls_cls hw1 (rcross_any _ _ _ _ _ _ _)
  go_simp
 refine wpQuiet_nil ?_
 intro w9 hCw9
 have hb := hCw9.1
 clear hCw9
 go_wp2_with fail
 go_ret
 exact ⟨rfl, hb⟩
set_option maxHeartbeats 1000000 in
theorem rflat_any (b off cap n : Nat) (l : List (Int × Int)) (w : World) (hl : n ≤ 1000000) (hcap : n ≤ cap) (hs : SpS w (some ⟨b, off, none⟩) n l) :
 Calls Tryz.prog 152 #[.slice (some ⟨b, off, none⟩) n cap] w fun e w' => e = .returned (.int .i64 (idxOf (strW l n) n)) ∧ Below w.heap.size w w' := by
 go_enter Tryz.func152, Tryz.ntmps152
 go_wp2_with fail
 go_loopw [3] (fun i wr => ∃ k : Nat, k ≤ n ∧ i = .int .i64 k ∧ Hid (AnyB (strW l n) k = false) ∧ Below w.heap.size w wr) (fun i _ => n - (intOf i).toNat)
 case atStart => exact ⟨0, Nat.zero_le _, rfl, Hj (AnyB.zero _), Below.refl _ _⟩
 case round =>
  obtain ⟨k, hk, rfl, hp, hb⟩ := hrel
  by_cases hlt : k < n
  ·by_cases hv : bendW l n k = 0
   ·have HV := Hj hv
    have q : (bendW l n k == 0) = true := by rw [hv]; rfl
    clear hv
    go_wp2_with (go_at_call 192; refine (rbend_any _ _ _ _ k l _ hl hcap (hs.keep hb) hlt).mono ?_; rintro e w2 ⟨rfl, hb2⟩)
    go_ret
    exact ⟨ret_int (idxOf_at hlt hp.out (by unfold strW; exact beq_iff_eq.2 HV.out)).symm, Bl.call hb hb2⟩
   ·have HV := Hj hv
    have q : (bendW l n k == 0) = false := by rw [beq_eq_false_iff_ne]; exact hv
    go_wp2_with (go_at_call 192; refine (rbend_any _ _ _ _ k l _ hl hcap (hs.keep hb) hlt).mono ?_; rintro e w2 ⟨rfl, hb2⟩)
    exact ⟨⟨k + 1, by omega, by go_num, Hj (AnyB.succ hp.out (by unfold strW; exact beq_eq_false_iff_ne.2 HV.out)), Bl.call hb hb2⟩, by simp [intOf]; omega⟩
  ·obtain rfl : n = k := by omega
   go_wp2_with fail
   go_ret
   exact ⟨ret_int (idxOf_none hp.out).symm, hb⟩
end
section
open Go.RowKit
def plcW (p q r s : Int × Int) : Int :=
 min (min (min 1 (cmpI (crossW p q r) 0 * cmpI (crossW p q s) 0)) (cmpI (crossW p q r) 0 * cmpI (crossW q r s) 0)) (cmpI (crossW p q r) 0 * cmpI (crossW r p s) 0)
theorem cmpI_range (a b : Int) : cmpI a b = -1 ∨ cmpI a b = 0 ∨ cmpI a b = 1 := by
 unfold cmpI
 by_cases h1 : a < b
 ·rw [if_pos h1]; exact .inl rfl
 ·rw [if_neg h1]
  by_cases h2 : a > b
  ·rw [if_pos h2]; exact .inr (.inr rfl)
  ·rw [if_neg h2]; exact .inr (.inl rfl)
theorem wrap_cmp (a b c d : Int) : IntKind.i64.wrap (cmpI a b * cmpI c d) = cmpI a b * cmpI c d := by
 apply wrap_in
 all_goals rcases cmpI_range a b with h | h | h <;> rcases cmpI_range c d with h' | h' | h' <;> rw [h, h'] <;> decide
theorem min_if (a b : Int) : (if b < a then b else a) = min a b := by
 by_cases h : b < a
 ·rw [if_pos h]; omega
 ·rw [if_neg h]; omega
theorem min_val {a b : Int} : Value.int .i64 (if b < a then b else a) = .int .i64 (min a b) := by rw [min_if]
theorem plc3 (p q r s : Int × Int) : min (min 1 (min (cmpI (crossW p q r) 0 * cmpI (crossW p q s) 0) (cmpI (crossW p q r) 0 * cmpI (crossW q r s) 0))) (cmpI (crossW p q r) 0 * cmpI (crossW r p s) 0) = plcW p q r s := by
 unfold plcW; omega
set_option maxHeartbeats 2000000 in
theorem rplace_any (g cap : Nat) (p q r : Int × Int) (x y : Int) (w : World) (hcap : 3 ≤ cap) (h0 : w.cell? ⟨g, 0, none⟩ = some (.int .i64 p.1)) (h1 : w.cell? ⟨g, 1, none⟩ = some (.int .i64 p.2)) (h2 : w.cell? ⟨g, 2, none⟩ = some (.int .i64 q.1)) (h3 : w.cell? ⟨g, 3, none⟩ = some (.int .i64 q.2)) (h4 : w.cell? ⟨g, 4, none⟩ = some (.int .i64 r.1)) (h5 : w.cell? ⟨g, 5, none⟩ = some (.int .i64 r.2)) :
 Calls Tryz.prog 205 #[.slice (some ⟨g, 0, none⟩) 3 cap, .agg #[.int .i64 x, .int .i64 y]] w fun e w' => e = .returned (.int .i64 (plcW p q r (x, y))) ∧ Below w.heap.size w w' := by
 have hC0 : Cls w [(⟨w.heap.size, 0, none⟩, .int .i64 x), (⟨w.heap.size, 1, none⟩, .int .i64 y), (⟨g, 0, none⟩, .int .i64 p.1), (⟨g, 1, none⟩, .int .i64 p.2), (⟨g, 2, none⟩, .int .i64 q.1), (⟨g, 3, none⟩, .int .i64 q.2), (⟨g, 4, none⟩, .int .i64 r.1), (⟨g, 5, none⟩, .int .i64 r.2)] (w.alloc (.cells #[.int .i64 x, .int .i64 y] 37)) := by
  have hg := lt_of_cell h0
  refine ⟨Bl.alloc Br _, ?_⟩
  simp only [List.mem_cons, List.not_mem_nil, forall_eq_or_imp, or_false, forall_eq]
  go_simp
 go_enter Tryz.func205, Tryz.ntmps205
 go_wp2_with fail
 have hx := hC0.2
 simp only [List.mem_cons, List.not_mem_nil, forall_eq_or_imp, or_false, forall_eq] at hx
 refine Xc w [(⟨w.heap.size, 0, none⟩, .int .i64 x), (⟨w.heap.size, 1, none⟩, .int .i64 y), (⟨g, 0, none⟩, .int .i64 p.1), (⟨g, 1, none⟩, .int .i64 p.2), (⟨g, 2, none⟩, .int .i64 q.1), (⟨g, 3, none⟩, .int .i64 q.2), (⟨g, 4, none⟩, .int .i64 r.1), (⟨g, 5, none⟩, .int .i64 r.2)] (by kernel_rfl) (by kernel_rfl) ⟨hC0.1, by simp only [List.mem_cons, List.not_mem_nil, forall_eq_or_imp, or_false, forall_eq]; go_simp⟩ ?_
 repeat
  apply wq_plain
  ·rfl
  ·intro w1 hw1
   have hx := hw1.2
   simp only [List.mem_cons, List.not_mem_nil, forall_eq_or_imp, or_false, forall_eq] at hx
   go_simp
   first | rfl | exact calls_cls hw1 (rcross_any _ _ _ _ _ _ _) | exact calls_cls hw1 (sign13_any _ _)
  go_simp
 refine wpQuiet_nil ?_
 intro w9 hCw9
 have hC := hCw9
 clear hCw9 hC0 hx h0 h1 h2 h3 h4 h5
 go_wp2_with fail
 go_loopw [6, 7] (fun o i wr => ((i = .int .i64 0 ∧ o = .int .i64 1) ∨ (i = .int .i64 1 ∧ o = .int .i64 (min 1 (cmpI (crossW p q r) 0 * cmpI (crossW p q (x, y)) 0))) ∨ (i = .int .i64 2 ∧ o = .int .i64 (min (min 1 (cmpI (crossW p q r) 0 * cmpI (crossW p q (x, y)) 0)) (cmpI (crossW p q r) 0 * cmpI (crossW q r (x, y)) 0))) ∨ (i = .int .i64 3 ∧ o = .int .i64 (plcW p q r (x, y)))) ∧ Cls w [(⟨w.heap.size, 0, none⟩, .int .i64 x), (⟨w.heap.size, 1, none⟩, .int .i64 y), (⟨g, 0, none⟩, .int .i64 p.1), (⟨g, 1, none⟩, .int .i64 p.2), (⟨g, 2, none⟩, .int .i64 q.1), (⟨g, 3, none⟩, .int .i64 q.2), (⟨g, 4, none⟩, .int .i64 r.1), (⟨g, 5, none⟩, .int .i64 r.2)] wr) (fun _ i _ => 3 - (intOf i).toNat)
 case atStart => exact ⟨.inl ⟨rfl, rfl⟩, hC⟩
 case round =>
  clear hC
  obtain ⟨ho, hC⟩ := hrel
  have z1 : IntKind.i64.wrap 1 = 1 := wrap_in _ (by omega) (by omega)
  have z2 : IntKind.i64.wrap 2 = 2 := wrap_in _ (by omega) (by omega)
  have z3 : IntKind.i64.wrap 3 = 3 := wrap_in _ (by omega) (by omega)
  have z4 : (1 : Int).tmod 3 = 1 := rfl
  have z5 : (2 : Int).tmod 3 = 2 := rfl
  have z6 : (3 : Int).tmod 3 = 0 := rfl
  rcases ho with ⟨rfl, rfl⟩ | ⟨rfl, rfl⟩ | ⟨rfl, rfl⟩ | ⟨rfl, rfl⟩
  ·go_wp2_with fail
   have hx := hC.2
   simp only [List.mem_cons, List.not_mem_nil, forall_eq_or_imp, or_false, forall_eq] at hx
   have qw := wrap_cmp (crossW (p.1, p.2) (q.1, q.2) (r.1, r.2)) 0 (crossW (p.1, p.2) (q.1, q.2) (x, y)) 0
   refine Xc w [(⟨w.heap.size, 0, none⟩, .int .i64 x), (⟨w.heap.size, 1, none⟩, .int .i64 y), (⟨g, 0, none⟩, .int .i64 p.1), (⟨g, 1, none⟩, .int .i64 p.2), (⟨g, 2, none⟩, .int .i64 q.1), (⟨g, 3, none⟩, .int .i64 q.2), (⟨g, 4, none⟩, .int .i64 r.1), (⟨g, 5, none⟩, .int .i64 r.2)] (by kernel_rfl) (by kernel_rfl) ⟨hC.1, by simp only [List.mem_cons, List.not_mem_nil, forall_eq_or_imp, or_false, forall_eq]; go_simp⟩ ?_
   repeat
    apply wq_plain
    ·rfl
    ·intro w1 hw1
     have hx := hw1.2
     simp only [List.mem_cons, List.not_mem_nil, forall_eq_or_imp, or_false, forall_eq] at hx
     go_simp
     first | rfl | exact calls_cls hw1 (rcross_any _ _ _ _ _ _ _) | exact calls_cls hw1 (sign13_any _ _)
    go_simp
   refine wpQuiet_nil ?_
   intro w9 hCw9
   clear hC hx
   go_wp2_with fail
   exact ⟨⟨.inr (.inl ⟨rfl, min_val⟩), hCw9⟩, by simp [intOf]⟩
  ·go_wp2_with fail
   have hx := hC.2
   simp only [List.mem_cons, List.not_mem_nil, forall_eq_or_imp, or_false, forall_eq] at hx
   have qw := wrap_cmp (crossW (p.1, p.2) (q.1, q.2) (r.1, r.2)) 0 (crossW (q.1, q.2) (r.1, r.2) (x, y)) 0
   refine Xc w [(⟨w.heap.size, 0, none⟩, .int .i64 x), (⟨w.heap.size, 1, none⟩, .int .i64 y), (⟨g, 0, none⟩, .int .i64 p.1), (⟨g, 1, none⟩, .int .i64 p.2), (⟨g, 2, none⟩, .int .i64 q.1), (⟨g, 3, none⟩, .int .i64 q.2), (⟨g, 4, none⟩, .int .i64 r.1), (⟨g, 5, none⟩, .int .i64 r.2)] (by kernel_rfl) (by kernel_rfl) ⟨hC.1, by simp only [List.mem_cons, List.not_mem_nil, forall_eq_or_imp, or_false, forall_eq]; go_simp⟩ ?_
   repeat
    apply wq_plain
    ·rfl
    ·intro w1 hw1
     have hx := hw1.2
     simp only [List.mem_cons, List.not_mem_nil, forall_eq_or_imp, or_false, forall_eq] at hx
     go_simp
     first | rfl | exact calls_cls hw1 (rcross_any _ _ _ _ _ _ _) | exact calls_cls hw1 (sign13_any _ _)
    go_simp
   refine wpQuiet_nil ?_
   intro w9 hCw9
   clear hC hx
   go_wp2_with fail
   exact ⟨⟨.inr (.inr (.inl ⟨rfl, min_val⟩)), hCw9⟩, by simp [intOf]⟩
  ·go_wp2_with fail
   have hx := hC.2
   simp only [List.mem_cons, List.not_mem_nil, forall_eq_or_imp, or_false, forall_eq] at hx
   have qw := wrap_cmp (crossW (p.1, p.2) (q.1, q.2) (r.1, r.2)) 0 (crossW (r.1, r.2) (p.1, p.2) (x, y)) 0
   refine Xc w [(⟨w.heap.size, 0, none⟩, .int .i64 x), (⟨w.heap.size, 1, none⟩, .int .i64 y), (⟨g, 0, none⟩, .int .i64 p.1), (⟨g, 1, none⟩, .int .i64 p.2), (⟨g, 2, none⟩, .int .i64 q.1), (⟨g, 3, none⟩, .int .i64 q.2), (⟨g, 4, none⟩, .int .i64 r.1), (⟨g, 5, none⟩, .int .i64 r.2)] (by kernel_rfl) (by kernel_rfl) ⟨hC.1, by simp only [List.mem_cons, List.not_mem_nil, forall_eq_or_imp, or_false, forall_eq]; go_simp⟩ ?_
   repeat
    apply wq_plain
    ·rfl
    ·intro w1 hw1
     have hx := hw1.2
     simp only [List.mem_cons, List.not_mem_nil, forall_eq_or_imp, or_false, forall_eq] at hx
     go_simp
     first | rfl | exact calls_cls hw1 (rcross_any _ _ _ _ _ _ _) | exact calls_cls hw1 (sign13_any _ _)
    go_simp
   refine wpQuiet_nil ?_
   intro w9 hCw9
   clear hC hx
   go_wp2_with fail
   exact ⟨⟨.inr (.inr (.inr ⟨rfl, min_val.trans (congrArg (Value.int .i64) (plc3 p q r (x, y)))⟩)), hCw9⟩, by simp [intOf]⟩
  ·go_wp2_with fail
   go_ret
   exact ⟨rfl, hC.1⟩
end
section
set_option maxRecDepth 100000
open Go.RowKit
theorem step_appS {w : World} {ops : Array Oper} {o : Oper} {a : Act} {K : Act → World → Prop} {Q : Exit → Act → World → Prop} {E : Prop} (hgd : o.guard = none) (s x : Operand)
 (ho : o.op = .call { callee := .builtin .append, args := #[s, x], argTypes := #[47, 47] })
 (base : Nat) (v : Value) (l : List (Int × Int)) (hs : a.eval s = v) (hown : OwS w base v l)
 (bx c : Nat) (p : Int × Int) (tb : TypeId) (hx : a.eval x = .slice (some ⟨bx, 0, none⟩) 1 c) (hnew : BlkS w bx tb #[.int .i64 p.1, .int .i64 p.2])
 (hlen : l.length ≤ 1000000) (hbase : base ≤ w.heap.size) (H : Nat) (hH : w.heap.size = H)
 (h : ∀ g cap w', OwS w' base (.slice (some ⟨g, 0, none⟩) (l.length + 1) cap) (l ++ [p]) → w.grownBy w' v.ownBlock → (v.ownBlock = some g ∨ g = H) → g < w'.heap.size → K (a.put o.dst (.slice (some ⟨g, 0, none⟩) (l.length + 1) cap)) w') :
 if Region.wanted o (yielded ops a.tmps) = true then Oper.wp Tryz.prog o a w K Q else E := by
 obtain ⟨i, hi, hz0, hz1, hz2⟩ := info_parts infoS
 refine step_append_lies (P := Tryz.prog) w hgd s x 47 ho base 37 i (.agg #[.int .i64 0, .int .i64 0]) 2 16 Tryz.underlying47 hi hz0 hz1 hz2 rfl (by omega) v l.length (l.flatMap enS) hs hown ⟨bx, 0, none⟩ 1 c (enS p) hx (by rw [enS_len]) ?_ (enS_one p) (by omega) (by unfold maxLen; omega) (by omega) hbase H hH ?_
 ·intro j u hj
  exact World.news_of_block (w := w) (B := bx) (cs := (enS p).toArray) (t := tb) (fr := (0, 0)) hnew j u (by simpa using hj)
 ·intro g cap w' ho' hg hat hlt
  refine h g cap w' ?_ hg hat hlt
  unfold OwS OwG
  rw [List.length_append, List.flatMap_append]
  simpa using ho'
theorem mov_take {l : List (Int × Int)} {k : Nat} {d : Int × Int} (h : k < l.length) : movW (l.take k) d ++ [(wrap64 ((gt l k).1 + d.1), wrap64 ((gt l k).2 + d.2))] = movW (l.take (k + 1)) d := by
 unfold movW
 rw [List.take_succ_eq_append_getElem h, List.map_append]
 simp [gt, h]
theorem neg_take {l : List (Int × Int)} {k : Nat} (h : k < l.length) : negW (l.take k) ++ [(wrap64 (-(gt l k).1), wrap64 (-(gt l k).2))] = negW (l.take (k + 1)) := by
 unfold negW
 rw [List.take_succ_eq_append_getElem h, List.map_append]
 simp [gt, h]
set_option maxHeartbeats 1000000 in
theorem rnegate_any (A : Option Addr) (cap n : Nat) (l : List (Int × Int)) (w : World) (hn : n ≤ 1000000) (hs : SpS w A n l) :
 Calls Tryz.prog 136 #[.slice A n cap] w (RetS w (negW l)) := by
 have HL := Hj hs.1
 go_enter Tryz.func136, Tryz.ntmps136
 go_wp2_with fail
 go_loopw [3, 4] (fun s i wr => ∃ k : Nat, k ≤ n ∧ i = .int .i64 k ∧ OwS wr w.heap.size s (negW (l.take k)) ∧ Below w.heap.size w wr) (fun _ i _ => n - (intOf i).toNat)
 case atStart => exact ⟨0, Nat.zero_le _, rfl, OwG.nil, Below.refl _ _⟩
 case round =>
  obtain ⟨k, hk, rfl, ho, hb⟩ := hrel
  by_cases hlt : k < n
  ·obtain ⟨b, off, rfl, hbl, hc⟩ := hs.at_ hlt
   have h1 := Xa hb (hc k hlt).1
   have h2 := Xa hb (hc k hlt).2
   clear hc
   have hlen : (negW (l.take k)).length ≤ 1000000 := by rw [negW_len, List.length_take]; omega
   have z1 : (0 : Int) ≤ (k : Int) := by omega
   have z2 : (k : Int) < (n : Int) := by omega
   have HT := Hj (neg_take (l := l) (k := k) (by rw [HL.out]; exact hlt))
   have hbs := hb.size
   obtain ⟨sv, hsv⟩ : ∃ sv, sv = u3 := ⟨_, rfl⟩
   rw [← hsv] at ho ⊢
   clear hsv
   have hne : some b ≠ sv.ownBlock := fun e => by have := (OwG.lt ho _ e.symm).1; omega
   go_wp2_with fail
   go_region_held3 (fun w' => w'.cell? ⟨b, off + k * 2, none⟩ = some (.int .i64 (gt l k).1) ∧ w'.cell? ⟨b, off + k * 2 + 1, none⟩ = some (.int .i64 (gt l k).2)) (first
    | go_keep
    | (go_split_ands
       refine ⟨?_, ?_⟩
       ·(rw [hgv.cell_far _ (by simp; omega) hne]; assumption)
       ·(rw [hgv.cell_far _ (by simp; omega) hne]; assumption)))
    ((refine step_appS (by rfl) _ _ (by rfl) w.heap.size sv (negW (l.take k)) (by rfl) (OwG.keep (OwG.alloc ho _) (Bl.drew Br)) wr.heap.size 1 (IntKind.i64.wrap (-(gt l k).1), IntKind.i64.wrap (-(gt l k).2)) 37 (by rfl) (BlkS.drew (BlkS.new _ _ _)) hlen (by simp; omega) (wr.heap.size + 1) (by simp) ?_; intro gg cp wv hov hgv hat hlv))
   go_wp2_with fail
   exact ⟨⟨k + 1, by omega, by go_num, by rw [← HT.out, ← IntWalk.i64_left, ← IntWalk.i64_left]; exact hov, below_app (Bl.drew (Bl.alloc hb _)) (OwG.keep (OwG.alloc ho _) (Bl.drew Br)) hgv⟩, by simp [intOf]; omega⟩
  ·obtain rfl : n = k := by omega
   rw [List.take_of_length_le (by rw [HL.out]; exact Nat.le_refl _)] at ho
   go_wp2_with fail
   go_ret
   exact ⟨_, rfl, ho, hb⟩
set_option maxHeartbeats 1000000 in
theorem rmove_any (A : Option Addr) (cap n : Nat) (l : List (Int × Int)) (x y : Int) (w : World) (hn : n ≤ 1000000) (hs : SpS w A n l) :
 Calls Tryz.prog 65 #[.slice A n cap, .agg #[.int .i64 x, .int .i64 y]] w (RetS w (movW l (x, y))) := by
 have HL := Hj hs.1
 go_enter Tryz.func65, Tryz.ntmps65
 go_wp2_with fail
 go_loopw [5, 6] (fun s i wr => ∃ k : Nat, k ≤ n ∧ i = .int .i64 k ∧ OwS wr (w.heap.size + 1) s (movW (l.take k) (x, y)) ∧ BlkS wr w.heap.size 37 #[.int .i64 x, .int .i64 y] ∧ Below w.heap.size w wr) (fun _ i _ => n - (intOf i).toNat)
 case atStart => exact ⟨0, Nat.zero_le _, rfl, OwG.nil, BlkS.new _ _ _, Bl.alloc Br _⟩
 case round =>
  obtain ⟨k, hk, rfl, ho, hB, hb⟩ := hrel
  by_cases hlt : k < n
  ·obtain ⟨b, off, rfl, hbl, hc⟩ := hs.at_ hlt
   have h1 := Xa hb (hc k hlt).1
   have h2 := Xa hb (hc k hlt).2
   clear hc
   have c3 := hB.cell 0
   have c4 := hB.cell 1
   simp only [List.getElem?_toArray, List.getElem?_cons_zero, List.getElem?_cons_succ] at c3 c4
   have hgl : w.heap.size < wr.heap.size := lt_of_cell c3
   have hlen : (movW (l.take k) (x, y)).length ≤ 1000000 := by rw [movW_len, List.length_take]; omega
   have z1 : (0 : Int) ≤ (k : Int) := by omega
   have z2 : (k : Int) < (n : Int) := by omega
   have HT := Hj (mov_take (l := l) (k := k) (d := (x, y)) (by rw [HL.out]; exact hlt))
   have hbs := hb.size
   obtain ⟨sv, hsv⟩ : ∃ sv, sv = u5 := ⟨_, rfl⟩
   rw [← hsv] at ho ⊢
   clear hsv
   have hne : some b ≠ sv.ownBlock := fun e => by have := (OwG.lt ho _ e.symm).1; omega
   have hne2 : some w.heap.size ≠ sv.ownBlock := fun e => by have := (OwG.lt ho _ e.symm).1; omega
   have hbls : b < wr.heap.size := by omega
   go_wp2_with fail
   go_region_held3 (fun w' => w'.cell? ⟨b, off + k * 2, none⟩ = some (.int .i64 (gt l k).1) ∧ w'.cell? ⟨b, off + k * 2 + 1, none⟩ = some (.int .i64 (gt l k).2) ∧ w'.cell? ⟨w.heap.size, 0, none⟩ = some (.int .i64 x) ∧ w'.cell? ⟨w.heap.size, 1, none⟩ = some (.int .i64 y)) (first
    | go_keep
    | (go_split_ands
       refine ⟨?_, ?_, ?_, ?_⟩
       ·(rw [hgv.cell_far _ (by simp; omega) hne]; assumption)
       ·(rw [hgv.cell_far _ (by simp; omega) hne]; assumption)
       ·(rw [hgv.cell_far _ (by simp; omega) hne2]; assumption)
       ·(rw [hgv.cell_far _ (by simp; omega) hne2]; assumption)))
    ((refine step_appS (by rfl) _ _ (by rfl) (w.heap.size + 1) sv (movW (l.take k) (x, y)) (by rfl) (OwG.keep (OwG.alloc ho _) (Bl.drew Br)) wr.heap.size 1 (IntKind.i64.wrap ((gt l k).1 + x), IntKind.i64.wrap ((gt l k).2 + y)) 37 (by rfl) (BlkS.drew (BlkS.new _ _ _)) hlen (by simp; omega) (wr.heap.size + 1) (by simp) ?_; intro gg cp wv hov hgv hat hlv))
   go_wp2_with fail
   have hog : OwS ((wr.alloc (.cells #[.int .i64 (IntKind.i64.wrap ((gt l k).1 + x)), .int .i64 (IntKind.i64.wrap ((gt l k).2 + y))] 37)).drew) (w.heap.size + 1) sv (movW (l.take k) (x, y)) := OwG.keep (OwG.alloc ho _) (Bl.drew Br)
   exact ⟨⟨k + 1, by omega, by go_num, by rw [← HT.out, ← IntWalk.i64_left, ← IntWalk.i64_left]; exact hov, (hgv.block w.heap.size ((hB.alloc _).drew).lt hne2).trans ((hB.alloc _).drew), below_app (Bl.drew (Bl.alloc hb _)) (OwG.lower hog (by omega)) hgv⟩, by simp [intOf]; omega⟩
  ·obtain rfl : n = k := by omega
   rw [List.take_of_length_le (by rw [HL.out]; exact Nat.le_refl _)] at ho
   go_wp2_with fail
   go_ret
   exact ⟨_, rfl, OwG.lower ho (by omega), hb⟩
end
end Go.Proofs.YtmdncaoilegnnaaGreat

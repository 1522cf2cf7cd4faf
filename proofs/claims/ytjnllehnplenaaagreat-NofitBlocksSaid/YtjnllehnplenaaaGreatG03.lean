/- '==' and '!=' at spots. Contracts of slices.IndexFunc, ContainsFunc, Index, Contains at spots. Contracts of polygon.simple and polygon.Check. Contracts of polygon.Check, area, Area2, bend. -/
import Derived.Test.YtjnllehnplenaaaGreatG01
import Derived.Test.YtjnllehnplenaaaGreatG02
import Derived.Laws.StructEq
namespace Go.Proofs.YtjnllehnplenaaaGreat
set_option linter.unusedVariables false
set_option linter.unusedSimpArgs false
open Go.RowKit

def eqS (p q : Int × Int) : Bool := p.1 == q.1 && p.2 == q.2
theorem eqS_iff (p q : Int × Int) : eqS p q = true ↔ p = q := by
  obtain ⟨a, b⟩ := p; obtain ⟨c, d⟩ := q; simp [eqS]
theorem eqS_false (p q : Int × Int) : eqS p q = false ↔ p ≠ q := by
  rw [← Bool.not_eq_true, eqS_iff]

theorem eqInSpot (a b c d : Int) (w : World) : (Op.equalIn 10000 30 (.agg #[.int .i64 a, .int .i64 b]) (.agg #[.int .i64 c, .int .i64 d])).run Tryz.prog w = .ok (eqS (a, b) (c, d)) w := by
  have u3 := Tryz.underlying3
  have a3 := Tryz.isAgg3
  have z3 := Tryz.sizeOf3
  have hS : Tryz.prog.underlying 30 = some (.struct (Tryz.prog.fieldsOf 30)) := by kernel_rfl
  have hp : Tryz.prog.stoodInHeld 30 = false := by kernel_rfl
  rw [show (10000 : Nat) = 9999 + 1 from rfl, run_equalIn_agg w 9999 30 _ _ hS hp]
  simp only [Program.fieldsOf, Tryz.underlying30]
  go_simp
  by_cases h1 : a = c <;> by_cases h2 : b = d <;> simp [h1, h2, eqS]

end Go.Proofs.YtjnllehnplenaaaGreat

namespace Go.Proofs.YtjnllehnplenaaaGreat
set_option linter.unusedVariables false
set_option linter.unusedSimpArgs false
open Go.RowKit

set_option maxHeartbeats 1000000 in
theorem idxOut_any (A : Option Addr) (cap n : Nat) (l : List (Int × Int)) (w : World) (hl : n ≤ 1000000) (hs : SpS w A n l) :
    Calls Tryz.prog 73 #[.slice A n cap, .func (.func 101) #[] #[]] w fun e w' => e = .returned (.int .i64 (idxOf (fun i => outB 1048576 (gt l i)) n)) ∧ Below w.heap.size w w' := by
  go_enter Tryz.func73, Tryz.ntmps73
  go_wp2_with fail
  go_loopw [8] (fun i wr => ∃ k : Nat, k ≤ n ∧ i = .int .i64 k ∧ Hid (AnyB (fun i => outB 1048576 (gt l i)) k = false) ∧ Below w.heap.size w wr) (fun i _ => n - (intOf i).toNat)
  case atStart => exact ⟨0, Nat.zero_le _, rfl, AnyB.zero _, Below.refl _ _⟩
  case round =>
    obtain ⟨k, hk, rfl, hp, hb⟩ := hrel
    by_cases hlt : k < n
    · obtain ⟨b, off, rfl, hbl, hc⟩ := hs.at_ hlt
      have h1 := cell_keep hb (hc k hlt).1
      have h2 := cell_keep hb (hc k hlt).2
      clear hc
      go_wp2_with (go_at_call 101; refine (outside_any _ _ _).mono ?_; rintro e w1 ⟨rfl, hb1⟩; have hb2 := Bl.call hb hb1; clear hb1)
      · go_ret
        exact ⟨ret_int (idxOf_at hlt hp.out (by assumption)).symm, hb2⟩
      · go_roundw
        case rel => exact ⟨k + 1, by omega, by go_num, AnyB.succ hp.out (by simpa using ‹_›), hb2⟩
        case measure => simp [intOf]; omega
    · obtain rfl : n = k := by omega
      go_wp2_with fail
      go_ret
      exact ⟨ret_int (idxOf_none hp.out).symm, hb⟩

set_option maxHeartbeats 1000000 in
theorem containsOut_any (A : Option Addr) (cap n : Nat) (l : List (Int × Int)) (w : World) (hl : n ≤ 1000000) (hs : SpS w A n l) :
    Calls Tryz.prog 43 #[.slice A n cap, .func (.func 101) #[] #[]] w fun e w' => e = .returned (.bool (AnyB (fun i => outB 1048576 (gt l i)) n)) ∧ Below w.heap.size w w' := by
  go_enter Tryz.func43, Tryz.ntmps43
  go_wp2_with (go_at_call 73; refine (idxOut_any _ _ _ _ _ hl hs).mono ?_; rintro e w1 ⟨rfl, hb1⟩)
  go_ret
  exact ⟨ret_bool (idxOf_any _ _), hb1⟩

set_option maxHeartbeats 1000000 in
theorem index_any (A : Option Addr) (cap n : Nat) (l : List (Int × Int)) (x y : Int) (w : World) (hl : n ≤ 1000000) (hs : SpS w A n l) :
    Calls Tryz.prog 124 #[.slice A n cap, .agg #[.int .i64 x, .int .i64 y]] w fun e w' => e = .returned (.int .i64 (idxOf (fun i => eqS (x, y) (gt l i)) n)) ∧ Below w.heap.size w w' := by
  have heq := eqInSpot
  go_enter Tryz.func124, Tryz.ntmps124
  go_wp2_with fail
  go_loopw [8] (fun i wr => ∃ k : Nat, k ≤ n ∧ i = .int .i64 k ∧ Hid (AnyB (fun i => eqS (x, y) (gt l i)) k = false) ∧ Cls w [(⟨w.heap.size, 0, none⟩, .int .i64 x), (⟨w.heap.size, 1, none⟩, .int .i64 y)] wr) (fun i _ => n - (intOf i).toNat)
  case atStart => exact ⟨0, Nat.zero_le _, rfl, AnyB.zero _, (Bl.alloc (Below.refl _ _) _), by simp only [List.mem_cons, List.not_mem_nil, forall_eq_or_imp, or_false, forall_eq]; go_simp⟩
  case round =>
    obtain ⟨k, hk, rfl, hp, hC⟩ := hrel
    by_cases hlt : k < n
    · obtain ⟨b, off, rfl, hbl, hc⟩ := hs.at_ hlt
      have h1 := cell_keep hC.1 (hc k hlt).1
      have h2 := cell_keep hC.1 (hc k hlt).2
      have hx := hC.2
      simp only [List.mem_cons, List.not_mem_nil, forall_eq_or_imp, or_false, forall_eq] at hx
      clear hc
      go_wp2_with fail
      go_quiet (fail)
      have hC2 : Cls w [(⟨w.heap.size, 0, none⟩, .int .i64 x), (⟨w.heap.size, 1, none⟩, .int .i64 y)] (wr.drewN nq) := ⟨Bl.drewN hC.1 _, hC.2⟩
      clear hC
      go_wp2_with fail
      · go_ret
        exact ⟨ret_int (idxOf_at hlt hp.out (by assumption)).symm, hC2.1⟩
      · go_roundw
        case rel => exact ⟨k + 1, by omega, by go_num, AnyB.succ hp.out (by simpa using ‹_›), hC2⟩
        case measure => simp [intOf]; omega
    · obtain rfl : n = k := by omega
      go_wp2_with fail
      go_ret
      exact ⟨ret_int (idxOf_none hp.out).symm, hC.1⟩

set_option maxHeartbeats 1000000 in
theorem contains_any (A : Option Addr) (cap n : Nat) (l : List (Int × Int)) (x y : Int) (w : World) (hl : n ≤ 1000000) (hs : SpS w A n l) :
    Calls Tryz.prog 116 #[.slice A n cap, .agg #[.int .i64 x, .int .i64 y]] w fun e w' => e = .returned (.bool (AnyB (fun i => eqS (x, y) (gt l i)) n)) ∧ Below w.heap.size w w' := by
  go_enter Tryz.func116, Tryz.ntmps116
  go_wp2_with (go_at_call 124; refine (index_any _ _ _ _ _ _ _ hl (hs.keep (Bl.alloc (Below.refl _ _) _))).mono ?_; rintro e w1 ⟨rfl, hb1⟩)
  go_ret
  exact ⟨ret_bool (idxOf_any _ _), Bl.call (Bl.alloc (Below.refl _ _) _) hb1⟩

end Go.Proofs.YtjnllehnplenaaaGreat

namespace Go.Proofs.YtjnllehnplenaaaGreat
set_option linter.unusedVariables false
set_option linter.unusedSimpArgs false
open Go.RowKit

def dupW (l : List (Int × Int)) (i : Nat) : Bool := AnyB (fun j => eqS (gt l i) (gt l j)) i
def innW (l : List (Int × Int)) (n i k : Nat) : Bool := decide (k < i + 2) || decide ((k + 1) % n = i) || !meetW (gt l i) (gt l ((i + 1) % n)) (gt l k) (gt l ((k + 1) % n))
def sidW (l : List (Int × Int)) (n i : Nat) : Bool := !foldedW (gt l i) (gt l ((i + 1) % n)) (gt l ((i + 2) % n)) && AllB (innW l n i) n
def simpleW (l : List (Int × Int)) (n : Nat) : Bool := AllB (fun i => !dupW l i) n && AllB (sidW l n) n

theorem dup_of {l : List (Int × Int)} {k : Nat} {r : Bool} (h : AnyB (fun i => eqS ((gt l k).1, (gt l k).2) (gt (l.take k) i)) k = r) : dupW l k = r := by
  rw [← h]; unfold dupW; exact AnyB.congr fun i hi => by rw [gt_take hi]

theorem simple_f1 {l : List (Int × Int)} {n k : Nat} (hk : k < n) (h : dupW l k = true) : simpleW l n = false := by
  unfold simpleW; rw [AllB.no hk (by rw [h]; rfl)]; rfl
theorem simple_f2 {l : List (Int × Int)} {n k : Nat} (hk : k < n) (h : foldedW (gt l k) (gt l ((k + 1) % n)) (gt l ((k + 2) % n)) = true) : simpleW l n = false := by
  have : sidW l n k = false := by unfold sidW; rw [h]; rfl
  unfold simpleW; rw [AllB.no (f := sidW l n) hk this, Bool.and_false]
theorem simple_f3 {l : List (Int × Int)} {n k j : Nat} (hk : k < n) (hj : j < n) (h1 : k + 2 ≤ j) (h2 : ¬ (j + 1) % n = k) (h : meetW (gt l k) (gt l ((k + 1) % n)) (gt l j) (gt l ((j + 1) % n)) = true) : simpleW l n = false := by
  have h3 : innW l n k j = false := by unfold innW; rw [h]; simp [h2]; omega
  have : sidW l n k = false := by unfold sidW; rw [AllB.no hj h3, Bool.and_false]
  unfold simpleW; rw [AllB.no (f := sidW l n) hk this, Bool.and_false]
theorem sid_t {l : List (Int × Int)} {n k : Nat} (hf : foldedW (gt l k) (gt l ((k + 1) % n)) (gt l ((k + 2) % n)) = false) (h : AllB (innW l n k) n = true) : sidW l n k = true := by
  unfold sidW; rw [hf, h]; rfl
theorem inn_succ {l : List (Int × Int)} {n k j : Nat} (h : AllB (innW l n k) j = true) (hm : meetW (gt l k) (gt l ((k + 1) % n)) (gt l j) (gt l ((j + 1) % n)) = false) : AllB (innW l n k) (j + 1) = true :=
  AllB.succ h (by unfold innW; rw [hm]; simp)
theorem inn_end {l : List (Int × Int)} {n k j : Nat} (h : AllB (innW l n k) j = true) (hj : j < n) (h1 : k + 2 ≤ j) (h2 : (j + 1) % n = k) : AllB (innW l n k) n = true := by
  have h3 : j + 1 = n := by
    rcases Nat.lt_or_ge (j + 1) n with h4 | h4
    · rw [Nat.mod_eq_of_lt h4] at h2; omega
    · omega
  have h5 := AllB.succ h (show innW l n k j = true by unfold innW; simp [h2])
  rw [h3] at h5; exact h5
theorem simple_t {l : List (Int × Int)} {n : Nat} (h1 : AllB (fun i => !dupW l i) n = true) (h2 : AllB (sidW l n) n = true) : simpleW l n = true := by
  unfold simpleW; rw [h1, h2]; rfl

set_option maxHeartbeats 2000000 in
theorem simple_any (b off cap n : Nat) (l : List (Int × Int)) (w : World) (hl : n ≤ 1000) (h3 : 3 ≤ n) (hcap : n ≤ cap) (hs : SpS w (some ⟨b, off, none⟩) n l) :
    Calls Tryz.prog 102 #[.slice (some ⟨b, off, none⟩) n cap] w fun e w' => e = .returned (.bool (simpleW l n)) ∧ Below w.heap.size w w' := by
  go_enter Tryz.func102, Tryz.ntmps102
  go_wp2_with fail
  go_loopw [14] (fun i wr => ∃ k : Nat, k ≤ n ∧ i = .int .i64 k ∧ Hid (AllB (fun i => !dupW l i) k = true) ∧ Below w.heap.size w wr) (fun i _ => n - (intOf i).toNat)
  case atStart => exact ⟨0, Nat.zero_le _, rfl, AllB.zero _, Below.refl _ _⟩
  case round =>
    obtain ⟨k, hk, rfl, hp, hb⟩ := hrel
    by_cases hlt : k < n
    · obtain ⟨h1, h2⟩ := (hs.keep hb).cells hlt
      have hkc : (k : Int) ≤ (cap : Int) := by omega
      go_wp2_with fail
      refine wp_region_cls w [(⟨wr.heap.size, 0, none⟩, .int .i64 (gt l k).1), (⟨wr.heap.size, 1, none⟩, .int .i64 (gt l k).2)] (by kernel_rfl) (by kernel_rfl) ⟨Bl.alloc hb _, by simp only [List.mem_cons, List.not_mem_nil, forall_eq_or_imp, or_false, forall_eq]; go_simp⟩ ?_
      repeat
        apply wq_plain
        · rfl
        · intro w1 hw1
          have hx := hw1.2
          simp only [List.mem_cons, List.not_mem_nil, forall_eq_or_imp, or_false, forall_eq] at hx
          go_simp
          first | rfl | exact calls_cls hw1 (contains_any _ _ _ (l.take k) _ _ _ (by omega) ((hs.keep hw1.1).take hk))
        go_simp
      refine wpQuiet_nil ?_
      intro w1 hCw1
      have hb2 := hCw1.1
      clear hCw1 h1 h2
      go_wp2_with fail
      · go_ret
        exact ⟨ret_bool (simple_f1 hlt (dup_of ‹_›)).symm, hb2⟩
      · go_roundw
        case rel => exact ⟨k + 1, by omega, by go_num, AllB.succ hp.out (by rw [dup_of (by simpa using ‹_›)]; rfl), hb2⟩
        case measure => simp [intOf]; omega
    · obtain rfl : n = k := by omega
      have hp0 := hp
      clear hp
      obtain ⟨wo, rfl⟩ : ∃ wo : World, wo = wr := ⟨_, rfl⟩
      go_wp2_with fail
      go_loopw [27] (fun i wr => ∃ k : Nat, k ≤ n ∧ i = .int .i64 k ∧ Hid (AllB (sidW l n) k = true) ∧ Below w.heap.size w wr) (fun i _ => n - (intOf i).toNat)
      case atStart => exact ⟨0, Nat.zero_le _, rfl, AllB.zero _, hb⟩
      case round =>
        clear hb
        obtain ⟨k, hk, rfl, hp, hb⟩ := hrel
        by_cases hlt : k < n
        · obtain ⟨h1, h2⟩ := (hs.keep hb).cells hlt
          have hm1 : (k + 1) % n < n := Nat.mod_lt _ (by omega)
          have hm2 : (k + 2) % n < n := Nat.mod_lt _ (by omega)
          obtain ⟨h3, h4⟩ := (hs.keep hb).cells hm1
          obtain ⟨h5, h6⟩ := (hs.keep hb).cells hm2
          have hbl : b < wr.heap.size := lt_of_cell h1
          have m1 := (modf ((k : Int) + 1) (k + 1) n rfl (by omega)).2
          go_wp2_with fail
          have q1 : IntKind.i64.wrap ((k : Int) + 2) = (k : Int) + 2 := wrap_add k 2 (by omega)
          have q2 := modf ((k : Int) + 2) (k + 2) n rfl (by omega)
          have q3 : ¬ n = 0 := by omega
          refine wp_region_cls w [(⟨wr.heap.size, 0, none⟩, .int .i64 (gt l k).1), (⟨wr.heap.size, 1, none⟩, .int .i64 (gt l k).2), (⟨wr.heap.size + 1, 0, none⟩, .int .i64 (gt l ((k + 1) % n)).1), (⟨wr.heap.size + 1, 1, none⟩, .int .i64 (gt l ((k + 1) % n)).2), (⟨b, off + (k + 2) % n * 2, none⟩, .int .i64 (gt l ((k + 2) % n)).1), (⟨b, off + (k + 2) % n * 2 + 1, none⟩, .int .i64 (gt l ((k + 2) % n)).2)] (by kernel_rfl) (by kernel_rfl) ⟨Bl.alloc (Bl.alloc hb _) _, by simp only [List.mem_cons, List.not_mem_nil, forall_eq_or_imp, or_false, forall_eq]; go_simp⟩ ?_
          repeat
            apply wq_plain
            · rfl
            · intro w1 hw1
              have hx := hw1.2
              simp only [List.mem_cons, List.not_mem_nil, forall_eq_or_imp, or_false, forall_eq] at hx
              go_simp
              first | rfl | exact calls_cls hw1 (folded_any _ _ _ _ _ _ _)
            go_simp
          refine wpQuiet_nil ?_
          intro w1 hCw1
          clear q1 q2 q3 h1 h2 h3 h4 h5 h6 hm2 hbl m1
          obtain ⟨B, hB⟩ : ∃ B, B = wr.heap.size := ⟨_, rfl⟩
          rw [← hB] at hCw1 ⊢
          have hC : Cls w [(⟨B, 0, none⟩, .int .i64 (gt l k).1), (⟨B, 1, none⟩, .int .i64 (gt l k).2), (⟨B + 1, 0, none⟩, .int .i64 (gt l ((k + 1) % n)).1), (⟨B + 1, 1, none⟩, .int .i64 (gt l ((k + 1) % n)).2)] w1 := ⟨hCw1.1, fun x hx => hCw1.2 x (by simp only [List.mem_cons, List.not_mem_nil, or_false] at hx ⊢; rcases hx with h | h | h | h <;> simp [h])⟩
          clear hCw1 hB hb
          go_wp2_with fail
          · go_ret
            exact ⟨ret_bool (simple_f2 hlt ‹_›).symm, hC.1⟩
          · rename_i hfold
            have hfo := Lib.hid hfold
            clear hfold
            go_loopw [9] (fun i wr => ∃ j : Nat, k + 2 ≤ j ∧ j ≤ n + 2 ∧ i = .int .i64 j ∧ Hid (AllB (innW l n k) j = true) ∧ Cls w [(⟨B, 0, none⟩, .int .i64 (gt l k).1), (⟨B, 1, none⟩, .int .i64 (gt l k).2), (⟨B + 1, 0, none⟩, .int .i64 (gt l ((k + 1) % n)).1), (⟨B + 1, 1, none⟩, .int .i64 (gt l ((k + 1) % n)).2)] wr) (fun i _ => n + 2 - (intOf i).toNat)
            case atStart => exact ⟨k + 2, by omega, by omega, by go_num, AllB.start (fun i hi => by unfold innW; simp [hi]), hC⟩
            case round =>
              clear hC
              obtain ⟨j, hj1, hj2, rfl, hq, hC⟩ := hrel
              have hx := hC.2
              simp only [List.mem_cons, List.not_mem_nil, forall_eq_or_imp, or_false, forall_eq] at hx
              by_cases hjn : j < n
              · have hm3 : (j + 1) % n < n := Nat.mod_lt _ (by omega)
                by_cases hjk : (j + 1) % n = k
                · have q1 : (((j : Int) + 1) % (n : Int) != (k : Int)) = false := by
                    rw [show ((j : Int) + 1) % (n : Int) = (((j + 1) % n : Nat) : Int) from emod1 j n, hjk]; simp
                  have HJ := Lib.hid hjk
                  clear hjk
                  go_wp2_with fail
                  exact ⟨⟨k + 1, by omega, by go_num, AllB.succ hp.out (sid_t (by simpa using hfo.out) (inn_end hq.out hjn hj1 HJ.out)), hC.1⟩, by simp [intOf]; omega⟩
                · have q1 : (((j : Int) + 1) % (n : Int) != (k : Int)) = true := by
                    rw [show ((j : Int) + 1) % (n : Int) = (((j + 1) % n : Nat) : Int) from emod1 j n, bne_iff_ne]; omega
                  have HJ := Lib.hid hjk
                  clear hjk
                  obtain ⟨h1, h2⟩ := (hs.keep hC.1).cells hjn
                  obtain ⟨h5, h6⟩ := (hs.keep hC.1).cells hm3
                  go_wp2_with fail
                  have q4 : IntKind.i64.wrap ((j : Int) + 1) = (j : Int) + 1 := wrap_add j 1 (by omega)
                  have q2 := modf ((j : Int) + 1) (j + 1) n rfl (by omega)
                  have q3 : ¬ n = 0 := by omega
                  refine wp_region_cls w [(⟨B, 0, none⟩, .int .i64 (gt l k).1), (⟨B, 1, none⟩, .int .i64 (gt l k).2), (⟨B + 1, 0, none⟩, .int .i64 (gt l ((k + 1) % n)).1), (⟨B + 1, 1, none⟩, .int .i64 (gt l ((k + 1) % n)).2), (⟨b, off + j * 2, none⟩, .int .i64 (gt l j).1), (⟨b, off + j * 2 + 1, none⟩, .int .i64 (gt l j).2), (⟨b, off + (j + 1) % n * 2, none⟩, .int .i64 (gt l ((j + 1) % n)).1), (⟨b, off + (j + 1) % n * 2 + 1, none⟩, .int .i64 (gt l ((j + 1) % n)).2)] (by kernel_rfl) (by kernel_rfl) ⟨hC.1, by simp only [List.mem_cons, List.not_mem_nil, forall_eq_or_imp, or_false, forall_eq]; go_simp⟩ ?_
                  repeat
                    apply wq_plain
                    · rfl
                    · intro w1 hw1
                      have hx := hw1.2
                      simp only [List.mem_cons, List.not_mem_nil, forall_eq_or_imp, or_false, forall_eq] at hx
                      go_simp
                      first | rfl | exact calls_cls hw1 (meet_any _ _ _ _ _ _ _ _ _)
                    go_simp
                  refine wpQuiet_nil ?_
                  intro w1 hCw1
                  clear q1 q2 q3 q4 h1 h2 h5 h6
                  have hC' : Cls w [(⟨B, 0, none⟩, .int .i64 (gt l k).1), (⟨B, 1, none⟩, .int .i64 (gt l k).2), (⟨B + 1, 0, none⟩, .int .i64 (gt l ((k + 1) % n)).1), (⟨B + 1, 1, none⟩, .int .i64 (gt l ((k + 1) % n)).2)] w1 := ⟨hCw1.1, fun x hx => hCw1.2 x (by simp only [List.mem_cons, List.not_mem_nil, or_false] at hx ⊢; rcases hx with h | h | h | h <;> simp [h])⟩
                  clear hCw1 hC hx
                  go_wp2_with fail
                  · go_ret
                    exact ⟨ret_bool (simple_f3 hlt hjn hj1 HJ.out ‹_›).symm, hC'.1⟩
                  · go_roundw
                    case rel => exact ⟨j + 1, by omega, by omega, by go_num, inn_succ hq.out (by simpa using ‹_›), hC'⟩
                    case measure => simp [intOf]; omega
              · go_wp2_with fail
                exact ⟨⟨k + 1, by omega, by go_num, AllB.succ hp.out (sid_t (by simpa using hfo.out) (AllB.mono hq.out (by omega))), hC.1⟩, by simp [intOf]; omega⟩
        · obtain rfl : n = k := by omega
          go_wp2_with fail
          go_ret
          exact ⟨ret_bool (simple_t hp0.out hp.out).symm, hb⟩

end Go.Proofs.YtjnllehnplenaaaGreat

namespace Go.Proofs.YtjnllehnplenaaaGreat
set_option linter.unusedVariables false
set_option linter.unusedSimpArgs false
open Go.RowKit

def checkW (l : List (Int × Int)) (n : Nat) : Int :=
  if n > 40 then 5 else if n < 3 then 11 else if AnyB (fun i => outB 1048576 (gt l i)) n then 3 else if simpleW l n then 0 else 11
theorem checkW_long {l : List (Int × Int)} {n : Nat} (h : 40 < n) : checkW l n = 5 := by unfold checkW; rw [if_pos (by omega)]
theorem checkW_short {l : List (Int × Int)} {n : Nat} (h : n < 3) : checkW l n = 11 := by unfold checkW; rw [if_neg (by omega), if_pos (by omega)]
theorem checkW_out {l : List (Int × Int)} {n : Nat} (h : ¬ 40 < n) (h2 : ¬ n < 3) (h3 : AnyB (fun i => outB 1048576 (gt l i)) n = true) : checkW l n = 3 := by unfold checkW; rw [if_neg (by omega), if_neg (by omega), if_pos h3]
theorem checkW_bad {l : List (Int × Int)} {n : Nat} (h : ¬ 40 < n) (h2 : ¬ n < 3) (h3 : AnyB (fun i => outB 1048576 (gt l i)) n = false) (h4 : simpleW l n = false) : checkW l n = 11 := by unfold checkW; rw [if_neg (by omega), if_neg (by omega), if_neg (by rw [h3]; simp), if_neg (by rw [h4]; simp)]
theorem checkW_ok {l : List (Int × Int)} {n : Nat} (h : ¬ 40 < n) (h2 : ¬ n < 3) (h3 : AnyB (fun i => outB 1048576 (gt l i)) n = false) (h4 : simpleW l n = true) : checkW l n = 0 := by unfold checkW; rw [if_neg (by omega), if_neg (by omega), if_neg (by rw [h3]; simp), if_pos h4]

set_option maxHeartbeats 1000000 in
theorem check_any (A : Option Addr) (cap n : Nat) (l : List (Int × Int)) (w : World) (hl : n ≤ 9223372036854775807) (hcap : n ≤ cap) (hs : SpS w A n l) :
    Calls Tryz.prog 63 #[.slice A n cap] w fun e w' => e = .returned (.int .i64 (checkW l n)) ∧ Below w.heap.size w w' := by
  by_cases h1 : 40 < n
  · go_enter Tryz.func63, Tryz.ntmps63
    go_wp2_with fail
    go_ret
    exact ⟨ret_int (checkW_long h1).symm, Below.refl _ _⟩
  by_cases h2 : n < 3
  · go_enter Tryz.func63, Tryz.ntmps63
    go_wp2_with fail
    go_ret
    exact ⟨ret_int (checkW_short h2).symm, Below.refl _ _⟩
  obtain ⟨b, off, rfl, -, -⟩ := hs.at_ (k := 0) (by omega)
  go_enter Tryz.func63, Tryz.ntmps63
  go_wp2_with (first | (go_at_call 43; refine (containsOut_any _ _ _ l _ (by omega) hs).mono ?_; rintro e w1 ⟨rfl, hb1⟩) | (go_at_call 102; refine (simple_any _ _ _ _ l _ (by omega) (by omega) hcap (hs.keep hb1)).mono ?_; rintro e w2 ⟨rfl, hb2⟩))
  · go_ret
    exact ⟨ret_int (checkW_out h1 h2 ‹_›).symm, hb1⟩
  · go_ret
    exact ⟨ret_int (checkW_bad h1 h2 ‹AnyB _ _ = false› (by simpa using ‹(!simpleW l n) = true›)).symm, Bl.call hb1 hb2⟩
  · go_ret
    exact ⟨ret_int (checkW_ok h1 h2 ‹AnyB _ _ = false› (by simpa using ‹(!simpleW l n) = false›)).symm, Bl.call hb1 hb2⟩

/-- Twice the signed area, as the program sums it, up to k. -/
def areaW (l : List (Int × Int)) (n : Nat) : Nat → Int
  | 0 => 0
  | k + 1 => wrap64 (areaW l n k + wrap64 (wrap64 ((gt l k).1 * (gt l ((k + 1) % n)).2) - wrap64 ((gt l k).2 * (gt l ((k + 1) % n)).1)))

set_option maxHeartbeats 1000000 in
theorem area_any (A : Option Addr) (cap n : Nat) (l : List (Int × Int)) (w : World) (hl : n ≤ 1000000) (hcap : n ≤ cap) (hs : SpS w A n l) :
    Calls Tryz.prog 65 #[.slice A n cap] w fun e w' => e = .returned (.int .i64 (areaW l n n)) ∧ Below w.heap.size w w' := by
  go_enter Tryz.func65, Tryz.ntmps65
  go_wp2_with fail
  go_loopw [3, 9] (fun s i wr => ∃ k : Nat, k ≤ n ∧ i = .int .i64 k ∧ s = .int .i64 (areaW l n k) ∧ Below w.heap.size w wr) (fun _ i _ => n - (intOf i).toNat)
  case atStart => exact ⟨0, Nat.zero_le _, rfl, rfl, Below.refl _ _⟩
  case round =>
    obtain ⟨k, hk, rfl, rfl, hb⟩ := hrel
    by_cases hlt : k < n
    · have hm1 : (k + 1) % n < n := Nat.mod_lt _ (by omega)
      have m1 := (modf ((k : Int) + 1) (k + 1) n rfl (by omega)).2
      obtain ⟨b, off, rfl, -, -⟩ := hs.at_ hlt
      obtain ⟨h1, h2⟩ := (hs.keep hb).cells hlt
      obtain ⟨h3, h4⟩ := (hs.keep hb).cells hm1
      have hbl : b < wr.heap.size := lt_of_cell h1
      go_wp2_with fail
      go_roundw
      case rel => exact ⟨k + 1, by omega, by go_num, rfl, Bl.alloc (Bl.alloc hb _) _⟩
      case measure => simp [intOf]; omega
    · obtain rfl : n = k := by omega
      go_wp2_with fail
      go_ret
      exact ⟨rfl, hb⟩


def bendW (l : List (Int × Int)) (n k : Nat) : Int := crossW (gt l ((k + n - 1) % n)) (gt l k) (gt l ((k + 1) % n))

set_option maxHeartbeats 1000000 in
theorem bend_any (b off cap n k : Nat) (l : List (Int × Int)) (w : World) (hl : n ≤ 1000000) (hcap : n ≤ cap) (hs : SpS w (some ⟨b, off, none⟩) n l) (hk : k < n) :
    Calls Tryz.prog 64 #[.slice (some ⟨b, off, none⟩) n cap, .int .i64 k] w fun e w' => e = .returned (.int .i64 (bendW l n k)) ∧ Below w.heap.size w w' := by
  have hm1 : (k + 1) % n < n := Nat.mod_lt _ (by omega)
  have hm2 : (k + n - 1) % n < n := Nat.mod_lt _ (by omega)
  obtain ⟨h1, h2⟩ := hs.cells hk
  obtain ⟨h3, h4⟩ := hs.cells hm1
  obtain ⟨h5, h6⟩ := hs.cells hm2
  go_enter Tryz.func64, Tryz.ntmps64
  go_wp2_with fail
  have m1 := modf ((k : Int) + 1) (k + 1) n rfl (by omega)
  have m2 := modf ((k : Int) + (n : Int) - 1) (k + n - 1) n (by omega) (by omega)
  have q1 : IntKind.i64.wrap ((k : Int) + 1) = (k : Int) + 1 := wrap_add k 1 (by omega)
  have q2 : IntKind.i64.wrap ((k : Int) + (n : Int)) = (k : Int) + (n : Int) := wrap_add k n (by omega)
  have q3 : IntKind.i64.wrap ((k : Int) + (n : Int) - 1) = (k : Int) + (n : Int) - 1 := wrap_in _ (by omega) (by omega)
  have q4 : ¬ n = 0 := by omega
  refine wp_region_cls w [(⟨b, off + k * 2, none⟩, .int .i64 (gt l k).1), (⟨b, off + k * 2 + 1, none⟩, .int .i64 (gt l k).2), (⟨b, off + (k + 1) % n * 2, none⟩, .int .i64 (gt l ((k + 1) % n)).1), (⟨b, off + (k + 1) % n * 2 + 1, none⟩, .int .i64 (gt l ((k + 1) % n)).2), (⟨b, off + (k + n - 1) % n * 2, none⟩, .int .i64 (gt l ((k + n - 1) % n)).1), (⟨b, off + (k + n - 1) % n * 2 + 1, none⟩, .int .i64 (gt l ((k + n - 1) % n)).2)] (by kernel_rfl) (by kernel_rfl) ⟨Below.refl _ _, by simp only [List.mem_cons, List.not_mem_nil, forall_eq_or_imp, or_false, forall_eq]; go_simp⟩ ?_
  repeat
    apply wq_plain
    · rfl
    · intro w1 hw1
      have hx := hw1.2
      simp only [List.mem_cons, List.not_mem_nil, forall_eq_or_imp, or_false, forall_eq] at hx
      go_simp
      first | rfl | exact calls_cls hw1 (cross_any _ _ _ _ _ _ _)
    go_simp
  refine wpQuiet_nil ?_
  intro w1 hCw1
  have hb := hCw1.1
  clear hCw1 m1 m2 q1 q2 q3
  go_wp2_with fail
  go_ret
  exact ⟨rfl, hb⟩

end Go.Proofs.YtjnllehnplenaaaGreat

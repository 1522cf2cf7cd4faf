/- garmentref30.SamePuts, garmentref31.Few, garmentlaw31.few, at, rect. The chapter's example of fill, computed by the kernel. garmentlaw31.rect, at, exampleHolds: it returns true. -/
import Derived.Test.YtmdncaoilegnnaaGreatUG28
import Derived.Test.YtmdncaoilegnnaaGreatUG30
namespace Go.Proofs.YtmdncaoilegnnaaGreat
set_option linter.unusedVariables false
set_option linter.unusedSimpArgs false
set_option linter.unusedVariables false
set_option linter.unusedSimpArgs false
open Go.RowKit

def eqP (p q : Pt5) : Bool := p.sh == q.sh && (p.fl == q.fl && p.qu == q.qu) && (p.x == q.x && p.y == q.y)
theorem eqP_iff {p q : Pt5} : eqP p q = true ↔ p = q := by
  obtain ⟨p1, p2, p3, p4, p5⟩ := p
  obtain ⟨q1, q2, q3, q4, q5⟩ := q
  unfold eqP
  simp
  constructor
  · rintro ⟨⟨h1, h2, h3⟩, h4, h5⟩; exact ⟨h1, h2, h3, h4, h5⟩
  · rintro ⟨h1, h2, h3, h4, h5⟩; exact ⟨⟨h1, h2, h3⟩, h4, h5⟩
theorem eqInSpotN (n : Nat) (a b c d : Int) (w : World) : (Op.equalIn (n + 2) 37 (.agg #[.int .i64 a, .int .i64 b]) (.agg #[.int .i64 c, .int .i64 d])).run Tryz.prog w = .ok (a == c && b == d) w := by
  have u3 := Tryz.underlying3
  have a3 := Tryz.isAgg3
  have z3 := Tryz.sizeOf3
  have hS : Tryz.prog.underlying 37 = some (.struct (Tryz.prog.fieldsOf 37)) := by kernel_rfl
  have hp : Tryz.prog.stoodInHeld 37 = false := by kernel_rfl
  rw [show n + 2 = (n + 1) + 1 from rfl, run_equalIn_agg w (n + 1) 37 _ _ hS hp]
  simp only [Program.fieldsOf, Tryz.underlying37]
  go_simp
  by_cases h1 : a = c <;> by_cases h2 : b = d <;> simp [h1, h2]
theorem eqInTurnN (n : Nat) (a c : Bool) (b d : Int) (w : World) : (Op.equalIn (n + 2) 29 (.agg #[.bool a, .int .i64 b]) (.agg #[.bool c, .int .i64 d])).run Tryz.prog w = .ok (a == c && b == d) w := by
  have u3 := Tryz.underlying3
  have a3 := Tryz.isAgg3
  have z3 := Tryz.sizeOf3
  have u4 := Tryz.underlying4
  have a4 := Tryz.isAgg4
  have z4 := Tryz.sizeOf4
  have hS : Tryz.prog.underlying 29 = some (.struct (Tryz.prog.fieldsOf 29)) := by kernel_rfl
  have hp : Tryz.prog.stoodInHeld 29 = false := by kernel_rfl
  rw [show n + 2 = (n + 1) + 1 from rfl, run_equalIn_agg w (n + 1) 29 _ _ hS hp]
  simp only [Program.fieldsOf, Tryz.underlying29]
  go_simp
  by_cases h1 : a = c <;> by_cases h2 : b = d <;> simp [h1, h2]
theorem eqInPut (p q : Pt5) (w : World) : (Op.equalIn 10000 39 (.agg #[.int .i64 p.sh, .bool p.fl, .int .i64 p.qu, .int .i64 p.x, .int .i64 p.y]) (.agg #[.int .i64 q.sh, .bool q.fl, .int .i64 q.qu, .int .i64 q.x, .int .i64 q.y])).run Tryz.prog w = .ok (eqP p q) w := by
  have u3 := Tryz.underlying3
  have a3 := Tryz.isAgg3
  have z3 := Tryz.sizeOf3
  have hS : Tryz.prog.underlying 39 = some (.struct (Tryz.prog.fieldsOf 39)) := by kernel_rfl
  have hp : Tryz.prog.stoodInHeld 39 = false := by kernel_rfl
  have e1 := fun (w : World) => eqInTurnN 9997 p.fl q.fl p.qu q.qu w
  have e2 := fun (w : World) => eqInSpotN 9997 p.x p.y q.x q.y w
  rw [show (10000 : Nat) = 9999 + 1 from rfl, run_equalIn_agg w 9999 39 _ _ hS hp]
  simp only [Program.fieldsOf, Tryz.underlying39]
  go_simp
  unfold eqP
  by_cases h1 : p.sh = q.sh <;> by_cases h2 : p.fl = q.fl <;> by_cases h3 : p.qu = q.qu <;> by_cases h4 : p.x = q.x <;> by_cases h5 : p.y = q.y <;> simp [h1, h2, h3, h4, h5]
def samePW (a b : List Pt5) : Bool := decide (a = b)
theorem pt_some {l : List Pt5} {k : Nat} (h : k < l.length) : l[k]? = some (pt l k) := by
  unfold pt; rw [List.getD, List.getElem?_eq_getElem h]; rfl
theorem samePW_no {a b : List Pt5} {k : Nat} (h : ¬ pt a k = pt b k) : samePW a b = false := by
  unfold samePW
  rw [decide_eq_false_iff_not]
  intro e; rw [e] at h; exact h rfl
theorem samePW_yes {a b : List Pt5} (hl : a.length = b.length) (h : ∀ i, i < a.length → pt a i = pt b i) : samePW a b = true := by
  unfold samePW
  rw [decide_eq_true_eq]
  apply List.ext_getElem?
  intro k
  rcases Nat.lt_or_ge k a.length with hk | hk
  · rw [pt_some hk, pt_some (by omega), h k hk]
  · rw [List.getElem?_eq_none hk, List.getElem?_eq_none (by omega)]
set_option maxHeartbeats 1000000 in
set_option maxRecDepth 100000 in
theorem samePuts_any (A B : Option Addr) (ca cb na nb : Nat) (a b : List Pt5) (w : World) (hn : na ≤ 4000000000) (hA : PuS w A na a) (hB : PuS w B nb b) :
    Calls Tryz.prog 14 #[.slice A na ca, .slice B nb cb] w fun e w' => e = .returned (.bool (samePW a b)) ∧ Below w.heap.size w w' := by
  have hla := hA.1
  have hlb := hB.1
  by_cases hne : na = nb
  · subst hne
    have q : ((na : Int) != (na : Int)) = false := by simp
    have HE := Lib.hid (show a.length = b.length by omega)
    have HLA := Lib.hid hla
    clear hla hlb
    have heqp := eqInPut
    go_enter Tryz.func14, Tryz.ntmps14
    go_wp2_with fail
    go_loopw [5] (fun i wr => ∃ k : Nat, k ≤ na ∧ i = .int .i64 k ∧ Hid (∀ i, i < k → pt a i = pt b i) ∧ Below w.heap.size w wr) (fun i _ => na - (intOf i).toNat)
    case atStart => exact ⟨0, Nat.zero_le _, rfl, Lib.hid (fun i h => absurd h (by omega)), Below.refl _ _⟩
    case round =>
      obtain ⟨k, hk, rfl, hp, hb⟩ := hrel
      by_cases hlt : k < na
      · obtain ⟨b1, o1, rfl, -, c1, c2, c3, c4, c5⟩ := (hA.keep hb).at_ hlt
        obtain ⟨b2, o2, rfl, -, d1, d2, d3, d4, d5⟩ := (hB.keep hb).at_ hlt
        obtain ⟨pa, hpa⟩ : ∃ pa, pt a k = pa := ⟨_, rfl⟩
        obtain ⟨pb, hpb⟩ : ∃ pb, pt b k = pb := ⟨_, rfl⟩
        rw [hpa] at c1 c2 c3 c4 c5
        rw [hpb] at d1 d2 d3 d4 d5
        have HPA := Lib.hid hpa
        have HPB := Lib.hid hpb
        clear hpa hpb
        go_wp2_with fail
        go_quiet (fail)
        have hb2 := Bl.drewN hb nq
        clear hb
        go_wp2_with fail
        · have hne : ¬ pa = pb := fun e => by have h : (!eqP pa pb) = true := by assumption
                                              rw [eqP_iff.2 e] at h; cases h
          go_ret
          exact ⟨ret_bool (samePW_no (a := a) (b := b) (k := k) (by rw [HPA.out, HPB.out]; exact hne)).symm, hb2⟩
        · have he : pa = pb := by
            have h : (!eqP pa pb) = false := by assumption
            exact eqP_iff.1 (by simpa using h)
          exact ⟨⟨k + 1, by omega, by go_num, Lib.hid (fun i hi => by
            rcases Nat.lt_or_ge i k with h | h
            · exact hp.out i h
            · obtain rfl : i = k := by omega
              rw [HPA.out, HPB.out, he]), hb2⟩, by simp [intOf]; omega⟩
      · obtain rfl : na = k := by omega
        go_wp2_with fail
        go_ret
        exact ⟨ret_bool (samePW_yes HE.out (by rw [HLA.out]; exact hp.out)).symm, hb⟩
  · have q : ((na : Int) != (nb : Int)) = true := by simp; omega
    have HS := Lib.hid (show samePW a b = false by unfold samePW; rw [decide_eq_false_iff_not]; intro e; rw [e] at hla; omega)
    clear hla hlb hne
    go_enter Tryz.func14, Tryz.ntmps14
    go_wp2_with fail
    go_ret
    exact ⟨ret_bool HS.out.symm, Below.refl _ _⟩
end Go.Proofs.YtmdncaoilegnnaaGreat

namespace Go.Proofs.YtmdncaoilegnnaaGreat
set_option linter.unusedVariables false
set_option linter.unusedSimpArgs false
set_option linter.unusedVariables false
set_option linter.unusedSimpArgs false
open Go.RowKit

def rc (w h : Int) : List (Int × Int) := [(0, 0), (w, 0), (w, h), (0, h)]
def exS : List Shp := [⟨rc 10 10, 1, false, (0, 0)⟩, ⟨rc 20 10, 4, false, (0, 0)⟩]
def q0 : Pt5 := ⟨0, false, 0, 0, 0⟩
def q1 : Pt5 := ⟨0, false, 0, 0, 10⟩
def q2 : Pt5 := ⟨0, false, 0, 10, 0⟩
def q3 : Pt5 := ⟨0, false, 0, 10, 10⟩
set_option maxRecDepth 100000 in
theorem exA0 : stepW ⟨30, 25, 0, 0⟩ exS [] 0 = (0, q0) := by rw [stepW_eq]; decide +kernel
set_option maxRecDepth 100000 in
theorem exA1 : stepW ⟨30, 25, 0, 0⟩ exS [q0] 0 = (0, q1) := by rw [stepW_eq]; decide +kernel
set_option maxRecDepth 100000 in
theorem exA2 : stepW ⟨30, 25, 0, 0⟩ exS [q0, q1] 0 = (0, q2) := by rw [stepW_eq]; decide +kernel
set_option maxRecDepth 100000 in
theorem exA3 : stepW ⟨30, 25, 0, 0⟩ exS [q0, q1, q2] 0 = (0, q3) := by rw [stepW_eq]; decide +kernel
set_option maxRecDepth 100000 in
theorem exB0 : stepW ⟨19, 25, 0, 0⟩ exS [] 0 = (0, q0) := by rw [stepW_eq]; decide +kernel
set_option maxRecDepth 100000 in
theorem exB1 : stepW ⟨19, 25, 0, 0⟩ exS [q0] 0 = (0, q1) := by rw [stepW_eq]; decide +kernel
set_option maxRecDepth 100000 in
theorem exB2 : stepW ⟨19, 25, 0, 0⟩ exS [q0, q1] 0 = (18, zeroP) := by rw [stepW_eq]; decide +kernel
set_option maxRecDepth 100000 in
theorem exC : candsW ⟨30, 30, 0, 0⟩ exS [] 0 false 0 = (0, [⟨0, false, 0, 0, 0⟩, ⟨0, false, 0, 0, 20⟩]) := by unfold candsW; rw [candW_eq]; decide +kernel
set_option maxRecDepth 100000 in
theorem exD1 : stepW ⟨30, 30, 0, 0⟩ exS [] 1 = (0, ⟨1, false, 1, 10, 0⟩) := by rw [stepW_eq]; decide +kernel
set_option maxRecDepth 100000 in
theorem exD2 : stepW ⟨30, 15, 0, 0⟩ exS [] 1 = (0, ⟨1, false, 0, 0, 0⟩) := by rw [stepW_eq]; decide +kernel
set_option maxRecDepth 100000 in
theorem exD3 : stepW ⟨30, 25, 0, 0⟩ exS [] 2 = (3, zeroP) := by rw [stepW_eq]; decide +kernel
theorem exRun : runW ⟨30, 25, 0, 0⟩ exS [0, 0, 0, 0] = (0, [q0, q1, q2, q3]) := by
  have g1 : runTo ⟨30, 25, 0, 0⟩ exS [0, 0, 0, 0] 1 = (0, [q0]) := by simp [runTo, gi, exA0]
  have g2 : runTo ⟨30, 25, 0, 0⟩ exS [0, 0, 0, 0] 2 = (0, [q0, q1]) := by rw [runTo, g1]; simp [gi, exA1]
  have g3 : runTo ⟨30, 25, 0, 0⟩ exS [0, 0, 0, 0] 3 = (0, [q0, q1, q2]) := by rw [runTo, g2]; simp [gi, exA2]
  have g4 : runTo ⟨30, 25, 0, 0⟩ exS [0, 0, 0, 0] 4 = (0, [q0, q1, q2, q3]) := by rw [runTo, g3]; simp [gi, exA3]
  unfold runW; rw [if_neg (by simp)]; exact g4
theorem exRunB : runW ⟨19, 25, 0, 0⟩ exS [0, 0, 0] = (18, []) := by
  have g1 : runTo ⟨19, 25, 0, 0⟩ exS [0, 0, 0] 1 = (0, [q0]) := by simp [runTo, gi, exB0]
  have g2 : runTo ⟨19, 25, 0, 0⟩ exS [0, 0, 0] 2 = (0, [q0, q1]) := by rw [runTo, g1]; simp [gi, exB1]
  have g3 : runTo ⟨19, 25, 0, 0⟩ exS [0, 0, 0] 3 = (18, []) := by rw [runTo, g2]; simp [gi, exB2]
  unfold runW; rw [if_neg (by simp)]; exact g3
end Go.Proofs.YtmdncaoilegnnaaGreat

namespace Go.Proofs.YtmdncaoilegnnaaGreat
set_option linter.unusedVariables false
set_option linter.unusedSimpArgs false
set_option linter.unusedVariables false
set_option linter.unusedSimpArgs false
open Go.RowKit

set_option maxHeartbeats 1000000 in
set_option maxRecDepth 100000 in
theorem at_any (a b c d : Int) (w : World) : Calls Tryz.prog 31 #[.int .i64 a, .int .i64 b, .int .i64 c, .int .i64 d] w fun e w' => e = .returned (putV ⟨a, false, b, c, d⟩) ∧ Below w.heap.size w w' := by
  go_enter Tryz.func31, Tryz.ntmps31
  go_wp2_with fail
  exact bodyPost_ret (v := putV ⟨a, false, b, c, d⟩) (by unfold putV; simp [results, Tryz.results31, go_sem]) rfl ⟨rfl, (Bl.alloc (Below.refl _ _) _)⟩
set_option maxHeartbeats 1000000 in
set_option maxRecDepth 100000 in
theorem rect_any (a b c : Int) (w : World) : Calls Tryz.prog 20 #[.int .i64 a, .int .i64 b, .int .i64 c] w fun e w' => ∃ A, e = .returned (.agg #[.slice A 4 4, .int .i64 c, .bool false, .int .i64 0, .int .i64 0]) ∧ SpS w' A 4 (rc a b) ∧ A ≠ none ∧ Below w.heap.size w w' := by
  go_enter Tryz.func20, Tryz.ntmps20
  go_wp2_with fail
  have hsp := sps4 (a := (0, 0)) (b := (a, 0)) (c := (a, b)) (d := (0, b)) (BlkS.new2 w (.cells #[.slice (some ⟨w.heap.size + 1, 0, none⟩) 4 4, .int .i64 c, .bool false, .int .i64 0, .int .i64 0] 49) 37 #[.int .i64 0, .int .i64 0, .int .i64 a, .int .i64 0, .int .i64 a, .int .i64 b, .int .i64 0, .int .i64 b])
  exact bodyPost_ret (v := .agg #[.slice (some ⟨w.heap.size + 1, 0, none⟩) 4 4, .int .i64 c, .bool false, .int .i64 0, .int .i64 0]) (by simp [results, Tryz.results20, go_sem]) rfl ⟨_, rfl, hsp, by simp, (Bl.alloc (Bl.alloc (Below.refl _ _) _) _)⟩
theorem puS_blk {w : World} {g : Nat} {t : TypeId} (l : List Pt5) (h : BlkS w g t (l.flatMap enP).toArray) : PuS w (some ⟨g, 0, none⟩) l.length l := by
  refine ⟨rfl, .inr ⟨g, 0, rfl, fun k hk => ?_⟩⟩
  have hk2 := pt_some hk
  have e : ∀ i, i < 5 → w.cell? ⟨g, k * 5 + i, none⟩ = (enP (pt l k))[i]? := fun i hi => by
    rw [h.cell (k * 5 + i), List.getElem?_toArray]; exact flat_at enP_len l k i _ hk2 hi
  have e0 := e 0 (by omega)
  rw [Nat.add_zero] at e0
  rw [Nat.zero_add]
  exact ⟨e0, e 1 (by omega), e 2 (by omega), e 3 (by omega), e 4 (by omega)⟩
def ExOK : Prop := ∀ w : World, Calls Tryz.prog 11 #[] w fun e w' => e = .returned (.bool true) ∧ Below w.heap.size w w'
theorem ins4 (w : World) (t : TypeId) (a b c d : Int) : InS (w.alloc (.cells #[.int .i64 a, .int .i64 b, .int .i64 c, .int .i64 d] t)) (some ⟨w.heap.size, 0, none⟩) 4 [a, b, c, d] := by
  have h := BlkS.new w t #[.int .i64 a, .int .i64 b, .int .i64 c, .int .i64 d]
  refine ⟨rfl, .inr ⟨_, 0, rfl, fun k hk => ?_⟩⟩
  have : k = 0 ∨ k = 1 ∨ k = 2 ∨ k = 3 := by omega
  rcases this with rfl | rfl | rfl | rfl <;> exact blk_cell h _ _ rfl
theorem exMem {w2 : World} {A1 A2 : Option Addr} (h1 : SpS w2 A1 4 (rc 10 10)) (h2 : SpS w2 A2 4 (rc 20 10)) (n1 : A1 ≠ none) (n2 : A2 ≠ none) :
    ShS (w2.alloc (.cells #[.slice A1 4 4, .int .i64 1, .bool false, .int .i64 0, .int .i64 0, .slice A2 4 4, .int .i64 4, .bool false, .int .i64 0, .int .i64 0] 49)) (some ⟨w2.heap.size, 0, none⟩) 2 exS := by
  have hB := BlkS.new w2 49 #[.slice A1 4 4, .int .i64 1, .bool false, .int .i64 0, .int .i64 0, .slice A2 4 4, .int .i64 4, .bool false, .int .i64 0, .int .i64 0]
  have b3 := Bl.alloc (Below.refl w2.heap.size w2) (.cells #[.slice A1 4 4, .int .i64 1, .bool false, .int .i64 0, .int .i64 0, .slice A2 4 4, .int .i64 4, .bool false, .int .i64 0, .int .i64 0] 49)
  have p1 := h1.keep b3
  have p2 := h2.keep b3
  refine ⟨rfl, by omega, .inr ⟨_, 0, rfl, fun k hk => ?_⟩⟩
  have : k = 0 ∨ k = 1 := by omega
  rcases this with rfl | rfl
  · exact shAt_blk (s := ⟨rc 10 10, 1, false, (0, 0)⟩) hB p1 (by decide) (by decide) (fun h => absurd h n1) rfl rfl rfl rfl rfl
  · exact shAt_blk (s := ⟨rc 20 10, 4, false, (0, 0)⟩) hB p2 (by decide) (by decide) (fun h => absurd h n2) rfl rfl rfl rfl rfl
theorem pus4 (w : World) : PuS (w.alloc (.cells #[.int .i64 0, .bool false, .int .i64 0, .int .i64 0, .int .i64 0, .int .i64 0, .bool false, .int .i64 0, .int .i64 0, .int .i64 10, .int .i64 0, .bool false, .int .i64 0, .int .i64 10, .int .i64 0, .int .i64 0, .bool false, .int .i64 0, .int .i64 10, .int .i64 10] 39)) (some ⟨w.heap.size, 0, none⟩) 4 [q0, q1, q2, q3] := puS_blk [q0, q1, q2, q3] (BlkS.new w 39 #[.int .i64 0, .bool false, .int .i64 0, .int .i64 0, .int .i64 0, .int .i64 0, .bool false, .int .i64 0, .int .i64 0, .int .i64 10, .int .i64 0, .bool false, .int .i64 0, .int .i64 10, .int .i64 0, .int .i64 0, .bool false, .int .i64 0, .int .i64 10, .int .i64 10])
theorem pus2 (w : World) : PuS (w.alloc (.cells #[.int .i64 0, .bool false, .int .i64 0, .int .i64 0, .int .i64 0, .int .i64 0, .bool false, .int .i64 0, .int .i64 0, .int .i64 20] 39)) (some ⟨w.heap.size, 0, none⟩) 2 [⟨0, false, 0, 0, 0⟩, ⟨0, false, 0, 0, 20⟩] := puS_blk [⟨0, false, 0, 0, 0⟩, ⟨0, false, 0, 0, 20⟩] (BlkS.new w 39 #[.int .i64 0, .bool false, .int .i64 0, .int .i64 0, .int .i64 0, .int .i64 0, .bool false, .int .i64 0, .int .i64 0, .int .i64 20])
theorem eqP1 (w : World) : (Op.equalIn 10000 39 (.agg #[.int .i64 1, .bool false, .int .i64 1, .int .i64 10, .int .i64 0]) (.agg #[.int .i64 1, .bool false, .int .i64 1, .int .i64 10, .int .i64 0])).run Tryz.prog w = .ok true w := eqInPut ⟨1, false, 1, 10, 0⟩ ⟨1, false, 1, 10, 0⟩ w
theorem eqP2 (w : World) : (Op.equalIn 10000 39 (.agg #[.int .i64 1, .bool false, .int .i64 0, .int .i64 0, .int .i64 0]) (.agg #[.int .i64 1, .bool false, .int .i64 0, .int .i64 0, .int .i64 0])).run Tryz.prog w = .ok true w := eqInPut ⟨1, false, 0, 0, 0⟩ ⟨1, false, 0, 0, 0⟩ w
def bedX : Array Value := #[.int .i64 30, .int .i64 25, .int .i64 0, .int .i64 0]
set_option maxHeartbeats 4000000 in
set_option maxRecDepth 100000 in
theorem ex_any : ExOK := by
  intro w
  go_enter Tryz.func11, Tryz.ntmps11
  go_upto_region 3 with (first | (go_at_call 20; refine (rect_any 20 10 4 w1).mono ?_; rintro e w2 ⟨A2, rfl, hp2, hn2, hb2⟩) | (go_at_call 20; refine (rect_any 10 10 1 w).mono ?_; rintro e w1 ⟨A1, rfl, hp1, hn1, hb1⟩))
  have hS := exMem (hp1.keep hb2) hp2 hn1 hn2
  have hbw := Bl.alloc (Bl.alloc (Bl.call hb1 hb2) (.cells #[.slice A1 4 4, .int .i64 1, .bool false, .int .i64 0, .int .i64 0, .slice A2 4 4, .int .i64 4, .bool false, .int .i64 0, .int .i64 0] 49)) (.cells bedX 25)
  have hS2 := hS.keep (Bl.alloc (Below.refl _ _) (.cells bedX 25))
  have hB := BlkS.new2 w2 (.cells #[.slice A1 4 4, .int .i64 1, .bool false, .int .i64 0, .int .i64 0, .slice A2 4 4, .int .i64 4, .bool false, .int .i64 0, .int .i64 0] 49) 25 bedX
  unfold bedX at hbw hS2 hB
  refine wp_world (fun X => Below w.heap.size w X ∧ ShS X (some ⟨w2.heap.size, 0, none⟩) 2 exS ∧ BlkS X (w2.heap.size + 1) 25 #[.int .i64 30, .int .i64 25, .int .i64 0, .int .i64 0]) ⟨hbw, hS2, hB⟩ ?_
  clear hbw hS2 hB hS hp1 hp2 hn1 hn2 hb1 hb2
  rintro X ⟨hX, hS, hB⟩
  obtain ⟨d1, d2, d3, d4, d5⟩ := hB.cells4
  have HB := Lib.hid hB
  clear hB
  go_upto_region 4 with (go_at_call 18; refine (run_any _ _ _ _ _ _ ⟨30, 25, 0, 0⟩ exS [0, 0, 0, 0] (X.alloc (.cells #[.int .i64 0, .int .i64 0, .int .i64 0, .int .i64 0] 3)) (by omega) (hS.keep (Bl.alloc (Below.refl _ _) _)) (ins4 _ _ _ _ _ _)).mono ?_; rintro e w3 ⟨v3, rfl, ho3, hb3⟩; rw [exRun] at ho3 ⊢)
  have hX3 := Bl.call (Bl.alloc hX (.cells #[.int .i64 0, .int .i64 0, .int .i64 0, .int .i64 0] 3)) hb3
  have hbX3 := Bl.call (Bl.alloc (Below.refl _ X) (.cells #[.int .i64 0, .int .i64 0, .int .i64 0, .int .i64 0] 3)) hb3
  have hS3 := hS.keep hbX3
  have HB3 := Lib.hid (HB.out.keep hbX3)
  obtain ⟨A3, c3, rfl, hP3⟩ := OwP.pus ho3
  have hP3' : PuS w3 A3 4 [q0, q1, q2, q3] := hP3
  have l4 : ([q0, q1, q2, q3] : List Pt5).length = 4 := rfl
  rw [l4]
  clear l4 hP3 ho3 hb3 hX hbX3 hS HB d1 d2 d3 d4 d5
  go_upto_region 5 with (go_at_call 12; refine (cands_any (some ⟨w2.heap.size, 0, none⟩) none 2 0 2 0 ⟨30, 30, 0, 0⟩ exS [] 0 false 0 w3 (by omega) hS3 ⟨rfl, .inl rfl⟩).mono ?_; rintro e w4 ⟨v4, rfl, ho4, hb4⟩; rw [exC] at ho4 ⊢)
  obtain ⟨A4, c4, rfl, hP4⟩ := OwP.pus ho4
  have hP4' : PuS w4 A4 2 [⟨0, false, 0, 0, 0⟩, ⟨0, false, 0, 0, 20⟩] := hP4
  have l2 : ([⟨0, false, 0, 0, 0⟩, ⟨0, false, 0, 0, 20⟩] : List Pt5).length = 2 := rfl
  rw [l2]
  have hX4 := Bl.call hX3 hb4
  have hS4 := hS3.keep hb4
  have HB4 := Lib.hid (HB3.out.keep hb4)
  have hP3b := hP3'.keep hb4
  clear l2 hP4 ho4 hb4 hX3 hS3 HB3 hP3'
  go_upto_region 6 with (go_at_call 15; refine (step_any (some ⟨w2.heap.size, 0, none⟩) none 2 0 2 0 ⟨30, 30, 0, 0⟩ exS [] 1 w4 (by omega) hS4 ⟨rfl, .inl rfl⟩).mono ?_; rintro e w5 ⟨rfl, hb5⟩; rw [exD1]; unfold putV; dsimp only)
  have hB5 := BlkS.new w5 39 #[.int .i64 1, .bool false, .int .i64 1, .int .i64 10, .int .i64 0]
  have hbY5 := Bl.call (Below.refl _ w4) (Bl.alloc hb5 (.cells #[.int .i64 1, .bool false, .int .i64 1, .int .i64 10, .int .i64 0] 39))
  refine wp_world (fun Y => Below w4.heap.size w4 Y ∧ BlkS Y w5.heap.size 39 #[.int .i64 1, .bool false, .int .i64 1, .int .i64 10, .int .i64 0]) ⟨hbY5, hB5⟩ ?_
  clear hB5 hbY5
  rintro Y5 ⟨hbY5, hB5⟩
  have hX5 := Bl.call hX4 hbY5
  have hS5 := hS4.keep hbY5
  have HB5 := Lib.hid (HB4.out.keep hbY5)
  have hP3c := hP3b.keep hbY5
  have hP4c := hP4'.keep hbY5
  have HP7 := Lib.hid hB5
  clear hB5 hbY5 hb5 hX4 hS4 HB4 hP3b hP4'
  go_upto_region 7 with (go_at_call 15; refine (step_any (some ⟨w2.heap.size, 0, none⟩) none 2 0 2 0 ⟨30, 15, 0, 0⟩ exS [] 1 Y5 (by omega) hS5 ⟨rfl, .inl rfl⟩).mono ?_; rintro e w6 ⟨rfl, hb6⟩; rw [exD2]; unfold putV; dsimp only)
  have hB6 := BlkS.new w6 39 #[.int .i64 1, .bool false, .int .i64 0, .int .i64 0, .int .i64 0]
  have hbY6 := Bl.call (Below.refl _ Y5) (Bl.alloc hb6 (.cells #[.int .i64 1, .bool false, .int .i64 0, .int .i64 0, .int .i64 0] 39))
  refine wp_world (fun Y => Below Y5.heap.size Y5 Y ∧ BlkS Y w6.heap.size 39 #[.int .i64 1, .bool false, .int .i64 0, .int .i64 0, .int .i64 0]) ⟨hbY6, hB6⟩ ?_
  clear hB6 hbY6
  rintro Y6 ⟨hbY6, hB6⟩
  have hX6 := Bl.call hX5 hbY6
  have hS6 := hS5.keep hbY6
  have HB6 := Lib.hid (HB5.out.keep hbY6)
  have hP3d := hP3c.keep hbY6
  have hP4d := hP4c.keep hbY6
  have HP7b := Lib.hid (HP7.out.keep hbY6)
  have HP9 := Lib.hid hB6
  clear hB6 hbY6 hb6 hX5 hS5 HB5 hP3c hP4c HP7
  go_upto_region 8 with (go_at_call 18; refine (run_any (some ⟨w2.heap.size, 0, none⟩) (some ⟨Y6.heap.size, 0, none⟩) 2 3 2 3 ⟨19, 25, 0, 0⟩ exS [0, 0, 0] (Y6.alloc (.cells #[.int .i64 0, .int .i64 0, .int .i64 0] 3)) (by omega) (hS6.keep (Bl.alloc (Below.refl _ _) _)) (rd3 _ _ _ _ _)).mono ?_; rintro e w7 ⟨v7, rfl, -, hb7⟩; rw [exRunB])
  have hb7' := Bl.call (Bl.alloc (Below.refl _ Y6) (.cells #[.int .i64 0, .int .i64 0, .int .i64 0] 3)) hb7
  have hX7 := Bl.call hX6 hb7'
  have hS7 := hS6.keep hb7'
  have hP3e := hP3d.keep hb7'
  have hP4e := hP4d.keep hb7'
  have HP7c := Lib.hid (HP7b.out.keep hb7')
  have HP9b := Lib.hid (HP9.out.keep hb7')
  obtain ⟨d1, d2, d3, d4, d5⟩ := (HB6.out.keep hb7').cells4
  clear hb7 hb7' hX6 hS6 HB6 hP3d hP4d HP7b HP9
  go_upto_region 9 with (go_at_call 15; refine (step_any (some ⟨w2.heap.size, 0, none⟩) none 2 0 2 0 ⟨30, 25, 0, 0⟩ exS [] 2 w7 (by omega) hS7 ⟨rfl, .inl rfl⟩).mono ?_; rintro e w8 ⟨rfl, hb8⟩; rw [exD3]; unfold putV zeroP; dsimp only)
  have hbY8 := Bl.call (Below.refl _ w7) (Bl.alloc hb8 (.cells #[.int .i64 0, .bool false, .int .i64 0, .int .i64 0, .int .i64 0] 39))
  refine wp_world (fun Y => Below w7.heap.size w7 Y) hbY8 ?_
  clear hbY8
  intro Y8 hbY8
  have hX8 := Bl.call hX7 hbY8
  have hP3f := hP3e.keep hbY8
  have hP4f := hP4e.keep hbY8
  have HP7d := Lib.hid (HP7c.out.keep hbY8)
  have HP9c := Lib.hid (HP9b.out.keep hbY8)
  clear hbY8 hb8 hX7 hS7 hP3e hP4e HP7c HP9b d1 d2 d3 d4 d5
  have heq1 := eqP1
  have heq2 := eqP2
  have s1 := Lib.hid (show samePW [q0, q1, q2, q3] [q0, q1, q2, q3] = true by decide)
  have s2 := Lib.hid (show samePW [⟨0, false, 0, 0, 0⟩, ⟨0, false, 0, 0, 20⟩] [⟨0, false, 0, 0, 0⟩, ⟨0, false, 0, 0, 20⟩] = true by decide)
  obtain ⟨e1, e2, e3, e4, e5, -⟩ := HP7d.out.cells5
  obtain ⟨f1, f2, f3, f4, f5, -⟩ := HP9c.out.cells5
  go_upto_region 11 with fail
  go_cut [0] (fun v0 wx => v0 = .bool true ∧ Below w.heap.size w wx)
  case first =>
    have hbX := Bl.drew (Below.refl Y8.heap.size Y8)
    go_region_held3 (fun w' => w'.cell? ⟨w5.heap.size, 0, none⟩ = some (.int .i64 1) ∧ w'.cell? ⟨w5.heap.size, 1, none⟩ = some (.bool false) ∧ w'.cell? ⟨w5.heap.size, 2, none⟩ = some (.int .i64 1) ∧ w'.cell? ⟨w5.heap.size, 3, none⟩ = some (.int .i64 10) ∧ w'.cell? ⟨w5.heap.size, 4, none⟩ = some (.int .i64 0) ∧ w'.cell? ⟨w6.heap.size, 0, none⟩ = some (.int .i64 1) ∧ w'.cell? ⟨w6.heap.size, 1, none⟩ = some (.bool false) ∧ w'.cell? ⟨w6.heap.size, 2, none⟩ = some (.int .i64 0) ∧ w'.cell? ⟨w6.heap.size, 3, none⟩ = some (.int .i64 0) ∧ w'.cell? ⟨w6.heap.size, 4, none⟩ = some (.int .i64 0))
      (first
        | exact ⟨cell_keep hbX e1, cell_keep hbX e2, cell_keep hbX e3, cell_keep hbX e4, cell_keep hbX e5, cell_keep hbX f1, cell_keep hbX f2, cell_keep hbX f3, cell_keep hbX f4, cell_keep hbX f5⟩
        | exact ⟨cell_keep (Bl.alloc hbX _) e1, cell_keep (Bl.alloc hbX _) e2, cell_keep (Bl.alloc hbX _) e3, cell_keep (Bl.alloc hbX _) e4, cell_keep (Bl.alloc hbX _) e5, cell_keep (Bl.alloc hbX _) f1, cell_keep (Bl.alloc hbX _) f2, cell_keep (Bl.alloc hbX _) f3, cell_keep (Bl.alloc hbX _) f4, cell_keep (Bl.alloc hbX _) f5⟩
        | go_keep)
      ((first
        | (go_at_call 31; refine (at_any _ _ _ _ _).mono ?_; rintro e wn ⟨rfl, hbn⟩; unfold putV; dsimp only; first | replace hbX := Bl.call hbX hbn | replace hbX := Bl.call (Bl.alloc hbX _) hbn)
        | (go_at_call 14; have hd2 := hd1; refine (samePuts_any A4 _ _ _ 2 2 _ _ _ (by omega) (hP4f.keep (Bl.alloc hbX _)) (pus2 _)).mono ?_; rintro e wn ⟨rfl, hbn⟩; rw [s2.out]; replace hbX := Bl.call (Bl.alloc hbX _) hbn)
        | (go_at_call 14; refine (samePuts_any A3 _ _ _ 4 4 _ _ _ (by omega) (hP3f.keep (Bl.alloc hbX _)) (pus4 _)).mono ?_; rintro e wn ⟨rfl, hbn⟩; rw [s1.out]; replace hbX := Bl.call (Bl.alloc hbX _) hbn; have hd1 := trivial)))
    all_goals go_wp2_with fail
    all_goals go_meet
    all_goals exact ⟨rfl, Bl.call hX8 hbX⟩
  case rest =>
    obtain ⟨rfl, hb⟩ := hcut
    go_wp2_with fail
    go_ret
    exact ⟨rfl, hb⟩
end Go.Proofs.YtmdncaoilegnnaaGreat

/- Contract of polygon.Box. -/
import Derived.Test.YtnggempmdhmoeaaG03
import Derived.Deep.DeepCutAuto
namespace Go.Proofs.Ytnggempmdhmoeaa
set_option linter.unusedVariables false
set_option linter.unusedSimpArgs false
open Go.RowKit

def loX (l : List (Int × Int)) : Nat → Int | 0 => (gt l 0).1 | k + 1 => if (gt l k).1 < loX l k then (gt l k).1 else loX l k
def loY (l : List (Int × Int)) : Nat → Int | 0 => (gt l 0).2 | k + 1 => if (gt l k).2 < loY l k then (gt l k).2 else loY l k
def hiX (l : List (Int × Int)) : Nat → Int | 0 => (gt l 0).1 | k + 1 => if hiX l k < (gt l k).1 then (gt l k).1 else hiX l k
def hiY (l : List (Int × Int)) : Nat → Int | 0 => (gt l 0).2 | k + 1 => if hiY l k < (gt l k).2 then (gt l k).2 else hiY l k

def BlkS (w : World) (g : Nat) (t : TypeId) (cs : Array Value) : Prop := w.heap[g]? = some (.cells cs t (0, 0))
theorem BlkS.cell {w : World} {g : Nat} {t : TypeId} {cs : Array Value} (h : BlkS w g t cs) (i : Nat) : w.cell? ⟨g, i, none⟩ = cs[i]? := cell_of_row w g i cs t (0, 0) h
theorem BlkS.frozen {w : World} {g : Nat} {t : TypeId} {cs : Array Value} (h : BlkS w g t cs) (i : Nat) : w.frozen? ⟨g, i, none⟩ = false := by
  unfold BlkS at h; simp [World.frozen?, h]

theorem BlkS.lt {w : World} {g : Nat} {t : TypeId} {cs : Array Value} (h : BlkS w g t cs) : g < w.heap.size := by
  rcases Nat.lt_or_ge g w.heap.size with hlt | hge
  · exact hlt
  · unfold BlkS at h; rw [Array.getElem?_eq_none hge] at h; cases h
theorem BlkS.alloc {w : World} {g : Nat} {t : TypeId} {cs : Array Value} (h : BlkS w g t cs) (o : Obj) : BlkS (w.alloc o) g t cs := (Below.heap_alloc w o g h.lt).trans h
theorem BlkS.new (w : World) (t : TypeId) (cs : Array Value) : BlkS (w.alloc (.cells cs t)) w.heap.size t cs := heap_alloc_new w _
theorem BlkS.new2 (w : World) (o : Obj) (t : TypeId) (cs : Array Value) : BlkS ((w.alloc o).alloc (.cells cs t)) (w.heap.size + 1) t cs := by
  have h := BlkS.new (w.alloc o) t cs
  simpa using h
theorem BlkS.drew {w : World} {g : Nat} {t : TypeId} {cs : Array Value} (h : BlkS w g t cs) : BlkS w.drew g t cs := h
theorem BlkS.drewN {w : World} {g : Nat} {t : TypeId} {cs : Array Value} (h : BlkS w g t cs) (n : Nat) : BlkS (w.drewN n) g t cs := h
theorem BlkS.set_ {w : World} {g : Nat} {t : TypeId} {cs : Array Value} (h : BlkS w g t cs) (i : Nat) (u : Value) : BlkS (w.setCell ⟨g, i, none⟩ u) g t (cs.setIfInBounds i u) := by
  unfold BlkS at h ⊢
  simp [World.setCell, Array.getElem?_modify, h]
theorem BlkS.far {w : World} {g : Nat} {t : TypeId} {cs : Array Value} (h : BlkS w g t cs) {p : Addr} (hp : g ≠ p.block) (u : Value) : BlkS (w.setCell p u) g t cs := (Below.heap_setCell w p u g hp).trans h
theorem BlkS.keep {w w' : World} {g : Nat} {t : TypeId} {cs : Array Value} (h : BlkS w g t cs) (hb : Below w.heap.size w w') : BlkS w' g t cs := (hb.block g h.lt).trans h

set_option maxHeartbeats 1000000 in
theorem box_ok (b off cap n : Nat) (l : List (Int × Int)) (w : World) (hl : n ≤ 1000000) (hcap : n ≤ cap) (hs : SpS w (some ⟨b, off, none⟩) n l) (hc : checkW l n = 0) (h0 : 0 < n) :
    Calls Try.prog 15 #[.slice (some ⟨b, off, none⟩) n cap] w fun e w' => e = .returned (.tuple #[.agg #[.int .i64 (loX l n), .int .i64 (loY l n), .int .i64 (wrap64 (hiX l n - loX l n)), .int .i64 (wrap64 (hiY l n - loY l n))], .int .i64 0]) ∧ Below w.heap.size w w' := by
  have HC := Lib.hid hc
  have q : (checkW l n != 0) = false := by rw [hc]; rfl
  clear hc
  obtain ⟨g1, g2⟩ := hs.cells h0
  simp only [Nat.zero_mul, Nat.add_zero] at g1 g2
  go_enter Try.func15, Try.ntmps15
  go_upto_region 4 with (go_at_call 11; refine (check_any _ _ _ l _ (by omega) hcap (hs.keep (Bl.alloc (Below.refl _ _) _))).mono ?_; rintro e w1 ⟨rfl, hb1⟩)
  have hb2 := Bl.call (Bl.alloc (Below.refl _ _) _) hb1
  have hc1 := cell_keep hb2 g1
  have hc2 := cell_keep hb2 g2
  have hbl : b < w1.heap.size := lt_of_cell hc1
  have hr : BlkS w1 w.heap.size 38 #[.int .i64 0, .int .i64 0, .int .i64 0, .int .i64 0] := (BlkS.new w _ _).keep hb1
  have hw1 : w.heap.size < w1.heap.size := hr.lt
  clear g1 g2 hb1
  go_cut [5, 6] (fun s5 s6 wx => ∃ b5 b6 : Nat, s5 = .pointer (some ⟨b5, 0, none⟩) ∧ s6 = .pointer (some ⟨b6, 0, none⟩) ∧ b5 ≠ b6 ∧ w.heap.size < b5 ∧ w.heap.size < b6 ∧ BlkS wx b5 24 #[.int .i64 (gt l 0).1, .int .i64 (gt l 0).2] ∧ BlkS wx b6 24 #[.int .i64 (gt l 0).1, .int .i64 (gt l 0).2] ∧ BlkS wx w.heap.size 38 #[.int .i64 0, .int .i64 0, .int .i64 0, .int .i64 0] ∧ Below w.heap.size w wx)
  case first =>
    go_region
    all_goals go_wp2_with fail
    all_goals go_meet
    · exact ⟨w1.heap.size, w1.heap.size + 1, rfl, rfl, by omega, hw1, by omega, ((BlkS.new _ _ _).alloc _).drew, (BlkS.new2 _ _ _ _).drew, ((hr.alloc _).alloc _).drew, Bl.drew (Bl.alloc (Bl.alloc hb2 _) _)⟩
    · exact ⟨w1.heap.size + 1, w1.heap.size, rfl, rfl, by omega, by omega, hw1, (BlkS.new2 _ _ _ _).drew, ((BlkS.new _ _ _).alloc _).drew, ((hr.alloc _).alloc _).drew, Bl.drew (Bl.alloc (Bl.alloc hb2 _) _)⟩
  case rest =>
    clear hc1 hc2 hbl hr hw1 hb2
    obtain ⟨b5, b6, rfl, rfl, hne, hg5, hg6, hB5, hB6, hR, hb⟩ := hcut
    go_wp2_with fail
    go_loopw [23] (fun i wr => ∃ k : Nat, k ≤ n ∧ i = .int .i64 k ∧ BlkS wr b5 24 #[.int .i64 (loX l k), .int .i64 (loY l k)] ∧ BlkS wr b6 24 #[.int .i64 (hiX l k), .int .i64 (hiY l k)] ∧ BlkS wr w.heap.size 38 #[.int .i64 0, .int .i64 0, .int .i64 0, .int .i64 0] ∧ Below w.heap.size w wr) (fun i _ => n - (intOf i).toNat)
    case atStart => exact ⟨0, Nat.zero_le _, rfl, hB5, hB6, hR, hb⟩
    case round =>
      clear hB5 hB6 hR hb
      obtain ⟨k, hk, rfl, hB5, hB6, hR, hb⟩ := hrel
      have c50 := hB5.cell 0
      have c51 := hB5.cell 1
      have c60 := hB6.cell 0
      have c61 := hB6.cell 1
      have f50 := hB5.frozen 0
      have f51 := hB5.frozen 1
      have f60 := hB6.frozen 0
      have f61 := hB6.frozen 1
      have l5 := hB5.lt
      have l6 := hB6.lt
      simp only [List.getElem?_toArray, List.getElem?_cons_zero, List.getElem?_cons_succ] at c50 c51 c60 c61
      by_cases hlt : k < n
      · obtain ⟨h1, h2⟩ := (hs.keep hb).cells hlt
        have hbl : b < wr.heap.size := lt_of_cell h1
        go_wp2_with fail
        exact ⟨⟨k + 1, by omega, by go_num, ((((hB5.set_ 0 _).set_ 1 _).far (p := ⟨b6, 0, none⟩) hne _).far (p := ⟨b6, 1, none⟩) hne _).alloc _, ((((hB6.far (p := ⟨b5, 0, none⟩) hne.symm _).far (p := ⟨b5, 1, none⟩) hne.symm _).set_ 0 _).set_ 1 _).alloc _, ((((hR.far (p := ⟨b5, 0, none⟩) (Nat.ne_of_lt hg5) _).far (p := ⟨b5, 1, none⟩) (Nat.ne_of_lt hg5) _).far (p := ⟨b6, 0, none⟩) (Nat.ne_of_lt hg6) _).far (p := ⟨b6, 1, none⟩) (Nat.ne_of_lt hg6) _).alloc _, Bl.alloc (Bl.set (Bl.set (Bl.set (Bl.set hb (p := ⟨b5, 0, none⟩) (Nat.le_of_lt hg5) _) (p := ⟨b5, 1, none⟩) (Nat.le_of_lt hg5) _) (p := ⟨b6, 0, none⟩) (Nat.le_of_lt hg6) _) (p := ⟨b6, 1, none⟩) (Nat.le_of_lt hg6) _) _⟩, by simp [intOf]; omega⟩
      · obtain rfl : n = k := by omega
        have cR0 := hR.cell 0
        have cR1 := hR.cell 1
        have cR2 := hR.cell 2
        have cR3 := hR.cell 3
        have fR0 := hR.frozen 0
        have fR1 := hR.frozen 1
        have fR2 := hR.frozen 2
        have fR3 := hR.frozen 3
        simp only [List.getElem?_toArray, List.getElem?_cons_zero, List.getElem?_cons_succ] at cR0 cR1 cR2 cR3
        go_wp2_with fail
        exact bodyPost_ret (v := .tuple #[.agg #[.int .i64 (loX l n), .int .i64 (loY l n), .int .i64 (wrap64 (hiX l n - loX l n)), .int .i64 (wrap64 (hiY l n - loY l n))], .int .i64 0]) (by simp [results, Try.results15, go_sem, cR0, cR1, cR2, cR3]) rfl ⟨rfl, Bl.set (Bl.set (Bl.set (Bl.set hb (p := ⟨w.heap.size, 0, none⟩) (Nat.le_refl _) _) (p := ⟨w.heap.size, 1, none⟩) (Nat.le_refl _) _) (p := ⟨w.heap.size, 2, none⟩) (Nat.le_refl _) _) (p := ⟨w.heap.size, 3, none⟩) (Nat.le_refl _) _⟩

set_option maxHeartbeats 1000000 in
theorem box_bad (A : Option Addr) (cap n : Nat) (l : List (Int × Int)) (w : World) (hl : n ≤ 9223372036854775807) (hcap : n ≤ cap) (hs : SpS w A n l) (hc : ¬ checkW l n = 0) :
    Calls Try.prog 15 #[.slice A n cap] w fun e w' => e = .returned (.tuple #[.agg #[.int .i64 0, .int .i64 0, .int .i64 0, .int .i64 0], .int .i64 (checkW l n)]) ∧ Below w.heap.size w w' := by
  have q : (checkW l n != 0) = true := by rw [bne_iff_ne]; exact hc
  clear hc
  go_enter Try.func15, Try.ntmps15
  go_wp2_with (go_at_call 11; refine (check_any _ _ _ l _ hl hcap (hs.keep (Bl.alloc (Below.refl _ _) _))).mono ?_; rintro e w1 ⟨rfl, hb1⟩; have hr : BlkS w1 w.heap.size 38 #[.int .i64 0, .int .i64 0, .int .i64 0, .int .i64 0] := (BlkS.new w _ _).keep hb1; have cR0 := hr.cell 0; have cR1 := hr.cell 1; have cR2 := hr.cell 2; have cR3 := hr.cell 3; have fR0 := hr.frozen 0; have fR1 := hr.frozen 1; have fR2 := hr.frozen 2; have fR3 := hr.frozen 3; simp only [List.getElem?_toArray, List.getElem?_cons_zero, List.getElem?_cons_succ] at cR0 cR1 cR2 cR3)
  exact bodyPost_ret (v := .tuple #[.agg #[.int .i64 0, .int .i64 0, .int .i64 0, .int .i64 0], .int .i64 (checkW l n)]) (by simp [results, Try.results15, go_sem, cR0, cR1, cR2, cR3]) rfl ⟨rfl, Bl.set (Bl.set (Bl.set (Bl.set (Bl.call (Bl.alloc (Below.refl _ _) _) hb1) (p := ⟨w.heap.size, 0, none⟩) (Nat.le_refl _) _) (p := ⟨w.heap.size, 1, none⟩) (Nat.le_refl _) _) (p := ⟨w.heap.size, 2, none⟩) (Nat.le_refl _) _) (p := ⟨w.heap.size, 3, none⟩) (Nat.le_refl _) _⟩

end Go.Proofs.Ytnggempmdhmoeaa

/- Lean texts of the claim. -/
import Derived.Test.YtmdncaoilegnnaaGreatXG49
import Derived.Test.YtmdncaoilegnnaaGreatXE
namespace Go.Proofs.YtmdncaoilegnnaaGreat
set_option linter.unusedVariables false
set_option linter.unusedSimpArgs false
section
set_option maxRecDepth 100000
open Go.RowKit
set_option maxHeartbeats 1000000 in
theorem rbox_ok (b off cap n : Nat) (l : List (Int × Int)) (w : World) (hl : n ≤ 1000000) (hcap : n ≤ cap) (hs : SpS w (some ⟨b, off, none⟩) n l) (hc : checkW l n = 0) (h0 : 0 < n) :
 Calls Tryz.prog 67 #[.slice (some ⟨b, off, none⟩) n cap] w fun e w' => e = .returned (.tuple #[.agg #[.int .i64 (loX l n), .int .i64 (loY l n), .int .i64 (wrap64 (hiX l n - loX l n)), .int .i64 (wrap64 (hiY l n - loY l n))], .int .i64 0]) ∧ Below w.heap.size w w' := by
 have HC := Hj hc
 have q : (checkW l n != 0) = false := by rw [hc]; rfl
 clear hc
 obtain ⟨g1, g2⟩ := hs.cells h0
 simp only [Nat.zero_mul, Nat.add_zero] at g1 g2
 go_enter Tryz.func67, Tryz.ntmps67
 go_upto_region 4 with (go_at_call 52; refine (rcheck_any _ _ _ l _ (by omega) hcap (hs.keep (Bl.alloc Br _))).mono ?_; rintro e w1 ⟨rfl, hb1⟩)
 have hb2 := Bl.call (Bl.alloc Br _) hb1
 have hc1 := Xa hb2 g1
 have hc2 := Xa hb2 g2
 have hbl : b < w1.heap.size := lt_of_cell hc1
 have hr : BlkS w1 w.heap.size 82 #[.int .i64 0, .int .i64 0, .int .i64 0, .int .i64 0] := (BlkS.new w _ _).keep hb1
 have hw1 : w.heap.size < w1.heap.size := hr.lt
 clear g1 g2 hb1
 go_cut [5, 6] (fun s5 s6 wx => ∃ b5 b6 : Nat, s5 = .pointer (some ⟨b5, 0, none⟩) ∧ s6 = .pointer (some ⟨b6, 0, none⟩) ∧ b5 ≠ b6 ∧ w.heap.size < b5 ∧ w.heap.size < b6 ∧ BlkS wx b5 37 #[.int .i64 (gt l 0).1, .int .i64 (gt l 0).2] ∧ BlkS wx b6 37 #[.int .i64 (gt l 0).1, .int .i64 (gt l 0).2] ∧ BlkS wx w.heap.size 82 #[.int .i64 0, .int .i64 0, .int .i64 0, .int .i64 0] ∧ Below w.heap.size w wx)
 case first =>
  go_region
  all_goals go_wp2_with fail
  all_goals go_meet
  ·exact ⟨w1.heap.size, w1.heap.size + 1, rfl, rfl, by omega, hw1, by omega, ((BlkS.new _ _ _).alloc _).drew, (BlkS.new2 _ _ _ _).drew, ((hr.alloc _).alloc _).drew, Bl.drew (Bl.alloc (Bl.alloc hb2 _) _)⟩
  ·exact ⟨w1.heap.size + 1, w1.heap.size, rfl, rfl, by omega, by omega, hw1, (BlkS.new2 _ _ _ _).drew, ((BlkS.new _ _ _).alloc _).drew, ((hr.alloc _).alloc _).drew, Bl.drew (Bl.alloc (Bl.alloc hb2 _) _)⟩
 case rest =>
  clear hc1 hc2 hbl hr hw1 hb2
  obtain ⟨b5, b6, rfl, rfl, hne, hg5, hg6, hB5, hB6, hR, hb⟩ := hcut
  go_wp2_with fail
  go_loopw [7] (fun i wr => ∃ k : Nat, 1 ≤ k ∧ k ≤ n ∧ i = .int .i64 k ∧ BlkS wr b5 37 #[.int .i64 (loX l k), .int .i64 (loY l k)] ∧ BlkS wr b6 37 #[.int .i64 (hiX l k), .int .i64 (hiY l k)] ∧ BlkS wr w.heap.size 82 #[.int .i64 0, .int .i64 0, .int .i64 0, .int .i64 0] ∧ Below w.heap.size w wr) (fun i _ => n - (intOf i).toNat)
  case atStart => exact ⟨1, Nat.le_refl _, by omega, rfl, by rw [show loX l 1 = (gt l 0).1 by simp [loX], show loY l 1 = (gt l 0).2 by simp [loY]]; exact hB5, by rw [show hiX l 1 = (gt l 0).1 by simp [hiX], show hiY l 1 = (gt l 0).2 by simp [hiY]]; exact hB6, hR, hb⟩
  case round =>
   clear hB5 hB6 hR hb
   obtain ⟨k, hk1, hk, rfl, hB5, hB6, hR, hb⟩ := hrel
   have c50 := hB5.cell 0
   have c51 := hB5.cell 1
   have c60 := hB6.cell 0
   have c61 := hB6.cell 1
   have f50 := hB5.frozen 0
   have f51 := hB5.frozen 1
   have l5 := hB5.lt
   have l6 := hB6.lt
   simp only [List.getElem?_toArray, List.getElem?_cons_zero, List.getElem?_cons_succ] at c50 c51 c60 c61
   by_cases hlt : k < n
   ·obtain ⟨h1, h2⟩ := (hs.keep hb).cells hlt
    have z1 : (k : Int) < (n : Int) := by omega
    go_wp2_with fail
    refine wp_region_tailD 17 (by kernel_rfl) (by kernel_rfl) ?_
    simp only [List.take_succ_cons, List.take_zero, List.drop_succ_cons, List.drop_zero]
    repeat still_step
    refine wpStill_nil ?_
    go_wp2_with fail
    all_goals
     refine wp_world (fun X => BlkS X b5 37 #[.int .i64 (loX l (k + 1)), .int .i64 (loY l (k + 1))] ∧ BlkS X b6 37 #[.int .i64 (hiX l k), .int .i64 (hiY l k)] ∧ BlkS X w.heap.size 82 #[.int .i64 0, .int .i64 0, .int .i64 0, .int .i64 0] ∧ Below w.heap.size w X) ⟨by (simp only [loX, loY]; (repeat' split) <;> first | (exact ((hB5.set_ 0 _).set_ 1 _).drew) | omega), (hB6.far (p := ⟨b5, 0, none⟩) hne.symm _).far (p := ⟨b5, 1, none⟩) hne.symm _, (hR.far (p := ⟨b5, 0, none⟩) (Nat.ne_of_lt hg5) _).far (p := ⟨b5, 1, none⟩) (Nat.ne_of_lt hg5) _, Bl.drew (Bl.set (Bl.set hb (p := ⟨b5, 0, none⟩) (Nat.le_of_lt hg5) _) (p := ⟨b5, 1, none⟩) (Nat.le_of_lt hg5) _)⟩ ?_
     clear hB5 hB6 hR hb c50 c51 c60 c61 f50 f51 l5 l6 h1 h2
     rintro X ⟨hB5, hB6, hR, hb⟩
     obtain ⟨h1, h2⟩ := (hs.keep hb).cells hlt
     have c60 := hB6.cell 0
     have c61 := hB6.cell 1
     have f60 := hB6.frozen 0
     have f61 := hB6.frozen 1
     have l6 := hB6.lt
     simp only [List.getElem?_toArray, List.getElem?_cons_zero, List.getElem?_cons_succ] at c60 c61
     have hbl : b < X.heap.size := lt_of_cell h1
     refine wp_region_tailD 17 (by kernel_rfl) (by kernel_rfl) ?_
     simp only [List.take_succ_cons, List.take_zero, List.drop_succ_cons, List.drop_zero]
     repeat still_step
     refine wpStill_nil ?_
     go_wp2_with fail
    all_goals exact ⟨⟨k + 1, by omega, by omega, by go_num, (hB5.far (p := ⟨b6, 0, none⟩) hne _).far (p := ⟨b6, 1, none⟩) hne _, by (simp only [hiX, hiY]; (repeat' split) <;> first | (exact ((hB6.set_ 0 _).set_ 1 _).drew) | omega), (hR.far (p := ⟨b6, 0, none⟩) (Nat.ne_of_lt hg6) _).far (p := ⟨b6, 1, none⟩) (Nat.ne_of_lt hg6) _, Bl.drew (Bl.set (Bl.set hb (p := ⟨b6, 0, none⟩) (Nat.le_of_lt hg6) _) (p := ⟨b6, 1, none⟩) (Nat.le_of_lt hg6) _)⟩, by simp [intOf]; omega⟩
   ·obtain rfl : n = k := by omega
    have cR0 := hR.cell 0
    have cR1 := hR.cell 1
    have cR2 := hR.cell 2
    have cR3 := hR.cell 3
    have fR0 := hR.frozen 0
    have fR1 := hR.frozen 1
    have fR2 := hR.frozen 2
    have fR3 := hR.frozen 3
    simp only [List.getElem?_toArray, List.getElem?_cons_zero, List.getElem?_cons_succ] at cR0 cR1 cR2 cR3
    go_wp2_with fail
    exact bodyPost_ret (v := .tuple #[.agg #[.int .i64 (loX l n), .int .i64 (loY l n), .int .i64 (wrap64 (hiX l n - loX l n)), .int .i64 (wrap64 (hiY l n - loY l n))], .int .i64 0]) (by simp [results, Tryz.results67, go_sem, cR0, cR1, cR2, cR3]) rfl ⟨rfl, Bl.set (Bl.set (Bl.set (Bl.set hb (p := ⟨w.heap.size, 0, none⟩) (Nat.le_refl _) _) (p := ⟨w.heap.size, 1, none⟩) (Nat.le_refl _) _) (p := ⟨w.heap.size, 2, none⟩) (Nat.le_refl _) _) (p := ⟨w.heap.size, 3, none⟩) (Nat.le_refl _) _⟩
end
end Go.Proofs.YtmdncaoilegnnaaGreat

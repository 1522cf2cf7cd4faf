/- Lean texts of the claim. -/
import Derived.Test.YtmdncaoilegnnaaGreatXG68
namespace Go.Proofs.YtmdncaoilegnnaaGreat
set_option linter.unusedVariables false
set_option linter.unusedSimpArgs false
section
set_option maxRecDepth 100000
open Go.RowKit
set_option maxHeartbeats 2000000 in
theorem rrun_any (A1 A2 : Option Addr) (c1 c2 n1 n2 : Nat) (b : Bed4) (S : List Shp) (os : List Int) (w : World) (hn2 : n2 ≤ 9223372036854775807) (hS : ShS w A1 n1 S) (hO : InS w A2 n2 os) :
 Calls Tryz.prog 19 #[bedV b, .slice A1 n1 c1, .slice A2 n2 c2] w (RunRet w (runW b S os)) := by
 have hB := Hj (BlkS.new w 25 #[.int .i64 b.len, .int .i64 b.wid, .int .i64 b.rx, .int .i64 b.ry])
 have hbw := Hj (show Below w.heap.size w (w.alloc (.cells #[.int .i64 b.len, .int .i64 b.wid, .int .i64 b.rx, .int .i64 b.ry] 25)) from (Bl.alloc Br _))
 obtain ⟨len, wid, rx, ry⟩ := b
 unfold bedV
 dsimp only at hB hbw ⊢
 have hl := hO.1
 by_cases h60 : 60 < n2
 ·have HR := Hj (show runW ⟨len, wid, rx, ry⟩ S os = (5, []) by unfold runW; rw [hl, if_pos h60])
  clear hl
  go_enter Tryz.func19, Tryz.ntmps19
  go_wp2_with fail
  exact bodyPost_ret (v := .tuple #[.slice none 0 0, .int .i64 5]) (by simp [results, Tryz.results19, go_sem]) rfl ⟨_, by rw [HR.out], by rw [HR.out]; exact OwG.nil, hbw.out⟩
 ·have HR := Hj (show runW ⟨len, wid, rx, ry⟩ S os = runTo ⟨len, wid, rx, ry⟩ S os n2 by unfold runW; rw [hl, if_neg h60])
  clear hl
  go_enter Tryz.func19, Tryz.ntmps19
  go_wp2_with fail
  refine wp_world (fun X => Below w.heap.size w X ∧ BlkS X w.heap.size 25 #[.int .i64 len, .int .i64 wid, .int .i64 rx, .int .i64 ry]) ⟨hbw.out, hB.out⟩ ?_
  clear hbw hB
  rintro X ⟨hbw, hB⟩
  have hSX := hS.keep hbw
  have hOX := hO.keep hbw
  have HB := Hj hB
  clear hS hO hB
  go_loopw [8, 9] (fun v i wr => ∃ k : Nat, k ≤ n2 ∧ i = .int .i64 k ∧ Hid ((runTo ⟨len, wid, rx, ry⟩ S os k).1 = 0) ∧ OwG 39 5 enP wr X.heap.size v (runTo ⟨len, wid, rx, ry⟩ S os k).2 ∧ Below X.heap.size X wr) (fun _ i _ => n2 - (intOf i).toNat)
  case atStart => exact ⟨0, Nat.zero_le _, rfl, Hj rfl, OwG.nil, Below.refl _ _⟩
  case round =>
   obtain ⟨k, hk, rfl, hz, ho, hb⟩ := hrel
   by_cases hlt : k < n2
   ·obtain ⟨ba, oa, rfl, d1⟩ := (hOX.keep hb).at_ hlt
    have hstep := Hj (show runTo ⟨len, wid, rx, ry⟩ S os (k + 1) = _ by rw [runTo, if_neg (by rw [hz.out]; simp)])
    have hpl := runTo_len (b := ⟨len, wid, rx, ry⟩) (S := S) (os := os) k
    obtain ⟨ps, hps⟩ : ∃ ps, (runTo ⟨len, wid, rx, ry⟩ S os k).2 = ps := ⟨_, rfl⟩
    rw [hps] at hstep hpl ho
    clear hps
    obtain ⟨Ap, cp, rfl, hPu⟩ := OwP.pus ho
    obtain ⟨r, hr⟩ : ∃ r, stepW ⟨len, wid, rx, ry⟩ S ps (gi os k) = r := ⟨_, rfl⟩
    rw [hr] at hstep
    have HS := Hj hr
    clear hr
    obtain ⟨np, hnp⟩ : ∃ np, ps.length = np := ⟨_, rfl⟩
    rw [hnp] at hPu hpl ho ⊢
    have HNP := Hj hnp
    clear hnp
    obtain ⟨a1, a2, a3, a4, a5⟩ := (HB.out.keep hb).cells4
    obtain ⟨r1, ⟨p1, p2, p3, p4, p5⟩⟩ := r
    dsimp only at hstep
    obtain ⟨o1, ho1⟩ : ∃ o1, gi os k = o1 := ⟨_, rfl⟩
    rw [ho1] at d1 HS
    clear ho1
    have z1 : (0 : Int) ≤ (k : Int) := by omega
    have z2 : (k : Int) < (n2 : Int) := by omega
    have HKP := Hj (show ∀ w' : World, Below wr.heap.size wr w' → (w'.cell? ⟨w.heap.size, 0, none⟩ = some (.int .i64 len) ∧ w'.cell? ⟨w.heap.size, 1, none⟩ = some (.int .i64 wid) ∧ w'.cell? ⟨w.heap.size, 2, none⟩ = some (.int .i64 rx) ∧ w'.cell? ⟨w.heap.size, 3, none⟩ = some (.int .i64 ry) ∧ w'.cell? ⟨ba, oa + k, none⟩ = some (.int .i64 o1)) from fun w' h => ⟨Xa h a1, Xa h a2, Xa h a3, Xa h a4, Xa h d1⟩)
    have m1 := World.new_ne wr _ a1
    have m2 := World.new_ne wr _ d1
    dsimp only at m1 m2
    go_wp2_with fail
    go_cut [10, 11] from 15 to 38 (fun v10 v11 wx => ∃ g : Nat, v10 = .pointer (some ⟨g, 0, none⟩) ∧ v11 = .int .i64 r1 ∧ BlkS wx g 39 #[.int .i64 p1, .bool p2, .int .i64 p3, .int .i64 p4, .int .i64 p5] ∧ Below wr.heap.size wr wx)
    case first =>
     go_region_held3 (fun w' => w'.cell? ⟨w.heap.size, 0, none⟩ = some (.int .i64 len) ∧ w'.cell? ⟨w.heap.size, 1, none⟩ = some (.int .i64 wid) ∧ w'.cell? ⟨w.heap.size, 2, none⟩ = some (.int .i64 rx) ∧ w'.cell? ⟨w.heap.size, 3, none⟩ = some (.int .i64 ry) ∧ w'.cell? ⟨ba, oa + k, none⟩ = some (.int .i64 o1))
      (first
       | exact HKP.out _ (Bl.call (Bl.drew Br) hb8)
       | exact HKP.out _ (Bl.alloc (Bl.call (Bl.drew Br) hb8) _)
       | exact HKP.out _ (Bl.call (Bl.alloc (Bl.drew Br) _) hb8)
       | exact HKP.out _ (by have hbb := Bl.call (Bl.alloc (Bl.drew (Below.refl wr.heap.size wr)) _) hb8; (repeat first | exact hbb | refine Bl.set ?_ (Nat.le_refl _) _))
       | go_keep)
      ((go_at_call 16; refine (rstep_any _ _ _ _ _ _ ⟨len, wid, rx, ry⟩ S ps o1 _ (by omega) (hSX.keep (by first | exact Bl.drew hb | exact Bl.alloc (Bl.drew hb) _)) (hPu.keep (by first | exact Bl.drew Br | exact Bl.alloc (Bl.drew Br) _))).mono ?_; rintro e w8 ⟨rfl, hb8⟩; rw [HS.out]; unfold putV; dsimp only; try (have kB : BlkS w8 wr.heap.size 39 #[.int .i64 0, .bool false, .int .i64 0, .int .i64 0, .int .i64 0] := BlkS.keep (by exact BlkS.new wr _ _) hb8; obtain ⟨k1, k2, k3, k4, k5, k6⟩ := kB.cells5; obtain ⟨l1, l2, l3, l4, l5⟩ := kB.frz5)))
     all_goals go_wp2_with fail
     all_goals go_meet
     ·exact ⟨w8.heap.size, rfl, rfl, BlkS.new _ _ _, Bl.alloc (Bl.call (Bl.drew Br) hb8) _⟩
     ·exact ⟨wr.heap.size, rfl, rfl, ((((kB.set_ 0 _).set_ 1 _).set_ 2 _).set_ 3 _).set_ 4 _, by have hbb := Bl.call (Bl.alloc (Bl.drew (Below.refl wr.heap.size wr)) _) hb8; (repeat first | exact hbb | refine Bl.set ?_ (Nat.le_refl _) _)⟩
    case rest =>
     clear a1 a2 a3 a4 a5 d1 m1 m2 HKP HS
     obtain ⟨g, rfl, rfl, hBg, hbc⟩ := hcut
     obtain ⟨e1, e2, e3, e4, e5, e6⟩ := hBg.cells5
     by_cases hr1 : r1 = 0
     ·subst hr1
      rw [if_neg (by simp)] at hstep
      go_wp2_with (at_builtin; refine wpList_app1 rfl _ _ 27 rfl enP X.heap.size 39 (.agg #[.int .i64 0, .bool false, .int .i64 0, .int .i64 0, .int .i64 0]) 5 40 Tryz.underlying27 infoP rfl (by omega) enP_len enP_one _ ps rfl ((ho.keep hbc).alloc _) wc.heap.size 1 ⟨p1, p2, p3, p4, p5⟩ 39 rfl (BlkS.new _ _ _) (by rw [HNP.out]; unfold maxLen; omega) (by rw [HNP.out]; omega) (Bl.alloc (Bl.call hb hbc) _).size ?_; intro v' w2 ho' hg' hat')
      exact ⟨⟨k + 1, by omega, by go_num, Hj (by rw [hstep.out]), by rw [hstep.out]; exact ho', below_app (Bl.alloc (Bl.call hb hbc) _) ((ho.keep hbc).alloc _) hg'⟩, by simp [intOf]; omega⟩
     ·have qo : (r1 != 0) = true := by simpa using hr1
      rw [if_pos hr1] at hstep
      have hbad := runTo_bad hstep.out hr1 (n2 - (k + 1))
      rw [show k + 1 + (n2 - (k + 1)) = n2 by omega] at hbad
      have HF := Hj hbad
      clear hbad hr1
      go_wp2_with fail
      exact bodyPost_ret (v := .tuple #[.slice none 0 0, .int .i64 r1]) (by simp [results, Tryz.results19, go_sem]) rfl ⟨_, by rw [HR.out, HF.out], by rw [HR.out, HF.out]; exact OwG.nil, Bl.call hbw (Bl.call hb hbc)⟩
   ·obtain rfl : n2 = k := by omega
    go_wp2_with fail
    exact bodyPost_ret (v := .tuple #[u8, .int .i64 0]) (by simp [results, Tryz.results19, go_sem]) rfl ⟨_, by rw [HR.out, hz.out], by rw [HR.out]; exact ho.lower hbw.size, Bl.call hbw hb⟩
end
end Go.Proofs.YtmdncaoilegnnaaGreat

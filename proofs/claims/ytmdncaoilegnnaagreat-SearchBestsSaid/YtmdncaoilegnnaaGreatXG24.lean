/- Lean texts of the claim. -/
import Derived.Test.YtmdncaoilegnnaaGreatXG22
import Derived.Test.YtmdncaoilegnnaaGreatXG23
namespace Go.Proofs.YtmdncaoilegnnaaGreat
set_option linter.unusedVariables false
set_option linter.unusedSimpArgs false
section
set_option maxRecDepth 100000
open Go.RowKit
theorem OwP.pus {w : World} {base : Nat} {v : Value} {l : List Pt5} (h : OwG 39 5 enP w base v l) : ∃ A c, v = .slice A l.length c ∧ PuS w A l.length l := by
 rcases OwG.form h with ⟨rfl, rfl⟩ | ⟨g, cap, rfl, g1, g2, g3, g4⟩
 ·exact ⟨none, 0, rfl, rfl, .inl rfl⟩
 ·refine ⟨_, cap, rfl, rfl, .inr ⟨g, 0, rfl, fun k hk => ?_⟩⟩
  have hk2 : l[k]? = some (pt l k) := by unfold pt; rw [List.getD, List.getElem?_eq_getElem hk]; rfl
  have c0 := OwG.cells h (k * 5) (by omega)
  have c1 := OwG.cells h (k * 5 + 1) (by omega)
  have c2 := OwG.cells h (k * 5 + 2) (by omega)
  have c3 := OwG.cells h (k * 5 + 3) (by omega)
  have c4 := OwG.cells h (k * 5 + 4) (by omega)
  have f0 := flat_at enP_len l k 0 _ hk2 (by omega)
  rw [Nat.add_zero] at f0
  rw [f0] at c0
  rw [flat_at enP_len l k 1 _ hk2 (by omega)] at c1
  rw [flat_at enP_len l k 2 _ hk2 (by omega)] at c2
  rw [flat_at enP_len l k 3 _ hk2 (by omega)] at c3
  rw [flat_at enP_len l k 4 _ hk2 (by omega)] at c4
  rw [Nat.zero_add]
  exact ⟨c0, c1, c2, c3, c4⟩
def runTo (b : Bed4) (S : List Shp) (os : List Int) : Nat → Int × List Pt5
 | 0 => (0, [])
 | k + 1 => if (runTo b S os k).1 ≠ 0 then runTo b S os k
   else if (stepW b S (runTo b S os k).2 (gi os k)).1 ≠ 0 then ((stepW b S (runTo b S os k).2 (gi os k)).1, [])
   else (0, (runTo b S os k).2 ++ [(stepW b S (runTo b S os k).2 (gi os k)).2])
def runW (b : Bed4) (S : List Shp) (os : List Int) : Int × List Pt5 := if 60 < os.length then (5, []) else runTo b S os os.length
theorem runTo_bad {b : Bed4} {S : List Shp} {os : List Int} {k : Nat} {x : Int} (h : runTo b S os k = (x, [])) (hx : x ≠ 0) : ∀ m, runTo b S os (k + m) = (x, []) := by
 intro m
 induction m with
 | zero => exact h
 | succ m ih => rw [← Nat.add_assoc, runTo, if_pos (by rw [ih]; exact hx)]; exact ih
theorem runTo_len {b : Bed4} {S : List Shp} {os : List Int} (k : Nat) : (runTo b S os k).2.length ≤ k := by
 induction k with
 | zero => simp [runTo]
 | succ k ih =>
   rw [runTo]
   split
   ·omega
   ·split
    ·simp
    ·simp; omega
theorem infoP : (Tryz.prog.info? 39).map (fun i => (i.zero, i.size, i.bytes)) = some (some (.agg #[.int .i64 0, .bool false, .int .i64 0, .int .i64 0, .int .i64 0]), 5, 40) := by kernel_rfl
def RunRet (w : World) (r : Int × List Pt5) (e : Ending) (w' : World) : Prop := ∃ v, e = .returned (.tuple #[v, .int .i64 r.1]) ∧ OwG 39 5 enP w' w.heap.size v r.2 ∧ Below w.heap.size w w'
set_option maxHeartbeats 2000000 in
theorem run_any (A1 A2 : Option Addr) (c1 c2 n1 n2 : Nat) (b : Bed4) (S : List Shp) (os : List Int) (w : World) (hn2 : n2 ≤ 9223372036854775807) (hS : ShS w A1 n1 S) (hO : InS w A2 n2 os) :
 Calls Tryz.prog 18 #[bedV b, .slice A1 n1 c1, .slice A2 n2 c2] w (RunRet w (runW b S os)) := by
 have hB := Hj (BlkS.new w 25 #[.int .i64 b.len, .int .i64 b.wid, .int .i64 b.rx, .int .i64 b.ry])
 have hbw := Hj (show Below w.heap.size w (w.alloc (.cells #[.int .i64 b.len, .int .i64 b.wid, .int .i64 b.rx, .int .i64 b.ry] 25)) from (Bl.alloc Br _))
 obtain ⟨len, wid, rx, ry⟩ := b
 unfold bedV
 dsimp only at hB hbw ⊢
 have hl := hO.1
 by_cases h60 : 60 < n2
 ·have HR := Hj (show runW ⟨len, wid, rx, ry⟩ S os = (5, []) by unfold runW; rw [hl, if_pos h60])
  clear hl
  go_enter Tryz.func18, Tryz.ntmps18
  go_wp2_with fail
  exact bodyPost_ret (v := .tuple #[.slice none 0 0, .int .i64 5]) (by simp [results, Tryz.results18, go_sem]) rfl ⟨_, by rw [HR.out], by rw [HR.out]; exact OwG.nil, hbw.out⟩
 ·have HR := Hj (show runW ⟨len, wid, rx, ry⟩ S os = runTo ⟨len, wid, rx, ry⟩ S os n2 by unfold runW; rw [hl, if_neg h60])
  clear hl
  go_enter Tryz.func18, Tryz.ntmps18
  go_wp2_with fail
  refine wp_world (fun X => Below w.heap.size w X ∧ BlkS X w.heap.size 25 #[.int .i64 len, .int .i64 wid, .int .i64 rx, .int .i64 ry]) ⟨hbw.out, hB.out⟩ ?_
  clear hbw hB
  rintro X ⟨hbw, hB⟩
  have hSX := hS.keep hbw
  have hOX := hO.keep hbw
  have HB := Hj hB
  clear hS hO hB
  go_loopw [8, 18] (fun v i wr => ∃ k : Nat, k ≤ n2 ∧ i = .int .i64 k ∧ Hid ((runTo ⟨len, wid, rx, ry⟩ S os k).1 = 0) ∧ OwG 39 5 enP wr X.heap.size v (runTo ⟨len, wid, rx, ry⟩ S os k).2 ∧ Below X.heap.size X wr) (fun _ i _ => n2 - (intOf i).toNat)
  case atStart => exact ⟨0, Nat.zero_le _, rfl, Hj rfl, OwG.nil, Below.refl _ _⟩
  case round =>
   obtain ⟨k, hk, rfl, hz, ho, hb⟩ := hrel
   by_cases hlt : k < n2
   ·obtain ⟨ba, oa, rfl, d1⟩ := (hOX.keep hb).at_ hlt
    have hstep := Hj (show runTo ⟨len, wid, rx, ry⟩ S os (k + 1) = _ by rw [runTo, if_neg (by rw [hz.out]; simp)])
    have hpl := runTo_len (b := ⟨len, wid, rx, ry⟩) (S := S) (os := os) k
    obtain ⟨ps, hps⟩ : ∃ ps, (runTo ⟨len, wid, rx, ry⟩ S os k).2 = ps := ⟨_, rfl⟩
    rw [hps] at hstep hpl ho
    clear hps
    obtain ⟨Ap, cp, rfl, hPu⟩ := OwP.pus ho
    obtain ⟨r, hr⟩ : ∃ r, stepW ⟨len, wid, rx, ry⟩ S ps (gi os k) = r := ⟨_, rfl⟩
    rw [hr] at hstep
    have HS := Hj hr
    clear hr
    obtain ⟨np, hnp⟩ : ∃ np, ps.length = np := ⟨_, rfl⟩
    rw [hnp] at hPu hpl ho ⊢
    have HNP := Hj hnp
    clear hnp
    obtain ⟨a1, a2, a3, a4, a5⟩ := (HB.out.keep hb).cells4
    obtain ⟨r1, ⟨p1, p2, p3, p4, p5⟩⟩ := r
    dsimp only at hstep
    by_cases hr1 : r1 = 0
    ·subst hr1
     rw [if_neg (by simp)] at hstep
     go_wp2_with (first | (go_at_call 15; refine (step_any _ _ _ _ _ _ ⟨len, wid, rx, ry⟩ S ps (gi os k) _ (by omega) (hSX.keep hb) hPu).mono ?_; rintro e w1 ⟨rfl, hb1⟩; rw [HS.out]; unfold putV; dsimp only) | (at_builtin; refine wpList_app1 rfl _ _ 27 rfl enP X.heap.size 39 (.agg #[.int .i64 0, .bool false, .int .i64 0, .int .i64 0, .int .i64 0]) 5 40 Tryz.underlying27 infoP rfl (by omega) enP_len enP_one _ ps rfl (((ho.keep hb1).alloc _).alloc _) (w1.heap.size + 1) 1 ⟨p1, p2, p3, p4, p5⟩ 39 rfl (BlkS.new2 _ _ _ _) (by rw [HNP.out]; unfold maxLen; omega) (by rw [HNP.out]; omega) (Bl.alloc (Bl.alloc (Bl.call hb hb1) _) _).size ?_; intro v' w2 ho' hg' hat'))
     exact ⟨⟨k + 1, by omega, by go_num, Hj (by rw [hstep.out]), by rw [hstep.out]; exact ho', below_app (Bl.alloc (Bl.alloc (Bl.call hb hb1) _) _) (((ho.keep hb1).alloc _).alloc _) hg'⟩, by simp [intOf]; omega⟩
    ·have qo : (r1 != 0) = true := by simpa using hr1
     rw [if_pos hr1] at hstep
     have hbad := runTo_bad hstep.out hr1 (n2 - (k + 1))
     rw [show k + 1 + (n2 - (k + 1)) = n2 by omega] at hbad
     have HF := Hj hbad
     clear hbad hr1
     go_wp2_with (go_at_call 15; refine (step_any _ _ _ _ _ _ ⟨len, wid, rx, ry⟩ S ps (gi os k) _ (by omega) (hSX.keep hb) hPu).mono ?_; rintro e w1 ⟨rfl, hb1⟩; rw [HS.out]; unfold putV; dsimp only)
     exact bodyPost_ret (v := .tuple #[.slice none 0 0, .int .i64 r1]) (by simp [results, Tryz.results18, go_sem]) rfl ⟨_, by rw [HR.out, HF.out], by rw [HR.out, HF.out]; exact OwG.nil, Bl.call hbw (Bl.alloc (Bl.call hb hb1) _)⟩
   ·obtain rfl : n2 = k := by omega
    go_wp2_with fail
    exact bodyPost_ret (v := .tuple #[u8, .int .i64 0]) (by simp [results, Tryz.results18, go_sem]) rfl ⟨_, by rw [HR.out, hz.out], by rw [HR.out]; exact ho.lower hbw.size, Bl.call hbw hb⟩
end
section
set_option maxRecDepth 100000
open Go.RowKit
def extIn (f : Bool) (l : List (Int × Int)) (e : Int) : Nat → Int
 | 0 => e
 | k + 1 => if (f && decide (k = 0)) = true ∨ extIn f l e k < (gt l k).1 then (gt l k).1 else extIn f l e k
def extTo (S : List Shp) (ps : List Pt5) : Nat → Int × Int
 | 0 => (0, 0)
 | k + 1 => if (extTo S ps k).1 ≠ 0 then extTo S ps k
   else if (Xe S (pt ps k)).1 ≠ 0 then ((Xe S (pt ps k)).1, 0)
   else (0, extIn (decide (k = 0)) (Xe S (pt ps k)).2 (extTo S ps k).2 (Xe S (pt ps k)).2.length)
def extW (S : List Shp) (ps : List Pt5) : Int × Int := extTo S ps ps.length
theorem extTo_bad {S : List Shp} {ps : List Pt5} {k : Nat} {x : Int} (h : extTo S ps k = (x, 0)) (hx : x ≠ 0) : ∀ m, extTo S ps (k + m) = (x, 0) := by
 intro m
 induction m with
 | zero => exact h
 | succ m ih => rw [← Nat.add_assoc, extTo, if_pos (by rw [ih]; exact hx)]; exact ih
set_option maxHeartbeats 2000000 in
theorem extent_any (A1 A2 : Option Addr) (c1 c2 n1 n2 : Nat) (S : List Shp) (ps : List Pt5) (w : World) (hn2 : n2 ≤ 1000000) (hS : ShS w A1 n1 S) (hPu : PuS w A2 n2 ps) :
 Calls Tryz.prog 21 #[.slice A1 n1 c1, .slice A2 n2 c2] w fun e w' => e = .returned (.tuple #[.int .i64 (extW S ps).2, .int .i64 (extW S ps).1]) ∧ Below w.heap.size w w' := by
 have HR := Hj (show extW S ps = extTo S ps n2 by unfold extW; rw [hPu.1])
 go_enter Tryz.func21, Tryz.ntmps21
 go_wp2_with fail
 go_loopw [6, 15] (fun v i wr => ∃ k : Nat, k ≤ n2 ∧ i = .int .i64 k ∧ Hid ((extTo S ps k).1 = 0) ∧ v = .int .i64 (extTo S ps k).2 ∧ Below w.heap.size w wr) (fun _ i _ => n2 - (intOf i).toNat)
 case atStart => exact ⟨0, Nat.zero_le _, rfl, Hj rfl, rfl, Below.refl _ _⟩
 case round =>
  obtain ⟨k, hk, rfl, hz, rfl, hb⟩ := hrel
  by_cases hlt : k < n2
  ·obtain ⟨-, hP2⟩ := hPu.keep hb
   rcases hP2 with h | ⟨ba, oa, rfl, hP2⟩
   ·omega
   obtain ⟨d1, d2, d3, d4, d5⟩ := hP2 k hlt
   clear hP2
   have hstep := Hj (show extTo S ps (k + 1) = _ by rw [extTo, if_neg (by rw [hz.out]; simp)])
   obtain ⟨p, hp⟩ : ∃ p, pt ps k = p := ⟨_, rfl⟩
   rw [hp] at d1 d2 d3 d4 d5 hstep
   clear hp
   obtain ⟨p1, p2, p3, p4, p5⟩ := p
   dsimp only at d1 d2 d3 d4 d5
   have hrl := polyW_len S ⟨p1, p2, p3, p4, p5⟩
   obtain ⟨r, hr⟩ : ∃ r, Xe S ⟨p1, p2, p3, p4, p5⟩ = r := ⟨_, rfl⟩
   rw [hr] at hstep hrl
   have HP := Hj hr
   clear hr
   obtain ⟨r1, r⟩ := r
   dsimp only at hstep hrl
   obtain ⟨ee, hee⟩ : ∃ ee, (extTo S ps k).2 = ee := ⟨_, rfl⟩
   rw [hee] at hstep ⊢
   clear hee
   by_cases hr1 : r1 = 0
   ·subst hr1
    rw [if_neg (by simp)] at hstep
    obtain ⟨nr, hnr⟩ : ∃ nr, r.length = nr := ⟨_, rfl⟩
    rw [hnr] at hstep hrl
    have HNR := Hj hnr
    clear hnr
    go_upto_region 8 with (go_at_call 40; refine (ppoly_any _ _ _ S ⟨p1, p2, p3, p4, p5⟩ _ (hS.keep (Bl.alloc hb _))).mono ?_; rintro e w5 ⟨v5, rfl, ho5, hb5⟩; rw [HP.out] at ho5 ⊢; obtain ⟨A5, c5, rfl, hc5, hS5, -⟩ := OwS.sps ho5; rw [HNR.out] at hS5 hc5 ⊢)
    have hb5' := Bl.call (Bl.alloc hb _) hb5
    clear hb5 ho5
    go_wp2_with fail
    go_loopw [6, 31] (fun v i wr => ∃ j : Nat, j ≤ nr ∧ i = .int .i64 j ∧ v = .int .i64 (extIn (decide (k = 0)) r ee j) ∧ Below w5.heap.size w5 wr) (fun _ i _ => nr - (intOf i).toNat)
    case atStart => exact ⟨0, Nat.zero_le _, rfl, rfl, Below.refl _ _⟩
    case round =>
     obtain ⟨j, hj, rfl, rfl, hbj⟩ := hrel
     by_cases hjn : j < nr
     ·obtain ⟨bc, oc, rfl, hblc, hccc⟩ := (hS5.keep hbj).at_ hjn
      obtain ⟨x1, x2⟩ := hccc j hjn
      clear hccc
      have hext : extIn (decide (k = 0)) r ee (j + 1) = if (decide (k = 0) && decide (j = 0)) = true ∨ extIn (decide (k = 0)) r ee j < (gt r j).1 then (gt r j).1 else extIn (decide (k = 0)) r ee j := rfl
      by_cases h0 : k = 0
      ·have q0 : ((k : Int) == 0) = true := by simp [h0]
       by_cases h1 : j = 0
       ·have q1 : ((j : Int) == 0) = true := by simp [h1]
        rw [if_pos (by simp [h0, h1])] at hext
        have HE := Hj hext
        clear hext h0 h1
        go_wp2_with fail
        exact ⟨⟨j + 1, by omega, by go_num, by rw [HE.out], Bl.alloc hbj _⟩, by simp [intOf]; omega⟩
       ·have q1 : ((j : Int) == 0) = false := by simp; omega
        by_cases h2 : extIn (decide (k = 0)) r ee j < (gt r j).1
        ·rw [if_pos (.inr h2)] at hext
         have HE := Hj hext
         clear hext h0 h1
         go_wp2_with fail
         exact ⟨⟨j + 1, by omega, by go_num, by rw [HE.out], Bl.alloc hbj _⟩, by simp [intOf]; omega⟩
        ·rw [if_neg (by simp [h1]; omega)] at hext
         have HE := Hj hext
         have h2' := Int.not_lt.1 h2
         clear hext h0 h1
         go_wp2_with fail
         exact ⟨⟨j + 1, by omega, by go_num, by rw [HE.out], Bl.alloc hbj _⟩, by simp [intOf]; omega⟩
      ·have q0 : ((k : Int) == 0) = false := by simp; omega
       by_cases h2 : extIn (decide (k = 0)) r ee j < (gt r j).1
       ·rw [if_pos (.inr h2)] at hext
        have HE := Hj hext
        clear hext h0
        go_wp2_with fail
        exact ⟨⟨j + 1, by omega, by go_num, by rw [HE.out], Bl.alloc hbj _⟩, by simp [intOf]; omega⟩
       ·rw [if_neg (by simp [h0] at h2 ⊢; omega)] at hext
        have HE := Hj hext
        have h2' := Int.not_lt.1 h2
        clear hext h0
        go_wp2_with fail
        exact ⟨⟨j + 1, by omega, by go_num, by rw [HE.out], Bl.alloc hbj _⟩, by simp [intOf]; omega⟩
     ·obtain rfl : nr = j := by omega
      go_wp2_with fail
      exact ⟨⟨k + 1, by omega, by go_num, Hj (by rw [hstep.out]), by rw [hstep.out], Bl.call hb5' hbj⟩, by simp [intOf]; omega⟩
   ·have qo : (r1 != 0) = true := by simpa using hr1
    rw [if_pos hr1] at hstep
    have hbad := extTo_bad hstep.out hr1 (n2 - (k + 1))
    rw [show k + 1 + (n2 - (k + 1)) = n2 by omega] at hbad
    have HF := Hj hbad
    clear hbad hr1
    go_wp2_with (go_at_call 40; refine (ppoly_any _ _ _ S ⟨p1, p2, p3, p4, p5⟩ _ (hS.keep (Bl.alloc hb _))).mono ?_; rintro e w5 ⟨v5, rfl, ho5, hb5⟩; rw [HP.out])
    exact bodyPost_ret (v := .tuple #[.int .i64 0, .int .i64 r1]) (by simp [results, Tryz.results21, go_sem]) rfl ⟨by rw [HR.out, HF.out], Bl.call (Bl.alloc hb _) hb5⟩
  ·obtain rfl : n2 = k := by omega
   go_wp2_with fail
   exact bodyPost_ret (v := .tuple #[.int .i64 (extTo S ps n2).2, .int .i64 0]) (by simp [results, Tryz.results21, go_sem]) rfl ⟨by rw [HR.out, hz.out], hb⟩
end
section
set_option maxRecDepth 100000
open Go.RowKit
def widW (l : List (Int × Int)) (n : Nat) : Int := wrap64 (hiX l n - loX l n)
def narTo (l : List (Int × Int)) (ts : List Trn) : Nat → Int × Int
 | 0 => (0, 0)
 | k + 1 => if (narTo l ts k).1 ≠ 0 then narTo l ts k
   else if checkW (tpolW (tr ts k).1 (tr ts k).2 l) l.length ≠ 0 then (checkW (tpolW (tr ts k).1 (tr ts k).2 l) l.length, 0)
   else (0, if k = 0 ∨ widW (tpolW (tr ts k).1 (tr ts k).2 l) l.length < (narTo l ts k).2 then widW (tpolW (tr ts k).1 (tr ts k).2 l) l.length else (narTo l ts k).2)
def narW (l : List (Int × Int)) (g : Int) : Int × Int :=
 if checkW l l.length ≠ 0 then (checkW l l.length, 0)
 else if (allW g false).length = 0 then (12, 0)
 else narTo l (allW g false) (allW g false).length
theorem narTo_bad {l : List (Int × Int)} {ts : List Trn} {k : Nat} {x : Int} (h : narTo l ts k = (x, 0)) (hx : x ≠ 0) : ∀ m, narTo l ts (k + m) = (x, 0) := by
 intro m
 induction m with
 | zero => exact h
 | succ m ih => rw [← Nat.add_assoc, narTo, if_pos (by rw [ih]; exact hx)]; exact ih
set_option maxHeartbeats 2000000 in
theorem nar_any (A : Option Addr) (c n : Nat) (l : List (Int × Int)) (g ax ay : Int) (mt : Bool) (w : World) (hn : n ≤ 9223372036854775807) (hc : n ≤ c) (hs : SpS w A n l) :
 Calls Tryz.prog 50 #[.agg #[.slice A n c, .int .i64 g, .bool mt, .int .i64 ax, .int .i64 ay]] w fun e w' => e = .returned (.tuple #[.int .i64 (narW l g).2, .int .i64 (narW l g).1]) ∧ Below w.heap.size w w' := by
 have hB := Hj (BlkS.new w 49 #[.slice A n c, .int .i64 g, .bool mt, .int .i64 ax, .int .i64 ay])
 have hbw := Hj (show Below w.heap.size w (w.alloc (.cells #[.slice A n c, .int .i64 g, .bool mt, .int .i64 ax, .int .i64 ay] 49)) from (Bl.alloc Br _))
 have hl := hs.1
 by_cases hck : checkW l n = 0
 ·have hl40 := check_len hck
  have q : (checkW l n != 0) = false := by rw [hck]; rfl
  obtain ⟨ts, hts⟩ : ∃ ts, allW g false = ts := ⟨_, rfl⟩
  have htsl : ts.length ≤ 4 := by rw [← hts]; exact allTo_len _ _ 4
  have HR := Hj (show narW l g = if ts.length = 0 then (12, 0) else narTo l ts ts.length by unfold narW; rw [hl, if_neg (by simpa using hck), hts])
  have HTS := Hj hts
  have HL := Hj hl
  clear hl hck hts
  obtain ⟨nt, hnt⟩ : ∃ nt, ts.length = nt := ⟨_, rfl⟩
  rw [hnt] at htsl HR
  have HNT := Hj hnt
  clear hnt
  go_enter Tryz.func50, Tryz.ntmps50
  go_upto_region 4 with (go_at_call 74; refine (check_any _ _ _ l _ (by omega) hc (hs.keep hbw.out)).mono ?_; rintro e w1 ⟨rfl, hb1⟩)
  have hb1' := Bl.call hbw.out hb1
  have hB1 := hB.out.keep hb1
  obtain ⟨a1, a2, a3, a4, a5, a6⟩ := hB1.cells5
  go_upto_region 5 with (go_at_call 39; refine (all_any _ _ _).mono ?_; rintro e w2 ⟨v3, rfl, ho3, hb3⟩; rw [HTS.out] at ho3; obtain ⟨At, ct, rfl, hTt, -⟩ := OwT.trs ho3; rw [HNT.out] at hTt ⊢)
  have hb2 := Bl.call hb1' hb3
  have HB2 := Hj (hB1.keep hb3)
  clear a1 a2 a3 a4 a5 a6 ho3 hb3 hb1 hb1' hB1 hB hbw
  by_cases h0 : nt = 0
  ·have q0 : ((nt : Int) == 0) = true := by simp [h0]
   rw [if_pos h0] at HR
   clear h0
   go_wp2_with fail
   exact bodyPost_ret (v := .tuple #[.int .i64 0, .int .i64 12]) (by simp [results, Tryz.results50, go_sem]) rfl ⟨by rw [HR.out], hb2⟩
  ·have q0 : ((nt : Int) == 0) = false := by simp; omega
   rw [if_neg h0] at HR
   clear h0
   go_wp2_with fail
   go_loopw [6, 25] (fun v i wr => ∃ k : Nat, k ≤ nt ∧ i = .int .i64 k ∧ Hid ((narTo l ts k).1 = 0) ∧ v = .int .i64 (narTo l ts k).2 ∧ Below w2.heap.size w2 wr) (fun _ i _ => nt - (intOf i).toNat)
   case atStart => exact ⟨0, Nat.zero_le _, rfl, Hj rfl, rfl, Below.refl _ _⟩
   case round =>
    obtain ⟨k, hk, rfl, hz, rfl, hb⟩ := hrel
    by_cases hlt : k < nt
    ·obtain ⟨-, hT2⟩ := hTt.keep hb
     rcases hT2 with h | ⟨sb, rfl, hT2⟩
     ·omega
     obtain ⟨d1, d2⟩ := hT2 k hlt
     clear hT2
     have hstep := Hj (show narTo l ts (k + 1) = _ by rw [narTo, if_neg (by rw [hz.out]; simp)])
     rw [HL.out] at hstep
     obtain ⟨t, ht⟩ : ∃ t, tr ts k = t := ⟨_, rfl⟩
     rw [ht] at d1 d2 hstep
     clear ht
     obtain ⟨tf, tq⟩ := t
     dsimp only at d1 d2 hstep
     obtain ⟨ee, hee⟩ : ∃ ee, (narTo l ts k).2 = ee := ⟨_, rfl⟩
     rw [hee] at hstep ⊢
     clear hee
     have hr5 := tpolW_len tf tq l
     rw [HL.out] at hr5
     obtain ⟨r, hr⟩ : ∃ r, tpolW tf tq l = r := ⟨_, rfl⟩
     rw [hr] at hstep hr5
     have HTP := Hj hr
     have HR5 := Hj hr5
     clear hr hr5
     obtain ⟨a1, a2, a3, a4, a5, a6⟩ := (HB2.out.keep (Bl.alloc hb (.cells #[.bool tf, .int .i64 tq] 29))).cells5
     have hsT := hs.keep (Bl.alloc (Bl.call hb2 hb) (.cells #[.bool tf, .int .i64 tq] 29))
     by_cases hcr : checkW r n = 0
     ·rw [if_neg (by simpa using hcr)] at hstep
      have HCR := Hj hcr
      clear hcr
      unfold widW at hstep
      by_cases h0 : k = 0
      ·have q1 : ((k : Int) == 0) = true := by simp [h0]
       rw [if_pos (.inl h0)] at hstep
       clear h0
       go_wp2_with (first | (go_at_call 76; refine (tpoly_any _ _ _ _ _ l _ (by omega) hsT).mono ?_; rintro e w5 ⟨v5, rfl, ho5, hb5⟩; rw [HTP.out] at ho5; obtain ⟨A5, c5, rfl, hc5, hS5, hA5⟩ := OwS.sps ho5; rw [HR5.out] at hS5 hc5 hA5 ⊢; obtain ⟨gb, rfl, hgb1, hgb2⟩ := hA5 (by omega)) | (go_at_call 41; refine (box_ok _ _ _ _ r _ (by omega) hc5 hS5 HCR.out (by omega)).mono ?_; rintro e w6 ⟨rfl, hb6⟩))
       exact ⟨⟨k + 1, by omega, by go_num, Hj (by rw [hstep.out]), by rw [hstep.out], Bl.alloc (Bl.call (Bl.call (Bl.alloc hb _) hb5) hb6) _⟩, by simp [intOf]; omega⟩
      ·have q1 : ((k : Int) == 0) = false := by simp; omega
       by_cases h2 : wrap64 (hiX r n - loX r n) < ee
       ·rw [if_pos (.inr h2)] at hstep
        clear h0
        go_wp2_with (first | (go_at_call 76; refine (tpoly_any _ _ _ _ _ l _ (by omega) hsT).mono ?_; rintro e w5 ⟨v5, rfl, ho5, hb5⟩; rw [HTP.out] at ho5; obtain ⟨A5, c5, rfl, hc5, hS5, hA5⟩ := OwS.sps ho5; rw [HR5.out] at hS5 hc5 hA5 ⊢; obtain ⟨gb, rfl, hgb1, hgb2⟩ := hA5 (by omega)) | (go_at_call 41; refine (box_ok _ _ _ _ r _ (by omega) hc5 hS5 HCR.out (by omega)).mono ?_; rintro e w6 ⟨rfl, hb6⟩))
        exact ⟨⟨k + 1, by omega, by go_num, Hj (by rw [hstep.out]), by rw [hstep.out], Bl.alloc (Bl.call (Bl.call (Bl.alloc hb _) hb5) hb6) _⟩, by simp [intOf]; omega⟩
       ·rw [if_neg (by intro h; exact h.elim h0 h2)] at hstep
        have h2' := Int.not_lt.1 h2
        clear h0
        go_wp2_with (first | (go_at_call 76; refine (tpoly_any _ _ _ _ _ l _ (by omega) hsT).mono ?_; rintro e w5 ⟨v5, rfl, ho5, hb5⟩; rw [HTP.out] at ho5; obtain ⟨A5, c5, rfl, hc5, hS5, hA5⟩ := OwS.sps ho5; rw [HR5.out] at hS5 hc5 hA5 ⊢; obtain ⟨gb, rfl, hgb1, hgb2⟩ := hA5 (by omega)) | (go_at_call 41; refine (box_ok _ _ _ _ r _ (by omega) hc5 hS5 HCR.out (by omega)).mono ?_; rintro e w6 ⟨rfl, hb6⟩))
        exact ⟨⟨k + 1, by omega, by go_num, Hj (by rw [hstep.out]), by rw [hstep.out], Bl.alloc (Bl.call (Bl.call (Bl.alloc hb _) hb5) hb6) _⟩, by simp [intOf]; omega⟩
     ·have qo : (checkW r n != 0) = true := by simpa using hcr
      rw [if_pos hcr] at hstep
      have hbad := narTo_bad hstep.out hcr (nt - (k + 1))
      rw [show k + 1 + (nt - (k + 1)) = nt by omega] at hbad
      have HF := Hj hbad
      have HCR := Hj hcr
      clear hbad hcr
      go_wp2_with (first | (go_at_call 76; refine (tpoly_any _ _ _ _ _ l _ (by omega) hsT).mono ?_; rintro e w5 ⟨v5, rfl, ho5, hb5⟩; rw [HTP.out] at ho5; obtain ⟨A5, c5, rfl, hc5, hS5, -⟩ := OwS.sps ho5; rw [HR5.out] at hS5 hc5 ⊢) | (go_at_call 41; refine (box_bad _ _ _ r _ (by omega) hc5 hS5 HCR.out).mono ?_; rintro e w6 ⟨rfl, hb6⟩))
      exact bodyPost_ret (v := .tuple #[.int .i64 0, .int .i64 (checkW r n)]) (by simp [results, Tryz.results50, go_sem]) rfl ⟨by rw [HR.out, HF.out], Bl.alloc (Bl.call (Bl.call (Bl.alloc (Bl.call hb2 hb) _) hb5) hb6) _⟩
    ·obtain rfl : nt = k := by omega
     go_wp2_with fail
     exact bodyPost_ret (v := .tuple #[.int .i64 (narTo l ts nt).2, .int .i64 0]) (by simp [results, Tryz.results50, go_sem]) rfl ⟨by rw [HR.out, hz.out], Bl.call hb2 hb⟩
 ·have q : (checkW l n != 0) = true := by simpa using hck
  have HR := Hj (show narW l g = (checkW l n, 0) by unfold narW; rw [hl, if_pos hck])
  clear hl hck
  go_enter Tryz.func50, Tryz.ntmps50
  go_wp2_with (go_at_call 74; refine (check_any _ _ _ l _ (by omega) hc (hs.keep hbw.out)).mono ?_; rintro e w1 ⟨rfl, hb1⟩)
  exact bodyPost_ret (v := .tuple #[.int .i64 0, .int .i64 (checkW l n)]) (by simp [results, Tryz.results50, go_sem]) rfl ⟨by rw [HR.out], Bl.call hbw.out hb1⟩
end
end Go.Proofs.YtmdncaoilegnnaaGreat

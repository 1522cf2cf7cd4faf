/- Lean texts of the claim. -/
import Derived.Test.YtmdncaoilegnnaaGreatXG70
import Derived.Test.YtmdncaoilegnnaaGreatXG69
import Derived.Test.YtmdncaoilegnnaaGreatXG29
namespace Go.Proofs.YtmdncaoilegnnaaGreat
set_option linter.unusedVariables false
set_option linter.unusedSimpArgs false
section
set_option maxRecDepth 100000
open Go.RowKit
theorem fits_pos {b : Bed4} {S : List Shp} {ps : List Pt5} {p : Pt5} (h : fitsW b S ps p = 0) : 0 ≤ maxX (Xe S p).2 := by
 obtain ⟨hb, h1, h2⟩ := fits_poly h
 have hpos : 0 < (Xe S p).2.length := by obtain ⟨_, _, e, _, h5, _⟩ := poly_plain h1; rw [e]; unfold movP; simp; omega
 have hm := (maxX_le hpos (z := maxX (Xe S p).2)).1 (Int.le_refl _) (gt (Xe S p).2 0) (List.mem_of_getElem? (gt_some hpos))
 unfold fitIn at h2
 split at h2
 ·cases h2
 ·split at h2
  ·cases h2
  ·rename_i h3
   have h3' : AnyB (fun i => outBed b (gt (Xe S p).2 i)) (Xe S p).2.length = false := by simpa using h3
   have : outBed b (gt (Xe S p).2 0) = false := by
    cases ho : outBed b (gt (Xe S p).2 0) with
    | false => rfl
    | true => rw [AnyB.yes hpos ho] at h3'; cases h3'
   unfold outBed at this
   simp at this
   omega
theorem try_eq (b : Bed4) (S : List Shp) (o : List Int) : tryW b S o = if (runW b S o).1 ≠ 0 then none else some (extW S (runW b S o).2).2 := by
 unfold tryW
 by_cases h : (runW b S o).1 = 0
 ·rw [if_neg (show ¬ (runW b S o).1 ≠ 0 by rw [h]; simp), if_neg (show ¬ (extW S (runW b S o).2).1 ≠ 0 by rw [run_ext_ok h]; simp), if_neg (show ¬ (runW b S o).1 ≠ 0 by rw [h]; simp)]
 ·rw [if_pos h, if_pos h]
theorem try_pos {b : Bed4} {S : List Shp} {o : List Int} {x : Int} (hb : bedBad b = false) (h : tryW b S o = some x) : 0 ≤ x := by
 obtain ⟨-, h0, h1⟩ := try_le hb h
 obtain ⟨_, _, hlen, hf⟩ := runW_ok h0
 have h2 : (extW S (runW b S o).2).1 = 0 := by rw [h1]
 have h3 : (extW S (runW b S o).2).2 = x := by rw [h1]
 unfold extW at h2 h3
 rw [hlen] at h2 h3
 rcases Nat.eq_zero_or_pos o.length with hz | hz
 ·rw [hz] at h3; simp [extTo] at h3; omega
 ·obtain ⟨i, hi, he⟩ := (extTo_max h2).2 hz
  rw [← h3, he]
  exact fits_pos (hf i hi).1
theorem best_pos {b : Bed4} {S : List Shp} {os : List (List Int)} {k : Nat} {x : Int} {o : List Int} (hb : bedBad b = false) (h : bestTo b S os k = some (x, o)) : 0 ≤ x := by
 obtain ⟨⟨i, -, -, h1, -⟩, -⟩ := bestTo_some h
 exact try_pos hb h1
theorem bnd_bed {b : Bed4} {S : List Shp} (h : (bndW b S).1 = 0) : bedBad b = false := by
 unfold bndW at h
 split at h
 ·cases h
 ·rename_i h1; simpa using h1
def bl2 (r : Option (Int × List Int)) : Int := match r with | none => -1 | some (x, _) => x
set_option maxHeartbeats 4000000 in
theorem rbest_any (A1 : Option Addr) (c1 n1 : Nat) (b : Bed4) (S : List Shp) (w : World) (hS : ShS w A1 n1 S) :
 Calls Tryz.prog 28 #[bedV b, .slice A1 n1 c1] w (BestRet w (bestW b S)) := by
 have hB := Hj (BlkS.new w 25 #[.int .i64 b.len, .int .i64 b.wid, .int .i64 b.rx, .int .i64 b.ry])
 have hbw := Hj (show Below w.heap.size w (w.alloc (.cells #[.int .i64 b.len, .int .i64 b.wid, .int .i64 b.rx, .int .i64 b.ry] 25)) from (Bl.alloc Br _))
 have hl := hS.1
 have hn1 := hS.2.1
 obtain ⟨len, wid, rx, ry⟩ := b
 unfold bedV
 dsimp only at hB hbw ⊢
 by_cases h5 : 5 < n1
 ·have HR := Hj (show bestW ⟨len, wid, rx, ry⟩ S = (5, 0, []) by unfold bestW; rw [hl, if_pos h5])
  clear hl
  go_enter Tryz.func28, Tryz.ntmps28
  go_wp2_with fail
  exact bodyPost_ret (v := .tuple #[.slice none 0 0, .int .i64 0, .int .i64 5]) (by simp [results, Tryz.results28, go_sem]) rfl ⟨_, by rw [HR.out], by rw [HR.out]; exact RdI.nil, hbw.out⟩
 ·have HR := Hj (show bestW ⟨len, wid, rx, ry⟩ S = if (bndW ⟨len, wid, rx, ry⟩ S).1 ≠ 0 then ((bndW ⟨len, wid, rx, ry⟩ S).1, 0, []) else match bestTo ⟨len, wid, rx, ry⟩ S (ordW n1) (ordW n1).length with | none => (18, 0, []) | some (x, o) => (0, x, o) by unfold bestW; rw [hl, if_neg h5]; rfl)
  clear hl
  have hbed := bnd_bed (b := ⟨len, wid, rx, ry⟩) (S := S)
  obtain ⟨rb, hrb⟩ : ∃ rb, bndW ⟨len, wid, rx, ry⟩ S = rb := ⟨_, rfl⟩
  rw [hrb] at HR hbed
  have HRB := Hj hrb
  clear hrb
  obtain ⟨r1, r2⟩ := rb
  dsimp only at HR hbed
  have hsm := ordW_len n1
  obtain ⟨L, hL⟩ : ∃ L, ordW n1 = L := ⟨_, rfl⟩
  rw [hL] at hsm HR
  have HW := Hj (show refOrdW (n1 : Int) = L by rw [← ord_eq]; exact hL)
  have HSM := Hj hsm.2
  have hsm1 := hsm.1
  clear hsm hL
  obtain ⟨m, hm⟩ : ∃ m, L.length = m := ⟨_, rfl⟩
  rw [hm] at hsm1 HR
  have HM := Hj hm
  clear hm
  by_cases hr1 : r1 = 0
  ·subst hr1
   have HPOS := Hj (fun (k : Nat) (x : Int) (o : List Int) (h : bestTo ⟨len, wid, rx, ry⟩ S L k = some (x, o)) => best_pos (hbed rfl) h)
   clear hbed
   rw [if_neg (by simp)] at HR
   go_enter Tryz.func28, Tryz.ntmps28
   go_upto_region 9 with (first | (go_at_call 25; refine (rbound_any _ _ _ ⟨len, wid, rx, ry⟩ S _ (hS.keep hbw.out)).mono ?_; rintro e w1 ⟨rfl, hb1⟩; rw [HRB.out]; dsimp only) | (go_at_call 55; refine (refOrders_any n1 _ (by omega) (by omega)).mono ?_; rintro e w2 ⟨v2, rfl, ho2, hb2⟩; rw [HW.out] at ho2; obtain ⟨A2, c2, rfl, hc2, hS2, -⟩ := ho2.inss; rw [HM.out] at hS2 hc2 ho2 ⊢))
   have hb12 := Bl.call hbw.out (Bl.call hb1 hb2)
   have HB2 := Hj (hB.out.keep (Bl.call hb1 hb2))
   have hSX := hS.keep hb12
   have HBASE := Hj (show ∀ (b off k m' ck : Nat) (Ak : Option Addr), A2 = some ⟨b, off, none⟩ → k < m → w2.cell? ⟨b, off + k, none⟩ = some (.slice Ak m' ck) → ∀ a, Ak = some a → w1.heap.size ≤ a.block from fun _ _ _ _ _ _ h1 h2 h3 => OwII.base ho2 h1 h2 h3)
   have hwle : w.heap.size ≤ w1.heap.size := (Bl.call hbw.out hb1).size
   clear ho2 hb1 hb2 hB hbw hS
   go_wp2_with fail
   go_loopw [9, 10, 12] (fun v l i wr => ∃ k : Nat, k ≤ m ∧ i = .int .i64 k ∧ l = .int .i64 (bl2 (bestTo ⟨len, wid, rx, ry⟩ S L k)) ∧ RdI w.heap.size wr v (border_ (bestTo ⟨len, wid, rx, ry⟩ S L k)) ∧ Below w2.heap.size w2 wr) (fun _ _ i _ => m - (intOf i).toNat)
   case atStart => exact ⟨0, Nat.zero_le _, rfl, rfl, RdI.nil, Below.refl _ _⟩
   case round =>
    obtain ⟨k, hk, rfl, rfl, hrd, hb⟩ := hrel
    by_cases hlt : k < m
    ·obtain ⟨b1, o1, Ak, ck, rfl, e1, e2, e3, e4⟩ := hS2.at_ hlt
     have hbas := Hj (HBASE.out _ _ _ _ _ _ rfl hlt e1)
     replace e1 := Xa hb e1
     replace e3 := e3.keep hb
     have hl5 : (li L k).length ≤ 5 := HSM.out _ (li_mem (by rw [HM.out]; exact hlt))
     have hstep := Hj (show bestTo ⟨len, wid, rx, ry⟩ S L (k + 1) = bestUp (bestTo ⟨len, wid, rx, ry⟩ S L k) (tryW ⟨len, wid, rx, ry⟩ S (li L k)) (li L k) from rfl)
     have hpos := fun x o h => HPOS.out k x o h
     obtain ⟨o, hoo⟩ : ∃ o, li L k = o := ⟨_, rfl⟩
     rw [hoo] at e1 e2 e3 hl5 hstep
     clear hoo
     obtain ⟨no, hno⟩ : ∃ no, o.length = no := ⟨_, rfl⟩
     rw [hno] at e1 e2 e3 hl5
     have HNO := Hj hno
     clear hno
     obtain ⟨p, hp⟩ : ∃ p, bestTo ⟨len, wid, rx, ry⟩ S L k = p := ⟨_, rfl⟩
     rw [hp] at hstep hrd hpos ⊢
     clear hp
     have hpl := runW_len ⟨len, wid, rx, ry⟩ S o
     rw [try_eq] at hstep
     obtain ⟨r, hr⟩ : ∃ r, runW ⟨len, wid, rx, ry⟩ S o = r := ⟨_, rfl⟩
     rw [hr] at hstep hpl
     have HRN := Hj hr
     clear hr
     obtain ⟨q1, ps⟩ := r
     dsimp only at hstep hpl
     obtain ⟨np, hnp⟩ : ∃ np, ps.length = np := ⟨_, rfl⟩
     rw [hnp, HNO.out] at hpl
     have HPL := Hj hnp
     clear hnp
     obtain ⟨a1, a2, a3, a4, a5⟩ := (HB2.out.keep hb).cells4
     have hrdo := Hj (show RdI w.heap.size wr (.slice Ak no ck) o from ⟨Ak, ck, by rw [HNO.out], by rw [HNO.out]; exact e2, by rw [HNO.out]; exact e3, e4, fun a ha => Nat.le_trans hwle (hbas.out a ha)⟩)
     have HUP := Hj (show ∀ x, (bl2 p < 0 ∨ x < bl2 p → bestUp p (some x) o = some (x, o)) ∧ (¬ (bl2 p < 0 ∨ x < bl2 p) → bestUp p (some x) o = p) from fun x => by
      cases p with
      | none => exact ⟨fun _ => rfl, fun h => absurd (.inl (by simp [bl2])) h⟩
      | some y =>
        obtain ⟨y1, y2⟩ := y
        have h0 := hpos y1 y2 rfl
        simp only [bl2, bestUp]
        refine ⟨fun h => ?_, fun h => ?_⟩
        ·rw [if_pos (by omega)]
        ·rw [if_neg (by omega)])
     clear hpos
     have z1 : (0 : Int) ≤ (k : Int) := by omega
     have z2 : (k : Int) < (m : Int) := by omega
     have HKP := Hj (show ∀ w' : World, Below wr.heap.size wr w' → (w'.cell? ⟨w.heap.size, 0, none⟩ = some (.int .i64 len) ∧ w'.cell? ⟨w.heap.size, 1, none⟩ = some (.int .i64 wid) ∧ w'.cell? ⟨w.heap.size, 2, none⟩ = some (.int .i64 rx) ∧ w'.cell? ⟨w.heap.size, 3, none⟩ = some (.int .i64 ry) ∧ w'.cell? ⟨b1, o1 + k, none⟩ = some (.slice Ak no ck)) from fun w' h => ⟨Xa h a1, Xa h a2, Xa h a3, Xa h a4, Xa h e1⟩)
     obtain ⟨l0, hl0⟩ : ∃ l0, bl2 p = l0 := ⟨_, rfl⟩
     rw [hl0] at HUP ⊢
     have HL0 := Hj hl0
     clear hl0
     go_wp2_with fail
     go_region_held3 (fun w' => w'.cell? ⟨w.heap.size, 0, none⟩ = some (.int .i64 len) ∧ w'.cell? ⟨w.heap.size, 1, none⟩ = some (.int .i64 wid) ∧ w'.cell? ⟨w.heap.size, 2, none⟩ = some (.int .i64 rx) ∧ w'.cell? ⟨w.heap.size, 3, none⟩ = some (.int .i64 ry) ∧ w'.cell? ⟨b1, o1 + k, none⟩ = some (.slice Ak no ck))
      (first
       | exact HKP.out _ (Bl.call (Bl.drew Br) hb5)
       | go_keep)
      ((go_at_call 19; refine (rrun_any _ _ _ _ _ _ ⟨len, wid, rx, ry⟩ S o _ (by omega) (hSX.keep (Bl.drew hb)) (e3.keep (Bl.drew Br))).mono ?_; rintro e w5 ⟨v5, rfl, ho5, hb5⟩; rw [HRN.out] at ho5 ⊢; obtain ⟨A5, c5, rfl, hP5⟩ := OwP.pus ho5; rw [HPL.out] at hP5 ⊢))
     have hb5' : Below wr.heap.size wr w5 := Bl.call (Bl.drew Br) hb5
     have e1' := Xa hb5' e1
     clear a1 a2 a3 a4 a5 e1 HKP hb5 ho5 HRN
     by_cases hq1 : q1 = 0
     ·subst hq1
      rw [if_neg (by simp)] at hstep
      obtain ⟨x, hx⟩ : ∃ x, extW S ps = x := ⟨_, rfl⟩
      rw [hx] at hstep
      have HX := Hj hx
      clear hx
      obtain ⟨x1, x2⟩ := x
      dsimp only at hstep
      by_cases hc : l0 < 0 ∨ x2 < l0
      ·rw [(HUP.out x2).1 hc] at hstep
       rcases (by omega : l0 < 0 ∨ (0 ≤ l0 ∧ x2 < l0)) with hc1 | ⟨hc1, hc2⟩
       all_goals
        clear hc
        go_wp2_with (go_at_call 56; refine (rextent_any _ _ _ _ _ _ S ps _ (by omega) (hSX.keep (Bl.call hb hb5')) hP5).mono ?_; rintro e w6 ⟨rfl, hb6⟩; rw [HX.out]; have e1'' := Xa hb6 e1')
        exact ⟨⟨k + 1, by omega, by go_num, by rw [hstep.out]; rfl, by rw [hstep.out]; exact (hrdo.out.keep hb5').keep hb6, Bl.call (Bl.call hb hb5') hb6⟩, by simp [intOf]; omega⟩
      ·rw [(HUP.out x2).2 hc] at hstep
       have hc1 : 0 ≤ l0 := by omega
       have hc2 : l0 ≤ x2 := by omega
       clear hc
       go_wp2_with (go_at_call 56; refine (rextent_any _ _ _ _ _ _ S ps _ (by omega) (hSX.keep (Bl.call hb hb5')) hP5).mono ?_; rintro e w6 ⟨rfl, hb6⟩; rw [HX.out])
       exact ⟨⟨k + 1, by omega, by go_num, by rw [hstep.out, HL0.out], by rw [hstep.out]; exact (hrd.keep hb5').keep hb6, Bl.call (Bl.call hb hb5') hb6⟩, by simp [intOf]; omega⟩
     ·rw [if_pos hq1] at hstep
      have qo : (q1 != 0) = true := by simpa using hq1
      clear hq1
      go_wp2_with fail
      exact ⟨⟨k + 1, by omega, by go_num, by rw [hstep.out]; exact congrArg _ HL0.out.symm, by rw [hstep.out]; exact hrd.keep hb5', Bl.call hb hb5'⟩, by simp [intOf]; omega⟩
    ·obtain rfl : m = k := by omega
     have hpos := fun x o h => HPOS.out m x o h
     obtain ⟨p, hp⟩ : ∃ p, bestTo ⟨len, wid, rx, ry⟩ S L m = p := ⟨_, rfl⟩
     rw [hp] at HR hrd hpos ⊢
     clear hp
     cases p with
     | none =>
       dsimp only [bl2]
       go_wp2_with fail
       exact bodyPost_ret (v := .tuple #[.slice none 0 0, .int .i64 0, .int .i64 18]) (by simp [results, Tryz.results28, go_sem]) rfl ⟨_, by rw [HR.out], by rw [HR.out]; exact RdI.nil, Bl.call hb12 hb⟩
     | some y =>
       obtain ⟨y1, y2⟩ := y
       have h0 := hpos y1 y2 rfl
       dsimp only [bl2]
       clear hpos
       go_wp2_with fail
       exact bodyPost_ret (v := .tuple #[u9, .int .i64 y1, .int .i64 0]) (by simp [results, Tryz.results28, go_sem]) rfl ⟨_, by rw [HR.out], by rw [HR.out]; exact hrd, Bl.call hb12 hb⟩
  ·have qo : (r1 != 0) = true := by simpa using hr1
   rw [if_pos hr1] at HR
   clear hr1
   go_enter Tryz.func28, Tryz.ntmps28
   go_wp2_with (go_at_call 25; refine (rbound_any _ _ _ ⟨len, wid, rx, ry⟩ S _ (hS.keep hbw.out)).mono ?_; rintro e w1 ⟨rfl, hb1⟩; rw [HRB.out]; dsimp only)
   exact bodyPost_ret (v := .tuple #[.slice none 0 0, .int .i64 0, .int .i64 r1]) (by simp [results, Tryz.results28, go_sem]) rfl ⟨_, by rw [HR.out], by rw [HR.out]; exact RdI.nil, Bl.call hbw.out hb1⟩
end
end Go.Proofs.YtmdncaoilegnnaaGreat

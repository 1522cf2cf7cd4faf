/- Lean texts of the claim. -/
import Derived.Test.YtmdncaoilegnnaaGreatXG62
import Derived.Test.YtmdncaoilegnnaaGreatXG59
namespace Go.Proofs.YtmdncaoilegnnaaGreat
set_option linter.unusedVariables false
set_option linter.unusedSimpArgs false
section
set_option maxRecDepth 100000
open Go.RowKit
theorem step_appP {w : World} {ops : Array Oper} {o : Oper} {a : Act} {K : Act → World → Prop} {Q : Exit → Act → World → Prop} {E : Prop} (hgd : o.guard = none) (s x : Operand)
 (ho : o.op = .call { callee := .builtin .append, args := #[s, x], argTypes := #[27, 27] })
 (base : Nat) (v : Value) (l : List Pt5) (hs : a.eval s = v) (hown : OwG 39 5 enP w base v l)
 (bx c : Nat) (p : Pt5) (tb : TypeId) (hx : a.eval x = .slice (some ⟨bx, 0, none⟩) 1 c) (hnew : BlkS w bx tb #[.int .i64 p.sh, .bool p.fl, .int .i64 p.qu, .int .i64 p.x, .int .i64 p.y])
 (hlen : l.length ≤ 4000000000) (hbase : base ≤ w.heap.size) (H : Nat) (hH : w.heap.size = H)
 (h : ∀ g cap w', OwG 39 5 enP w' base (.slice (some ⟨g, 0, none⟩) (l.length + 1) cap) (l ++ [p]) → w.grownBy w' v.ownBlock → (v.ownBlock = some g ∨ g = H) → g < w'.heap.size → K (a.put o.dst (.slice (some ⟨g, 0, none⟩) (l.length + 1) cap)) w') :
 if Region.wanted o (yielded ops a.tmps) = true then Oper.wp Tryz.prog o a w K Q else E := by
 obtain ⟨i, hi, hz0, hz1, hz2⟩ := info_parts infoP
 refine step_append_lies (P := Tryz.prog) w hgd s x 27 ho base 39 i (.agg #[.int .i64 0, .bool false, .int .i64 0, .int .i64 0, .int .i64 0]) 5 40 Tryz.underlying27 hi hz0 hz1 hz2 rfl (by omega) v l.length (l.flatMap enP) hs hown ⟨bx, 0, none⟩ 1 c (enP p) hx (by rw [enP_len]) ?_ (enP_one p) (by omega) (by unfold maxLen; omega) (by omega) hbase H hH ?_
 ·intro j u hj
  exact World.news_of_block (w := w) (B := bx) (cs := (enP p).toArray) (t := tb) (fr := (0, 0)) hnew j u (by simpa using hj)
 ·intro g cap w' ho' hg hat hlt
  refine h g cap w' ?_ hg hat hlt
  unfold OwG
  rw [List.length_append, List.flatMap_append]
  simpa using ho'
set_option maxHeartbeats 1000000 in
theorem rcands_1 (A1 A2 : Option Addr) (c1 c2 n1 n2 : Nat) (b : Bed4) (sh : Int) (fl : Bool) (qu : Int) (w : World) (hb : bedBad b = true) :
 Calls Tryz.prog 13 #[bedV b, .slice A1 n1 c1, .slice A2 n2 c2, .int .i64 sh, .agg #[.bool fl, .int .i64 qu]] w (RunRet w (3, [])) := by
 obtain ⟨len, wid, rx, ry⟩ := b
 have HB := Hj hb
 clear hb
 unfold bedV
 dsimp only
 go_enter Tryz.func13, Tryz.ntmps13
 go_wp2_with (go_at_call 34; refine (rsound_any ⟨len, wid, rx, ry⟩ _).mono ?_; rintro e w1 ⟨rfl, hb1⟩; rw [HB.out]; simp only [Bool.not_true])
 exact bodyPost_ret (v := .tuple #[.slice none 0 0, .int .i64 3]) (by simp [results, Tryz.results13, go_sem]) rfl ⟨_, rfl, OwG.nil, Bl.call (Bl.alloc (Bl.alloc Br _) _) hb1⟩
set_option maxHeartbeats 1000000 in
theorem rcands_2 (A1 A2 : Option Addr) (c1 c2 n1 n2 : Nat) (b : Bed4) (S : List Shp) (sh : Int) (fl : Bool) (qu : Int) (w : World) (hS : ShS w A1 n1 S) (hb : bedBad b = false) (r1 : Int) (hr : (Xe S ⟨sh, fl, qu, 0, 0⟩).1 = r1) (hr1 : r1 ≠ 0) :
 Calls Tryz.prog 13 #[bedV b, .slice A1 n1 c1, .slice A2 n2 c2, .int .i64 sh, .agg #[.bool fl, .int .i64 qu]] w (RunRet w (r1, [])) := by
 obtain ⟨len, wid, rx, ry⟩ := b
 have HB := Hj hb
 obtain ⟨r, hr⟩ : ∃ r, Xe S ⟨sh, fl, qu, 0, 0⟩ = (r1, r) := ⟨_, Prod.ext hr rfl⟩
 have HR := Hj hr
 have qo : (r1 != 0) = true := by simpa using hr1
 clear hb hr hr1
 unfold bedV
 dsimp only
 have H1 := Hj (BlkS.new2 w (.cells #[.int .i64 len, .int .i64 wid, .int .i64 rx, .int .i64 ry] 25) 29 #[.bool fl, .int .i64 qu])
 have hbw := Hj (show Below w.heap.size w ((w.alloc (.cells #[.int .i64 len, .int .i64 wid, .int .i64 rx, .int .i64 ry] 25)).alloc (.cells #[.bool fl, .int .i64 qu] 29)) from (Bl.alloc (Bl.alloc Br _) _))
 go_enter Tryz.func13, Tryz.ntmps13
 go_wp2_with (first | (go_at_call 35; have hz := hbS; refine (rpoly_any _ _ _ S ⟨sh, fl, qu, 0, 0⟩ _ (hS.keep hbS.out)).mono ?_; rintro e w2 ⟨v2, rfl, ho2, hb2⟩; rw [HR.out] at ho2 ⊢) | (go_at_call 34; refine (rsound_any ⟨len, wid, rx, ry⟩ _).mono ?_; rintro e w1 ⟨rfl, hb1⟩; rw [HB.out]; simp only [Bool.not_false]; have hbS := Hj (Bl.call hbw.out hb1); obtain ⟨t1, t2⟩ := (H1.out.keep hb1).cells2'))
 exact bodyPost_ret (v := .tuple #[.slice none 0 0, .int .i64 r1]) (by simp [results, Tryz.results13, go_sem]) rfl ⟨_, rfl, OwG.nil, Bl.call hbS.out hb2⟩
set_option maxHeartbeats 4000000 in
theorem rcands_3 (A1 A2 : Option Addr) (c1 c2 n1 n2 : Nat) (b : Bed4) (S : List Shp) (ps : List Pt5) (sh : Int) (fl : Bool) (qu : Int) (w : World) (hn2 : n2 ≤ 1000) (hS : ShS w A1 n1 S) (hPu : PuS w A2 n2 ps) (hb : bedBad b = false) (hr0 : (Xe S ⟨sh, fl, qu, 0, 0⟩).1 = 0) :
 Calls Tryz.prog 13 #[bedV b, .slice A1 n1 c1, .slice A2 n2 c2, .int .i64 sh, .agg #[.bool fl, .int .i64 qu]] w (RunRet w (candsW b S ps sh fl qu)) := by
 have HBAD := Hj (show (placTo S ps n2).1 ≠ 0 → candsW b S ps sh fl qu = ((placTo S ps n2).1, []) from fun h => by
  have e : prepW b S ps sh fl qu = ((placTo S ps n2).1, [], []) := by unfold prepW; rw [if_neg (by rw [hb]; simp), if_neg (by rw [hr0]; simp), hPu.1, if_pos h]
  have := cands_bad (b := b) (S := S) (ps := ps) (sh := sh) (fl := fl) (qu := qu) (by rw [e]; exact h)
  rw [e] at this
  exact this)
 have HOK := Hj (show (placTo S ps n2).1 = 0 → checkW (Xe S ⟨sh, fl, qu, 0, 0⟩).2 (Xe S ⟨sh, fl, qu, 0, 0⟩).2.length = 0 ∧ candsW b S ps sh fl qu = (0, (kR b.rx b.ry (shp S sh.toNat) fl qu (plR b (Xe S ⟨sh, fl, qu, 0, 0⟩).2 (placTo S ps n2).2) (plR b (Xe S ⟨sh, fl, qu, 0, 0⟩).2 (placTo S ps n2).2).length).map (candPut sh fl qu)) from fun h => by
  have e : prepW b S ps sh fl qu = (0, (Xe S ⟨sh, fl, qu, 0, 0⟩).2, (placTo S ps n2).2) := by unfold prepW; rw [if_neg (by rw [hb]; simp), if_neg (by rw [hr0]; simp), hPu.1, if_neg (by rw [h]; simp)]
  have := cands_ref (b := b) (S := S) (ps := ps) (sh := sh) (fl := fl) (qu := qu) (by rw [e])
  rw [e] at this
  dsimp only at this
  exact ⟨polyW_check hr0, this⟩)
 obtain ⟨k, hk, hkn, hkt⟩ := polyW_sh hr0
 dsimp only at hk hkn hkt
 obtain ⟨len, wid, rx, ry⟩ := b
 have HB := Hj hb
 have hlen := polyW_len S ⟨sh, fl, qu, 0, 0⟩
 obtain ⟨r, hr⟩ : ∃ r, Xe S ⟨sh, fl, qu, 0, 0⟩ = (0, r) := ⟨_, Prod.ext hr0 rfl⟩
 rw [hr] at HOK hlen
 rw [hkt] at HOK
 have HR := Hj hr
 dsimp only at HOK hlen
 clear hb hr hr0 hkt
 subst hk
 have hn1 : k < n1 := by rw [← hS.1]; exact hkn
 have hn1' := hS.2.1
 clear hkn
 unfold bedV
 dsimp only
 have H0 := Hj ((BlkS.new w 25 #[.int .i64 len, .int .i64 wid, .int .i64 rx, .int .i64 ry]).alloc (.cells #[.bool fl, .int .i64 qu] 29))
 have H1 := Hj (BlkS.new2 w (.cells #[.int .i64 len, .int .i64 wid, .int .i64 rx, .int .i64 ry] 25) 29 #[.bool fl, .int .i64 qu])
 have hbw := Hj (show Below w.heap.size w ((w.alloc (.cells #[.int .i64 len, .int .i64 wid, .int .i64 rx, .int .i64 ry] 25)).alloc (.cells #[.bool fl, .int .i64 qu] 29)) from (Bl.alloc (Bl.alloc Br _) _))
 go_enter Tryz.func13, Tryz.ntmps13
 go_wp2_with (first | (go_at_call 35; have hz := hbS; refine (rpoly_any _ _ _ S ⟨(k : Int), fl, qu, 0, 0⟩ _ (hS.keep hbS.out)).mono ?_; rintro e w2 ⟨v2, rfl, ho2, hb2⟩; rw [HR.out] at ho2 ⊢) | (go_at_call 34; refine (rsound_any ⟨len, wid, rx, ry⟩ _).mono ?_; rintro e w1 ⟨rfl, hb1⟩; rw [HB.out]; simp only [Bool.not_false]; have hbS := Hj (Bl.call hbw.out hb1); obtain ⟨t1, t2⟩ := (H1.out.keep hb1).cells2'))
 have hbA := Bl.call hbS.out hb2
 have K0 := Hj ((H0.out.keep hb1).keep hb2)
 have K1 := Hj ((H1.out.keep hb1).keep hb2)
 obtain ⟨Al, cl, rfl, hcl, hSl, -⟩ := OwS.sps ho2
 obtain ⟨nl, hnl⟩ : ∃ nl, r.length = nl := ⟨_, rfl⟩
 rw [hnl] at hSl hcl hlen HOK ⊢
 clear hnl ho2 hb1 hb2 hbS t1 t2 H0 H1 hbw HB HR
 have hSA := Hj (hS.keep hbA)
 have hPA := Hj (hPu.keep hbA)
 clear hS hPu
 go_loopw [14, 15] (fun v i wr => ∃ k : Nat, k ≤ n2 ∧ i = .int .i64 k ∧ Hid ((placTo S ps k).1 = 0) ∧ OwSS wr w2.heap.size v (placTo S ps k).2 ∧ Below w2.heap.size w2 wr) (fun _ i _ => n2 - (intOf i).toNat)
 case atStart => exact ⟨0, Nat.zero_le _, rfl, Hj rfl, OwSS.nil, Below.refl _ _⟩
 case round =>
  obtain ⟨i, hi, rfl, hz, ho, hbr⟩ := hrel
  by_cases hlt : i < n2
  ·obtain ⟨bb, ob, rfl, hbl, d1, d2, d3, d4, d5⟩ := (hPA.out.keep hbr).at_ hlt
   have hql := polyW_len S (pt ps i)
   have hsm := (placTo_small S ps i).1
   have hstep := Hj (show placTo S ps (i + 1) = if (Xe S (pt ps i)).1 ≠ 0 then ((Xe S (pt ps i)).1, []) else (0, (placTo S ps i).2 ++ [(Xe S (pt ps i)).2]) by rw [placTo, if_neg (by rw [hz.out]; simp)])
   obtain ⟨qq, hqq⟩ : ∃ qq, Xe S (pt ps i) = qq := ⟨_, rfl⟩
   rw [hqq] at hql hstep
   have HQQ := Hj hqq
   clear hqq
   obtain ⟨q1, q⟩ := qq
   dsimp only at hql hstep
   obtain ⟨pq, hpt⟩ : ∃ pq, pt ps i = pq := ⟨_, rfl⟩
   rw [hpt] at d1 d2 d3 d4 d5 HQQ
   clear hpt
   obtain ⟨sh2, fl2, qu2, x2, y2⟩ := pq
   dsimp only at d1 d2 d3 d4 d5
   have z1 : (i : Int) < (n2 : Int) := by omega
   by_cases hq1 : q1 = 0
   ·subst hq1
    rw [if_neg (by simp)] at hstep
    go_wp2_with (first | (go_at_call 35; refine (rpoly_any _ _ _ S ⟨sh2, fl2, qu2, x2, y2⟩ _ (hSA.out.keep hbr)).mono ?_; rintro e w5 ⟨v5, rfl, ho5, hb5⟩; rw [HQQ.out] at ho5 ⊢; obtain ⟨A5, c5, rfl, -, -, -, -⟩ := OwS.els ho5) | (at_builtin; refine wpList_appV rfl _ _ rfl w2.heap.size _ (placTo S ps i).2 rfl ((ho.keep hb5).alloc _) w5.heap.size 1 _ q 47 rfl (BlkS.new _ _ _) ((ElS.lower (OwS.els ho5) hbr.size).keep (Bl.alloc Br _)) (by omega) (Bl.alloc (Bl.call hbr hb5) _).size ?_; intro v7 w7 ho7 hg7 hat7))
    exact ⟨⟨i + 1, by omega, by go_num, Hj (by rw [hstep.out]), by rw [hstep.out]; exact ho7, below_appSS (Bl.alloc (Bl.call hbr hb5) _) ((ho.keep hb5).alloc _) hg7⟩, by simp [intOf]; omega⟩
   ·have qo : (q1 != 0) = true := by simpa using hq1
    rw [if_pos hq1] at hstep
    have hbad := placTo_bad (show (placTo S ps (i + 1)).1 = q1 by rw [hstep.out]) hq1 (n2 - (i + 1))
    rw [show i + 1 + (n2 - (i + 1)) = n2 by omega] at hbad
    have HP := Hj (HBAD.out (by rw [hbad]; exact hq1))
    rw [hbad] at HP
    clear hbad hq1
    go_wp2_with (go_at_call 35; refine (rpoly_any _ _ _ S ⟨sh2, fl2, qu2, x2, y2⟩ _ (hSA.out.keep hbr)).mono ?_; rintro e w5 ⟨v5, rfl, ho5, hb5⟩; rw [HQQ.out])
    exact bodyPost_ret (v := .tuple #[.slice none 0 0, .int .i64 q1]) (by simp [results, Tryz.results13, go_sem]) rfl ⟨_, by rw [HP.out], by rw [HP.out]; exact OwG.nil, Bl.call hbA (Bl.call hbr hb5)⟩
  ·obtain rfl : n2 = i := by omega
   obtain ⟨hck, hcd⟩ := HOK.out hz.out
   have HC := Hj hck
   have HCD := Hj hcd
   have hpsm := placTo_small S ps n2
   obtain ⟨pls, hpls⟩ : ∃ pls, (placTo S ps n2).2 = pls := ⟨_, rfl⟩
   rw [hpls] at ho hpsm HCD
   clear hpls hck hcd HBAD HOK hz
   have HPL := Hj (show ∀ t ∈ pls, t.length ≤ 1000 from fun t ht => Nat.le_trans (hpsm.2 t ht) (by omega))
   have hpl1 := hpsm.1
   clear hpsm
   obtain ⟨Ap, cp, rfl, hcp, hSp, -⟩ := ho.spss
   obtain ⟨np, hnp⟩ : ∃ np, pls.length = np := ⟨_, rfl⟩
   have HPR := Hj (show (plR ⟨len, wid, rx, ry⟩ r pls).length ≤ 2 + 1075840 * np by unfold plR; rw [← hnp]; exact plRTo_len _ _ _ _ _ _)
   rw [hnp] at hSp hcp hpl1 ⊢
   clear hnp ho
   obtain ⟨P, hP⟩ : ∃ P, plR ⟨len, wid, rx, ry⟩ r pls = P := ⟨_, rfl⟩
   have HPE := Hj hP
   rw [hP] at HPR HCD
   clear hP
   obtain ⟨a1, a2, a3, a4, -⟩ := (K0.out.keep hbr).cells4
   go_upto_region 16 with (go_at_call 36; refine (rplc_any _ _ _ _ _ _ ⟨len, wid, rx, ry⟩ r pls _ (by omega) HPL.out hcl (hSl.keep hbr) hSp HC.out).mono ?_; rintro e w6 ⟨v6, rfl, ho6, hb6⟩; rw [HPE.out] at ho6)
   obtain ⟨A6, c6, rfl, hc6, hS6, -⟩ := OwS.sps ho6
   obtain ⟨nP, hnP⟩ : ∃ nP, P.length = nP := ⟨_, rfl⟩
   rw [hnP] at hS6 hc6 HPR HCD ⊢
   have hPl := HPR.out
   clear hnP ho6 a1 a2 a3 a4
   have hbB := Bl.call (Bl.call hbA hbr) hb6
   have M0 := Hj ((K0.out.keep hbr).keep hb6)
   have M1 := Hj ((K1.out.keep hbr).keep hb6)
   have hS6' := Hj ((hSA.out.keep hbr).keep hb6)
   obtain ⟨wa, rfl⟩ : ∃ wa : World, wa = wr := ⟨_, rfl⟩
   clear K0 K1 hSA hPA hSl hSp HC hb6 hbr hbA HPR HPE HPL
   obtain ⟨ba, oa, rfl, hbl, hsh⟩ := hS6'.out.at_ hn1
   obtain ⟨s, hs⟩ : ∃ s, shp S k = s := ⟨_, rfl⟩
   rw [hs] at hsh HCD
   clear hs hbl hS6'
   obtain ⟨spl, gr, mt, ⟨ax, ay⟩⟩ := s
   obtain ⟨Ak, ck, g1, g2, g3, g4, g5, g6, g7, g8, g9⟩ := hsh
   dsimp only at g1 g2 g4 g6 g7 g8 g9
   obtain ⟨nk, hnk⟩ : ∃ nk, spl.length = nk := ⟨_, rfl⟩
   rw [hnk] at g1
   clear hnk g4 g2 g3 g5
   have zk1 : (0 : Int) ≤ (k : Int) := by omega
   have zk2 : (k : Int) < (n1 : Int) := by omega
   have HKL := Hj (kR_len (rx := rx) (ry := ry) (s := ⟨spl, gr, mt, (ax, ay)⟩) (fl := fl) (qu := qu) (sp := P))
   go_wp2_with fail
   go_loopw [18, 20] (fun v i wr => ∃ j : Nat, j ≤ nP ∧ i = .int .i64 j ∧ OwS wr w6.heap.size v (kR rx ry ⟨spl, gr, mt, (ax, ay)⟩ fl qu P j) ∧ Below w6.heap.size w6 wr) (fun _ i _ => nP - (intOf i).toNat)
   case atStart => exact ⟨0, Nat.zero_le _, rfl, OwG.nil, Below.refl _ _⟩
   case round =>
    obtain ⟨j, hj, rfl, ho, hb⟩ := hrel
    by_cases hjn : j < nP
    ·obtain ⟨a1, a2, a3, a4, -⟩ := (M0.out.keep hb).cells4
     obtain ⟨t1, t2⟩ := (M1.out.keep hb).cells2'
     have f1 := Xa hb g1
     have f6 := Xa hb g6
     have f7 := Xa hb g7
     have f8 := Xa hb g8
     have f9 := Xa hb g9
     obtain ⟨bq, oq, rfl, -, hcc⟩ := (hS6.keep hb).at_ hjn
     obtain ⟨x1, x2⟩ := hcc j hjn
     clear hcc
     have z1 : (0 : Int) ≤ (j : Int) := by omega
     have z2 : (j : Int) < (nP : Int) := by omega
     have hkl := HKL.out j
     have hbs := hb.size
     obtain ⟨q, ok, HOPT, HK⟩ : ∃ (q : Int × Int) (ok : Bool), Hid (optR ((gt P j).1, (gt P j).2) (setlW rx ry ⟨spl, gr, mt, (ax, ay)⟩ fl qu ((gt P j).1, (gt P j).2)) = .tuple #[.agg #[.int .i64 q.1, .int .i64 q.2], .bool ok]) ∧ Hid (kR rx ry ⟨spl, gr, mt, (ax, ay)⟩ fl qu P (j + 1) = if ok then insG lessS q (kR rx ry ⟨spl, gr, mt, (ax, ay)⟩ fl qu P j) else kR rx ry ⟨spl, gr, mt, (ax, ay)⟩ fl qu P j) := by
      cases hset : setlW rx ry ⟨spl, gr, mt, (ax, ay)⟩ fl qu (gt P j) with
      | none => exact ⟨gt P j, false, Hj rfl, Hj (by rw [kR_none hset]; rfl)⟩
      | some q => exact ⟨q, true, Hj rfl, Hj (by rw [kR_some hset]; rfl)⟩
     have HKP := Hj (show ∀ w' : World, Below wr.heap.size wr w' → (w'.cell? ⟨w.heap.size, 0, none⟩ = some (.int .i64 len) ∧ w'.cell? ⟨w.heap.size, 1, none⟩ = some (.int .i64 wid) ∧ w'.cell? ⟨w.heap.size, 2, none⟩ = some (.int .i64 rx) ∧ w'.cell? ⟨w.heap.size, 3, none⟩ = some (.int .i64 ry) ∧ w'.cell? ⟨w.heap.size + 1, 0, none⟩ = some (.bool fl) ∧ w'.cell? ⟨w.heap.size + 1, 1, none⟩ = some (.int .i64 qu) ∧ w'.cell? ⟨ba, oa + k * 5, none⟩ = some (.slice Ak nk ck) ∧ w'.cell? ⟨ba, oa + k * 5 + 1, none⟩ = some (.int .i64 gr) ∧ w'.cell? ⟨ba, oa + k * 5 + 2, none⟩ = some (.bool mt) ∧ w'.cell? ⟨ba, oa + k * 5 + 3, none⟩ = some (.int .i64 ax) ∧ w'.cell? ⟨ba, oa + k * 5 + 4, none⟩ = some (.int .i64 ay) ∧ w'.cell? ⟨bq, oq + j * 2, none⟩ = some (.int .i64 (gt P j).1) ∧ w'.cell? ⟨bq, oq + j * 2 + 1, none⟩ = some (.int .i64 (gt P j).2)) from fun w' h => ⟨Xa h a1, Xa h a2, Xa h a3, Xa h a4, Xa h t1, Xa h t2, Xa h f1, Xa h f6, Xa h f7, Xa h f8, Xa h f9, Xa h x1, Xa h x2⟩)
     have m1 := World.new_ne wr _ a1
     have m2 := World.new_ne wr _ t1
     have m3 := World.new_ne wr _ f1
     have m4 := World.new_ne wr _ x1
     dsimp only at m1 m2 m3 m4
     go_wp2_with fail
     go_cut [21, 22] from 65 to 88 (fun v21 v22 wx => ∃ g : Nat, v21 = .pointer (some ⟨g, 0, none⟩) ∧ v22 = .bool ok ∧ BlkS wx g 37 #[.int .i64 q.1, .int .i64 q.2] ∧ Below wr.heap.size wr wx)
     case first =>
      go_region_held3 (fun w' => w'.cell? ⟨w.heap.size, 0, none⟩ = some (.int .i64 len) ∧ w'.cell? ⟨w.heap.size, 1, none⟩ = some (.int .i64 wid) ∧ w'.cell? ⟨w.heap.size, 2, none⟩ = some (.int .i64 rx) ∧ w'.cell? ⟨w.heap.size, 3, none⟩ = some (.int .i64 ry) ∧ w'.cell? ⟨w.heap.size + 1, 0, none⟩ = some (.bool fl) ∧ w'.cell? ⟨w.heap.size + 1, 1, none⟩ = some (.int .i64 qu) ∧ w'.cell? ⟨ba, oa + k * 5, none⟩ = some (.slice Ak nk ck) ∧ w'.cell? ⟨ba, oa + k * 5 + 1, none⟩ = some (.int .i64 gr) ∧ w'.cell? ⟨ba, oa + k * 5 + 2, none⟩ = some (.bool mt) ∧ w'.cell? ⟨ba, oa + k * 5 + 3, none⟩ = some (.int .i64 ax) ∧ w'.cell? ⟨ba, oa + k * 5 + 4, none⟩ = some (.int .i64 ay) ∧ w'.cell? ⟨bq, oq + j * 2, none⟩ = some (.int .i64 (gt P j).1) ∧ w'.cell? ⟨bq, oq + j * 2 + 1, none⟩ = some (.int .i64 (gt P j).2))
       (first
        | exact HKP.out _ (Bl.call (Bl.drew Br) hb8)
        | exact HKP.out _ (Bl.alloc (Bl.call (Bl.drew Br) hb8) _)
        | exact HKP.out _ (Bl.call (Bl.alloc (Bl.drew Br) _) hb8)
        | exact HKP.out _ (Bl.set (Bl.set (Bl.call (Bl.alloc (Bl.drew Br) _) hb8) (p := ⟨wr.heap.size, 0, none⟩) (Nat.le_refl _) _) (p := ⟨wr.heap.size, 1, none⟩) (Nat.le_refl _) _)
        | go_keep)
       ((go_at_call 37; refine (rmatch_any len wid rx ry Ak nk ck spl gr mt ax ay fl qu (gt P j).1 (gt P j).2 _).mono ?_; rintro e w8 ⟨rfl, hb8⟩; rw [HOPT.out]; try (have kB : BlkS w8 wr.heap.size 37 #[.int .i64 0, .int .i64 0] := BlkS.keep (by exact BlkS.new wr _ _) hb8; obtain ⟨k1, k2, k3, k4, k5⟩ := kB.two)))
      all_goals go_wp2_with fail
      all_goals go_meet
      ·exact ⟨w8.heap.size, rfl, rfl, BlkS.new _ _ _, Bl.alloc (Bl.call (Bl.drew Br) hb8) _⟩
      ·exact ⟨wr.heap.size, rfl, rfl, (kB.set_ 0 _).set_ 1 _, Bl.set (Bl.set (Bl.call (Bl.alloc (Bl.drew Br) _) hb8) (p := ⟨wr.heap.size, 0, none⟩) (Nat.le_refl _) _) (p := ⟨wr.heap.size, 1, none⟩) (Nat.le_refl _) _⟩
     case rest =>
      clear a1 a2 a3 a4 t1 t2 f1 f6 f7 f8 f9 x1 x2 m1 m2 m3 m4 HKP HOPT
      obtain ⟨g, rfl, rfl, hBg, hbc⟩ := hcut
      obtain ⟨e1, e2, e3, e4, e5⟩ := hBg.two
      have ho2 : OwS wc w6.heap.size u18 (kR rx ry ⟨spl, gr, mt, (ax, ay)⟩ fl qu P j) := OwG.keep ho hbc
      have hbd := Bl.call hb hbc
      cases ok with
      | false =>
        go_wp2_with fail
        exact ⟨⟨j + 1, by omega, by go_num, by rw [HK.out]; exact ho2, hbd⟩, by simp [intOf]; omega⟩
      | true =>
        go_wp2_with (go_at_call 38; refine (rins_any w6.heap.size u18 (kR rx ry ⟨spl, gr, mt, (ax, ay)⟩ fl qu P j) q.1 q.2 _ hbd.size (by omega) ho2).mono ?_; rintro e w9 ⟨v9, rfl, ho9, hb9⟩)
        exact ⟨⟨j + 1, by omega, by go_num, by rw [HK.out]; exact ho9, Bl.call hbd hb9⟩, by simp [intOf]; omega⟩
    ·obtain rfl : nP = j := by omega
     have hkl := HKL.out nP
     obtain ⟨cs, hcs⟩ : ∃ cs, kR rx ry ⟨spl, gr, mt, (ax, ay)⟩ fl qu P nP = cs := ⟨_, rfl⟩
     have HCD2 := Hj (show candsW ⟨len, wid, rx, ry⟩ S ps (k : Int) fl qu = (0, cs.map (candPut (k : Int) fl qu)) by rw [← hcs]; exact HCD.out)
     rw [hcs] at ho hkl
     clear hcs HCD HKL
     obtain ⟨A5, c5, rfl, hc5, hS5, -⟩ := OwS.sps ho
     obtain ⟨nc, hnc⟩ : ∃ nc, cs.length = nc := ⟨_, rfl⟩
     rw [hnc] at hS5 hc5 hkl ⊢
     have HNC := Hj hnc
     clear hnc ho
     have hb0 := Bl.call hbB hb
     have K2 := Hj (M1.out.keep hb)
     clear M0 M1 g1 g6 g7 g8 g9 hb hbB
     obtain ⟨wc, rfl⟩ : ∃ wc : World, wc = wr := ⟨_, rfl⟩
     go_wp2_with fail
     go_loopw [23, 24] (fun v i wr => ∃ j : Nat, j ≤ nc ∧ i = .int .i64 j ∧ OwG 39 5 enP wr wc.heap.size v ((cs.take j).map (candPut (k : Int) fl qu)) ∧ Below wc.heap.size wc wr) (fun _ i _ => nc - (intOf i).toNat)
     case atStart => exact ⟨0, Nat.zero_le _, rfl, OwG.nil, Below.refl _ _⟩
     case round =>
      obtain ⟨j, hj, rfl, hoj, hbj⟩ := hrel
      by_cases hjn : j < nc
      ·obtain ⟨bc, oc, rfl, hblc, hccc⟩ := hS5.at_ hjn
       have x1 := Xa hbj (hccc j hjn).1
       have x2 := Xa hbj (hccc j hjn).2
       clear hccc
       have lt1 : w.heap.size + 1 < wc.heap.size := K2.out.lt
       obtain ⟨t1, t2⟩ := (K2.out.keep hbj).cells2'
       have hlj : ((cs.take j).map (candPut (k : Int) fl qu)).length = j := by rw [List.length_map, List.length_take, HNC.out]; omega
       have hst := Hj (show (cs.take (j + 1)).map (candPut (k : Int) fl qu) = (cs.take j).map (candPut (k : Int) fl qu) ++ [⟨(k : Int), fl, qu, (gt cs j).1, (gt cs j).2⟩] by
        rw [List.take_succ_eq_append_getElem (show j < cs.length by rw [HNC.out]; exact hjn), List.map_append]
        have : cs[j]'(show j < cs.length by rw [HNC.out]; exact hjn) = gt cs j := by unfold gt; rw [List.getD, List.getElem?_eq_getElem (show j < cs.length by rw [HNC.out]; exact hjn)]; rfl
        rw [this]; rfl)
       have HLJ := Hj hlj
       clear hlj
       obtain ⟨acc, hacc⟩ : ∃ acc, (cs.take j).map (candPut (k : Int) fl qu) = acc := ⟨_, rfl⟩
       rw [hacc] at hoj hst HLJ
       clear hacc
       have hlen5 : acc.length ≤ 4000000000 := by rw [HLJ.out]; omega
       have z1 : (0 : Int) ≤ (j : Int) := by omega
       have z2 : (j : Int) < (nc : Int) := by omega
       have hbs := hbj.size
       obtain ⟨sv, hsv⟩ : ∃ sv, sv = u23 := ⟨_, rfl⟩
       rw [← hsv] at hoj ⊢
       clear hsv
       have hne : some bc ≠ sv.ownBlock := fun e => by have := (OwG.lt hoj _ e.symm).1; omega
       have hne2 : some (w.heap.size + 1) ≠ sv.ownBlock := fun e => by have := (OwG.lt hoj _ e.symm).1; omega
       go_wp2_with fail
       go_region_held3 (fun w' => w'.cell? ⟨bc, oc + j * 2, none⟩ = some (.int .i64 (gt cs j).1) ∧ w'.cell? ⟨bc, oc + j * 2 + 1, none⟩ = some (.int .i64 (gt cs j).2) ∧ w'.cell? ⟨w.heap.size + 1, 0, none⟩ = some (.bool fl) ∧ w'.cell? ⟨w.heap.size + 1, 1, none⟩ = some (.int .i64 qu)) (first
        | go_keep
        | (go_split_ands
           refine ⟨?_, ?_, ?_, ?_⟩
           ·(rw [hgv.cell_far _ (by simp; omega) hne]; assumption)
           ·(rw [hgv.cell_far _ (by simp; omega) hne]; assumption)
           ·(rw [hgv.cell_far _ (by simp; omega) hne2]; assumption)
           ·(rw [hgv.cell_far _ (by simp; omega) hne2]; assumption)))
        ((refine step_appP (by rfl) _ _ (by rfl) wc.heap.size sv acc (by rfl) (OwG.keep (OwG.alloc hoj _) (Bl.drew Br)) wr.heap.size 1 ⟨(k : Int), fl, qu, (gt cs j).1, (gt cs j).2⟩ 39 (by rfl) (BlkS.drew (BlkS.new _ _ _)) hlen5 (by simp; omega) (wr.heap.size + 1) (by simp) ?_; intro gg cp wv hov hgv hat hlv))
       go_wp2_with fail
       exact ⟨⟨j + 1, by omega, by go_num, by rw [hst.out]; exact hov, below_app (Bl.drew (Bl.alloc hbj _)) (OwG.keep (OwG.alloc hoj _) (Bl.drew Br)) hgv⟩, by simp [intOf]; omega⟩
      ·obtain rfl : nc = j := by omega
       go_wp2_with fail
       exact bodyPost_ret (v := .tuple #[u23, .int .i64 0]) (by simp [results, Tryz.results13, go_sem]) rfl ⟨_, by rw [HCD2.out], by rw [HCD2.out]; rw [List.take_of_length_le (by rw [HNC.out]; exact Nat.le_refl _)] at hoj; exact hoj.lower hb0.size, Bl.call hb0 hbj⟩
theorem rcands_any (A1 A2 : Option Addr) (c1 c2 n1 n2 : Nat) (b : Bed4) (S : List Shp) (ps : List Pt5) (sh : Int) (fl : Bool) (qu : Int) (w : World) (hn2 : n2 ≤ 1000) (hS : ShS w A1 n1 S) (hPu : PuS w A2 n2 ps) :
 Calls Tryz.prog 13 #[bedV b, .slice A1 n1 c1, .slice A2 n2 c2, .int .i64 sh, .agg #[.bool fl, .int .i64 qu]] w (RunRet w (candsW b S ps sh fl qu)) := by
 by_cases hb : bedBad b = true
 ·have e : prepW b S ps sh fl qu = (3, [], []) := by unfold prepW; rw [if_pos hb]
  rw [cands_bad (by rw [e]; simp), e]
  exact rcands_1 A1 A2 c1 c2 n1 n2 b sh fl qu w hb
 ·have hb' : bedBad b = false := by simpa using hb
  by_cases h : (Xe S ⟨sh, fl, qu, 0, 0⟩).1 = 0
  ·exact rcands_3 A1 A2 c1 c2 n1 n2 b S ps sh fl qu w hn2 hS hPu hb' h
  ·have e : prepW b S ps sh fl qu = ((Xe S ⟨sh, fl, qu, 0, 0⟩).1, [], []) := by unfold prepW; rw [if_neg hb, if_pos h]
   rw [cands_bad (by rw [e]; exact h), e]
   exact rcands_2 A1 A2 c1 c2 n1 n2 b S sh fl qu w hS hb' _ rfl h
end
end Go.Proofs.YtmdncaoilegnnaaGreat

/- fill.Candidates. -/
import Derived.Test.YtmdncaoilegnnaaGreatUG24
namespace Go.Proofs.YtmdncaoilegnnaaGreat
set_option linter.unusedVariables false
set_option linter.unusedSimpArgs false
set_option linter.unusedVariables false
set_option linter.unusedSimpArgs false
open Go.RowKit

def candPut (sh : Int) (fl : Bool) (qu : Int) (a : Int × Int) : Pt5 := ⟨sh, fl, qu, a.1, a.2⟩
def candsW (b : Bed4) (S : List Shp) (ps : List Pt5) (sh : Int) (fl : Bool) (qu : Int) : Int × List Pt5 :=
  if (prepW b S ps sh fl qu).1 ≠ 0 then ((prepW b S ps sh fl qu).1, [])
  else if (candW b (shp S sh.toNat) fl qu (prepW b S ps sh fl qu).2.1 (prepW b S ps sh fl qu).2.2).1 ≠ 0 then ((candW b (shp S sh.toNat) fl qu (prepW b S ps sh fl qu).2.1 (prepW b S ps sh fl qu).2.2).1, [])
  else (0, (candW b (shp S sh.toNat) fl qu (prepW b S ps sh fl qu).2.1 (prepW b S ps sh fl qu).2.2).2.map (candPut sh fl qu))
theorem prepW_okT {b : Bed4} {S : List Shp} {ps : List Pt5} {sh : Int} {fl : Bool} {qu : Int} (h : (prepW b S ps sh fl qu).1 = 0) : (bedBad b = false ∧ (prepW b S ps sh fl qu).2.1 = (polyW S ⟨sh, fl, qu, 0, 0⟩).2) ∧ (polyW S ⟨sh, fl, qu, 0, 0⟩).1 = 0 ∧ (prepW b S ps sh fl qu).2.2 = (placTo S ps ps.length).2 := by
  obtain ⟨h1, h2, h3⟩ := prepW_ok h
  refine ⟨⟨h1, ?_⟩, h2, h3⟩
  unfold prepW at h ⊢
  rw [h1] at h ⊢
  simp only [Bool.false_eq_true, if_false] at h ⊢
  rw [if_neg (by rw [h2]; simp)] at h ⊢
  split at h
  · rename_i h4; exact absurd h h4
  · rename_i h4
    rw [if_neg h4]
theorem BlkS.cells2' {w : World} {g : Nat} {t : TypeId} {u0 u1 : Value} (h : BlkS w g t #[u0, u1]) : w.cell? ⟨g, 0, none⟩ = some u0 ∧ w.cell? ⟨g, 1, none⟩ = some u1 := ⟨h.cell 0, h.cell 1⟩
set_option maxHeartbeats 4000000 in
set_option maxRecDepth 100000 in
theorem cands_any (A1 A2 : Option Addr) (c1 c2 n1 n2 : Nat) (b : Bed4) (S : List Shp) (ps : List Pt5) (sh : Int) (fl : Bool) (qu : Int) (w : World) (hn2 : n2 ≤ 1000) (hS : ShS w A1 n1 S) (hPu : PuS w A2 n2 ps) :
    Calls Tryz.prog 12 #[bedV b, .slice A1 n1 c1, .slice A2 n2 c2, .int .i64 sh, .agg #[.bool fl, .int .i64 qu]] w (RunRet w (candsW b S ps sh fl qu)) := by
  have H0 := Lib.hid ((BlkS.new w 25 #[.int .i64 b.len, .int .i64 b.wid, .int .i64 b.rx, .int .i64 b.ry]).alloc (.cells #[.bool fl, .int .i64 qu] 29))
  have H1 := Lib.hid (BlkS.new2 w (.cells #[.int .i64 b.len, .int .i64 b.wid, .int .i64 b.rx, .int .i64 b.ry] 25) 29 #[.bool fl, .int .i64 qu])
  have hbw := Lib.hid (show Below w.heap.size w ((w.alloc (.cells #[.int .i64 b.len, .int .i64 b.wid, .int .i64 b.rx, .int .i64 b.ry] 25)).alloc (.cells #[.bool fl, .int .i64 qu] 29)) from (Bl.alloc (Bl.alloc (Below.refl _ _) _) _))
  by_cases hp : (prepW b S ps sh fl qu).1 = 0
  · obtain ⟨hb0, hp1, hp2⟩ := prepW_okT hp
    obtain ⟨k, hk, hkn, hkt⟩ := polyW_sh hp1
    dsimp only at hk hkn hkt
    have hplm := placTo_small S ps ps.length
    have HR := Lib.hid (show candsW b S ps sh fl qu = if (candW b (shp S k) fl qu (prepW b S ps sh fl qu).2.1 (prepW b S ps sh fl qu).2.2).1 ≠ 0 then ((candW b (shp S k) fl qu (prepW b S ps sh fl qu).2.1 (prepW b S ps sh fl qu).2.2).1, []) else (0, (candW b (shp S k) fl qu (prepW b S ps sh fl qu).2.1 (prepW b S ps sh fl qu).2.2).2.map (candPut sh fl qu)) by unfold candsW; rw [if_neg (by rw [hp]; simp), hkt])
    obtain ⟨l, hll⟩ : ∃ l, (prepW b S ps sh fl qu).2.1 = l := ⟨_, rfl⟩
    obtain ⟨pls, hpls⟩ : ∃ pls, (prepW b S ps sh fl qu).2.2 = pls := ⟨_, rfl⟩
    have hlen : l.length ≤ 40 := by rw [← hll, hb0.2]; exact polyW_len _ _
    rw [hll, hpls] at HR
    rw [hpls] at hp2
    rw [← hp2, hPu.1] at hplm
    have hpl1 := hplm.1
    have HPL := Lib.hid (show ∀ t ∈ pls, t.length ≤ 1000 from fun t ht => Nat.le_trans (hplm.2 t ht) (by omega))
    have HLL := Lib.hid hll
    have HPLS := Lib.hid hpls
    have HP := Lib.hid hp
    clear hpls hp2 hp1 hp hplm hkt hb0 hll
    subst hk
    have hn1 : k < n1 := by rw [← hS.1]; exact hkn
    have hn1' := hS.2.1
    clear hkn
    obtain ⟨ba, oa, rfl, hbl, hsh⟩ := hS.at_ hn1
    have HSH := Lib.hid hsh
    obtain ⟨s, hs⟩ : ∃ s, shp S k = s := ⟨_, rfl⟩
    rw [hs] at HSH HR
    clear hs hsh hbl
    obtain ⟨len, wid, rx, ry⟩ := b
    unfold bedV
    dsimp only at H0 H1 hbw ⊢
    have hcok := candW_ok ⟨len, wid, rx, ry⟩ s fl qu l pls
    obtain ⟨cw, hcw⟩ : ∃ cw, candW ⟨len, wid, rx, ry⟩ s fl qu l pls = cw := ⟨_, rfl⟩
    rw [hcw] at HR hcok
    have HCW := Lib.hid hcw
    clear hcw
    obtain ⟨e1, cs⟩ := cw
    dsimp only at HR hcok
    obtain ⟨nl, hnl⟩ : ∃ nl, l.length = nl := ⟨_, rfl⟩
    rw [hnl] at hlen
    have HNL := Lib.hid hnl
    clear hnl
    go_enter Tryz.func12, Tryz.ntmps12
    go_upto_region 4 with (go_at_call 32; refine (prep_any _ A2 c1 c2 n1 n2 ⟨len, wid, rx, ry⟩ S ps (k : Int) fl qu _ (by omega) (hS.keep hbw.out) (hPu.keep hbw.out)).mono ?_; rintro e w1 ⟨v1, v2, rfl, ho1, ho2, hb1⟩; rw [HLL.out] at ho1; rw [HPLS.out] at ho2; rw [HP.out])
    obtain ⟨Al, cl, rfl, hcl, hSl, -⟩ := OwS.sps ho1
    rw [HNL.out] at hSl hcl ⊢
    obtain ⟨Ap, cp, rfl, hcp, hSp, -⟩ := ho2.spss
    have hbA := Bl.call hbw.out hb1
    have hshA := HSH.out.keep hbA
    have K0 := Lib.hid (H0.out.keep hb1)
    have K1 := Lib.hid (H1.out.keep hb1)
    clear ho1 ho2 hb1 hbw H0 H1 hS hPu HSH
    obtain ⟨np, hnp⟩ : ∃ np, pls.length = np := ⟨_, rfl⟩
    rw [hnp] at hSp hcp hpl1 hcok ⊢
    clear hnp
    obtain ⟨spl, gr, mt, ⟨ax, ay⟩⟩ := s
    obtain ⟨Ak, ck, g1, g2, g3, g4, g5, g6, g7, g8, g9⟩ := hshA
    dsimp only at g1 g2 g4 g6 g7 g8 g9
    obtain ⟨nk, hnk⟩ : ∃ nk, spl.length = nk := ⟨_, rfl⟩
    rw [hnk] at g1 g2 g4
    clear hnk g4
    obtain ⟨a1, a2, a3, a4, -⟩ := K0.out.cells4
    obtain ⟨t1, t2⟩ := K1.out.cells2'
    have hcs1 := hcok.1
    clear hcok
    go_cut [15, 14] (fun v15 v14 wx => v14 = .int .i64 e1 ∧ OwS wx w1.heap.size v15 cs ∧ Below w1.heap.size w1 wx)
    case first =>
      go_region_held3 (fun w' => w'.cell? ⟨w.heap.size, 0, none⟩ = some (.int .i64 len) ∧ w'.cell? ⟨w.heap.size, 1, none⟩ = some (.int .i64 wid) ∧ w'.cell? ⟨w.heap.size, 2, none⟩ = some (.int .i64 rx) ∧ w'.cell? ⟨w.heap.size, 3, none⟩ = some (.int .i64 ry) ∧ w'.cell? ⟨w.heap.size + 1, 0, none⟩ = some (.bool fl) ∧ w'.cell? ⟨w.heap.size + 1, 1, none⟩ = some (.int .i64 qu) ∧ w'.cell? ⟨ba, oa + k * 5, none⟩ = some (.slice Ak nk ck) ∧ w'.cell? ⟨ba, oa + k * 5 + 1, none⟩ = some (.int .i64 gr) ∧ w'.cell? ⟨ba, oa + k * 5 + 2, none⟩ = some (.bool mt) ∧ w'.cell? ⟨ba, oa + k * 5 + 3, none⟩ = some (.int .i64 ax) ∧ w'.cell? ⟨ba, oa + k * 5 + 4, none⟩ = some (.int .i64 ay))
        (first
          | go_keep
          | exact ⟨cell_keep hb8 a1, cell_keep hb8 a2, cell_keep hb8 a3, cell_keep hb8 a4, cell_keep hb8 t1, cell_keep hb8 t2, cell_keep hb8 g1, cell_keep hb8 g6, cell_keep hb8 g7, cell_keep hb8 g8, cell_keep hb8 g9⟩)
        ((first
          | (go_at_call 33; refine (cand_any _ _ Ak _ _ _ _ nk ck ⟨len, wid, rx, ry⟩ ⟨spl, gr, mt, (ax, ay)⟩ fl qu l pls _ (by omega) (by omega) HPL.out hcl (hSl.keep (Bl.drew (Below.refl _ _))) (hSp.keep (Bl.drew (Below.refl _ _)))).mono ?_; rintro e w8 ⟨v8, rfl, ho8, hb8⟩; rw [HCW.out] at ho8 ⊢)))
      all_goals go_wp2_with fail
      all_goals go_meet
      all_goals exact ⟨rfl, ho8, Bl.call (Bl.drew (Below.refl _ _)) hb8⟩
    case rest =>
      clear g1 g6 g7 g8 g9 a1 a2 a3 a4 t1 t2
      obtain ⟨rfl, ho, hbc⟩ := hcut
      have hb0 := Bl.call hbA hbc
      have K2 := Lib.hid (K1.out.keep hbc)
      by_cases he1 : e1 = 0
      · subst he1
        rw [if_neg (by simp)] at HR
        obtain ⟨A5, c5, rfl, hc5, hS5, -⟩ := OwS.sps ho
        obtain ⟨nc, hnc⟩ : ∃ nc, cs.length = nc := ⟨_, rfl⟩
        rw [hnc] at hS5 hc5 hcs1 ⊢
        have HNC := Lib.hid hnc
        clear hnc ho
        go_wp2_with fail
        go_loopw [16, 49] (fun v i wr => ∃ j : Nat, j ≤ nc ∧ i = .int .i64 j ∧ OwG 39 5 enP wr wc.heap.size v ((cs.take j).map (candPut (k : Int) fl qu)) ∧ Below wc.heap.size wc wr) (fun _ i _ => nc - (intOf i).toNat)
        case atStart => exact ⟨0, Nat.zero_le _, rfl, OwG.nil, Below.refl _ _⟩
        case round =>
          obtain ⟨j, hj, rfl, hoj, hbj⟩ := hrel
          by_cases hjn : j < nc
          · obtain ⟨bc, oc, rfl, hblc, hccc⟩ := (hS5.keep hbj).at_ hjn
            obtain ⟨x1, x2⟩ := hccc j hjn
            clear hccc
            obtain ⟨t1, t2⟩ := (K2.out.keep hbj).cells2'
            have lt1 := lt_of_cell t1
            dsimp only at lt1
            have hlj : ((cs.take j).map (candPut (k : Int) fl qu)).length = j := by rw [List.length_map, List.length_take, HNC.out]; omega
            have hst := Lib.hid (show (cs.take (j + 1)).map (candPut (k : Int) fl qu) = (cs.take j).map (candPut (k : Int) fl qu) ++ [⟨(k : Int), fl, qu, (gt cs j).1, (gt cs j).2⟩] by
              rw [List.take_succ_eq_append_getElem (show j < cs.length by rw [HNC.out]; exact hjn), List.map_append]
              have : cs[j]'(show j < cs.length by rw [HNC.out]; exact hjn) = gt cs j := by unfold gt; rw [List.getD, List.getElem?_eq_getElem (show j < cs.length by rw [HNC.out]; exact hjn)]; rfl
              rw [this]; rfl)
            have HLJ := Lib.hid hlj
            clear hlj
            obtain ⟨acc, hacc⟩ : ∃ acc, (cs.take j).map (candPut (k : Int) fl qu) = acc := ⟨_, rfl⟩
            rw [hacc] at hoj hst HLJ
            clear hacc
            go_wp2_with (at_builtin; refine wpList_app1 rfl _ _ 27 rfl enP wc.heap.size 39 (.agg #[.int .i64 0, .bool false, .int .i64 0, .int .i64 0, .int .i64 0]) 5 40 Tryz.underlying27 infoP rfl (by omega) enP_len enP_one _ acc rfl ((hoj.alloc _).alloc _) (wr.heap.size + 1) 1 ⟨(k : Int), fl, qu, (gt cs j).1, (gt cs j).2⟩ 39 rfl (BlkS.new2 _ _ _ _) (by rw [HLJ.out]; unfold maxLen; omega) (by rw [HLJ.out]; omega) (Bl.alloc (Bl.alloc hbj _) _).size ?_; intro v' w2 ho' hg' hat')
            exact ⟨⟨j + 1, by omega, by go_num, by rw [hst.out]; exact ho', below_app (Bl.alloc (Bl.alloc hbj _) _) ((hoj.alloc _).alloc _) hg'⟩, by simp [intOf]; omega⟩
          · obtain rfl : nc = j := by omega
            go_wp2_with fail
            exact bodyPost_ret (v := .tuple #[u16, .int .i64 0]) (by simp [results, Tryz.results12, go_sem]) rfl ⟨_, by rw [HR.out], by rw [HR.out]; rw [List.take_of_length_le (by rw [HNC.out]; exact Nat.le_refl _)] at hoj; exact hoj.lower hb0.size, Bl.call hb0 hbj⟩
      · have qe : (e1 != 0) = true := by simpa using he1
        rw [if_pos he1] at HR
        clear he1
        obtain ⟨A5, c5, rfl, hc5, hS5, -⟩ := OwS.sps ho
        go_wp2_with fail
        exact bodyPost_ret (v := .tuple #[.slice none 0 0, .int .i64 e1]) (by simp [results, Tryz.results12, go_sem]) rfl ⟨_, by rw [HR.out], by rw [HR.out]; exact OwG.nil, hb0⟩
  · have q : ((prepW b S ps sh fl qu).1 != 0) = true := by simpa using hp
    have HR := Lib.hid (show candsW b S ps sh fl qu = ((prepW b S ps sh fl qu).1, []) by unfold candsW; rw [if_pos hp])
    clear hp
    obtain ⟨len, wid, rx, ry⟩ := b
    unfold bedV
    dsimp only at H0 H1 hbw q ⊢
    go_enter Tryz.func12, Tryz.ntmps12
    go_wp2_with (go_at_call 32; refine (prep_any _ A2 c1 c2 n1 n2 ⟨len, wid, rx, ry⟩ S ps sh fl qu _ (by omega) (hS.keep hbw.out) (hPu.keep hbw.out)).mono ?_; rintro e w1 ⟨v1, v2, rfl, ho1, ho2, hb1⟩)
    exact bodyPost_ret (v := .tuple #[.slice none 0 0, .int .i64 (prepW ⟨len, wid, rx, ry⟩ S ps sh fl qu).1]) (by simp [results, Tryz.results12, go_sem]) rfl ⟨_, by rw [HR.out], by rw [HR.out]; exact OwG.nil, Bl.call hbw.out hb1⟩
end Go.Proofs.YtmdncaoilegnnaaGreat

/- Lean texts of the claim. -/
import Derived.Test.YtmdncaoilegnnaaGreatXG15
import Derived.Test.YtmdncaoilegnnaaGreatXD
import Derived.Test.YtmdncaoilegnnaaGreatXG16
namespace Go.Proofs.YtmdncaoilegnnaaGreat
set_option linter.unusedVariables false
set_option linter.unusedSimpArgs false
section
set_option maxRecDepth 100000
open Go.RowKit Go.Maps
section
variable {α : Type} [DecidableEq α]
def uniq : List α → List α
 | [] => []
 | x :: l => if x ∈ l then uniq l else x :: uniq l
theorem mem_uniq {l : List α} {x : α} : x ∈ uniq l ↔ x ∈ l := by
 induction l with
 | nil => simp [uniq]
 | cons a l ih =>
   unfold uniq; split
   ·rename_i h
    rw [ih]; constructor
    ·exact fun h => List.mem_cons_of_mem _ h
    ·intro h'; rcases List.mem_cons.1 h' with rfl | h'
     ·exact h
     ·exact h'
   ·rw [List.mem_cons, List.mem_cons, ih]
theorem nodup_uniq (l : List α) : (uniq l).Nodup := by
 induction l with
 | nil => exact List.nodup_nil
 | cons a l ih =>
   unfold uniq; split
   ·exact ih
   ·rename_i h
    rw [List.nodup_cons]
    exact ⟨fun h' => h (mem_uniq.1 h'), ih⟩
theorem perm_of_mem {l m : List α} (hl : l.Nodup) (hm : m.Nodup) (h : ∀ x, x ∈ l ↔ x ∈ m) : l.Perm m := by
 induction l generalizing m with
 | nil =>
   have : m = [] := by
    cases m with
    | nil => rfl
    | cons a m => exact absurd ((h a).2 (by simp)) (by simp)
   rw [this]
 | cons a l ih =>
   have ha : a ∈ m := (h a).1 (by simp)
   rw [List.nodup_cons] at hl
   refine (List.Perm.cons a (ih hl.2 (hm.erase a) fun x => ?_)).trans (List.perm_cons_erase ha).symm
   rw [hm.mem_erase_iff]
   constructor
   ·intro hx
    exact ⟨fun e => hl.1 (e ▸ hx), (h x).1 (List.mem_cons_of_mem _ hx)⟩
   ·rintro ⟨h1, h2⟩
    rcases List.mem_cons.1 ((h x).2 h2) with e | h'
    ·exact absurd e h1
    ·exact h'
end
theorem sortW_perm {l m : List (Int × Int)} (h : l.Perm m) : sortW l = sortW m := by
 unfold sortW
 refine List.Perm.eq_of_pairwise (le := fun x y => (!ltOf cmpS y x) = true) ?_ ?_ ?_ ((List.mergeSort_perm _ _).trans (h.trans (List.mergeSort_perm _ _).symm))
 ·intro a b _ _ h1 h2
  exact totS a b (by simpa using h2) (by simpa using h1)
 all_goals
  exact List.pairwise_mergeSort (fun a b c h1 h2 => by
   have := swoS.ntrans c b a (by simpa using h2) (by simpa using h1)
   simpa using this) (fun a b => by
   rw [ltS, ltS]; unfold lessS; simp; omega) _
def spotsOf (rs : List (List (Int × Int))) : List (Int × Int) := sortW ((uniq rs.flatten).filter fun p => !blockedW rs p)
def spotsW (a b : List (Int × Int)) : Int × List (Int × Int) := if (regionsW a b).1 ≠ 0 then ((regionsW a b).1, []) else (0, spotsOf (regionsW a b).2)
/-! ### the vertices of regions are small -/
theorem SumW_in (a b : List (Int × Int)) : ∀ p ∈ (SumW a b).2, outB 4194304 p = false := by
 unfold SumW
 split
 ·simp
 ·split
  ·simp
  ·split
   ·simp
   ·split
    ·simp
    ·rename_i h _
     intro p hp
     obtain ⟨i, hi, rfl⟩ := gt_mem hp
     cases ho : outB 4194304 (gt ((hullW (sumTo (HullW a).2 (HullW b).2 (HullW a).2.length)).getD []) i) with
     | false => rfl
     | true => exact absurd (AnyB.iff.2 ⟨i, hi, ho⟩) h
theorem regIn_in {s : List (Int × Int)} {ts acc : List (List (Int × Int))} (h : ∀ t ∈ acc, ∀ p ∈ t, outB 4194304 p = false) : ∀ j, ∀ t ∈ (regIn s ts acc j).2, ∀ p ∈ t, outB 4194304 p = false := by
 intro j
 induction j with
 | zero => exact h
 | succ j ih =>
   rw [regIn]
   split
   ·exact ih
   ·split
    ·simp
    ·intro t ht
     rcases List.mem_append.1 ht with ht | ht
     ·exact ih t ht
     ·simp at ht; subst ht; exact SumW_in _ _
theorem regTo_in {ss ts : List (List (Int × Int))} : ∀ k, ∀ t ∈ (regTo ss ts k).2, ∀ p ∈ t, outB 4194304 p = false := by
 intro k
 induction k with
 | zero => simp [regTo]
 | succ k ih =>
   rw [regTo]
   split
   ·exact ih
   ·exact regIn_in ih _
theorem cpTo_mem {α : Type} {eq : α → α → Bool} {l : List α} {d : α} : ∀ (k : Nat), k ≤ l.length → ∀ x ∈ cpTo eq l d k, x ∈ l := by
 intro k
 induction k with
 | zero => simp [cpTo]
 | succ k ih =>
   intro hk x hx
   rw [cpTo] at hx
   split at hx
   ·exact ih (by omega) x hx
   ·rcases List.mem_append.1 hx with hx | hx
    ·exact ih (by omega) x hx
    ·simp at hx; subst hx
     simp [show k < l.length by omega]
theorem compW_mem {α : Type} {eq : α → α → Bool} {l : List α} {d x : α} (h : x ∈ compW eq d l) : x ∈ l := cpTo_mem l.length (Nat.le_refl _) x h
theorem regionsW_in (a b : List (Int × Int)) : (regionsW a b).2.length ≤ 1681 ∧ ∀ t ∈ (regionsW a b).2, t.length ≤ 160 ∧ ∀ p ∈ t, outB 4194304 p = false := by
 unfold regionsW
 split
 ·simp
 ·split
  ·simp
  ·split
   ·simp
   ·have h1 := regTo_small (ss := (Xb a).2) (ts := (Xb b).2) (Xb a).2.length
    have h2 := regTo_in (ss := (Xb a).2) (ts := (Xb b).2) (Xb a).2.length
    refine ⟨?_, fun t ht => ?_⟩
    ·refine Nat.le_trans (cpTo_len _) ?_
     rw [sortLW_len]
     exact Nat.le_trans h1.1 (Nat.le_trans (Nat.mul_le_mul (splitAllW_small a).1 (splitAllW_small b).1) (by omega))
    ·have := sortLW_mem.1 (compW_mem ht)
     exact ⟨h1.2 t this, h2 t this⟩
theorem okS_of_out {p : Int × Int} (h : outB 4194304 p = false) : okS p := by
 unfold outB at h
 simp at h
 unfold okS inR
 omega
theorem flat_succ {rs : List (List (Int × Int))} {k : Nat} (h : k < rs.length) : (rs.take (k + 1)).flatten = (rs.take k).flatten ++ lt_ rs k := by
 rw [List.take_succ_eq_append_getElem h, List.flatten_append]
 simp [lt_, h]
theorem setBelow {w0 w w' : World} {b : Nat} (hb : Below w0.heap.size w0 w) (hg : w.grownBy w' (some b)) (h : w0.heap.size ≤ b) : Below w0.heap.size w0 w' :=
 Below.grown hb hg hb.size (fun k hk => by cases hk; exact h)
theorem zeroB : ∀ w, (zeroValue 4).run Tryz.prog w = .ok (.bool false) w := fun _ => by kernel_rfl
theorem OwG.notMap {α : Type} {e : TypeId} {size : Nat} {enc : α → List Value} {w : World} {base b : Nat} {v : Value} {l : List α} (h : OwG e size enc w base v l) (hb : ∀ cs t fr, w.heap[b]? ≠ some (.cells cs t fr)) : v.ownBlock ≠ some b := by
 rcases h.2 with ⟨rfl, _⟩ | ⟨g, cap, cur, rfl, _, hg, _⟩
 ·simp [Value.ownBlock]
 ·intro e
  have : g = b := by simpa [Value.ownBlock] using e
  subst this
  exact hb _ _ _ hg
theorem RgSet.noCells {α : Type} {P : Program} {k e : TypeId} {ok : α → Prop} {kl : α → Lit} {w : World} {b r n : Nat} {S L : List α} {cnt : Nat} (h : RgSet P k e ok kl w b r n S L cnt) : (∀ cs t fr, w.heap[b]? ≠ some (.cells cs t fr)) ∧ (∀ cs t fr, w.heap[r]? ≠ some (.cells cs t fr)) ∧ b < w.heap.size ∧ r < w.heap.size := by
 obtain ⟨D, left, ⟨es, clock, since, seen, c0, h1, _, _, _, h2, _⟩, _⟩ := h
 refine ⟨?_, ?_, lt_of_heap h1, lt_of_heap h2⟩
 ·intro cs t fr h; rw [h1] at h; cases h
 ·intro cs t fr h; rw [h2] at h; cases h
theorem RgSet.small {α : Type} {P : Program} {k e : TypeId} {ok : α → Prop} {kl : α → Lit} {w : World} {b r n : Nat} {S L : List α} {cnt : Nat} (h : RgSet P k e ok kl w b r n S L cnt) : cnt ≤ n := by
 obtain ⟨D, left, ⟨es, clock, since, seen, c0, h1, _, h2, _, _, _, h3, _⟩, _⟩ := h
 rw [← h3]
 refine Nat.le_trans ?_ h2
 unfold leftOf
 exact Array.size_filter_le
theorem entNcmp : ∀ args w, (callFunc 121 args).run Tryz.prog w = .ok (.enter 121 args) w := by
 intro args w
 kernel_rfl
set_option maxHeartbeats 2000000 in
theorem spots_any (A B : Option Addr) (ca cb na nb : Nat) (a b : List (Int × Int)) (w : World) (hna : na ≤ 9223372036854775807) (hnb : nb ≤ 9223372036854775807) (hca : na ≤ ca) (hcb : nb ≤ cb) (hsA : SpS w A na a) (hsB : SpS w B nb b) :
 Calls Tryz.prog 92 #[.slice A na ca, .slice B nb cb] w (RetSE w (spotsW a b)) := by
 by_cases h1 : (regionsW a b).1 = 0
 ·have hin := regionsW_in a b
  obtain ⟨rs, hrs⟩ : ∃ rs, (regionsW a b).2 = rs := ⟨_, rfl⟩
  have hW := Hj (show spotsW a b = (0, spotsOf rs) by unfold spotsW; rw [if_neg (by simpa using h1), hrs])
  rw [hrs] at hin
  have HRS := Hj hrs
  have hrl := hin.1
  have HIN := Hj hin.2
  have HLEN := Hj (show ∀ t ∈ rs, t.length ≤ 1000000 from fun t ht => Nat.le_trans (hin.2 t ht).1 (by omega))
  clear hrs hin
  have hmm := @run_makeMap Tryz.prog
  go_enter Tryz.func92, Tryz.ntmps92
  go_upto_region 5 with (go_at_call 119; refine (regions_any _ _ _ _ _ _ a b _ hna hnb hca hcb hsA hsB).mono ?_; rintro e w1 ⟨v1, rfl, ho1, hb1⟩; rw [HRS.out] at ho1)
  clear hmm
  obtain ⟨A1, c1, rfl, hc1, hS1, -⟩ := ho1.spss
  obtain ⟨nr, hnr⟩ : ∃ nr, rs.length = nr := ⟨_, rfl⟩
  rw [hnr] at hS1 hc1 hrl ⊢
  have HNR := Hj hnr
  clear hnr ho1
  obtain ⟨BM, hBM⟩ : ∃ BM, BM = w1.heap.size := ⟨_, rfl⟩
  have hm0 : OwSet Tryz.prog 37 4 okS klS (w1.alloc (.map #[] 0)) BM 0 [] := by rw [hBM]; exact OwSet.made w1
  have hBM' : w1.heap.size ≤ BM := by omega
  rw [← hBM]
  have HM0 := Hj hm0
  have HB0 := Hj (Bl.alloc (Below.refl w1.heap.size w1) (.map #[] 0))
  clear hm0 hBM
  go_wp2_with fail
  go_loopw [27] (fun i wr => ∃ k : Nat, k ≤ nr ∧ i = .int .i64 k ∧ OwSet Tryz.prog 37 4 okS klS wr BM (k * 160) (rs.take k).flatten ∧ Below w1.heap.size w1 wr) (fun i _ => nr - (intOf i).toNat)
  case atStart => exact ⟨0, Nat.zero_le _, rfl, HM0.out.mono (Nat.zero_le _), HB0.out⟩
  case round =>
   clear HM0 HB0
   obtain ⟨k, hk, rfl, hm, hbr⟩ := hrel
   by_cases hlt : k < nr
   ·obtain ⟨b1, o1, Ak, ck, rfl, hbl, e1, e2, e3, e4⟩ := hS1.at_ hlt
    have HT := Hj (HIN.out _ (lt_mem (ls := rs) (k := k) (by rw [HNR.out]; exact hlt)))
    have l1 : (lt_ rs k).length ≤ 160 := HT.out.1
    obtain ⟨nk, hnk⟩ : ∃ nk, (lt_ rs k).length = nk := ⟨_, rfl⟩
    rw [hnk] at e1 e2 e3 l1
    have HNK := Hj hnk
    clear hnk
    have e1' := Xa hbr e1
    clear e1 hbl
    go_wp2_with fail
    clear e1'
    obtain ⟨wo, rfl⟩ : ∃ wo : World, wo = wr := ⟨_, rfl⟩
    go_loopw [33] (fun i wx => ∃ j : Nat, j ≤ nk ∧ i = .int .i64 j ∧ OwSet Tryz.prog 37 4 okS klS wx BM (k * 160 + j) ((rs.take k).flatten ++ (lt_ rs k).take j) ∧ Below w1.heap.size w1 wx) (fun i _ => nk - (intOf i).toNat)
    case atStart => exact ⟨0, Nat.zero_le _, rfl, by rw [List.take_zero, List.append_nil]; exact hm, hbr⟩
    case round =>
     clear hm hbr
     obtain ⟨j, hj, rfl, hm, hbx⟩ := hrel
     by_cases hjn : j < nk
     ·obtain ⟨b2, o2, rfl, hbl2, hc⟩ := (e3.keep hbx).at_ hjn
      obtain ⟨d1, d2⟩ := hc j hjn
      clear hc
      have hj' : j < (lt_ rs k).length := by rw [HNK.out]; exact hjn
      have hok : okS (gt (lt_ rs k) j) := okS_of_out (HT.out.2 _ (List.mem_of_getElem? (gt_some hj')))
      have HE := Hj (show (rs.take k).flatten ++ (lt_ rs k).take (j + 1) = (rs.take k).flatten ++ (lt_ rs k).take j ++ [gt (lt_ rs k) j] by rw [List.append_assoc, List.take_succ_eq_append_getElem hj']; simp [gt, hj'])
      have hkj : k * 160 + j < maxLen := by unfold maxLen; omega
      go_wp2_with (at_mapUpdate; refine wpList_setPut rfl _ _ _ 101 rfl repS Tryz.underlying101 Tryz.underlying4 rfl (hm.alloc _) hkj (gt (lt_ rs k) j) hok rfl rfl ?_; intro w5 ho5 hg5)
      exact ⟨⟨j + 1, by omega, by go_num, by rw [HE.out]; exact ho5, setBelow (Bl.alloc hbx _) hg5 hBM'⟩, by simp [intOf]; omega⟩
     ·obtain rfl : nk = j := by omega
      have HE := Hj (show (rs.take (k + 1)).flatten = (rs.take k).flatten ++ (lt_ rs k).take nk by rw [flat_succ (by rw [HNR.out]; exact hlt), List.take_of_length_le (l := lt_ rs k) (by rw [HNK.out]; exact Nat.le_refl _)])
      go_wp2_with fail
      exact ⟨⟨k + 1, by omega, by go_num, by rw [HE.out]; exact hm.mono (by omega), hbx⟩, by simp [intOf]; omega⟩
   ·obtain rfl : nr = k := by omega
    rw [List.take_of_length_le (by rw [HNR.out]; exact Nat.le_refl _)] at hm
    obtain ⟨wo, rfl⟩ : ∃ wo : World, wo = wr := ⟨_, rfl⟩
    go_wp2_with (at_range; refine wpList_setRange rfl _ 101 rfl repS Tryz.underlying101 rfl hm ?_; intro w6 cnt6 hrg6 hg6 hs6)
    obtain ⟨BI, hBI⟩ : ∃ BI, BI = wo.heap.size := ⟨_, rfl⟩
    rw [← hBI] at hrg6 ⊢
    have hb6 : Below w1.heap.size w1 w6 := Bl.call hbr ⟨hg6.os, hg6.tape, hg6.output, hg6.size, fun k hk => hg6.block k hk (by simp)⟩
    have hBI' : w1.heap.size ≤ BI := by rw [hBI]; exact hbr.size
    have hc6 := hrg6.small
    clear hg6 hs6 hbr hm hBI
    go_frame
    go_loopw [13] (fun v wx => ∃ (L : List (Int × Int)) (cnt : Nat), RgSet Tryz.prog 37 4 okS klS wx BM BI (nr * 160) rs.flatten L cnt ∧ L.length + cnt ≤ cnt6 ∧ OwS wx w1.heap.size v (L.filter fun p => !blockedW rs p) ∧ Below w1.heap.size w1 wx) (fun _ wx => wx.rangeLeft BM BI)
    case atStart => exact ⟨[], cnt6, hrg6, by simp, OwG.nil, hb6⟩
    case round =>
     clear hrg6 hb6
     obtain ⟨L, cnt, hrg, hcnt, ho, hbx⟩ := hrel
     go_wp2_with (at_next; refine wpList_setNext rfl _ rfl repS Tryz.underlying4 rfl hrg ?_ ?_)
     ·intro hdone
      obtain ⟨D', left', -, -, hnd, -, -, -, -⟩ := hrg
      have hP : (L.filter fun p => !blockedW rs p).Perm ((uniq rs.flatten).filter fun p => !blockedW rs p) := (perm_of_mem hnd (nodup_uniq _) fun x => by obtain ⟨x1, x2⟩ := x; rw [mem_uniq]; have := hdone.out x1 x2; simpa using this.symm).filter _
      have hE : sortW (L.filter fun p => !blockedW rs p) = spotsOf rs := sortW_perm hP
      have HE := Hj hE
      have hlen : (L.filter fun p => !blockedW rs p).length ≤ L.length := List.length_filter_le _ _
      clear hP hE hnd
      go_wp2_with (go_at_call 62; refine (sort_any _ entNcmp (fun _ _ _ _ _ => ncmp_any _ _ _ _ _) _ w1.heap.size (L.filter fun p => !blockedW rs p) _ (by omega) ho).mono ?_; rintro e w8 ⟨rfl, ho8, hg8⟩; rw [HE.out] at ho8)
      go_ret2
      exact ⟨_, by rw [hW.out]; rfl, by rw [hW.out]; exact OwG.lower ho8 hb1.size, Bl.call hb1 (below_app hbx ho hg8)⟩
     ·intro q
      obtain ⟨⟨px, py⟩, c, w7, cnt7, hxS, hxL, hrg7, hlt7, hg7, hs7, hen7⟩ := q
      dsimp only [keyS] at hen7 ⊢
      have hb7 : Below w1.heap.size w1 w7 := setBelow hbx hg7 hBI'
      have hnc := hrg.noCells
      have ho7 : OwS w7 w1.heap.size u13 (L.filter fun p => !blockedW rs p) := OwG.kept ho hg7 (Or.inr (OwG.notMap ho hnc.2.1))
      have HRG7 := Hj hrg7
      have hlen : (L.filter fun p => !blockedW rs p).length ≤ L.length := List.length_filter_le _ _
      have hL6 := hrg.left
      clear hxS hxL hg7 hs7 hrg7 hnc ho hrg hbx
      by_cases hbk : blockedW rs (px, py) = true
      ·have hf := Hj (show ((L ++ [(px, py)]).filter fun p => !blockedW rs p) = L.filter fun p => !blockedW rs p by rw [List.filter_append]; simp [hbk])
       go_wp2_with (go_at_call 120; refine (blocked_any _ _ _ rs _ _ _ (by omega) HLEN.out (hS1.keep (Bl.alloc hb7 _))).mono ?_; rintro e w8 ⟨rfl, hb8⟩)
       have hr8 := (HRG7.out.keep (Bl.alloc Br _)).keep hb8
       exact ⟨⟨L ++ [(px, py)], cnt7, hr8, by simp; omega, by rw [hf.out]; exact OwG.keep (OwG.alloc ho7 _) hb8, Bl.call (Bl.alloc hb7 _) hb8⟩, by rw [hr8.left, hL6]; exact hlt7⟩
      ·have hbk' : blockedW rs (px, py) = false := by simpa using hbk
       clear hbk
       have hf := Hj (show ((L ++ [(px, py)]).filter fun p => !blockedW rs p) = (L.filter fun p => !blockedW rs p) ++ [(px, py)] by rw [List.filter_append]; simp [hbk'])
       have hB7 := Hj (BlkS.new w7 37 #[.int .i64 px, .int .i64 py])
       go_wp2_with (first | (go_at_call 120; refine (blocked_any _ _ _ rs _ _ _ (by omega) HLEN.out (hS1.keep (Bl.alloc hb7 _))).mono ?_; rintro e w8 ⟨rfl, hb8⟩; have k0 := hB7.out.keep hb8; have a1 := k0.cell 0; have a2 := k0.cell 1; simp only [List.getElem?_toArray, List.getElem?_cons_zero, List.getElem?_cons_succ] at a1 a2) | (at_builtin; refine wpList_appS rfl _ _ rfl w1.heap.size _ (L.filter fun p => !blockedW rs p) rfl (OwG.alloc (OwG.keep (OwG.alloc ho7 _) hb8) _) w8.heap.size 1 (px, py) 37 rfl (BlkS.new _ _ _) (by omega) (Bl.alloc (Bl.call (Bl.alloc hb7 _) hb8) _).size ?_; intro v9 w9 ho9 hg9 hat9))
       have hr8 := ((HRG7.out.keep (Bl.alloc Br _)).keep hb8).keep (Bl.alloc Br (.cells #[.int .i64 px, .int .i64 py] 37))
       have ho8 := OwG.alloc (OwG.keep (OwG.alloc ho7 (.cells #[.int .i64 px, .int .i64 py] 37)) hb8) (.cells #[.int .i64 px, .int .i64 py] 37)
       have hnc := hr8.noCells
       have hr9 := hr8.kept hg9 (OwG.notMap ho8 hnc.1).symm (OwG.notMap ho8 hnc.2.1).symm
       exact ⟨⟨L ++ [(px, py)], cnt7, hr9, by simp; omega, by rw [hf.out]; exact ho9, below_app (Bl.alloc (Bl.call (Bl.alloc hb7 _) hb8) _) ho8 hg9⟩, by rw [hr9.left, hL6]; exact hlt7⟩
 ·have hr := Hj (show spotsW a b = ((regionsW a b).1, []) by unfold spotsW; rw [if_pos h1])
  have q2 : ((regionsW a b).1 != 0) = true := by simpa using h1
  go_enter Tryz.func92, Tryz.ntmps92
  go_wp2_with (go_at_call 119; refine (regions_any _ _ _ _ _ _ a b _ hna hnb hca hcb hsA hsB).mono ?_; rintro e w1 ⟨v1, rfl, ho1, hb1⟩)
  go_ret2
  exact ⟨_, by rw [hr.out]; rfl, by rw [hr.out]; exact OwG.nil, hb1⟩
end
end Go.Proofs.YtmdncaoilegnnaaGreat

/- fill.prepare. fill.places. fill.candidates. -/
import Derived.Test.YtmdncaoilegnnaaGreatUG19
namespace Go.Proofs.YtmdncaoilegnnaaGreat
set_option linter.unusedVariables false
set_option linter.unusedSimpArgs false
set_option linter.unusedVariables false
set_option linter.unusedSimpArgs false
open Go.RowKit

def placTo (S : List Shp) (ps : List Pt5) : Nat → Int × List (List (Int × Int))
  | 0 => (0, [])
  | k + 1 => if (placTo S ps k).1 ≠ 0 then placTo S ps k else if (polyW S (pt ps k)).1 ≠ 0 then ((polyW S (pt ps k)).1, []) else (0, (placTo S ps k).2 ++ [(polyW S (pt ps k)).2])
theorem placTo_bad {S : List Shp} {ps : List Pt5} {k : Nat} {x : Int} (h : (placTo S ps k).1 = x) (hx : x ≠ 0) : ∀ m, (placTo S ps (k + m)).1 = x := by
  intro m
  induction m with
  | zero => exact h
  | succ m ih => rw [← Nat.add_assoc, placTo, if_pos (by rw [ih]; exact hx)]; exact ih
theorem placTo_small (S : List Shp) (ps : List Pt5) : ∀ k, (placTo S ps k).2.length ≤ k ∧ ∀ t ∈ (placTo S ps k).2, t.length ≤ 40 := by
  intro k
  induction k with
  | zero => simp [placTo]
  | succ k ih =>
    rw [placTo]
    split
    · exact ⟨by omega, ih.2⟩
    · split
      · simp
      · refine ⟨by simp; omega, fun t ht => ?_⟩
        rcases List.mem_append.1 ht with ht | ht
        · exact ih.2 t ht
        · simp at ht; subst ht; exact polyW_len _ _
/-- The error, the turned polygon, the placed ones. -/
def prepW (b : Bed4) (S : List Shp) (ps : List Pt5) (sh : Int) (fl : Bool) (qu : Int) : Int × List (Int × Int) × List (List (Int × Int)) :=
  if bedBad b then (3, [], []) else if (polyW S ⟨sh, fl, qu, 0, 0⟩).1 ≠ 0 then ((polyW S ⟨sh, fl, qu, 0, 0⟩).1, [], [])
  else if (placTo S ps ps.length).1 ≠ 0 then ((placTo S ps ps.length).1, [], []) else (0, (polyW S ⟨sh, fl, qu, 0, 0⟩).2, (placTo S ps ps.length).2)
def PrepRet (w : World) (r : Int × List (Int × Int) × List (List (Int × Int))) (e : Ending) (w' : World) : Prop :=
  ∃ v1 v2, e = .returned (.tuple #[v1, v2, .int .i64 r.1]) ∧ OwS w' w.heap.size v1 r.2.1 ∧ OwSS w' w.heap.size v2 r.2.2 ∧ Below w.heap.size w w'
set_option maxHeartbeats 1000000 in
set_option maxRecDepth 100000 in
theorem prep_1 (A1 A2 : Option Addr) (c1 c2 n1 n2 : Nat) (b : Bed4) (sh : Int) (fl : Bool) (qu : Int) (w : World) (hb : bedBad b = true) :
    Calls Tryz.prog 32 #[bedV b, .slice A1 n1 c1, .slice A2 n2 c2, .int .i64 sh, .agg #[.bool fl, .int .i64 qu]] w (PrepRet w (3, [], [])) := by
  obtain ⟨len, wid, rx, ry⟩ := b
  unfold bedV
  unfold bedBad at hb
  simp only [Bool.or_eq_true, decide_eq_true_eq] at hb
  dsimp only at hb ⊢
  go_enter Tryz.func32, Tryz.ntmps32
  go_upto_region 3 with fail
  all_goals first
    | (go_ret3; exact ⟨_, _, rfl, OwG.nil, OwSS.nil, (Bl.alloc (Bl.alloc (Below.refl _ _) _) _)⟩)
    | (exfalso; omega)
set_option maxHeartbeats 2000000 in
set_option maxRecDepth 100000 in
theorem prep_2 (A1 A2 : Option Addr) (c1 c2 n1 n2 : Nat) (b : Bed4) (S : List Shp) (ps : List Pt5) (sh : Int) (fl : Bool) (qu : Int) (w : World) (hn2 : n2 ≤ 1000000) (hS : ShS w A1 n1 S) (hPu : PuS w A2 n2 ps) (hb : bedBad b = false) :
    Calls Tryz.prog 32 #[bedV b, .slice A1 n1 c1, .slice A2 n2 c2, .int .i64 sh, .agg #[.bool fl, .int .i64 qu]] w (PrepRet w (prepW b S ps sh fl qu)) := by
  have HP := Lib.hid (show prepW b S ps sh fl qu = if (polyW S ⟨sh, fl, qu, 0, 0⟩).1 ≠ 0 then ((polyW S ⟨sh, fl, qu, 0, 0⟩).1, [], []) else if (placTo S ps n2).1 ≠ 0 then ((placTo S ps n2).1, [], []) else (0, (polyW S ⟨sh, fl, qu, 0, 0⟩).2, (placTo S ps n2).2) by unfold prepW; rw [if_neg (by rw [hb]; simp), hPu.1])
  obtain ⟨r, hr⟩ : ∃ r, polyW S ⟨sh, fl, qu, 0, 0⟩ = r := ⟨_, rfl⟩
  rw [hr] at HP
  have HR := Lib.hid hr
  clear hr
  obtain ⟨r1, r⟩ := r
  obtain ⟨len, wid, rx, ry⟩ := b
  unfold bedBad at hb
  simp only [Bool.or_eq_false_iff, decide_eq_false_iff_not] at hb
  unfold bedV
  dsimp only at HP ⊢
  have hbw := Lib.hid (show Below w.heap.size w ((w.alloc (.cells #[.int .i64 len, .int .i64 wid, .int .i64 rx, .int .i64 ry] 25)).alloc (.cells #[.bool fl, .int .i64 qu] 29)) from (Bl.alloc (Bl.alloc (Below.refl _ _) _) _))
  by_cases hr1 : r1 = 0
  · subst hr1
    rw [if_neg (by simp)] at HP
    go_enter Tryz.func32, Tryz.ntmps32
    go_wp2_with (go_at_call 40; refine (ppoly_any _ _ _ S ⟨sh, fl, qu, 0, 0⟩ _ (hS.keep hbw.out)).mono ?_; rintro e w1 ⟨v1, rfl, ho1, hb1⟩; rw [HR.out] at ho1 ⊢)
    have hbA := Bl.call hbw.out hb1
    have hSA := hS.keep hbA
    have hPA := hPu.keep hbA
    clear hS hPu hb1 hbw
    go_loopw [15, 51] (fun v i wr => ∃ k : Nat, k ≤ n2 ∧ i = .int .i64 k ∧ Hid ((placTo S ps k).1 = 0) ∧ OwSS wr w1.heap.size v (placTo S ps k).2 ∧ Below w1.heap.size w1 wr) (fun _ i _ => n2 - (intOf i).toNat)
    case atStart => exact ⟨0, Nat.zero_le _, rfl, Lib.hid rfl, OwSS.nil, Below.refl _ _⟩
    case round =>
      obtain ⟨k, hk, rfl, hz, ho, hbr⟩ := hrel
      by_cases hlt : k < n2
      · obtain ⟨bb, ob, rfl, hbl, d1, d2, d3, d4, d5⟩ := (hPA.keep hbr).at_ hlt
        have hql := polyW_len S (pt ps k)
        have hsm := (placTo_small S ps k).1
        have hstep := Lib.hid (show placTo S ps (k + 1) = if (polyW S (pt ps k)).1 ≠ 0 then ((polyW S (pt ps k)).1, []) else (0, (placTo S ps k).2 ++ [(polyW S (pt ps k)).2]) by rw [placTo, if_neg (by rw [hz.out]; simp)])
        obtain ⟨qq, hqq⟩ : ∃ qq, polyW S (pt ps k) = qq := ⟨_, rfl⟩
        rw [hqq] at hql hstep
        have HQQ := Lib.hid hqq
        clear hqq
        obtain ⟨q1, q⟩ := qq
        dsimp only at hql hstep
        obtain ⟨pq, hpt⟩ : ∃ pq, pt ps k = pq := ⟨_, rfl⟩
        rw [hpt] at d1 d2 d3 d4 d5 HQQ
        clear hpt
        obtain ⟨sh2, fl2, qu2, x2, y2⟩ := pq
        dsimp only at d1 d2 d3 d4 d5
        by_cases hq1 : q1 = 0
        · subst hq1
          rw [if_neg (by simp)] at hstep
          go_wp2_with (first | (go_at_call 40; refine (ppoly_any _ _ _ S ⟨sh2, fl2, qu2, x2, y2⟩ _ (hSA.keep (Bl.alloc hbr _))).mono ?_; rintro e w5 ⟨v5, rfl, ho5, hb5⟩; rw [HQQ.out] at ho5 ⊢; obtain ⟨A5, c5, rfl, -, -, -, -⟩ := OwS.els ho5) | (at_builtin; refine wpList_appV rfl _ _ rfl w1.heap.size _ (placTo S ps k).2 rfl (((ho.alloc _).keep hb5).alloc _) w5.heap.size 1 _ q 47 rfl (BlkS.new _ _ _) ((ElS.lower (OwS.els ho5) (Bl.alloc hbr _).size).keep (Bl.alloc (Below.refl _ _) _)) (by omega) (Bl.alloc (Bl.call (Bl.alloc hbr _) hb5) _).size ?_; intro v7 w7 ho7 hg7 hat7))
          exact ⟨⟨k + 1, by omega, by go_num, Lib.hid (by rw [hstep.out]), by rw [hstep.out]; exact ho7, below_appSS (Bl.alloc (Bl.call (Bl.alloc hbr _) hb5) _) (((ho.alloc _).keep hb5).alloc _) hg7⟩, by simp [intOf]; omega⟩
        · have qo : (q1 != 0) = true := by simpa using hq1
          rw [if_pos hq1] at hstep
          have hbad := placTo_bad (show (placTo S ps (k + 1)).1 = q1 by rw [hstep.out]) hq1 (n2 - (k + 1))
          rw [show k + 1 + (n2 - (k + 1)) = n2 by omega] at hbad
          rw [hbad, if_pos hq1] at HP
          clear hbad hq1
          go_wp2_with (go_at_call 40; refine (ppoly_any _ _ _ S ⟨sh2, fl2, qu2, x2, y2⟩ _ (hSA.keep (Bl.alloc hbr _))).mono ?_; rintro e w5 ⟨v5, rfl, ho5, hb5⟩; rw [HQQ.out])
          go_ret3
          exact ⟨_, _, by rw [HP.out]; rfl, by rw [HP.out]; exact OwG.nil, by rw [HP.out]; exact OwSS.nil, Bl.call hbA (Bl.call (Bl.alloc hbr _) hb5)⟩
      · obtain rfl : n2 = k := by omega
        rw [hz.out, if_neg (by simp)] at HP
        go_wp2_with fail
        go_ret3
        exact ⟨_, _, by rw [HP.out]; rfl, by rw [HP.out]; exact OwG.keep (OwG.lower ho1 (by simp; omega)) hbr, by rw [HP.out]; exact ho.lower hbA.size, Bl.call hbA hbr⟩
  · have qo : (r1 != 0) = true := by simpa using hr1
    rw [if_pos hr1] at HP
    clear hr1
    go_enter Tryz.func32, Tryz.ntmps32
    go_wp2_with (go_at_call 40; refine (ppoly_any _ _ _ S ⟨sh, fl, qu, 0, 0⟩ _ (hS.keep hbw.out)).mono ?_; rintro e w1 ⟨v1, rfl, ho1, hb1⟩; rw [HR.out] at ho1 ⊢)
    go_ret3
    exact ⟨_, _, by rw [HP.out]; rfl, by rw [HP.out]; exact OwG.nil, by rw [HP.out]; exact OwSS.nil, Bl.call hbw.out hb1⟩
theorem prep_any (A1 A2 : Option Addr) (c1 c2 n1 n2 : Nat) (b : Bed4) (S : List Shp) (ps : List Pt5) (sh : Int) (fl : Bool) (qu : Int) (w : World) (hn2 : n2 ≤ 1000000) (hS : ShS w A1 n1 S) (hPu : PuS w A2 n2 ps) :
    Calls Tryz.prog 32 #[bedV b, .slice A1 n1 c1, .slice A2 n2 c2, .int .i64 sh, .agg #[.bool fl, .int .i64 qu]] w (PrepRet w (prepW b S ps sh fl qu)) := by
  by_cases hb : bedBad b = true
  · rw [show prepW b S ps sh fl qu = (3, [], []) by unfold prepW; rw [if_pos hb]]
    exact prep_1 A1 A2 c1 c2 n1 n2 b sh fl qu w hb
  · exact prep_2 A1 A2 c1 c2 n1 n2 b S ps sh fl qu w hn2 hS hPu (by simpa using hb)
end Go.Proofs.YtmdncaoilegnnaaGreat

namespace Go.Proofs.YtmdncaoilegnnaaGreat
set_option linter.unusedVariables false
set_option linter.unusedSimpArgs false
set_option linter.unusedVariables false
set_option linter.unusedSimpArgs false
open Go.RowKit

theorem wrap_inR (z : Int) : inR (wrap64 z) := wf_inR (wrap64_wf z)
theorem uniq_len {α : Type} [DecidableEq α] (l : List α) : (uniq l).length ≤ l.length := by
  induction l with
  | nil => exact Nat.le_refl _
  | cons a l ih =>
    unfold uniq; split
    · simp; omega
    · simp; exact ih
theorem spotsW_ok (a b : List (Int × Int)) : (spotsW a b).2.length ≤ 268960 ∧ ∀ p ∈ (spotsW a b).2, okS p := by
  have hin := regionsW_in a b
  unfold spotsW
  split
  · simp
  · refine ⟨?_, fun p hp => ?_⟩
    · show (sortW _).length ≤ _
      rw [sortW_len]
      refine Nat.le_trans (List.length_filter_le _ _) (Nat.le_trans (uniq_len _) ?_)
      have h2 : ∀ l : List (List (Int × Int)), (∀ t ∈ l, t.length ≤ 160) → l.flatten.length ≤ l.length * 160 := by
        intro l
        induction l with
        | nil => simp
        | cons a l ih =>
          intro h
          rw [List.flatten_cons, List.length_append, List.length_cons, Nat.add_mul]
          have := h a (by simp)
          have := ih (fun t ht => h t (by simp [ht]))
          omega
      have := h2 _ (fun t ht => (hin.2 t ht).1)
      have := hin.1
      omega
    · have h1 : p ∈ ((uniq (regionsW a b).2.flatten).filter fun p => !blockedW (regionsW a b).2 p) := List.mem_mergeSort.1 hp
      have h2 := mem_uniq.1 (List.mem_filter.1 h1).1
      obtain ⟨t, ht, hpt⟩ := List.mem_flatten.1 h2
      exact okS_of_out ((hin.2 t ht).2 p hpt)
def four (x0 y0 y1 : Int) (v : Int × Int) : List (Int × Int) := [v, (v.1, y0), (v.1, y1), (x0, v.2)]
def plcIn (x0 y0 y1 : Int) (sp L : List (Int × Int)) : Nat → List (Int × Int)
  | 0 => L
  | j + 1 => addW (plcIn x0 y0 y1 sp L j) (four x0 y0 y1 (gt sp j)) (0, 0)
def plcTo (l : List (Int × Int)) (x0 y0 y1 : Int) (pls : List (List (Int × Int))) : Nat → Int × List (Int × Int)
  | 0 => (0, addW [] [(x0, y0), (x0, y1)] (0, 0))
  | k + 1 => if (plcTo l x0 y0 y1 pls k).1 ≠ 0 then plcTo l x0 y0 y1 pls k else if (spotsW (lt_ pls k) l).1 ≠ 0 then ((spotsW (lt_ pls k) l).1, []) else (0, plcIn x0 y0 y1 (spotsW (lt_ pls k) l).2 (plcTo l x0 y0 y1 pls k).2 (spotsW (lt_ pls k) l).2.length)
def placesW (b : Bed4) (l : List (Int × Int)) (pls : List (List (Int × Int))) : Int × List (Int × Int) :=
  if checkW l l.length ≠ 0 then (checkW l l.length, [])
  else plcTo l (wrap64 (-loX l l.length)) (wrap64 (-loY l l.length)) (wrap64 (wrap64 (b.wid - loY l l.length) - wrap64 (hiY l l.length - loY l l.length))) pls pls.length
theorem plcTo_bad {l : List (Int × Int)} {x0 y0 y1 : Int} {pls : List (List (Int × Int))} {k : Nat} {x : Int} (h : plcTo l x0 y0 y1 pls k = (x, [])) (hx : x ≠ 0) : ∀ m, plcTo l x0 y0 y1 pls (k + m) = (x, []) := by
  intro m
  induction m with
  | zero => exact h
  | succ m ih => rw [← Nat.add_assoc, plcTo, if_pos (by rw [ih]; exact hx)]; exact ih
theorem addW_len (L xs : List (Int × Int)) : (addW L xs (0, 0)).length ≤ L.length + xs.length := addTo_len _ _ _ _
theorem plcIn_len (x0 y0 y1 : Int) (sp L : List (Int × Int)) (j : Nat) : (plcIn x0 y0 y1 sp L j).length ≤ L.length + 4 * j := by
  induction j with
  | zero => exact Nat.le_refl _
  | succ j ih =>
    rw [plcIn]
    have := addW_len (plcIn x0 y0 y1 sp L j) (four x0 y0 y1 (gt sp j))
    have h4 : (four x0 y0 y1 (gt sp j)).length = 4 := rfl
    omega
theorem plcTo_len (l : List (Int × Int)) (x0 y0 y1 : Int) (pls : List (List (Int × Int))) (k : Nat) : (plcTo l x0 y0 y1 pls k).2.length ≤ 2 + 1075840 * k := by
  induction k with
  | zero => exact addW_len [] [(x0, y0), (x0, y1)]
  | succ k ih =>
    rw [plcTo]
    split
    · omega
    · split
      · simp
      · have := plcIn_len x0 y0 y1 (spotsW (lt_ pls k) l).2 (plcTo l x0 y0 y1 pls k).2 (spotsW (lt_ pls k) l).2.length
        have := (spotsW_ok (lt_ pls k) l).1
        show (plcIn _ _ _ _ _ _).length ≤ _
        omega
theorem addW_ok {L xs : List (Int × Int)} (hL : ∀ p ∈ L, okS p) (hx : ∀ p ∈ xs, okS p) : ∀ p ∈ addW L xs (0, 0), okS p := by
  intro p hp
  rcases addTo_mem (Nat.le_refl _) hp with h | h
  · exact hL p h
  · exact hx p h
theorem four_ok {x0 y0 y1 : Int} {v : Int × Int} (h0 : inR x0) (h1 : inR y0) (h2 : inR y1) (hv : okS v) : ∀ p ∈ four x0 y0 y1 v, okS p := by
  intro p hp
  simp [four] at hp
  rcases hp with rfl | rfl | rfl | rfl
  · exact hv
  · exact ⟨hv.1, h1⟩
  · exact ⟨hv.1, h2⟩
  · exact ⟨h0, hv.2⟩
theorem plcIn_ok {x0 y0 y1 : Int} (h0 : inR x0) (h1 : inR y0) (h2 : inR y1) {sp L : List (Int × Int)} (hs : ∀ p ∈ sp, okS p) (hL : ∀ p ∈ L, okS p) : ∀ j, j ≤ sp.length → ∀ p ∈ plcIn x0 y0 y1 sp L j, okS p := by
  intro j
  induction j with
  | zero => exact fun _ => hL
  | succ j ih =>
    intro hj
    rw [plcIn]
    exact addW_ok (ih (by omega)) (four_ok h0 h1 h2 (hs _ (List.mem_of_getElem? (gt_some (by omega)))))
theorem plcTo_ok {l : List (Int × Int)} {x0 y0 y1 : Int} (h0 : inR x0) (h1 : inR y0) (h2 : inR y1) {pls : List (List (Int × Int))} : ∀ k, ∀ p ∈ (plcTo l x0 y0 y1 pls k).2, okS p := by
  intro k
  induction k with
  | zero => exact addW_ok (by simp) (by intro p hp; simp at hp; rcases hp with rfl | rfl; exact ⟨h0, h1⟩; exact ⟨h0, h2⟩)
  | succ k ih =>
    rw [plcTo]
    split
    · exact ih
    · split
      · simp
      · exact plcIn_ok h0 h1 h2 (spotsW_ok _ _).2 ih _ (Nat.le_refl _)
theorem placesW_ok (b : Bed4) (l : List (Int × Int)) (pls : List (List (Int × Int))) : (placesW b l pls).2.length ≤ 2 + 1075840 * pls.length ∧ ∀ p ∈ (placesW b l pls).2, okS p := by
  unfold placesW
  split
  · simp
  · exact ⟨plcTo_len _ _ _ _ _ _, plcTo_ok (wrap_inR _) (wrap_inR _) (wrap_inR _) _⟩
set_option maxHeartbeats 1000000 in
set_option maxRecDepth 100000 in
theorem places_bad (A B : Option Addr) (c1 c2 n1 n2 : Nat) (b : Bed4) (l : List (Int × Int)) (w : World) (hn1 : n1 ≤ 9223372036854775807) (hc1 : n1 ≤ c1) (hs : SpS w A n1 l) (hc : ¬ checkW l n1 = 0) :
    Calls Tryz.prog 59 #[bedV b, .slice A n1 c1, .slice B n2 c2] w (RetSE w (checkW l n1, [])) := by
  have q : (checkW l n1 != 0) = true := by simpa using hc
  obtain ⟨len, wid, rx, ry⟩ := b
  unfold bedV
  dsimp only
  have HC := Lib.hid hc
  clear hc
  go_enter Tryz.func59, Tryz.ntmps59
  go_wp2_with (go_at_call 41; refine (box_bad _ _ _ l _ hn1 hc1 (hs.keep (Bl.alloc (Below.refl _ _) _)) HC.out).mono ?_; rintro e w1 ⟨rfl, hb1⟩)
  go_ret2
  exact ⟨_, rfl, OwG.nil, Bl.alloc (Bl.call (Bl.alloc (Below.refl _ _) _) hb1) _⟩
theorem SpS.keepBlk {w w' : World} {sb n : Nat} {l : List (Int × Int)} (h : SpS w (some ⟨sb, 0, none⟩) n l) (hb : w'.heap[sb]? = w.heap[sb]?) : SpS w' (some ⟨sb, 0, none⟩) n l := by
  refine ⟨h.1, ?_⟩
  obtain ⟨_, h2⟩ := h
  rcases h2 with h2 | ⟨b, off, e, h2⟩
  · exact .inl h2
  · injection e with e
    injection e with e1 e2
    subst e1 e2
    exact .inr ⟨sb, 0, rfl, fun k hk' => ⟨(World.cell?_of_block (w := w) (a := ⟨sb, 0 + k * 2, none⟩) hb).trans (h2 k hk').1, (World.cell?_of_block (w := w) (a := ⟨sb, 0 + k * 2 + 1, none⟩) hb).trans (h2 k hk').2⟩⟩
set_option maxHeartbeats 2000000 in
set_option maxRecDepth 100000 in
theorem places_ok (A B : Option Addr) (c1 c2 n1 n2 : Nat) (b : Bed4) (l : List (Int × Int)) (pls : List (List (Int × Int))) (w : World) (hn2 : n2 ≤ 1000) (hpl : ∀ t ∈ pls, t.length ≤ 1000) (hc1 : n1 ≤ c1) (hs : SpS w A n1 l) (hS : SpSS w B n2 pls) (hc : checkW l n1 = 0) :
    Calls Tryz.prog 59 #[bedV b, .slice A n1 c1, .slice B n2 c2] w (RetSE w (placesW b l pls)) := by
  obtain ⟨len, wid, rx, ry⟩ := b
  have hn3 := check_len hc
  have HR := Lib.hid (show placesW ⟨len, wid, rx, ry⟩ l pls = plcTo l (wrap64 (-loX l n1)) (wrap64 (-loY l n1)) (wrap64 (wrap64 (wid - loY l n1) - wrap64 (hiY l n1 - loY l n1))) pls n2 by unfold placesW; rw [hs.1, if_neg (by rw [hc]; simp), hS.1])
  have HPL := Lib.hid hpl
  have HN2 := Lib.hid hS.1
  obtain ⟨ba, oa, rfl, -, -⟩ := hs.at_ (k := 0) (by omega)
  unfold bedV
  dsimp only
  have HC := Lib.hid hc
  clear hc hpl
  have hB0 := Lib.hid (BlkS.new w 25 #[.int .i64 len, .int .i64 wid, .int .i64 rx, .int .i64 ry])
  obtain ⟨bx, hbx⟩ : ∃ bx, loX l n1 = bx := ⟨_, rfl⟩
  obtain ⟨bY, hby⟩ : ∃ bY, loY l n1 = bY := ⟨_, rfl⟩
  obtain ⟨bW, hbW⟩ : ∃ bW, wrap64 (hiX l n1 - loX l n1) = bW := ⟨_, rfl⟩
  obtain ⟨bH, hbH⟩ : ∃ bH, wrap64 (hiY l n1 - loY l n1) = bH := ⟨_, rfl⟩
  rw [hbH, hbx, hby] at HR
  have HBX := Lib.hid hbx
  have HBY := Lib.hid hby
  have HBW := Lib.hid hbW
  have HBH := Lib.hid hbH
  clear hbx hby hbW hbH
  go_enter Tryz.func59, Tryz.ntmps59
  go_upto_region 4 with (go_at_call 41; refine (box_ok _ _ _ _ l _ (by omega) hc1 (hs.keep (Bl.alloc (Below.refl _ _) _)) HC.out (by omega)).mono ?_; rintro e w1 ⟨rfl, hb1⟩; rw [HBW.out, HBH.out, HBX.out, HBY.out])
  have k1 := (hB0.out.keep hb1).alloc (.cells #[.int .i64 bx, .int .i64 bY, .int .i64 bW, .int .i64 bH] 82)
  have k2 := BlkS.new w1 82 #[.int .i64 bx, .int .i64 bY, .int .i64 bW, .int .i64 bH]
  have hbA : Below w.heap.size w (w1.alloc (.cells #[.int .i64 bx, .int .i64 bY, .int .i64 bW, .int .i64 bH] 82)) := Bl.alloc (Bl.call (Bl.alloc (Below.refl _ _) _) hb1) _
  refine wp_world (fun X => BlkS X w.heap.size 25 #[.int .i64 len, .int .i64 wid, .int .i64 rx, .int .i64 ry] ∧ BlkS X w1.heap.size 82 #[.int .i64 bx, .int .i64 bY, .int .i64 bW, .int .i64 bH] ∧ Below w.heap.size w X) ⟨k1, k2, hbA⟩ ?_
  clear k1 k2 hbA hb1 hB0
  rintro X0 ⟨k1, k2, hbA⟩
  obtain ⟨a1, a2, a3, a4, a5⟩ := k1.cells4
  obtain ⟨e1, e2, e3, e4, e5⟩ := k2.cells4
  go_quiet (fail)
  go_upto_region 6 with fail
  obtain ⟨x0, hx0⟩ : ∃ x0, wrap64 (-bx) = x0 := ⟨_, rfl⟩
  obtain ⟨y0, hy0⟩ : ∃ y0, wrap64 (-bY) = y0 := ⟨_, rfl⟩
  obtain ⟨y1, hy1⟩ : ∃ y1, wrap64 (wrap64 (wid - bY) - bH) = y1 := ⟨_, rfl⟩
  have r0 : inR x0 := by rw [← hx0]; exact wrap_inR _
  have r1 : inR y0 := by rw [← hy0]; exact wrap_inR _
  have r2 : inR y1 := by rw [← hy1]; exact wrap_inR _
  rw [hx0, hy0, hy1] at HR ⊢
  have R0 := Lib.hid r0
  have R1 := Lib.hid r1
  have R2 := Lib.hid r2
  clear r0 r1 r2 hx0 hy0 hy1 a1 a2 a3 a4 a5 e1 e2 e3 e4 e5
  refine wp_world (fun X => Below w.heap.size w X) (Bl.drewN hbA nq) ?_
  clear k1 k2 hbA
  rintro W0 hbA
  obtain ⟨BB, hBB⟩ : ∃ BB, BB = W0.heap.size := ⟨_, rfl⟩
  have hbag := Lib.hid (BagS.new W0)
  have hbag1 := Lib.hid (Bl.alloc (Below.refl W0.heap.size W0) (.cells #[.map none, .slice none 0 0] 103))
  go_upto_region 8 with (go_at_call 61; refine (addS_any W0.heap.size (W0.heap.size + 1) (W0.heap.size + 1) 2 2 [] [(x0, y0), (x0, y1)] _ rfl (by omega) (by simp) (BlkS.new2 _ _ _ _) (Nat.le_refl _) (by intro p hp; simp at hp; rcases hp with rfl | rfl; exact ⟨R0.out, R1.out⟩; exact ⟨R0.out, R2.out⟩) (hbag.out.keep (Bl.alloc (Below.refl _ _) _)) (W0.heap.size + 1) ((hbag.out.keep (Bl.alloc (Below.refl _ _) _)).av (Nat.le_refl _) (by simp))).mono ?_; rintro e w3 ⟨rfl, hg3, hb3, hz3, -, -⟩)
  have hb3' : Below W0.heap.size W0 w3 := (Bl.alloc hbag1.out _).trans hb3
  rw [← hBB] at hg3 ⊢
  clear hbag hbag1 hb3 hz3
  have hBB1 : W0.heap.size ≤ BB := by omega
  have hBB2 : BB ≤ W0.heap.size := by omega
  have hg3' : BagS w3 BB w3.heap.size (plcTo l x0 y0 y1 pls 0).2 := hg3
  have HG3 := Lib.hid hg3'
  clear hg3 hg3' hBB
  go_wp2_with fail
  go_loopw [52] (fun i wr => ∃ k : Nat, k ≤ n2 ∧ i = .int .i64 k ∧ Hid ((plcTo l x0 y0 y1 pls k).1 = 0) ∧ BagS wr BB wr.heap.size (plcTo l x0 y0 y1 pls k).2 ∧ Below W0.heap.size W0 wr) (fun i _ => n2 - (intOf i).toNat)
  case atStart => exact ⟨0, Nat.zero_le _, rfl, Lib.hid rfl, HG3.out, hb3'⟩
  case round =>
    clear HG3 hb3'
    obtain ⟨k, hk, rfl, hz, hg, hbr⟩ := hrel
    by_cases hlt : k < n2
    · obtain ⟨b1, o1, Ak, ck, rfl, hbl, d1, d2, d3, d4⟩ := (hS.keep (Bl.call hbA hbr)).at_ hlt
      have l1 : (lt_ pls k).length ≤ 1000 := HPL.out _ (lt_mem (by rw [HN2.out]; exact hlt))
      obtain ⟨nk, hnk⟩ : ∃ nk, (lt_ pls k).length = nk := ⟨_, rfl⟩
      rw [hnk] at d1 d2 d3 l1
      clear hnk
      have hok := spotsW_ok (lt_ pls k) l
      have hstep := Lib.hid (show plcTo l x0 y0 y1 pls (k + 1) = if (spotsW (lt_ pls k) l).1 ≠ 0 then ((spotsW (lt_ pls k) l).1, []) else (0, plcIn x0 y0 y1 (spotsW (lt_ pls k) l).2 (plcTo l x0 y0 y1 pls k).2 (spotsW (lt_ pls k) l).2.length) by rw [plcTo, if_neg (by rw [hz.out]; simp)])
      obtain ⟨sq, hsq⟩ : ∃ sq, spotsW (lt_ pls k) l = sq := ⟨_, rfl⟩
      rw [hsq] at hok hstep
      have HSQ := Lib.hid hsq
      clear hsq
      obtain ⟨s1, sp⟩ := sq
      dsimp only at hok hstep
      have hspl := hok.1
      have HOK := Lib.hid hok.2
      clear hok
      by_cases hs1 : s1 = 0
      · subst hs1
        rw [if_neg (by simp)] at hstep
        go_upto_region 14 with (go_at_call 92; refine (spots_any _ _ _ _ _ _ (lt_ pls k) l _ (by omega) (by omega) d2 hc1 d3 (hs.keep (Bl.call hbA hbr))).mono ?_; rintro e w5 ⟨v5, rfl, ho5, hb5⟩; rw [HSQ.out] at ho5 ⊢)
        obtain ⟨As, cs, rfl, hcs, hSs, hAs⟩ := OwS.sps ho5
        obtain ⟨ns, hns⟩ : ∃ ns, sp.length = ns := ⟨_, rfl⟩
        rw [hns] at hSs hcs hAs hspl hstep ⊢
        have HNS := Lib.hid hns
        clear hns ho5
        have hg5 := hg.keep hb5
        have hb5' := Bl.call hbr hb5
        obtain ⟨sb, hsb⟩ : ∃ sb, 0 < ns → As = some ⟨sb, 0, none⟩ ∧ AvS w5 BB sb := by
          rcases Nat.eq_zero_or_pos ns with h0 | h0
          · exact ⟨0, fun h => by omega⟩
          · obtain ⟨g, rfl, q1, q2⟩ := hAs h0
            exact ⟨g, fun _ => ⟨rfl, hg5.av q1 q2⟩⟩
        have HG5 := Lib.hid (hg5.mono hb5.size)
        have hLl := plcTo_len l x0 y0 y1 pls k
        clear hAs hg hg5 hbl d1 d2 d3 d4 hb5
        go_wp2_with fail
        go_loopw [67] (fun i wx => ∃ j : Nat, j ≤ ns ∧ i = .int .i64 j ∧ BagS wx BB wx.heap.size (plcIn x0 y0 y1 sp (plcTo l x0 y0 y1 pls k).2 j) ∧ SpS wx As ns sp ∧ (0 < ns → AvS wx BB sb) ∧ Below W0.heap.size W0 wx) (fun i _ => ns - (intOf i).toNat)
        case atStart => exact ⟨0, Nat.zero_le _, rfl, HG5.out, hSs, fun h => (hsb h).2, hb5'⟩
        case round =>
          clear HG5 hSs hb5' hbr
          obtain ⟨j, hj, rfl, hg, hSs, hav, hbx⟩ := hrel
          by_cases hjn : j < ns
          · obtain ⟨rfl, -⟩ := hsb (by omega)
            have hav' := hav (by omega)
            obtain ⟨bq, oq, eq1, hbq, hcc⟩ := hSs.at_ hjn
            injection eq1 with eq1
            injection eq1 with eq1 eq2
            subst eq1 eq2
            obtain ⟨d1, d2⟩ := hcc j hjn
            simp only [Nat.zero_add] at d1 d2
            clear hcc
            have hj' : j < sp.length := by rw [HNS.out]; exact hjn
            have hokj : okS (gt sp j) := HOK.out _ (List.mem_of_getElem? (gt_some hj'))
            have hpl2 := plcIn_len x0 y0 y1 sp (plcTo l x0 y0 y1 pls k).2 j
            have hBx : BB < wr.heap.size := by obtain ⟨_, _, q, _⟩ := hg; exact q.lt
            have hbO : Below wr.heap.size wr ((wr.alloc (.cells #[.int .i64 (gt sp j).1, .int .i64 (gt sp j).2] 37)).alloc (.cells #[.int .i64 (gt sp j).1, .int .i64 (gt sp j).2, .int .i64 (gt sp j).1, .int .i64 y0, .int .i64 (gt sp j).1, .int .i64 y1, .int .i64 x0, .int .i64 (gt sp j).2] 37)) := Bl.alloc (Bl.alloc (Below.refl _ _) _) _
            have hgO := Lib.hid (hg.keep hbO)
            have haO := Lib.hid (hav'.keep hBx hbO)
            have hXO := Lib.hid (BlkS.new2 wr (.cells #[.int .i64 (gt sp j).1, .int .i64 (gt sp j).2] 37) 37 #[.int .i64 (gt sp j).1, .int .i64 (gt sp j).2, .int .i64 (gt sp j).1, .int .i64 y0, .int .i64 (gt sp j).1, .int .i64 y1, .int .i64 x0, .int .i64 (gt sp j).2])
            have hlO : (plcIn x0 y0 y1 sp (plcTo l x0 y0 y1 pls k).2 j).length ≤ 1000000000000 := by omega
            have HBO := Lib.hid hbO
            clear hbO
            go_wp2_with (go_at_call 61; refine (addS_any BB wr.heap.size (wr.heap.size + 1) 4 4 (plcIn x0 y0 y1 sp (plcTo l x0 y0 y1 pls k).2 j) (four x0 y0 y1 (gt sp j)) _ rfl (by omega) hlO hXO.out (Nat.le_succ _) (four_ok R0.out R1.out R2.out hokj) hgO.out sb haO.out).mono ?_; rintro e w8 ⟨rfl, hg8, hb8, hz8, hh8, hv8⟩)
            have hS8 : SpS w8 (some ⟨sb, 0, none⟩) ns sp := (hSs.keep HBO.out).keepBlk hh8
            have hb8' : Below W0.heap.size W0 w8 := (Bl.call hbx HBO.out).trans (hb8.mono hBB1)
            exact ⟨⟨j + 1, by omega, by go_num, hg8, hS8, fun _ => hv8, hb8'⟩, by simp [intOf]; omega⟩
          · obtain rfl : ns = j := by omega
            go_wp2_with fail
            exact ⟨⟨k + 1, by omega, by go_num, Lib.hid (by rw [hstep.out]), by rw [hstep.out]; exact hg, hbx⟩, by simp [intOf]; omega⟩
      · have qo : (s1 != 0) = true := by simpa using hs1
        rw [if_pos hs1] at hstep
        have hbad := plcTo_bad hstep.out hs1 (n2 - (k + 1))
        rw [show k + 1 + (n2 - (k + 1)) = n2 by omega] at hbad
        rw [hbad] at HR
        clear hbad hs1
        go_wp2_with (go_at_call 92; refine (spots_any _ _ _ _ _ _ (lt_ pls k) l _ (by omega) (by omega) d2 hc1 d3 (hs.keep (Bl.call hbA hbr))).mono ?_; rintro e w5 ⟨v5, rfl, ho5, hb5⟩; rw [HSQ.out])
        go_ret2
        exact ⟨_, by rw [HR.out]; rfl, by rw [HR.out]; exact OwG.nil, Bl.call hbA (Bl.call hbr hb5)⟩
    · obtain rfl : n2 = k := by omega
      obtain ⟨mv, sv, q1, q2, -, -, -⟩ := hg
      obtain ⟨a1, a2, a3, a4, a5⟩ := q1.cells2
      have HE := Lib.hid (show plcTo l x0 y0 y1 pls n2 = (0, (plcTo l x0 y0 y1 pls n2).2) by rw [← hz.out])
      go_wp2_with fail
      go_ret2
      exact ⟨sv, by rw [HR.out, HE.out]; rfl, by rw [HR.out]; exact OwG.lower q2 (Nat.le_trans hbA.size hBB1), Bl.call hbA hbr⟩
theorem places_any (A B : Option Addr) (c1 c2 n1 n2 : Nat) (b : Bed4) (l : List (Int × Int)) (pls : List (List (Int × Int))) (w : World) (hn1 : n1 ≤ 9223372036854775807) (hn2 : n2 ≤ 1000) (hpl : ∀ t ∈ pls, t.length ≤ 1000) (hc1 : n1 ≤ c1) (hs : SpS w A n1 l) (hS : SpSS w B n2 pls) :
    Calls Tryz.prog 59 #[bedV b, .slice A n1 c1, .slice B n2 c2] w (RetSE w (placesW b l pls)) := by
  by_cases hc : checkW l n1 = 0
  · exact places_ok A B c1 c2 n1 n2 b l pls w hn2 hpl hc1 hs hS hc
  · rw [show placesW b l pls = (checkW l n1, []) by unfold placesW; rw [hs.1, if_pos hc]]
    exact places_bad A B c1 c2 n1 n2 b l w hn1 hc1 hs hc
end Go.Proofs.YtmdncaoilegnnaaGreat

namespace Go.Proofs.YtmdncaoilegnnaaGreat
set_option linter.unusedVariables false
set_option linter.unusedSimpArgs false
set_option linter.unusedVariables false
set_option linter.unusedSimpArgs false
open Go.RowKit Go.Sort

def keptTo (rx ry : Int) (s : Shp) (fl : Bool) (qu : Int) (sp : List (Int × Int)) : Nat → List (Int × Int)
  | 0 => []
  | k + 1 => match setlW rx ry s fl qu (gt sp k) with | none => keptTo rx ry s fl qu sp k | some a => addW (keptTo rx ry s fl qu sp k) [a] (0, 0)
def candW (b : Bed4) (s : Shp) (fl : Bool) (qu : Int) (l : List (Int × Int)) (pls : List (List (Int × Int))) : Int × List (Int × Int) :=
  if (placesW b l pls).1 ≠ 0 then ((placesW b l pls).1, []) else (0, sortW (keptTo b.rx b.ry s fl qu (placesW b l pls).2 (placesW b l pls).2.length))
theorem keptTo_len (rx ry : Int) (s : Shp) (fl : Bool) (qu : Int) (sp : List (Int × Int)) (k : Nat) : (keptTo rx ry s fl qu sp k).length ≤ k := by
  induction k with
  | zero => exact Nat.le_refl _
  | succ k ih =>
    rw [keptTo]
    split
    · omega
    · rename_i a _
      have := addW_len (keptTo rx ry s fl qu sp k) [a]
      simp at this
      omega
theorem setlW_ok {rx ry : Int} {s : Shp} {fl : Bool} {qu : Int} {p a : Int × Int} (hp : okS p) (h : setlW rx ry s fl qu p = some a) : okS a := by
  unfold setlW at h
  split at h
  · split at h
    · cases h
    · split at h
      · cases h
      · injection h with h; subst h; exact ⟨wrap_inR _, wrap_inR _⟩
  · injection h with h; subst h; exact hp
theorem sort_big (F : Nat) (eg : ∀ args w, (callFunc F args).run Tryz.prog w = .ok (.enter F args) w) (hF : ∀ ax ay bx bY w, Calls Tryz.prog F #[.agg #[.int .i64 ax, .int .i64 ay], .agg #[.int .i64 bx, .int .i64 bY]] w fun e w' => e = .returned (.int .i64 (cmpS (ax, ay) (bx, bY))) ∧ GrW w w')
    (v : Value) (base : Nat) (l : List (Int × Int)) (w : World) (hl : l.length ≤ 1000000000000) (hs : OwS w base v l) :
    Calls Tryz.prog 62 #[v, .func (.func F) #[] #[]] w fun e w' => e = .returned (.tuple #[]) ∧ OwS w' base v (sortW l) ∧ w.grownBy w' v.ownBlock := by
  rcases OwG.form hs with ⟨rfl, rfl⟩ | ⟨g, cap, rfl, h1, h2, h3, h4⟩
  · refine (AnyF.slices_SortFunc_none Tryz.laysS none 0 _ w).mono ?_
    rintro e w' ⟨rfl, rfl⟩
    exact ⟨rfl, by rw [show sortW [] = [] by simp [sortW]]; exact hs, World.grownBy.refl _ _⟩
  · have hcmp : CmpLays Tryz.prog F #[] enS 2 cmpS g 0 l.toArray.size w := by
      intro m os dk hdk x y
      exact hF x.1 x.2 y.1 y.2 _
    have hcon := AnyQ.slices_SortFunc_total Tryz.laysS 2 Tryz.isAgg37 Tryz.sizeOf37 enS enS_len enS_one cmpS swoS F #[] g 0 cap l.toArray w eg hcmp (OwG.holdsK enS_len (by omega) hs) h2 (by rw [List.size_toArray]; omega) totS
    rw [List.size_toArray] at hcon
    refine hcon.mono ?_
    rintro e w' ⟨rfl, n, os, rfl⟩
    have hso := OwG.sorted enS_len (by omega) hs (sortW l) (sortW_len l) n os
    exact ⟨rfl, hso.1, hso.2⟩
theorem entFcmp : ∀ args w, (callFunc 63 args).run Tryz.prog w = .ok (.enter 63 args) w := by
  intro args w
  kernel_rfl
set_option maxHeartbeats 2000000 in
set_option maxRecDepth 100000 in
theorem cand_any (A B Ak : Option Addr) (c1 c2 n1 n2 nk ck : Nat) (b : Bed4) (s : Shp) (fl : Bool) (qu : Int) (l : List (Int × Int)) (pls : List (List (Int × Int))) (w : World) (hn1 : n1 ≤ 9223372036854775807) (hn2 : n2 ≤ 1000) (hpl : ∀ t ∈ pls, t.length ≤ 1000) (hc1 : n1 ≤ c1) (hs : SpS w A n1 l) (hS : SpSS w B n2 pls) :
    Calls Tryz.prog 33 #[bedV b, .agg #[.slice Ak nk ck, .int .i64 s.grain, .bool s.mat, .int .i64 s.anc.1, .int .i64 s.anc.2], .agg #[.bool fl, .int .i64 qu], .slice A n1 c1, .slice B n2 c2] w (RetSE w (candW b s fl qu l pls)) := by
  have hpok := placesW_ok b l pls
  have HP := Lib.hid (show candW b s fl qu l pls = if (placesW b l pls).1 ≠ 0 then ((placesW b l pls).1, []) else (0, sortW (keptTo b.rx b.ry s fl qu (placesW b l pls).2 (placesW b l pls).2.length)) from rfl)
  rw [hS.1] at hpok
  obtain ⟨q, hq⟩ : ∃ q, placesW b l pls = q := ⟨_, rfl⟩
  rw [hq] at HP hpok
  have HQ := Lib.hid hq
  clear hq
  obtain ⟨q1, sp⟩ := q
  obtain ⟨len, wid, rx, ry⟩ := b
  obtain ⟨spl, gr, mt, ⟨ax, ay⟩⟩ := s
  unfold bedV
  dsimp only at HP hpok ⊢
  have hspl := hpok.1
  have HOK := Lib.hid hpok.2
  clear hpok
  obtain ⟨W3, hW3⟩ : ∃ W3, W3 = (((w.alloc (.cells #[.int .i64 len, .int .i64 wid, .int .i64 rx, .int .i64 ry] 25)).alloc (.cells #[.slice Ak nk ck, .int .i64 gr, .bool mt, .int .i64 ax, .int .i64 ay] 49)).alloc (.cells #[.bool fl, .int .i64 qu] 29)) := ⟨_, rfl⟩
  have h0 : BlkS W3 w.heap.size 25 #[.int .i64 len, .int .i64 wid, .int .i64 rx, .int .i64 ry] := by rw [hW3]; exact ((BlkS.new _ _ _).alloc _).alloc _
  have h1 : BlkS W3 (w.heap.size + 1) 49 #[.slice Ak nk ck, .int .i64 gr, .bool mt, .int .i64 ax, .int .i64 ay] := by rw [hW3]; exact (BlkS.new2 _ _ _ _).alloc _
  have h2 : BlkS W3 (w.heap.size + 1 + 1) 29 #[.bool fl, .int .i64 qu] := by rw [hW3]; exact BlkS.new3 _ _ _ _ _
  have hbw : Below w.heap.size w W3 := by rw [hW3]; exact (Bl.alloc (Bl.alloc (Bl.alloc (Below.refl _ _) _) _) _)
  have H0 := Lib.hid h0
  have H1 := Lib.hid h1
  have H2 := Lib.hid h2
  have HBW := Lib.hid hbw
  subst hW3
  clear h0 h1 h2 hbw
  by_cases hq1 : q1 = 0
  · subst hq1
    rw [if_neg (by simp)] at HP
    go_enter Tryz.func33, Tryz.ntmps33
    go_upto_region 4 with (go_at_call 59; refine (places_any A B c1 c2 n1 n2 ⟨len, wid, rx, ry⟩ l pls _ hn1 hn2 hpl hc1 (hs.keep HBW.out) (hS.keep HBW.out)).mono ?_; rintro e w1 ⟨v1, rfl, ho1, hb1⟩; rw [HQ.out] at ho1 ⊢)
    obtain ⟨A1, cc1, rfl, hcc1, hS1, -⟩ := OwS.sps ho1
    obtain ⟨ns, hns⟩ : ∃ ns, sp.length = ns := ⟨_, rfl⟩
    rw [hns] at hS1 hcc1 hspl HP ⊢
    have HNS := Lib.hid hns
    have K0 := Lib.hid (H0.out.keep hb1)
    have K1 := Lib.hid (H1.out.keep hb1)
    have K2 := Lib.hid (H2.out.keep hb1)
    have hbA := Bl.call HBW.out hb1
    clear hns ho1 H0 H1 H2 HBW hb1
    obtain ⟨BB, hBB⟩ : ∃ BB, BB = w1.heap.size := ⟨_, rfl⟩
    have hbag : BagS (w1.alloc (.cells #[.map none, .slice none 0 0] 103)) BB (w1.alloc (.cells #[.map none, .slice none 0 0] 103)).heap.size [] := by rw [hBB]; exact (BagS.new w1).mono (by simp)
    have HBag := Lib.hid hbag
    clear hbag
    have hBB1 : w1.heap.size ≤ BB := by omega
    go_upto_region 6 with fail
    rw [← hBB]
    clear hBB
    go_loopw [31] (fun i wr => ∃ k : Nat, k ≤ ns ∧ i = .int .i64 k ∧ BagS wr BB wr.heap.size (keptTo rx ry ⟨spl, gr, mt, (ax, ay)⟩ fl qu sp k) ∧ Below w1.heap.size w1 wr) (fun i _ => ns - (intOf i).toNat)
    case atStart => exact ⟨0, Nat.zero_le _, rfl, HBag.out, Bl.alloc (Below.refl _ _) _⟩
    case round =>
      clear HBag
      obtain ⟨k, hk, rfl, hg, hbr⟩ := hrel
      by_cases hlt : k < ns
      · obtain ⟨b1, o1, rfl, hbl, hcc⟩ := (hS1.keep hbr).at_ hlt
        obtain ⟨d1, d2⟩ := hcc k hlt
        clear hcc
        have hokk : okS (gt sp k) := HOK.out _ (List.mem_of_getElem? (gt_some (by rw [HNS.out]; exact hlt)))
        obtain ⟨a1, a2, a3, a4, a5⟩ := (K0.out.keep hbr).cells4
        obtain ⟨e1, e2, e3, e4, e5, e6⟩ := (K1.out.keep hbr).cells5
        obtain ⟨f1, f2, f3, f4, f5⟩ := (K2.out.keep hbr).cells2
        have hst := Lib.hid (show keptTo rx ry ⟨spl, gr, mt, (ax, ay)⟩ fl qu sp (k + 1) = match setlW rx ry ⟨spl, gr, mt, (ax, ay)⟩ fl qu (gt sp k) with | none => keptTo rx ry ⟨spl, gr, mt, (ax, ay)⟩ fl qu sp k | some a => addW (keptTo rx ry ⟨spl, gr, mt, (ax, ay)⟩ fl qu sp k) [a] (0, 0) from rfl)
        have hkl := keptTo_len rx ry ⟨spl, gr, mt, (ax, ay)⟩ fl qu sp k
        have hBx : BB < wr.heap.size := by obtain ⟨_, _, q, _⟩ := hg; exact q.lt
        cases hse : setlW rx ry ⟨spl, gr, mt, (ax, ay)⟩ fl qu (gt sp k) with
        | none =>
          rw [hse] at hst
          have HSE := Lib.hid hse
          clear hse
          go_wp2_with (go_at_call 60; refine (settle_any _ _ _ _ _ spl _ _ _ _ _ _ _ _ _).mono ?_; rintro e w5 ⟨rfl, hb5⟩; rw [show setlW rx ry ⟨spl, gr, mt, (ax, ay)⟩ fl qu ((gt sp k).1, (gt sp k).2) = none from HSE.out]; dsimp only [optV, Option.getD, Option.isSome])
          have hb6 := Bl.alloc (Bl.call (Bl.alloc hbr _) hb5) (.cells #[.int .i64 0, .int .i64 0] 37)
          exact ⟨⟨k + 1, by omega, by go_num, by rw [hst.out]; exact (((hg.keep (Bl.alloc (Below.refl _ _) _)).keep hb5).keep (Bl.alloc (Below.refl _ _) _)).mono (by have := hb5.size; simp at this ⊢; omega), hb6⟩, by simp [intOf]; omega⟩
        | some a =>
          obtain ⟨px, py⟩ := a
          rw [hse] at hst
          have hoka := setlW_ok hokk hse
          have HSE := Lib.hid hse
          clear hse
          go_wp2_with (first | (go_at_call 60; refine (settle_any _ _ _ _ _ spl _ _ _ _ _ _ _ _ _).mono ?_; rintro e w5 ⟨rfl, hb5⟩; rw [show setlW rx ry ⟨spl, gr, mt, (ax, ay)⟩ fl qu ((gt sp k).1, (gt sp k).2) = some (px, py) from HSE.out]; dsimp only [optV, Option.getD, Option.isSome]; have hg5 := (hg.keep (Bl.alloc (Below.refl _ _) _)).keep hb5; have hz5 := hb5.size; simp at hz5; have hgO : BagS ((w5.alloc (.cells #[.int .i64 px, .int .i64 py] 37)).alloc (.cells #[.int .i64 px, .int .i64 py] 37)) BB w5.heap.size (keptTo rx ry ⟨spl, gr, mt, (ax, ay)⟩ fl qu sp k) := (hg5.keep (Bl.alloc (Bl.alloc (Below.refl _ _) _) _)).mono (by omega); have haO := hgO.av (s := w5.heap.size + 1) (by omega) (by simp); have hXO := BlkS.new2 w5 (.cells #[.int .i64 px, .int .i64 py] 37) 37 #[.int .i64 px, .int .i64 py]) | (go_at_call 61; refine (addS_any BB w5.heap.size (w5.heap.size + 1) 1 1 (keptTo rx ry ⟨spl, gr, mt, (ax, ay)⟩ fl qu sp k) [(px, py)] _ rfl (by omega) (by omega) hXO (by omega) (by intro p hp; simp at hp; subst hp; exact hoka) hgO (w5.heap.size + 1) haO).mono ?_; rintro e w8 ⟨rfl, hg8, hb8, hz8, -, -⟩))
          have hb8' : Below w1.heap.size w1 w8 := (Bl.alloc (Bl.alloc (Bl.call (Bl.alloc hbr _) hb5) _) _).trans (hb8.mono hBB1)
          exact ⟨⟨k + 1, by omega, by go_num, by rw [hst.out]; exact hg8, hb8'⟩, by simp [intOf]; omega⟩
      · obtain rfl : ns = k := by omega
        have hkl := keptTo_len rx ry ⟨spl, gr, mt, (ax, ay)⟩ fl qu sp ns
        obtain ⟨mv, sv, q1, q2, -, q4, -⟩ := hg
        obtain ⟨a1, a2, a3, a4, a5⟩ := q1.cells2
        go_wp2_with (go_at_call 62; refine (sort_big _ entFcmp (fun _ _ _ _ _ => fcmp_any _ _ _ _ _) sv BB (keptTo rx ry ⟨spl, gr, mt, (ax, ay)⟩ fl qu sp ns) _ (by omega) q2).mono ?_; rintro e w8 ⟨rfl, ho8, hg8⟩; have q18 := BlkS.grown q1 hg8 (by intro e; exact Nat.lt_irrefl _ (q4 _ e.symm).1); obtain ⟨m1, m2, m3, m4, m5⟩ := q18.cells2)
        go_ret2
        exact ⟨sv, by rw [HP.out]; rfl, by rw [HP.out]; exact OwG.lower ho8 (Nat.le_trans hbA.size hBB1), Bl.call hbA (Below.grown hbr hg8 hbr.size (fun j hj => Nat.le_trans hBB1 (Nat.le_of_lt (q4 j hj).1)))⟩
  · have qo : (q1 != 0) = true := by simpa using hq1
    rw [if_pos hq1] at HP
    clear hq1
    go_enter Tryz.func33, Tryz.ntmps33
    go_wp2_with (go_at_call 59; refine (places_any A B c1 c2 n1 n2 ⟨len, wid, rx, ry⟩ l pls _ hn1 hn2 hpl hc1 (hs.keep HBW.out) (hS.keep HBW.out)).mono ?_; rintro e w1 ⟨v1, rfl, ho1, hb1⟩; rw [HQ.out])
    go_ret2
    exact ⟨_, by rw [HP.out]; rfl, by rw [HP.out]; exact OwG.nil, Bl.call HBW.out hb1⟩
end Go.Proofs.YtmdncaoilegnnaaGreat

/- Rectangles: what Step does with equal rectangles. Rectangles: Run stacks them in columns. -/
import Derived.Test.YtmdncaoilegnnaaGreatUG75
import Derived.Test.YtmdncaoilegnnaaGreatUG80
namespace Go.Proofs.YtmdncaoilegnnaaGreat
set_option linter.unusedVariables false
set_option linter.unusedSimpArgs false
set_option linter.unusedVariables false
set_option linter.unusedSimpArgs false
open Go.RowKit Ears

def recS (w h : Int) : Shp := ⟨[(0, 0), (w, 0), (w, h), (0, h)], 1, false, (0, 0)⟩
/-- The beds and rectangles of the statement. -/
structure RcB (b : Bed4) (w h : Int) : Prop where
  l1 : 1 ≤ b.len
  l2 : b.len ≤ 10000
  w1 : 1 ≤ b.wid
  w2 : b.wid ≤ 10000
  x1 : 1 ≤ w
  x2 : w ≤ 1000
  y1 : 1 ≤ h
  y2 : h ≤ 1000
/-- Puts of the rectangle on the bed. -/
def RcP (ps : List Pt5) : Prop := ∀ k, k < ps.length → ∃ x y, pt ps k = ⟨0, false, 0, x, y⟩ ∧ 0 ≤ x ∧ x ≤ 10000 ∧ 0 ≤ y ∧ y ≤ 10000
def RcFit (b : Bed4) (w h : Int) (ps : List Pt5) (x y : Int) : Prop :=
  0 ≤ x ∧ x + w ≤ b.len ∧ 0 ≤ y ∧ y + h ≤ b.wid ∧ ∀ k, k < ps.length → ¬ (-w < (pt ps k).x - x ∧ (pt ps k).x - x < w ∧ -h < (pt ps k).y - y ∧ (pt ps k).y - y < h)
section
variable {b : Bed4} {w h : Int}

theorem rc_zero (w h : Int) : [((0 : Int), (0 : Int)), (w, 0), (w, h), (0, h)] = rcAt w h 0 0 := by unfold rcAt; simp
theorem rec_tpol (w h : Int) : tpolW false 0 (recS w h).poly = rcAt w h 0 0 := by
  unfold tpolW recS
  rw [if_neg (by simp), rc_zero]
  have : ∀ l : List (Int × Int), l.map (applyW false 0) = l := fun l => by
    induction l with
    | nil => rfl
    | cons q l ih => rw [List.map_cons, ih]; rfl
  exact this _
theorem rec_check (H : RcB b w h) : checkW (recS w h).poly (recS w h).poly.length = 0 := by
  unfold recS
  dsimp only
  rw [rc_zero]
  exact rc_check (by omega) (by omega) ⟨H.x1, H.x2⟩ ⟨H.y1, H.y2⟩
theorem rec_mov (w h x y : Int) : movP (rcAt w h 0 0) x y = rcAt w h x y := by
  unfold movP rcAt
  simp
  omega
theorem rec_poly (H : RcB b w h) {x y : Int} (hx : -10000 ≤ x ∧ x ≤ 20000) (hy : -10000 ≤ y ∧ y ≤ 20000) : polyW [recS w h] ⟨0, false, 0, x, y⟩ = (0, rcAt w h x y) := by
  have e : movP (tpolW false 0 (recS w h).poly) x y = rcAt w h x y := by rw [rec_tpol, rec_mov]
  have := poly_put (s := recS w h) (rec_check H) 0 x y (by unfold nearB; dsimp only; omega) (by rw [e]; exact rc_near hx hy ⟨H.x1, H.x2⟩ ⟨H.y1, H.y2⟩)
  rw [this, e]
theorem rec_poly2 (H : RcB b w h) {x y : Int} (h0 : (polyW [recS w h] ⟨0, false, 0, x, y⟩).1 = 0) : (polyW [recS w h] ⟨0, false, 0, x, y⟩).2 = rcAt w h x y := by
  have e := rec_poly H (x := 0) (y := 0) (by omega) (by omega)
  rw [(poly_at (by rw [e]) h0).1, e]
  exact rec_mov w h x y
theorem rec_bed (H : RcB b w h) : bedBad b = false := by
  obtain ⟨h1, h2, h3, h4, -⟩ := H
  unfold bedBad
  simp
  omega
theorem fitTo_iff {S : List Shp} {r : List (Int × Int)} {ps : List Pt5} : ∀ {n : Nat}, fitTo S r ps n = 0 ↔ ∀ k, k < n → (polyW S (pt ps k)).1 = 0 ∧ overW (polyW S (pt ps k)).2 r = (false, 0) := by
  intro n
  induction n with
  | zero => exact ⟨fun _ k hk => absurd hk (by omega), fun _ => rfl⟩
  | succ n ih =>
    rw [fitTo]
    constructor
    · intro e
      split at e
      · rename_i g; exact absurd e g
      · rename_i g
        split at e
        · rename_i g2; exact absurd e g2
        · rename_i g2
          split at e
          · rename_i g3; exact absurd e g3
          · rename_i g3
            split at e
            · cases e
            · rename_i g4
              intro k hk
              by_cases c : k < n
              · exact ih.1 (by simpa using g) k c
              · obtain rfl : k = n := by omega
                exact ⟨by simpa using g2, Prod.ext (by simpa using g4) (by simpa using g3)⟩
    · intro e
      obtain ⟨e1, e2⟩ := e n (by omega)
      rw [if_neg (by rw [ih.2 (fun k hk => e k (by omega))]; simp), if_neg (by rw [e1]; simp), e2]
      simp
theorem rec_fits (H : RcB b w h) {ps : List Pt5} (hp : RcP ps) {x y : Int} : fitsW b [recS w h] ps ⟨0, false, 0, x, y⟩ = 0 ↔ RcFit b w h ps x y := by
  have over : ∀ x y, 0 ≤ x → x ≤ 10000 → 0 ≤ y → y ≤ 10000 → ∀ k, k < ps.length → (polyW [recS w h] (pt ps k)).1 = 0 ∧ ∃ v, overW (polyW [recS w h] (pt ps k)).2 (rcAt w h x y) = (v, 0) ∧ (v = true ↔ (-w < (pt ps k).x - x ∧ (pt ps k).x - x < w ∧ -h < (pt ps k).y - y ∧ (pt ps k).y - y < h)) := by
    intro x y g1 g2 g3 g4 k hk
    obtain ⟨X, Y, e, k1, k2, k3, k4⟩ := hp k hk
    rw [e, rec_poly H (by omega) (by omega)]
    exact ⟨rfl, rc_over (by omega) (by omega) (by omega) (by omega) ⟨H.x1, H.x2⟩ ⟨H.y1, H.y2⟩⟩
  have hl := H.l2
  have hwd := H.w2
  have hx1 := H.x1
  have hy1 := H.y1
  constructor
  · intro hf
    obtain ⟨_, f1, f2⟩ := fits_poly hf
    have e := rec_poly2 H f1
    rw [e] at f2
    unfold fitIn at f2
    split at f2
    · cases f2
    · split at f2
      · cases f2
      · rename_i hb
        split at f2
        · cases f2
        · have ib : ∀ i, i < 4 → outBed b (gt (rcAt w h x y) i) = false := fun i hi => by
            cases c : outBed b (gt (rcAt w h x y) i) with
            | false => rfl
            | true => exact absurd (AnyB.iff.2 ⟨i, hi, c⟩) hb
          have i0 := ib 0 (by omega)
          have i2 := ib 2 (by omega)
          rw [show gt (rcAt w h x y) 0 = (x, y) from rfl] at i0
          rw [show gt (rcAt w h x y) 2 = (x + w, y + h) from rfl] at i2
          unfold outBed at i0 i2
          simp at i0 i2
          refine ⟨by omega, by omega, by omega, by omega, fun k hk c => ?_⟩
          obtain ⟨_, v, o1, o2⟩ := over x y (by omega) (by omega) (by omega) (by omega) k hk
          have := (fitTo_iff.1 f2 k hk).2
          rw [o1] at this
          injection this with this _
          rw [o2.2 c] at this
          cases this
  · rintro ⟨g1, g2, g3, g4, g5⟩
    unfold fitsW
    rw [rec_bed H, if_neg (by simp), rec_poly H (by omega) (by omega), if_neg (by simp)]
    show fitIn b [recS w h] ps ⟨0, false, 0, x, y⟩ (recS w h) (rcAt w h x y) = 0
    unfold fitIn
    rw [if_neg (by simp [recS, alwW]), if_neg, if_neg (by simp [recS])]
    · rw [fitTo_iff]
      intro k hk
      obtain ⟨o0, v, o1, o2⟩ := over x y (by omega) (by omega) (by omega) (by omega) k hk
      refine ⟨o0, ?_⟩
      rw [o1]
      cases v with
      | false => rfl
      | true => exact absurd (o2.1 rfl) (g5 k hk)
    · intro e
      obtain ⟨i, hi, he⟩ := AnyB.iff.1 e
      have := rc_bds w h x y (by omega) (by omega) _ (gt_in (l := rcAt w h x y) hi)
      unfold outBed at he
      simp at he
      omega
theorem plac_rec (H : RcB b w h) {ps : List Pt5} (hp : RcP ps) : ∀ n, n ≤ ps.length → placTo [recS w h] ps n = (0, (List.range n).map (fun k => rcAt w h (pt ps k).x (pt ps k).y)) := by
  intro n
  induction n with
  | zero => intro _; rfl
  | succ n ih =>
    intro hn
    obtain ⟨X, Y, e, k1, k2, k3, k4⟩ := hp n (by omega)
    rw [placTo, ih (by omega), if_neg (by simp), e, rec_poly H (by omega) (by omega), if_neg (by simp), List.range_succ, List.map_append]
    simp only [List.map_cons, List.map_nil, e]
theorem prep_rec (H : RcB b w h) {ps : List Pt5} (hp : RcP ps) : prepW b [recS w h] ps 0 false 0 = (0, rcAt w h 0 0, (List.range ps.length).map (fun k => rcAt w h (pt ps k).x (pt ps k).y)) := by
  unfold prepW
  rw [rec_bed H, if_neg (by simp), rec_poly H (by omega) (by omega), if_neg (by simp), plac_rec H hp _ (Nat.le_refl _), if_neg (by simp)]
theorem plcIn_mem {x0 y0 y1 : Int} {sp L : List (Int × Int)} {a : Int × Int} : ∀ {n : Nat}, a ∈ plcIn x0 y0 y1 sp L n ↔ a ∈ L ∨ ∃ j, j < n ∧ a ∈ four x0 y0 y1 (gt sp j) := by
  intro n
  induction n with
  | zero => simp [plcIn]
  | succ n ih =>
    rw [plcIn, mem_addW_iff, ih]
    constructor
    · rintro ((g | ⟨j, hj, g⟩) | g)
      · exact .inl g
      · exact .inr ⟨j, by omega, g⟩
      · exact .inr ⟨n, by omega, g⟩
    · rintro (g | ⟨j, hj, g⟩)
      · exact .inl (.inl g)
      · by_cases c : j < n
        · exact .inl (.inr ⟨j, c, g⟩)
        · obtain rfl : j = n := by omega
          exact .inr g
theorem plcTo_mem {l : List (Int × Int)} {x0 y0 y1 : Int} {pls : List (List (Int × Int))} : ∀ {n : Nat}, (∀ k, k < n → (spotsW (lt_ pls k) l).1 = 0) → (plcTo l x0 y0 y1 pls n).1 = 0 ∧
    ∀ a, a ∈ (plcTo l x0 y0 y1 pls n).2 ↔ a = (x0, y0) ∨ a = (x0, y1) ∨ ∃ k, k < n ∧ ∃ v ∈ (spotsW (lt_ pls k) l).2, a ∈ four x0 y0 y1 v := by
  intro n
  induction n with
  | zero =>
    intro _
    refine ⟨rfl, fun a => ?_⟩
    rw [plcTo, mem_addW_iff]
    simp
  | succ n ih =>
    intro hk
    obtain ⟨i1, i2⟩ := ih (fun k h => hk k (by omega))
    rw [plcTo, if_neg (by rw [i1]; simp), if_neg (by rw [hk n (by omega)]; simp)]
    refine ⟨rfl, fun a => ?_⟩
    rw [plcIn_mem, i2]
    constructor
    · rintro ((g | g | ⟨k, hk, g⟩) | ⟨j, hj, g⟩)
      · exact .inl g
      · exact .inr (.inl g)
      · exact .inr (.inr ⟨k, by omega, g⟩)
      · exact .inr (.inr ⟨n, by omega, _, gt_in hj, g⟩)
    · rintro (g | g | ⟨k, hk, v, hv, g⟩)
      · exact .inl (.inl g)
      · exact .inl (.inr (.inl g))
      · by_cases c : k < n
        · exact .inl (.inr (.inr ⟨k, c, v, hv, g⟩))
        · obtain rfl : k = n := by omega
          obtain ⟨j, hj, rfl⟩ := mem_gt hv
          exact .inr ⟨j, hj, g⟩
/-- The candidates: sorted; the corner, and what the upper right corners of the placed rectangles yield. -/
theorem cand_rec (H : RcB b w h) {ps : List Pt5} (hp : RcP ps) : ∃ cs, candW b (recS w h) false 0 (rcAt w h 0 0) ((List.range ps.length).map (fun k => rcAt w h (pt ps k).x (pt ps k).y)) = (0, cs) ∧
    cs.Pairwise (fun x y => x.1 < y.1 ∨ (x.1 = y.1 ∧ x.2 ≤ y.2)) ∧ (0, 0) ∈ cs ∧
    ∀ k, k < ps.length → ((pt ps k).x + w, (pt ps k).y + h) ∈ cs ∧ ((pt ps k).x + w, 0) ∈ cs ∧ (0, (pt ps k).y + h) ∈ cs := by
  have hc : checkW (rcAt w h 0 0) (rcAt w h 0 0).length = 0 := rc_check (by omega) (by omega) ⟨H.x1, H.x2⟩ ⟨H.y1, H.y2⟩
  have hx1 := H.x1
  have hy1 := H.y1
  have hlX : loX (rcAt w h 0 0) (rcAt w h 0 0).length = 0 := loX_char (fun i hi => (rc_bds w h 0 0 (by omega) (by omega) _ (gt_in hi)).1) ⟨0, by show 0 < 4; omega, rfl⟩
  have hlY : loY (rcAt w h 0 0) (rcAt w h 0 0).length = 0 := loY_char (fun i hi => (rc_bds w h 0 0 (by omega) (by omega) _ (gt_in hi)).2.2.1) ⟨0, by show 0 < 4; omega, rfl⟩
  obtain ⟨pls, hpls⟩ : ∃ pls, (List.range ps.length).map (fun k => rcAt w h (pt ps k).x (pt ps k).y) = pls := ⟨_, rfl⟩
  have hpl : pls.length = ps.length := by rw [← hpls]; simp
  have hlt : ∀ k, k < ps.length → lt_ pls k = rcAt w h (pt ps k).x (pt ps k).y := fun k hk => by
    unfold lt_; rw [← hpls, List.getD, List.getElem?_eq_getElem (by simpa using hk)]; simp
  have hsp : ∀ k, k < ps.length → (spotsW (lt_ pls k) (rcAt w h 0 0)).1 = 0 ∧ ((pt ps k).x + w, (pt ps k).y + h) ∈ (spotsW (lt_ pls k) (rcAt w h 0 0)).2 := fun k hk => by
    obtain ⟨X, Y, e, k1, k2, k3, k4⟩ := hp k hk
    rw [hlt k hk, e]
    exact rc_spot (by dsimp only; omega) (by dsimp only; omega) ⟨H.x1, H.x2⟩ ⟨H.y1, H.y2⟩
  rw [hpls]
  obtain ⟨y1, hy⟩ : ∃ y1, wrap64 (wrap64 (b.wid - loY (rcAt w h 0 0) (rcAt w h 0 0).length) - wrap64 (hiY (rcAt w h 0 0) (rcAt w h 0 0).length - loY (rcAt w h 0 0) (rcAt w h 0 0).length)) = y1 := ⟨_, rfl⟩
  obtain ⟨p1, p2⟩ := plcTo_mem (l := rcAt w h 0 0) (x0 := 0) (y0 := 0) (y1 := y1) (pls := pls) (n := ps.length) (fun k hk => (hsp k hk).1)
  have hP : placesW b (rcAt w h 0 0) pls = plcTo (rcAt w h 0 0) 0 0 y1 pls ps.length := by
    unfold placesW
    have w0 : wrap64 (-(0 : Int)) = 0 := by rw [wrap_near (by omega) (by omega)]; omega
    rw [if_neg (by rw [hc]; simp), hy, hlX, hlY, hpl, w0]
  unfold candW
  rw [hP, if_neg (by rw [p1]; simp)]
  refine ⟨_, rfl, sort_pairwise2 _, ?_⟩
  have mem : ∀ a, a ∈ (plcTo (rcAt w h 0 0) 0 0 y1 pls ps.length).2 → a ∈ sortW (keptTo b.rx b.ry (recS w h) false 0 (plcTo (rcAt w h 0 0) 0 0 y1 pls ps.length).2 (plcTo (rcAt w h 0 0) 0 0 y1 pls ps.length).2.length) := fun a ha => by
    rw [sort_mem, kept_mem b.rx b.ry rfl]
    obtain ⟨i, hi, e⟩ := mem_gt ha
    exact ⟨i, hi, e⟩
  refine ⟨mem _ ((p2 _).2 (.inl rfl)), fun k hk => ⟨mem _ ((p2 _).2 (.inr (.inr ⟨k, hk, _, (hsp k hk).2, by simp [four]⟩))), mem _ ((p2 _).2 (.inr (.inr ⟨k, hk, _, (hsp k hk).2, by simp [four]⟩))), mem _ ((p2 _).2 (.inr (.inr ⟨k, hk, _, (hsp k hk).2, by simp [four]⟩)))⟩⟩
/-- Step: the least fitting candidate, if the least fitting place is a candidate. -/
theorem step_rec (H : RcB b w h) {ps : List Pt5} (hp : RcP ps) {X Y : Int} (hT : RcFit b w h ps X Y) (hm : ∀ x y, RcFit b w h ps x y → X < x ∨ (X = x ∧ Y ≤ y))
    (hc : (X = 0 ∧ Y = 0) ∨ ∃ k, k < ps.length ∧ ((X = (pt ps k).x + w ∧ Y = (pt ps k).y + h) ∨ (X = (pt ps k).x + w ∧ Y = 0) ∨ (X = 0 ∧ Y = (pt ps k).y + h))) : stepW b [recS w h] ps 0 = (0, ⟨0, false, 0, X, Y⟩) := by
  obtain ⟨cs, hcs, hpw, h00, hk⟩ := cand_rec H hp
  have hin : (X, Y) ∈ cs := by
    rcases hc with ⟨rfl, rfl⟩ | ⟨k, hkl, ⟨rfl, rfl⟩ | ⟨rfl, rfl⟩ | ⟨rfl, rfl⟩⟩
    · exact h00
    · exact (hk k hkl).1
    · exact (hk k hkl).2.1
    · exact (hk k hkl).2.2
  obtain ⟨j2, hj2, e2⟩ := mem_gt hin
  have hfit : ∀ x y, isFit b [recS w h] ps 0 (false, 0) (x, y) = true ↔ RcFit b w h ps x y := fun x y => by
    unfold isFit
    rw [beq_iff_eq]
    exact rec_fits H hp
  have hff : ∃ j, fstFit b [recS w h] ps 0 (false, 0) cs = some j ∧ gt cs j = (X, Y) := by
    cases hff : fstFit b [recS w h] ps 0 (false, 0) cs with
    | none =>
      exfalso
      unfold fstFit at hff
      have := fnd_none hff j2 hj2
      rw [e2, (hfit X Y).2 hT] at this
      cases this
    | some j =>
      refine ⟨j, rfl, ?_⟩
      unfold fstFit at hff
      obtain ⟨f1, f2, f3⟩ := find_range hff
      have hj : RcFit b w h ps (gt cs j).1 (gt cs j).2 := (hfit _ _).1 f2
      have := hm _ _ hj
      have hnl : ¬ j2 < j := fun hlt => by
        have := f3 j2 hlt
        rw [e2, (hfit X Y).2 hT] at this
        cases this
      rcases Nat.eq_or_lt_of_le (Nat.le_of_not_lt hnl) with g | g
      · rw [g, e2]
      · have hq := List.pairwise_iff_getElem.1 hpw j j2 f1 hj2 g
        have g1 : cs[j] = gt cs j := by unfold gt; rw [List.getD, List.getElem?_eq_getElem f1]; rfl
        have g2 : cs[j2] = gt cs j2 := by unfold gt; rw [List.getD, List.getElem?_eq_getElem hj2]; rfl
        rw [g1, g2, e2] at hq
        dsimp only at hq
        exact Prod.ext (by dsimp only; omega) (by dsimp only; omega)
  obtain ⟨j, hff, hgj⟩ := hff
  unfold stepW
  rw [prep_rec H hp, if_neg (by simp)]
  dsimp only
  rw [show allW (shp [recS w h] (0 : Int).toNat).grain false = [(false, 0)] from rfl]
  show stepIn (stTo b [recS w h] ps 0 _ [(false, 0)] 1) = _
  have hst : stTo b [recS w h] ps 0 ((List.range ps.length).map (fun k => rcAt w h (pt ps k).x (pt ps k).y)) [(false, 0)] 1 = (0, [endOf 0 (false, 0) (rcAt w h 0 0) (X, Y)]) := by
    rw [stTo]
    rw [if_neg (by simp [stTo])]
    rw [show tr [((false, 0) : Trn)] 0 = (false, 0) from rfl]
    dsimp only
    rw [rec_poly H (by omega) (by omega)]
    rw [if_neg (by simp)]
    rw [show shp [recS w h] (0 : Int).toNat = recS w h from rfl]
    dsimp only
    rw [hcs, if_neg (by simp)]
    dsimp only
    rw [hff]
    dsimp only
    rw [hgj]
    rfl
  rw [hst]
  rfl
theorem step_rec_none (H : RcB b w h) {ps : List Pt5} (hp : RcP ps) (hm : ∀ x y, ¬ RcFit b w h ps x y) : stepW b [recS w h] ps 0 = (18, zeroP) := by
  obtain ⟨cs, hcs, -⟩ := cand_rec H hp
  have hff : fstFit b [recS w h] ps 0 (false, 0) cs = none := by
    cases hff : fstFit b [recS w h] ps 0 (false, 0) cs with
    | none => rfl
    | some j =>
      exfalso
      obtain ⟨f1, f2, f3⟩ := fstFit_some hff
      exact hm _ _ ((rec_fits H hp).1 f2)
  unfold stepW
  rw [prep_rec H hp, if_neg (by simp)]
  dsimp only
  rw [show allW (shp [recS w h] (0 : Int).toNat).grain false = [(false, 0)] from rfl]
  show stepIn (stTo b [recS w h] ps 0 _ [(false, 0)] 1) = _
  have hst : stTo b [recS w h] ps 0 ((List.range ps.length).map (fun k => rcAt w h (pt ps k).x (pt ps k).y)) [(false, 0)] 1 = (0, []) := by
    rw [stTo]
    rw [if_neg (by simp [stTo])]
    rw [show tr [((false, 0) : Trn)] 0 = (false, 0) from rfl]
    dsimp only
    rw [rec_poly H (by omega) (by omega)]
    rw [if_neg (by simp)]
    rw [show shp [recS w h] (0 : Int).toNat = recS w h from rfl]
    dsimp only
    rw [hcs, if_neg (by simp)]
    dsimp only
    rw [hff]
    rfl
  rw [hst]
  rfl
end
end Go.Proofs.YtmdncaoilegnnaaGreat

namespace Go.Proofs.YtmdncaoilegnnaaGreat
set_option linter.unusedVariables false
set_option linter.unusedSimpArgs false
set_option linter.unusedVariables false
set_option linter.unusedSimpArgs false
open Go.RowKit Ears

def gP (w h : Int) (k i : Nat) : Pt5 := ⟨0, false, 0, w * ((i / k : Nat) : Int), h * ((i % k : Nat) : Int)⟩
def gL (w h : Int) (k j : Nat) : List Pt5 := (List.range j).map (gP w h k)
section
variable {b : Bed4} {w h : Int} {k : Nat}

theorem gL_len (w h : Int) (k j : Nat) : (gL w h k j).length = j := by simp [gL]
theorem gL_pt {i j : Nat} (hi : i < j) : pt (gL w h k j) i = gP w h k i := by
  unfold pt gL
  rw [List.getD, List.getElem?_eq_getElem (by simpa using hi)]
  simp
theorem mul_mono {x : Int} (hx : 0 ≤ x) {a c : Nat} (hc : a ≤ c) : x * (a : Int) ≤ x * (c : Int) := Int.mul_le_mul_of_nonneg_left (by omega) hx
theorem mul_succ' (x : Int) (a : Nat) : x * ((a + 1 : Nat) : Int) = x * (a : Int) + x := by
  rw [show ((a + 1 : Nat) : Int) = (a : Int) + 1 by omega, Int.mul_add, Int.mul_one]
theorem mul0 {x : Int} (hx : 0 ≤ x) (a : Nat) : 0 ≤ x * (a : Int) := by
  have := mul_mono hx (Nat.zero_le a)
  simpa using this
/-- The cell of a grid that holds a number. -/
theorem cell_of {x z : Int} (hx : 1 ≤ x) {c : Nat} (h0 : 0 ≤ z) (h1 : z < x * (c : Int)) : ∃ a : Nat, a < c ∧ x * (a : Int) ≤ z ∧ z < x * (a : Int) + x := by
  have hq : 0 ≤ z / x := Int.ediv_nonneg h0 (by omega)
  obtain ⟨a, ha⟩ : ∃ a : Nat, z / x = (a : Int) := ⟨(z / x).toNat, by omega⟩
  have e := Int.mul_ediv_add_emod z x
  have m0 := Int.emod_nonneg z (b := x) (by omega)
  have m1 := Int.emod_lt_of_pos z (b := x) (by omega)
  rw [ha] at e
  refine ⟨a, ?_, by omega, by omega⟩
  apply Classical.byContradiction
  intro hn
  have := mul_mono (x := x) (by omega) (show c ≤ a by omega)
  omega
structure RcK (b : Bed4) (w h : Int) (k : Nat) : Prop where
  H : RcB b w h
  k1 : 1 ≤ k
  lo : h * (k : Int) ≤ b.wid
  hi : b.wid < h * (k : Int) + h
theorem RcK.down (K : RcK b w h k) {j : Nat} (hj : j = 0 ∨ w * (((j - 1) / k + 1 : Nat) : Int) ≤ b.len) {i : Nat} (hi : i < j) : w * ((i / k : Nat) : Int) + w ≤ b.len := by
  rcases hj with rfl | hj
  · omega
  · have h1 : i / k ≤ (j - 1) / k := Nat.div_le_div_right (by omega)
    have := mul_mono (x := w) (by have := K.H.x1; omega) h1
    rw [mul_succ'] at hj
    omega
theorem RcK.row (K : RcK b w h k) (i : Nat) : 0 ≤ h * ((i % k : Nat) : Int) ∧ h * ((i % k : Nat) : Int) + h ≤ b.wid := by
  have h1 : i % k < k := Nat.mod_lt _ K.k1
  have hh := K.H.y1
  have := mul_mono (x := h) (by omega) (show i % k + 1 ≤ k by omega)
  rw [mul_succ'] at this
  have := K.lo
  have := mul0 (x := h) (by omega) (i % k)
  omega
theorem RcK.puts (K : RcK b w h k) {j : Nat} (hj : j = 0 ∨ w * (((j - 1) / k + 1 : Nat) : Int) ≤ b.len) : RcP (gL w h k j) := by
  intro i hi
  rw [gL_len] at hi
  rw [gL_pt hi]
  have h1 := K.down hj hi
  have h2 := K.row i
  have := mul0 (x := w) (by have := K.H.x1; omega) (i / k)
  have := K.H.x1
  have := K.H.y1
  have := K.H.l2
  have := K.H.w2
  exact ⟨_, _, rfl, by omega, by omega, by omega, by omega⟩
/-- What fits beside the first j rectangles does not come before the next place. -/
theorem RcK.min (K : RcK b w h k) {j : Nat} {x y : Int} (hf : RcFit b w h (gL w h k j) x y) : w * ((j / k : Nat) : Int) < x ∨ (w * ((j / k : Nat) : Int) = x ∧ h * ((j % k : Nat) : Int) ≤ y) := by
  obtain ⟨f1, f2, f3, f4, f5⟩ := hf
  rw [gL_len] at f5
  have hw := K.H.x1
  have hh := K.H.y1
  have hi := K.hi
  have key : ∀ i, i < j → ¬ (-w < w * ((i / k : Nat) : Int) - x ∧ w * ((i / k : Nat) : Int) - x < w ∧ -h < h * ((i % k : Nat) : Int) - y ∧ h * ((i % k : Nat) : Int) - y < h) := fun i hij => by
    have := f5 i hij
    rw [gL_pt hij] at this
    exact this
  obtain ⟨r, hr, y1, y2⟩ := cell_of (x := h) (z := y) (c := k) hh f3 (by omega)
  have dm : ∀ c : Nat, (c * k + r) / k = c ∧ (c * k + r) % k = r := fun c => by
    constructor
    · rw [Nat.mul_comm, Nat.mul_add_div (by omega), Nat.div_eq_of_lt hr, Nat.add_zero]
    · rw [Nat.mul_comm, Nat.mul_add_mod, Nat.mod_eq_of_lt hr]
  have ej := Nat.div_add_mod j k
  rcases Int.lt_trichotomy x (w * ((j / k : Nat) : Int)) with c | c | c
  · exfalso
    obtain ⟨a, ha, x1, x2⟩ := cell_of (x := w) (z := x) hw f1 c
    have hlt : a * k + r < j := by
      have h1 : (a + 1) * k ≤ (j / k) * k := Nat.mul_le_mul_right k (by omega)
      rw [Nat.mul_comm (j / k) k] at h1
      rw [Nat.add_mul] at h1
      omega
    have := key _ hlt
    rw [(dm a).1, (dm a).2] at this
    apply this
    refine ⟨?_, ?_, ?_, ?_⟩ <;> omega
  · right
    refine ⟨c.symm, ?_⟩
    apply Classical.byContradiction
    intro hn
    have hrl : r < j % k := by
      apply Classical.byContradiction
      intro h9
      have := mul_mono (x := h) (by omega) (show j % k ≤ r by omega)
      omega
    have hlt : (j / k) * k + r < j := by
      rw [Nat.mul_comm]; omega
    have := key _ hlt
    rw [(dm (j / k)).1, (dm (j / k)).2] at this
    apply this
    refine ⟨?_, ?_, ?_, ?_⟩ <;> omega
  · exact .inl c
theorem RcK.fit (K : RcK b w h k) {j : Nat} (hj : w * ((j / k + 1 : Nat) : Int) ≤ b.len) : RcFit b w h (gL w h k j) (w * ((j / k : Nat) : Int)) (h * ((j % k : Nat) : Int)) := by
  have hw := K.H.x1
  have hh := K.H.y1
  rw [mul_succ'] at hj
  refine ⟨mul0 (by omega) _, by omega, (K.row j).1, (K.row j).2, fun i hi => ?_⟩
  rw [gL_len] at hi
  rw [gL_pt hi]
  unfold gP
  dsimp only
  rintro ⟨g1, g2, g3, g4⟩
  have hd : i / k ≤ j / k := Nat.div_le_div_right (by omega)
  by_cases c : i / k = j / k
  · have h1 := Nat.div_add_mod i k
    have h2 := Nat.div_add_mod j k
    rw [c] at h1
    have := mul_mono (x := h) (by omega) (show i % k + 1 ≤ j % k by omega)
    rw [mul_succ'] at this
    omega
  · have := mul_mono (x := w) (by omega) (show i / k + 1 ≤ j / k by omega)
    rw [mul_succ'] at this
    omega
theorem RcK.cnd (K : RcK b w h k) (j : Nat) : (w * ((j / k : Nat) : Int) = 0 ∧ h * ((j % k : Nat) : Int) = 0) ∨ ∃ i, i < (gL w h k j).length ∧ ((w * ((j / k : Nat) : Int) = (pt (gL w h k j) i).x + w ∧ h * ((j % k : Nat) : Int) = (pt (gL w h k j) i).y + h) ∨ (w * ((j / k : Nat) : Int) = (pt (gL w h k j) i).x + w ∧ h * ((j % k : Nat) : Int) = 0) ∨ (w * ((j / k : Nat) : Int) = 0 ∧ h * ((j % k : Nat) : Int) = (pt (gL w h k j) i).y + h)) := by
  have hk := K.k1
  rw [gL_len]
  have ej := Nat.div_add_mod j k
  have hm : j % k < k := Nat.mod_lt _ hk
  have dm : ∀ c r : Nat, r < k → (c * k + r) / k = c ∧ (c * k + r) % k = r := fun c r hr => by
    constructor
    · rw [Nat.mul_comm, Nat.mul_add_div (by omega), Nat.div_eq_of_lt hr, Nat.add_zero]
    · rw [Nat.mul_comm, Nat.mul_add_mod, Nat.mod_eq_of_lt hr]
  obtain ⟨c, hc⟩ : ∃ c, j / k = c := ⟨_, rfl⟩
  obtain ⟨r, hr⟩ : ∃ r, j % k = r := ⟨_, rfl⟩
  rw [hc, hr] at ej ⊢
  rw [hr] at hm
  have up : ∀ (a r : Nat), a + 1 ≤ c → r < k → a * k + r < j := fun a r h1 h2 => by
    have := Nat.mul_le_mul_right k h1
    rw [Nat.add_mul, Nat.mul_comm c k] at this
    omega
  rcases Nat.eq_zero_or_pos c with rfl | c0 <;> rcases Nat.eq_zero_or_pos r with rfl | r0
  · left; simp
  · right
    have hlt : 0 * k + (r - 1) < j := by omega
    refine ⟨_, hlt, .inr (.inr ⟨by simp, ?_⟩)⟩
    rw [gL_pt hlt]
    unfold gP
    rw [(dm 0 (r - 1) (by omega)).2]
    dsimp only
    rw [← mul_succ', show r - 1 + 1 = r by omega]
  · right
    have hlt := up (c - 1) 0 (by omega) (by omega)
    refine ⟨_, hlt, .inr (.inl ⟨?_, by simp⟩)⟩
    rw [gL_pt hlt]
    unfold gP
    rw [(dm (c - 1) 0 (by omega)).1]
    dsimp only
    rw [← mul_succ', show c - 1 + 1 = c by omega]
  · right
    have hlt := up (c - 1) (r - 1) (by omega) (by omega)
    refine ⟨_, hlt, .inl ⟨?_, ?_⟩⟩
    · rw [gL_pt hlt]
      unfold gP
      rw [(dm (c - 1) (r - 1) (by omega)).1]
      dsimp only
      rw [← mul_succ', show c - 1 + 1 = c by omega]
    · rw [gL_pt hlt]
      unfold gP
      rw [(dm (c - 1) (r - 1) (by omega)).2]
      dsimp only
      rw [← mul_succ', show r - 1 + 1 = r by omega]
theorem RcK.step (K : RcK b w h k) {j : Nat} (h1 : w * ((j / k + 1 : Nat) : Int) ≤ b.len) : stepW b [recS w h] (gL w h k j) 0 = (0, gP w h k j) := by
  have hj : j = 0 ∨ w * (((j - 1) / k + 1 : Nat) : Int) ≤ b.len := by
    rcases Nat.eq_zero_or_pos j with e | e
    · exact .inl e
    · right
      have h2 : (j - 1) / k ≤ j / k := Nat.div_le_div_right (by omega)
      have := mul_mono (x := w) (by have := K.H.x1; omega) (show (j - 1) / k + 1 ≤ j / k + 1 by omega)
      omega
  exact step_rec K.H (K.puts hj) (K.fit h1) (fun x y hf => K.min hf) (K.cnd j)
theorem RcK.stop (K : RcK b w h k) {j : Nat} (hj : j = 0 ∨ w * (((j - 1) / k + 1 : Nat) : Int) ≤ b.len) (h1 : ¬ w * ((j / k + 1 : Nat) : Int) ≤ b.len) : stepW b [recS w h] (gL w h k j) 0 = (18, zeroP) := by
  refine step_rec_none K.H (K.puts hj) fun x y hf => ?_
  have := K.min hf
  obtain ⟨f1, f2, f3, f4, f5⟩ := hf
  rw [mul_succ'] at h1
  omega
theorem RcK.run (K : RcK b w h k) {os : List Int} (hos : ∀ i, gi os i = 0) : ∀ j, (j = 0 ∨ w * (((j - 1) / k + 1 : Nat) : Int) ≤ b.len) → runTo b [recS w h] os j = (0, gL w h k j) := by
  intro j
  induction j with
  | zero => intro _; rfl
  | succ j ih =>
    intro hj
    have hj1 : w * ((j / k + 1 : Nat) : Int) ≤ b.len := by
      rcases hj with hj | hj
      · omega
      · rw [show j + 1 - 1 = j by omega] at hj; exact hj
    have hj2 : j = 0 ∨ w * (((j - 1) / k + 1 : Nat) : Int) ≤ b.len := by
      rcases Nat.eq_zero_or_pos j with e | e
      · exact .inl e
      · right
        have h2 : (j - 1) / k ≤ j / k := Nat.div_le_div_right (by omega)
        have := mul_mono (x := w) (by have := K.H.x1; omega) (show (j - 1) / k + 1 ≤ j / k + 1 by omega)
        omega
    rw [runTo, ih hj2, if_neg (by simp), hos, K.step hj1, if_neg (by simp)]
    dsimp only
    unfold gL
    rw [List.range_succ, List.map_append]
    rfl
theorem RcK.fail (K : RcK b w h k) {os : List Int} (hos : ∀ i, gi os i = 0) : ∀ n, n ≠ 0 → ¬ w * (((n - 1) / k + 1 : Nat) : Int) ≤ b.len → runTo b [recS w h] os n = (18, []) := by
  intro n
  induction n with
  | zero => intro h; exact absurd rfl h
  | succ n ih =>
    intro _ hn
    rw [show n + 1 - 1 = n by omega] at hn
    by_cases hj : n = 0 ∨ w * (((n - 1) / k + 1 : Nat) : Int) ≤ b.len
    · rw [runTo, K.run hos n hj, if_neg (by simp), hos, K.stop hj hn, if_pos (by simp)]
    · have := ih (fun e => hj (.inl e)) (fun e => hj (.inr e))
      rw [runTo, this, if_pos (by simp)]
/-- A rectangle higher than the bed fits nowhere. -/
theorem rec_high (H : RcB b w h) (hh : b.wid < h) {os : List Int} (hos : ∀ i, gi os i = 0) : ∀ n, n ≠ 0 → runTo b [recS w h] os n = (18, []) := by
  have h0 : stepW b [recS w h] [] 0 = (18, zeroP) := by
    refine step_rec_none H (fun k hk => absurd hk (by simp)) fun x y hf => ?_
    obtain ⟨f1, f2, f3, f4, f5⟩ := hf
    omega
  intro n
  induction n with
  | zero => intro h; exact absurd rfl h
  | succ n ih =>
    intro _
    rcases Nat.eq_zero_or_pos n with rfl | e
    · rw [runTo, show runTo b [recS w h] os 0 = (0, []) from rfl, if_neg (by simp), hos, h0, if_pos (by simp)]
    · rw [runTo, ih (by omega), if_pos (by simp)]
theorem rc_maxX (w h x y : Int) (hw : 0 ≤ w) (hh : 0 ≤ h) : maxX (rcAt w h x y) = x + w := by
  unfold maxX
  refine hiX_char (fun i hi => (rc_bds w h x y hw hh _ (gt_in hi)).2.1) ⟨1, by show 1 < 4; omega, rfl⟩
theorem RcK.ext (K : RcK b w h k) {n : Nat} (h0 : n ≠ 0) (hn : w * (((n - 1) / k + 1 : Nat) : Int) ≤ b.len) : extW [recS w h] (gL w h k n) = (0, w * (((n - 1) / k + 1 : Nat) : Int)) := by
  have hp := K.puts (.inr hn)
  have hw := K.H.x1
  have hh := K.H.y1
  have poly : ∀ i, i < n → polyW [recS w h] (pt (gL w h k n) i) = (0, rcAt w h (w * ((i / k : Nat) : Int)) (h * ((i % k : Nat) : Int))) := fun i hi => by
    rw [gL_pt hi]
    have g1 := K.down (.inr hn) hi
    have g2 := K.row i
    have g3 := mul0 (x := w) (by omega) (i / k)
    have := K.H.l2
    have := K.H.w2
    exact rec_poly K.H (by omega) (by omega)
  have e0 : (extTo [recS w h] (gL w h k n) n).1 = 0 := extTo_ok fun i hi => by rw [poly i hi]
  unfold extW
  rw [gL_len]
  refine Prod.ext e0 ?_
  obtain ⟨m1, m2⟩ := extTo_max e0
  obtain ⟨i, hi, e⟩ := m2 (by omega)
  have h1 := (m1 (n - 1) (by omega)).2
  rw [poly i hi, rc_maxX _ _ _ _ (by omega) (by omega)] at e
  rw [poly (n - 1) (by omega), rc_maxX _ _ _ _ (by omega) (by omega)] at h1
  have h2 : i / k ≤ (n - 1) / k := Nat.div_le_div_right (by omega)
  have := mul_mono (x := w) (by omega) h2
  rw [mul_succ']
  omega
/-- The plain law of FillRects. -/
theorem rects_plain (H : RcB b w h) (n : Nat) (hn : n ≤ 5) :
    (n = 0 → runW b [recS w h] (List.replicate n 0) = (0, [])) ∧
    (n ≠ 0 → (b.wid / h = 0 ∨ w * (((n : Int) + b.wid / h - 1) / (b.wid / h)) > b.len) → runW b [recS w h] (List.replicate n 0) = (18, [])) ∧
    (n ≠ 0 → b.wid / h ≠ 0 → ¬ w * (((n : Int) + b.wid / h - 1) / (b.wid / h)) > b.len → ∃ ps, runW b [recS w h] (List.replicate n 0) = (0, ps) ∧ ps.length = n ∧ extW [recS w h] ps = (0, w * (((n : Int) + b.wid / h - 1) / (b.wid / h)))) := by
  have hw := H.x1
  have hh := H.y1
  have hwd := H.w1
  have hos : ∀ i, gi (List.replicate n (0 : Int)) i = 0 := fun i => by
    unfold gi
    rw [List.getD, List.getElem?_replicate]
    split <;> rfl
  have hr : runW b [recS w h] (List.replicate n 0) = runTo b [recS w h] (List.replicate n 0) n := by
    unfold runW
    rw [List.length_replicate, if_neg (by omega)]
  rw [hr]
  obtain ⟨k, hk⟩ : ∃ k : Nat, b.wid / h = (k : Int) := ⟨(b.wid / h).toNat, by have := Int.ediv_nonneg (a := b.wid) (b := h) (by omega) (by omega); omega⟩
  have e := Int.mul_ediv_add_emod b.wid h
  have m0 := Int.emod_nonneg b.wid (b := h) (by omega)
  have m1 := Int.emod_lt_of_pos b.wid (b := h) (by omega)
  rw [hk] at e ⊢
  refine ⟨fun e => by rw [e]; rfl, fun h0 hb => ?_, fun h0 h1 h2 => ?_⟩
  · by_cases c : k = 0
    · refine rec_high H ?_ hos n h0
      rw [c] at e
      simp at e
      omega
    · have K : RcK b w h k := ⟨H, by omega, by omega, by omega⟩
      rcases hb with hb | hb
      · exact absurd (by omega) c
      · refine K.fail hos n h0 ?_
        have e2 : ((n : Int) + (k : Int) - 1) / (k : Int) = (((n - 1) / k + 1 : Nat) : Int) := by
          rw [show (n : Int) + (k : Int) - 1 = (((n - 1) + k : Nat) : Int) by omega, ← Int.natCast_ediv, Nat.add_div_right _ (by omega)]
        rw [e2] at hb
        omega
  · have K : RcK b w h k := ⟨H, by omega, by omega, by omega⟩
    have e2 : ((n : Int) + (k : Int) - 1) / (k : Int) = (((n - 1) / k + 1 : Nat) : Int) := by
      rw [show (n : Int) + (k : Int) - 1 = (((n - 1) + k : Nat) : Int) by omega, ← Int.natCast_ediv, Nat.add_div_right _ (by omega)]
    rw [e2] at h2 ⊢
    exact ⟨gL w h k n, K.run hos n (.inr (by omega)), gL_len _ _ _ _, K.ext h0 (by omega)⟩
end
end Go.Proofs.YtmdncaoilegnnaaGreat

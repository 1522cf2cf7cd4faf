/- The plain law of SearchBound: no run falls below the bound. -/
import Derived.Test.YtmdncaoilegnnaaGreatUG78
import Derived.Test.YtmdncaoilegnnaaGreatUG80
import Derived.Test.YtmdncaoilegnnaaGreatUG25
namespace Go.Proofs.YtmdncaoilegnnaaGreat
set_option linter.unusedVariables false
set_option linter.unusedSimpArgs false
set_option linter.unusedVariables false
set_option linter.unusedSimpArgs false
open Go.RowKit Ears

/-! ### areas under turns and moves -/
theorem ar_same {f : Int × Int → Int × Int} {l : List (Int × Int)} (h : ∀ e ∈ E l, vx (f e.1, f e.2) = vx e) : ar (l.map f) = ar l := by
  unfold ar sm
  rw [E_map, List.map_map]
  congr 1
  exact List.map_congr_left h
theorem ar_rot1 {l : List (Int × Int)} (hl : ∀ q ∈ l, nearB 1048576 q) : ar (l.map rot1) = ar l := by
  apply ar_same
  intro e he
  have m := E_mem he
  have n1 := hl _ m.1
  have n2 := hl _ m.2
  unfold nearB at n1 n2
  unfold rot1 vx
  dsimp only
  rw [wrap_near (by omega) (by omega), wrap_near (by omega) (by omega)]
  grind
theorem ar_rotN {l : List (Int × Int)} (hl : ∀ q ∈ l, nearB 1048576 q) : ∀ n, ar (l.map (rotN n)) = ar l := by
  intro n
  induction n with
  | zero =>
    have : l.map (rotN 0) = l := by
      rw [show (rotN 0 : Int × Int → Int × Int) = id from funext fun q => rfl, List.map_id]
    rw [this]
  | succ n ih =>
    have e : l.map (rotN (n + 1)) = (l.map (rotN n)).map rot1 := by rw [List.map_map]; rfl
    rw [e, ar_rot1, ih]
    intro q hq
    obtain ⟨p, hp, rfl⟩ := List.mem_map.1 hq
    exact rotN_near (by omega) n (hl p hp)
theorem ar_tpol {l : List (Int × Int)} (hl : ∀ q ∈ l, nearB 1048576 q) (u : Int) : ar (tpolW false u l) = ar l := by
  unfold tpolW
  rw [if_neg (by simp)]
  have : applyW false u = rotN (u % 4).toNat := funext fun q => rfl
  rw [this, ar_rotN hl]
theorem ar_movP (l : List (Int × Int)) (x y : Int) : ar (movP l x y) = ar l := ar_move l (x, y)
theorem a2_aA {l : List (Int × Int)} (hc : checkW l l.length = 0) : max (a2W l) (wrap64 (-a2W l)) = aA l ∧ 0 ≤ aA l ∧ aA l ≤ 100000000000000 := by
  have hl := check_near hc
  have hn := check_len hc
  have e := area_ar hl (by omega) (by omega)
  obtain ⟨_, b1, b2⟩ := area_range hl (by omega) l.length (Nat.le_refl _)
  have hk : (l.length : Int) ≤ 40 := by omega
  have h2 : a2W l = ar l := by unfold a2W; rw [if_pos hc, e]
  rw [e] at b1 b2
  rw [h2]
  unfold aA
  generalize ar l = z at *
  have hw : wrap64 (-z) = -z := by unfold wrap64; omega
  rw [hw]
  omega
/-- What the bound adds up. -/
theorem bndTo_ok {S : List Shp} : ∀ k, k ≤ 60 → (bndTo S k).1 = 0 → (bndTo S k).2.1 = ((List.range k).map (fun i => aA (shp S i).poly)).sum ∧ 0 ≤ (bndTo S k).2.1 ∧ (bndTo S k).2.1 ≤ (k : Int) * 100000000000000 ∧
    (∀ i, i < k → (narW (shp S i).poly (shp S i).grain).1 = 0) ∧ ∀ z, 0 ≤ z → (∀ i, i < k → (narW (shp S i).poly (shp S i).grain).2 ≤ z) → (bndTo S k).2.2 ≤ z := by
  intro k
  induction k with
  | zero => intro _ _; exact ⟨rfl, by simp [bndTo], by simp [bndTo], fun i hi => absurd hi (by omega), fun z hz _ => hz⟩
  | succ k ih =>
    intro hk h
    rw [bndTo] at h ⊢
    split at h
    · rename_i h1; exact absurd h h1
    · rename_i h1
      rw [if_neg h1]
      split at h
      · rename_i h2; exact absurd h h2
      · rename_i h2
        rw [if_neg h2]
        obtain ⟨i1, i2, i3, i4, i5⟩ := ih (by omega) (by simpa using h1)
        have hnk : (narW (shp S k).poly (shp S k).grain).1 = 0 := by simpa using h2
        have hck : checkW (shp S k).poly (shp S k).poly.length = 0 := by
          unfold narW at hnk
          split at hnk
          · rename_i h3; exact absurd hnk h3
          · rename_i h3; simpa using h3
        obtain ⟨a1, a2, a3⟩ := a2_aA hck
        have hw : wrap64 ((bndTo S k).2.1 + aA (shp S k).poly) = (bndTo S k).2.1 + aA (shp S k).poly := by
          have : (k : Int) ≤ 59 := by omega
          generalize (bndTo S k).2.1 = z at *
          generalize aA (shp S k).poly = y at *
          unfold wrap64; omega
        dsimp only
        rw [a1, hw]
        refine ⟨?_, by omega, ?_, ?_, ?_⟩
        · rw [List.range_succ, List.map_append, List.sum_append, ← i1]; simp
        · rw [show ((k + 1 : Nat) : Int) = (k : Int) + 1 by omega, Int.add_mul]; omega
        · intro i hi
          by_cases c : i < k
          · exact i4 i c
          · obtain rfl : i = k := by omega
            exact hnk
        · intro z hz hle
          have h1 := i5 z hz (fun i hi => hle i (by omega))
          have h2 := hle k (by omega)
          omega
/-! ### widths -/
theorem nar_le {l : List (Int × Int)} {ts : List Trn} : ∀ n, (narTo l ts n).1 = 0 → ∀ k, k < n → (narTo l ts n).2 ≤ widW (tpolW (tr ts k).1 (tr ts k).2 l) l.length := by
  intro n
  induction n with
  | zero => intro _ k hk; omega
  | succ n ih =>
    intro h k hk
    rw [narTo] at h ⊢
    split at h
    · rename_i h1; exact absurd h h1
    · rename_i h1
      rw [if_neg h1]
      split at h
      · rename_i h2; exact absurd h h2
      · rename_i h2
        rw [if_neg h2]
        dsimp only
        by_cases c : k < n
        · have := ih (by simpa using h1) k c
          split <;> omega
        · obtain rfl : k = n := by omega
          split <;> omega
theorem all_has {g u : Int} (ha : alwW g false false u = true) : ∃ k, k < (allW g false).length ∧ tr (allW g false) k = (false, u % 4) := by
  have hu : alwW g false false (u % 4) = true := by
    unfold alwW at ha ⊢
    rw [show u % 4 % 4 = u % 4 by omega]
    exact ha
  have key : ∀ n : Nat, ∀ j : Nat, j < n → alwW g false false (j : Int) = true → (false, (j : Int)) ∈ allTo g false n := by
    intro n
    induction n with
    | zero => intro j hj; omega
    | succ n ih =>
      intro j hj hj2
      rw [allTo, List.mem_append]
      by_cases c : j < n
      · exact .inl (ih j c hj2)
      · obtain rfl : j = n := by omega
        right
        rw [if_pos hj2]
        simp
  have m0 := Int.emod_nonneg u (b := 4) (by omega)
  have m1 := Int.emod_lt_of_pos u (b := 4) (by omega)
  obtain ⟨j, hj⟩ : ∃ j : Nat, u % 4 = (j : Int) := ⟨(u % 4).toNat, by omega⟩
  rw [hj] at hu ⊢
  have hm := key 4 j (by omega) hu
  obtain ⟨i, hi, e⟩ := List.getElem_of_mem hm
  exact ⟨i, hi, by unfold tr; rw [List.getD, show (allW g false)[i]? = some ((allTo g false 4)[i]) from List.getElem?_eq_getElem hi]; exact e⟩
theorem tpol_mod (u : Int) (l : List (Int × Int)) : tpolW false (u % 4) l = tpolW false u l := by
  unfold tpolW
  rw [if_neg (by simp), if_neg (by simp)]
  have : applyW false (u % 4) = applyW false u := by
    funext q
    unfold applyW
    rw [show u % 4 % 4 = u % 4 by omega]
  rw [this]
/-- A put that fits: its polygon's area and width, its place on the bed. -/
theorem put_facts {b : Bed4} {S : List Shp} {ps : List Pt5} {p : Pt5} (hf : fitsW b S ps p = 0) :
    checkW (polyW S p).2 (polyW S p).2.length = 0 ∧ aA (polyW S p).2 = aA (shp S p.sh.toNat).poly ∧ (∀ q ∈ (polyW S p).2, 0 ≤ q.1 ∧ 0 ≤ q.2 ∧ q.2 ≤ b.wid) ∧
    ((narW (shp S p.sh.toNat).poly (shp S p.sh.toNat).grain).1 = 0 → (narW (shp S p.sh.toNat).poly (shp S p.sh.toNat).grain).2 ≤ maxX (polyW S p).2) ∧
    (∀ k, k < ps.length → (polyW S (pt ps k)).1 = 0 ∧ overW (polyW S (pt ps k)).2 (polyW S p).2 = (false, 0)) := by
  obtain ⟨hb, h1, h2⟩ := fits_poly hf
  have hck := polyW_check h1
  obtain ⟨t1, t2, t3, t4, t5, t6⟩ := poly_plain h1
  unfold fitIn at h2
  split at h2
  · cases h2
  · rename_i ha
    have ha' : alwW (shp S p.sh.toNat).grain false p.fl p.qu = true := by simpa using ha
    have hfl : p.fl = false := by
      unfold alwW at ha'
      simp at ha'
      exact ha'.1
    split at h2
    · cases h2
    · rename_i hin
      split at h2
      · cases h2
      · have hbox : ∀ q ∈ (polyW S p).2, 0 ≤ q.1 ∧ 0 ≤ q.2 ∧ q.2 ≤ b.wid := by
          intro q hq
          obtain ⟨i, hi, rfl⟩ := mem_gt hq
          have : outBed b (gt (polyW S p).2 i) = false := by
            cases c : outBed b (gt (polyW S p).2 i) with
            | false => rfl
            | true => exact absurd (AnyB.iff.2 ⟨i, hi, c⟩) hin
          unfold outBed at this
          simp at this
          omega
        have etp : tpS S p = tpolW false p.qu (shp S p.sh.toNat).poly := by unfold tpS; rw [hfl]
        rw [hfl] at ha'
        refine ⟨hck, ?_, hbox, ?_, ?_⟩
        · unfold aA
          rw [t3, ar_movP, etp, ar_tpol (check_near t6)]
        · intro hn
          obtain ⟨k, hk, etr⟩ := all_has ha'
          unfold narW at hn ⊢
          rw [if_neg (by rw [t6]; simp)] at hn ⊢
          rw [if_neg (by omega)] at hn ⊢
          have hle := nar_le _ hn k hk
          rw [etr, tpol_mod] at hle
          refine Int.le_trans hle ?_
          have hlen : (tpolW false p.qu (shp S p.sh.toNat).poly).length = (shp S p.sh.toNat).poly.length := tpolW_len _ _ _
          obtain ⟨T, hT⟩ : ∃ T, tpolW false p.qu (shp S p.sh.toNat).poly = T := ⟨_, rfl⟩
          rw [etp, hT] at t1 t3 t5
          rw [hT] at hlen ⊢
          rw [← hlen]
          have h0 : 0 < T.length := by omega
          obtain ⟨i1, k1, e1⟩ := loX_at (l := T) h0
          obtain ⟨i2, k2, e2⟩ := hiX_at (l := T) h0
          have n1 := t1 _ (gt_in k1)
          have n2 := t1 _ (gt_in k2)
          unfold nearB at n1 n2
          unfold widW
          rw [wrap_near (by omega) (by omega)]
          have hlm : (movP T p.x p.y).length = T.length := by unfold movP; simp
          have em : maxX (polyW S p).2 = hiX T T.length + p.x := by
            rw [t3]; unfold maxX; rw [hlm, hiX_mov h0 (Nat.le_refl _)]
          have el : 0 ≤ loX T T.length + p.x := by
            have := hbox (gt (polyW S p).2 i1) (gt_in (by rw [t3, hlm]; exact k1))
            rw [t3, gt_movP k1] at this
            dsimp only at this
            omega
          rw [em]
          omega
        · have key : ∀ n, fitTo S (polyW S p).2 ps n = 0 → ∀ k, k < n → (polyW S (pt ps k)).1 = 0 ∧ overW (polyW S (pt ps k)).2 (polyW S p).2 = (false, 0) := by
            intro n
            induction n with
            | zero => intro _ k hk; omega
            | succ n ih =>
              intro e k hk
              rw [fitTo] at e
              split at e
              · rename_i g; exact absurd e g
              · rename_i g
                split at e
                · rename_i g2; exact absurd e g2
                · rename_i g2
                  split at e
                  · rename_i g3; exact absurd e g3
                  · rename_i g3
                    split at e
                    · cases e
                    · rename_i g4
                      by_cases c : k < n
                      · exact ih (by simpa using g) k c
                      · obtain rfl : k = n := by omega
                        exact ⟨by simpa using g2, Prod.ext (by simpa using g4) (by simpa using g3)⟩
          exact key _ h2
theorem perm_sum {l m : List Int} (h : l.Perm m) : l.sum = m.sum := by
  induction h with
  | nil => rfl
  | cons x _ ih => rw [List.sum_cons, List.sum_cons, ih]
  | swap x y l => simp only [List.sum_cons]; omega
  | trans _ _ ih1 ih2 => rw [ih1, ih2]
/-- No run of an order of all the shapes falls below the bound. -/
theorem bound_run {b : Bed4} {S : List Shp} {o : List Int} {x : Int} (hB : bndW b S = (0, x)) (hperm : o.Perm ((List.range S.length).map fun i : Nat => (i : Int))) (hr : (runW b S o).1 = 0) : x ≤ (extW S (runW b S o).2).2 := by
  obtain ⟨h60, -, hlen, hfit⟩ := runW_ok hr
  have hext := run_ext_ok hr
  obtain ⟨ps, hps⟩ : ∃ ps, (runW b S o).2 = ps := ⟨_, rfl⟩
  rw [hps] at hlen hfit hext ⊢
  have hol : o.length = S.length := by have := hperm.length_eq; simpa using this
  obtain ⟨n, hn⟩ : ∃ n, S.length = n := ⟨_, rfl⟩
  rw [hn] at hol hperm
  rw [hol] at hlen hfit h60
  unfold extW at hext ⊢
  rw [hlen] at hext ⊢
  obtain ⟨X, hX⟩ : ∃ X, (extTo S ps n).2 = X := ⟨_, rfl⟩
  obtain ⟨m1, m2⟩ := extTo_max hext
  rw [hX] at m1 ⊢
  have pf := fun i hi => put_facts (hfit i hi).1
  have hX0 : 0 ≤ X := by
    rcases Nat.eq_zero_or_pos n with rfl | h0
    · rw [← hX]; simp [extTo]
    · have h1 := (m1 0 h0).2
      obtain ⟨hck, _, hbox, _, _⟩ := pf 0 h0
      have h3 := (check_len hck).1
      have := hbox _ (gt_in (i := 0) (by omega))
      have h2 := (maxX_le (l := (polyW S (pt ps 0)).2) (by omega) (z := X)).1 h1 _ (gt_in (i := 0) (by omega))
      omega
  unfold bndW at hB
  split at hB
  · cases hB
  · rename_i hbed
    rw [hn] at hB
    split at hB
    · injection hB with h1 h2; cases h1
    · split at hB
      · rename_i h9; injection hB with h1 h2; exact absurd h1 h9
      · rename_i h9
        injection hB with h1 h2
        rw [← h2]
        have hbd : 1 ≤ b.wid ∧ b.wid ≤ 1048576 := by
          unfold bedBad at hbed
          simp at hbed
          omega
        obtain ⟨b1, b2, b3, b4, b5⟩ := bndTo_ok (S := S) n (by omega) (by simpa using h9)
        -- each shape is put once
        have hput : ∀ j, j < n → ∃ i, i < n ∧ gi o i = (j : Int) := fun j hj => by
          have : (j : Int) ∈ o := hperm.mem_iff.2 (List.mem_map.2 ⟨j, List.mem_range.2 hj, rfl⟩)
          obtain ⟨i, hi, e⟩ := List.getElem_of_mem this
          exact ⟨i, by omega, by unfold gi; rw [List.getD, List.getElem?_eq_getElem hi]; exact e⟩
        have hlong : (bndTo S n).2.2 ≤ X := by
          refine b5 X hX0 fun j hj => ?_
          obtain ⟨i, hi, e⟩ := hput j hj
          obtain ⟨_, _, _, hw, _⟩ := pf i hi
          rw [(hfit i hi).2, e, show (j : Int).toNat = j by omega] at hw
          exact Int.le_trans (hw (b4 j hj)) (m1 i hi).2
        -- the areas
        have harea : (bndTo S n).2.1 ≤ 2 * (X * b.wid) := by
          have fit := area_fit ((List.range n).map fun i => (polyW S (pt ps i)).2) X b.wid hX0 (by omega) (by
            intro l hl
            obtain ⟨i, hi, rfl⟩ := List.mem_map.1 hl
            exact (pf i (List.mem_range.1 hi)).1) (by
            intro l hl q hq
            obtain ⟨i, hi, rfl⟩ := List.mem_map.1 hl
            have hi' := List.mem_range.1 hi
            obtain ⟨hck, _, hbox, _, _⟩ := pf i hi'
            have h3 := (check_len hck).1
            have g1 := hbox q hq
            have g2 := (maxX_le (l := (polyW S (pt ps i)).2) (by omega) (z := X)).1 (m1 i hi').2 q hq
            omega) (by
            rw [List.pairwise_iff_getElem]
            intro i j hi hj hij
            simp only [List.length_map, List.length_range] at hi hj
            simp only [List.getElem_map, List.getElem_range]
            obtain ⟨_, _, _, _, ho⟩ := pf j hj
            have hlt : i < (ps.take j).length := by rw [List.length_take]; omega
            have h3 := (ho i hlt).2
            have e : pt (ps.take j) i = pt ps i := by
              unfold pt
              rw [List.getD, List.getD, List.getElem?_take_of_lt hij]
            rw [e] at h3
            exact h3)
          rw [b1]
          refine Int.le_trans (Int.le_of_eq ?_) fit
          rw [List.map_map]
          have e1 : (List.range n).map (aA ∘ fun i => (polyW S (pt ps i)).2) = o.map (fun z => aA (shp S z.toNat).poly) := by
            apply List.ext_getElem
            · simp [hol]
            · intro i h1 h2
              simp only [List.getElem_map, List.getElem_range, Function.comp]
              have hi : i < n := by simpa using h1
              rw [(pf i hi).2.1, (hfit i hi).2]
              unfold gi
              rw [List.getD, List.getElem?_eq_getElem (by omega)]
              rfl
          rw [e1]
          have e2 := perm_sum (hperm.map (fun z => aA (shp S z.toNat).poly))
          rw [e2, List.map_map]
          congr 1
        have hdiv : wrap64 (Int.tdiv (wrap64 (wrap64 ((bndTo S n).2.1 + 2 * b.wid) - 1)) (2 * b.wid)) ≤ X := by
          have hk : (n : Int) ≤ 60 := by omega
          generalize (bndTo S n).2.1 = A at *
          have w1 : wrap64 (A + 2 * b.wid) = A + 2 * b.wid := by unfold wrap64; omega
          have w2 : wrap64 (A + 2 * b.wid - 1) = A + 2 * b.wid - 1 := by unfold wrap64; omega
          rw [w1, w2, Int.tdiv_eq_ediv_of_nonneg (by omega)]
          have d0 := Int.ediv_nonneg (a := A + 2 * b.wid - 1) (b := 2 * b.wid) (by omega) (by omega)
          have d1 := Int.ediv_le_self (2 * b.wid) (show 0 ≤ A + 2 * b.wid - 1 by omega)
          have d2 : (A + 2 * b.wid - 1) / (2 * b.wid) < X + 1 := by
            apply Int.ediv_lt_of_lt_mul (by omega)
            have : (X + 1) * (2 * b.wid) = 2 * (X * b.wid) + 2 * b.wid := by grind
            omega
          have w3 : wrap64 ((A + 2 * b.wid - 1) / (2 * b.wid)) = (A + 2 * b.wid - 1) / (2 * b.wid) := by
            generalize (A + 2 * b.wid - 1) / (2 * b.wid) = z at *
            unfold wrap64; omega
          rw [w3]; omega
        omega
/-- The orders of at most three things. -/
theorem ord_perm {n : Nat} (hn : n ≤ 3) : ∀ o ∈ ordW (n : Int), o.Perm ((List.range n).map fun i : Nat => (i : Int)) := by
  rcases (by omega : n = 0 ∨ n = 1 ∨ n = 2 ∨ n = 3) with rfl | rfl | rfl | rfl <;> decide +kernel
theorem best_none {b : Bed4} {S : List Shp} {os : List (List Int)} : ∀ {k : Nat}, bestTo b S os k = none → ∀ j, j < k → tryW b S (li os j) = none := by
  intro k
  induction k with
  | zero => intro _ j hj; omega
  | succ k ih =>
    intro h j hj
    rw [bestTo] at h
    cases ht : tryW b S (li os k) with
    | none =>
      rw [ht] at h
      by_cases hjk : j < k
      · exact ih h j hjk
      · obtain rfl : j = k := by omega
        exact ht
    | some y =>
      rw [ht] at h
      cases hb : bestTo b S os k with
      | none => rw [hb] at h; cases h
      | some r =>
        rw [hb] at h
        obtain ⟨r1, r2⟩ := r
        simp only [bestUp] at h
        split at h <;> cases h
/-- The plain law of SearchBound. -/
theorem bound_plain {b : Bed4} {S : List Shp} (hn : S.length ≤ 3) :
    ((bndW b S).1 ≠ 0 → bestW b S = ((bndW b S).1, 0, []) ∧ (bndW b S).2 = 0) ∧
    ((bndW b S).1 = 0 → ((∃ x o, bestW b S = (0, x, o) ∧ (bndW b S).2 ≤ x) ∨ bestW b S = (18, 0, [])) ∧
      ∀ o ∈ ordW (S.length : Int), (runW b S o).1 = 0 → (extW S (runW b S o).2).1 = 0 ∧ (bndW b S).2 ≤ (extW S (runW b S o).2).2 ∧ ∃ x o', bestW b S = (0, x, o')) := by
  have hW : bestW b S = if (bndW b S).1 ≠ 0 then ((bndW b S).1, 0, []) else match bestTo b S (ordW S.length) (ordW S.length).length with | none => (18, 0, []) | some (x, o) => (0, x, o) := by
    unfold bestW; rw [if_neg (by omega)]; rfl
  refine ⟨fun h => ⟨by rw [hW, if_pos h], ?_⟩, fun h => ?_⟩
  · unfold bndW at h ⊢
    split
    · rfl
    · split
      · rfl
      · split
        · rfl
        · rename_i h1 h2 h3
          exfalso
          rw [if_neg h1, if_neg h2, if_neg h3] at h
          exact h rfl
  · rw [if_neg (by rw [h]; simp)] at hW
    have hb : bndW b S = (0, (bndW b S).2) := Prod.ext h rfl
    refine ⟨?_, fun o ho hr => ?_⟩
    · cases hbt : bestTo b S (ordW S.length) (ordW S.length).length with
      | none => rw [hbt] at hW; exact .inr hW
      | some r =>
        obtain ⟨x, o⟩ := r
        rw [hbt] at hW
        left
        refine ⟨x, o, hW, ?_⟩
        obtain ⟨⟨i, i1, i2, i3, -⟩, -⟩ := bestTo_some hbt
        have hmem : o ∈ ordW (S.length : Int) := by rw [← i2]; exact li_mem i1
        unfold tryW at i3
        split at i3
        · cases i3
        · rename_i g1
          split at i3
          · cases i3
          · injection i3 with i3
            rw [← i3]
            exact bound_run hb (ord_perm hn o hmem) (by simpa using g1)
    · refine ⟨run_ext_ok hr, bound_run hb (ord_perm hn o ho) hr, ?_⟩
      cases hbt : bestTo b S (ordW S.length) (ordW S.length).length with
      | some r =>
        obtain ⟨x, o'⟩ := r
        rw [hbt] at hW
        exact ⟨x, o', hW⟩
      | none =>
        exfalso
        obtain ⟨i, hi, e⟩ := List.getElem_of_mem ho
        have := best_none hbt i hi
        have e2 : li (ordW (S.length : Int)) i = o := by unfold li; rw [List.getD, List.getElem?_eq_getElem hi]; exact e
        rw [e2] at this
        unfold tryW at this
        rw [if_neg (by rw [hr]; simp), if_neg (by rw [run_ext_ok hr]; simp)] at this
        cases this
end Go.Proofs.YtmdncaoilegnnaaGreat

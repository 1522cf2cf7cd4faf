/- Lean texts of the claim. -/
import Derived.Test.YtmdncaoilegnnaaGreatXG62
import Derived.Test.YtmdncaoilegnnaaGreatXG66
namespace Go.Proofs.YtmdncaoilegnnaaGreat
set_option linter.unusedVariables false
set_option linter.unusedSimpArgs false
section
open Go.RowKit
def rgtW (S : List Shp) (p : Pt5) : Int := (extW S [p]).2
def betR (S : List Shp) (a b : Pt5) : Bool :=
 if rgtW S a ≠ rgtW S b then decide (rgtW S a < rgtW S b) else if a.y ≠ b.y then decide (a.y < b.y) else if a.x ≠ b.x then decide (a.x < b.x) else decide (a.qu < b.qu)
def upR (b : Bed4) (S : List Shp) (ps : List Pt5) (acc : Option Pt5) (q : Pt5) : Option Pt5 :=
 if fitsW b S ps q ≠ 0 then acc else match acc with | none => some q | some p => if betR S q p = true then some q else some p
def stRIn (b : Bed4) (S : List Shp) (ps Q : List Pt5) (acc : Option Pt5) : Nat → Option Pt5
 | 0 => acc
 | k + 1 => upR b S ps (stRIn b S ps Q acc k) (pt Q k)
def stRTo (b : Bed4) (S : List Shp) (ps : List Pt5) (sh : Int) (ts : List Trn) : Nat → Option Pt5
 | 0 => none
 | i + 1 => stRIn b S ps (candsW b S ps sh (tr ts i).1 (tr ts i).2).2 (stRTo b S ps sh ts i) (candsW b S ps sh (tr ts i).1 (tr ts i).2).2.length
def optP (r : Option Pt5) : Int × Pt5 := match r with | none => (18, zeroP) | some p => (0, p)
def stepR (b : Bed4) (S : List Shp) (ps : List Pt5) (sh : Int) : Int × Pt5 :=
 if (candsW b S ps sh false 0).1 ≠ 0 then ((candsW b S ps sh false 0).1, zeroP)
 else optP (stRTo b S ps sh (allW (shp S sh.toNat).grain false) (allW (shp S sh.toNat).grain false).length)
theorem betR_iff {S : List Shp} {a b : Pt5} : betR S a b = true ↔ rgtW S a < rgtW S b ∨ (rgtW S a = rgtW S b ∧ (a.y < b.y ∨ (a.y = b.y ∧ (a.x < b.x ∨ (a.x = b.x ∧ a.qu < b.qu))))) := by
 unfold betR
 by_cases h1 : rgtW S a = rgtW S b
 ·rw [if_neg (by simpa using h1)]
  by_cases h2 : a.y = b.y
  ·rw [if_neg (by simpa using h2)]
   by_cases h3 : a.x = b.x
   ·rw [if_neg (by simpa using h3), decide_eq_true_eq]; omega
   ·rw [if_pos h3, decide_eq_true_eq]; omega
  ·rw [if_pos h2, decide_eq_true_eq]; omega
 ·rw [if_pos h1, decide_eq_true_eq]; omega
theorem betR_no {S : List Shp} {a b : Pt5} : betR S a b = false ↔ ¬ (rgtW S a < rgtW S b ∨ (rgtW S a = rgtW S b ∧ (a.y < b.y ∨ (a.y = b.y ∧ (a.x < b.x ∨ (a.x = b.x ∧ a.qu < b.qu)))))) := by
 rw [← betR_iff, Bool.not_eq_true]
def Fnd (b : Bed4) (S : List Shp) (ps : List Pt5) (D : Pt5 → Prop) (r : Option Pt5) : Prop :=
 (r = none ∧ ∀ q, D q → fitsW b S ps q ≠ 0) ∨ ∃ p, r = some p ∧ D p ∧ fitsW b S ps p = 0 ∧ ∀ q, D q → fitsW b S ps q = 0 → betR S q p = false
theorem Fnd.up {b : Bed4} {S : List Shp} {ps : List Pt5} {D : Pt5 → Prop} {r : Option Pt5} (h : Fnd b S ps D r) (q : Pt5) : Fnd b S ps (fun x => D x ∨ x = q) (upR b S ps r q) := by
 unfold upR
 by_cases hf : fitsW b S ps q = 0
 ·rw [if_neg (by rw [hf]; simp)]
  rcases h with ⟨rfl, h⟩ | ⟨p, rfl, h1, h2, h3⟩
  ·refine .inr ⟨q, rfl, .inr rfl, hf, fun x hx hfx => ?_⟩
   rcases hx with hx | rfl
   ·exact absurd hfx (h x hx)
   ·rw [betR_no]; omega
  ·dsimp only
   cases hb : betR S q p with
   | true =>
     rw [if_pos rfl]
     refine .inr ⟨q, rfl, .inr rfl, hf, fun x hx hfx => ?_⟩
     rcases hx with hx | rfl
     ·have h4 := betR_no.1 (h3 x hx hfx)
      have h5 := betR_iff.1 hb
      rw [betR_no]; omega
     ·rw [betR_no]; omega
   | false =>
     rw [if_neg (by simp)]
     refine .inr ⟨p, rfl, .inl h1, h2, fun x hx hfx => ?_⟩
     rcases hx with hx | rfl
     ·exact h3 x hx hfx
     ·exact hb
 ·rw [if_pos hf]
  rcases h with ⟨rfl, h⟩ | ⟨p, rfl, h1, h2, h3⟩
  ·refine .inl ⟨rfl, fun x hx => ?_⟩
   rcases hx with hx | rfl
   ·exact h x hx
   ·exact hf
  ·refine .inr ⟨p, rfl, .inl h1, h2, fun x hx hfx => ?_⟩
   rcases hx with hx | rfl
   ·exact h3 x hx hfx
   ·exact absurd hfx hf
theorem Fnd.congr {b : Bed4} {S : List Shp} {ps : List Pt5} {D D' : Pt5 → Prop} {r : Option Pt5} (h : Fnd b S ps D r) (e : ∀ q, D q ↔ D' q) : Fnd b S ps D' r := by
 rcases h with ⟨rfl, h⟩ | ⟨p, rfl, h1, h2, h3⟩
 ·exact .inl ⟨rfl, fun q hq => h q ((e q).2 hq)⟩
 ·exact .inr ⟨p, rfl, (e p).1 h1, h2, fun q hq => h3 q ((e q).2 hq)⟩
theorem fnd_in {b : Bed4} {S : List Shp} {ps Q : List Pt5} {D : Pt5 → Prop} {r : Option Pt5} (h : Fnd b S ps D r) : ∀ k, Fnd b S ps (fun x => D x ∨ ∃ j, j < k ∧ x = pt Q j) (stRIn b S ps Q r k)
 | 0 => h.congr fun q => by simp
 | k + 1 => ((fnd_in h k).up (pt Q k)).congr fun q => by
  constructor
  ·rintro ((h | ⟨j, hj, h⟩) | h)
   ·exact .inl h
   ·exact .inr ⟨j, by omega, h⟩
   ·exact .inr ⟨k, by omega, h⟩
  ·rintro (h | ⟨j, hj, h⟩)
   ·exact .inl (.inl h)
   ·by_cases c : j = k
    ·subst c; exact .inr h
    ·exact .inl (.inr ⟨j, by omega, h⟩)
theorem fnd_to {b : Bed4} {S : List Shp} {ps : List Pt5} {sh : Int} {ts : List Trn} : ∀ k, Fnd b S ps (fun x => ∃ i, i < k ∧ x ∈ (candsW b S ps sh (tr ts i).1 (tr ts i).2).2) (stRTo b S ps sh ts k)
 | 0 => .inl ⟨rfl, fun q ⟨i, hi, _⟩ => absurd hi (Nat.not_lt_zero _)⟩
 | k + 1 => (fnd_in (fnd_to k) _).congr fun q => by
  constructor
  ·rintro (⟨i, hi, h⟩ | ⟨j, hj, h⟩)
   ·exact ⟨i, by omega, h⟩
   ·exact ⟨k, by omega, by rw [h]; exact mem_pt hj⟩
  ·rintro ⟨i, hi, h⟩
   by_cases c : i = k
   ·subst c
    obtain ⟨j, hj, e⟩ := List.getElem_of_mem h
    refine .inr ⟨j, hj, ?_⟩
    unfold pt; rw [List.getD, List.getElem?_eq_getElem hj, ← e]; rfl
   ·exact .inl ⟨i, by omega, h⟩
theorem cmpI_neg (x y : Int) : cmpI x y < 0 ↔ x < y := by unfold cmpI; split <;> (try split) <;> omega
theorem cmpI_eq0 (x y : Int) : cmpI x y = 0 ↔ x = y := by unfold cmpI; split <;> (try split) <;> omega
theorem cmpE_iff {a b : End6} : cmpE a b < 0 ↔ a.right < b.right ∨ (a.right = b.right ∧ (a.put.y < b.put.y ∨ (a.put.y = b.put.y ∧ (a.put.x < b.put.x ∨ (a.put.x = b.put.x ∧ a.put.qu < b.put.qu))))) := by
 have s1 := cmpI_neg a.right b.right
 have s2 := cmpI_neg a.put.y b.put.y
 have s3 := cmpI_neg a.put.x b.put.x
 have s4 := cmpI_neg a.put.qu b.put.qu
 have e1 := cmpI_eq0 a.right b.right
 have e2 := cmpI_eq0 a.put.y b.put.y
 have e3 := cmpI_eq0 a.put.x b.put.x
 unfold cmpE orI orI orI orI orI
 by_cases h1 : cmpI a.right b.right = 0
 ·rw [h1, if_neg (by simp)]
  by_cases h2 : cmpI a.put.y b.put.y = 0
  ·rw [h2, if_neg (by simp)]
   by_cases h3 : cmpI a.put.x b.put.x = 0
   ·rw [h3, if_neg (by simp)]
    by_cases h4 : cmpI a.put.qu b.put.qu = 0
    ·rw [h4, if_neg (by simp)]; omega
    ·rw [if_pos (by simpa using h4)]; omega
   ·rw [if_pos (by simpa using h3)]; omega
  ·rw [if_pos (by simpa using h2)]; omega
 ·rw [if_pos (by simpa using h1)]; omega
theorem leastL_minE (l : List End6) : ∀ e ∈ l, ¬ cmpE e (leastL l) < 0 := by
 induction l using rev_ind with
 | h0 => intro e h; cases h
 | h1 l x ih =>
   intro e he
   rw [leastL_app]
   rcases List.mem_append.1 he with h | h
   ·have := ih e h
    split
    ·rename_i hc
     rcases hc with hc | hc
     ·rw [hc] at h; cases h
     ·rw [cmpE_iff] at *; omega
    ·exact this
   ·simp at h
    subst h
    split
    ·rw [cmpE_iff]; omega
    ·rename_i hc
     intro h2; exact hc (.inr h2)
theorem allW_in {g : Int} {i : Nat} (h : i < (allW g false).length) : (tr (allW g false) i).1 = false := by
 have := allTo_in g false 4 (tr (allW g false) i) (by unfold tr; rw [List.getD, List.getElem?_eq_getElem h]; exact List.getElem_mem _)
 exact this.1
theorem poly_turnS {S : List Shp} {sh : Int} (h : (Xe S ⟨sh, false, 0, 0, 0⟩).1 = 0) (u : Int) : (Xe S ⟨sh, false, u, 0, 0⟩).1 = 0 := by
 obtain ⟨-, -, -, -, -, hc⟩ := poly_plain h
 dsimp only at hc
 have ht := tpol_near (M := 1048576) (by omega) (f := false) (u := u) (check_near hc)
 have hm := mov_plain (x := 0) (y := 0) ht (by unfold nearB; simp)
 have hz : movP (tpolW false u (shp S sh.toNat).poly) 0 0 = tpolW false u (shp S sh.toNat).poly := by unfold movP; simp
 have hk := check_turn hc u
 unfold Xe at h ⊢
 dsimp only at h ⊢
 split at h
 ·cases h
 ·rename_i hn
  rw [if_neg hn]
  unfold polyIn
  dsimp only
  rw [if_neg (by rw [hc]; simp), hm, hz, if_neg (by rw [hk]; simp)]
theorem st_good {b : Bed4} {S : List Shp} {ps : List Pt5} {sh : Int} (h : (prepW b S ps sh false 0).1 = 0) : ∀ k, k ≤ (allW (shp S sh.toNat).grain false).length → (stTo b S ps sh (prepW b S ps sh false 0).2.2 (allW (shp S sh.toNat).grain false) k).1 = 0
 | 0, _ => rfl
 | k + 1, hk => by
   have ih := st_good h k (by omega)
   obtain ⟨-, hp, -⟩ := prepW_ok h
   have hp2 := (prep_check h).2
   have ht := allW_in (g := (shp S sh.toNat).grain) (i := k) (by omega)
   have h1 : (Xe S ⟨sh, (tr (allW (shp S sh.toNat).grain false) k).1, (tr (allW (shp S sh.toNat).grain false) k).2, 0, 0⟩).1 = 0 := by rw [ht]; exact poly_turnS hp _
   have h2 : (candW b (shp S sh.toNat) (tr (allW (shp S sh.toNat).grain false) k).1 (tr (allW (shp S sh.toNat).grain false) k).2 (Xe S ⟨sh, (tr (allW (shp S sh.toNat).grain false) k).1, (tr (allW (shp S sh.toNat).grain false) k).2, 0, 0⟩).2 (prepW b S ps sh false 0).2.2).1 = 0 := by
    rw [cand_ref (polyW_check h1) hp2]
   rw [stTo, if_neg (by rw [ih]; simp), if_neg (by rw [h1]; simp), if_neg (by rw [h2]; simp)]
   split <;> rfl
theorem cands_turn {b : Bed4} {S : List Shp} {ps : List Pt5} {sh : Int} {f : Bool} {u : Int} (h : (prepW b S ps sh false 0).1 = 0) (hp : (Xe S ⟨sh, f, u, 0, 0⟩).1 = 0) :
 candsW b S ps sh f u = (0, (candW b (shp S sh.toNat) f u (Xe S ⟨sh, f, u, 0, 0⟩).2 (prepW b S ps sh false 0).2.2).2.map (candPut sh f u)) := by
 have e := prep_turn h hp
 have h2 : (candW b (shp S sh.toNat) f u (Xe S ⟨sh, f, u, 0, 0⟩).2 (prepW b S ps sh false 0).2.2).1 = 0 := by rw [cand_ref (polyW_check hp) (prep_check h).2]
 unfold candsW
 rw [e]
 dsimp only
 rw [if_neg (by simp), if_neg (by rw [h2]; simp)]
theorem cand_asc {b : Bed4} {s : Shp} {f : Bool} {u : Int} {l : List (Int × Int)} {pls : List (List (Int × Int))} (hl : checkW l l.length = 0) (hp : ∀ t ∈ pls, checkW t t.length = 0) {i j : Nat} (hij : i < j) (hj : j < (candW b s f u l pls).2.length) : lessS (gt (candW b s f u l pls).2 i) (gt (candW b s f u l pls).2 j) = true := by
 have h : (candW b s f u l pls).2.Pairwise fun x y => lessS x y = true := by rw [cand_ref hl hp]; exact kR_pw _
 have := List.pairwise_iff_getElem.1 h i j (by omega) hj hij
 unfold gt
 rw [List.getD, List.getD, List.getElem?_eq_getElem hj, List.getElem?_eq_getElem (show i < _ by omega)]
 exact this
theorem rgt_fit {b : Bed4} {S : List Shp} {ps : List Pt5} {p : Pt5} (h : fitsW b S ps p = 0) : rgtW S p = maxX (Xe S p).2 := by
 unfold rgtW; rw [ext_one (fits_poly h).2.1]
theorem stepR_eq (b : Bed4) (S : List Shp) (ps : List Pt5) (sh : Int) : stepR b S ps sh = stepW b S ps sh := by
 by_cases h : (prepW b S ps sh false 0).1 = 0
 ·have e0 : (candsW b S ps sh false 0).1 = 0 := by rw [cands_ref h]
  have hst := st_good h _ (Nat.le_refl _)
  have hpc := (prep_check h).2
  have hpp := (prepW_ok h).2.1
  obtain ⟨hall, hmem⟩ := stTo_mem hst
  rcases step_cases b S ps sh with ⟨g1, g2, g3⟩ | ⟨-, -, E, hE, hcase⟩
  ·exfalso
   unfold stepW at g1 g2
   rw [if_neg (by rw [h]; simp)] at g1 g2
   unfold stepIn at g1 g2
   rw [if_neg (by rw [hst]; simp)] at g1 g2
   split at g2
   ·exact g2 rfl
   ·rename_i hc
    rw [if_neg hc] at g1
    exact g1 rfl
  ·unfold stepR
   rw [if_neg (by rw [e0]; simp)]
   obtain ⟨ts, hts⟩ : ∃ ts, allW (shp S sh.toNat).grain false = ts := ⟨_, rfl⟩
   obtain ⟨pls, hpls⟩ : ∃ pls, (prepW b S ps sh false 0).2.2 = pls := ⟨_, rfl⟩
   have hcn : ∀ i, i < ts.length → candsW b S ps sh (tr ts i).1 (tr ts i).2 = (0, (candW b (shp S sh.toNat) (tr ts i).1 (tr ts i).2 (Xe S ⟨sh, (tr ts i).1, (tr ts i).2, 0, 0⟩).2 pls).2.map (candPut sh (tr ts i).1 (tr ts i).2)) := by
    intro i hi
    rw [← hpls]
    have ha := (hall i (by rw [hts]; exact hi)).1
    rw [hts] at ha
    exact cands_turn h ha
   have hfl : ∀ i, i < ts.length → (tr ts i).1 = false := by
    intro i hi
    rw [← hts] at hi ⊢
    exact allW_in hi
   rw [hts] at hall hmem hE ⊢
   rw [hpls] at hall hmem hE hpc
   rw [hE] at hmem
   have hF := fnd_to (b := b) (S := S) (ps := ps) (sh := sh) (ts := ts) ts.length
   -- every fitting candidate stands behind the first one of its turn
   have first : ∀ i, i < ts.length → ∀ q, q ∈ (candsW b S ps sh (tr ts i).1 (tr ts i).2).2 → fitsW b S ps q = 0 → ∃ e ∈ E, fitsW b S ps e.put = 0 ∧ e.right = rgtW S e.put ∧ betR S q e.put = false := by
    intro i hi q hq hf
    rw [hcn i hi] at hq
    obtain ⟨a, ha, rfl⟩ := List.mem_map.1 hq
    obtain ⟨j, hj, rfl⟩ := mem_gt ha
    obtain ⟨a1, a2⟩ := hall i hi
    cases hff : fstFit b S ps sh (tr ts i) (candW b (shp S sh.toNat) (tr ts i).1 (tr ts i).2 (Xe S ⟨sh, (tr ts i).1, (tr ts i).2, 0, 0⟩).2 pls).2 with
    | none =>
      exfalso
      unfold fstFit at hff
      have := fnd_none hff j hj
      unfold isFit at this
      have hf' : fitsW b S ps ⟨sh, (tr ts i).1, (tr ts i).2, (gt (candW b (shp S sh.toNat) (tr ts i).1 (tr ts i).2 (Xe S ⟨sh, (tr ts i).1, (tr ts i).2, 0, 0⟩).2 pls).2 j).1, (gt (candW b (shp S sh.toNat) (tr ts i).1 (tr ts i).2 (Xe S ⟨sh, (tr ts i).1, (tr ts i).2, 0, 0⟩).2 pls).2 j).2⟩ = 0 := hf
      rw [hf'] at this
      simp at this
    | some j0 =>
      obtain ⟨k1, k2, k3⟩ := fstFit_some hff
      have hE1 : stEnd b S sh pls ts i j0 ∈ E := (hmem _).2 ⟨i, j0, hi, ⟨a1, a2, hff⟩, rfl⟩
      have hp0 := (fits_poly k2).2.1
      have hat0 := poly_at a1 hp0
      have hpq := (fits_poly hf).2.1
      have hatq := poly_at a1 hpq
      have r0 := rgt_fit k2
      have rq := rgt_fit hf
      refine ⟨_, hE1, k2, ?_, ?_⟩
      ·show (stEnd b S sh pls ts i j0).right = rgtW S _
       rw [show (stEnd b S sh pls ts i j0).put = ⟨sh, (tr ts i).1, (tr ts i).2, (gt (candW b (shp S sh.toNat) (tr ts i).1 (tr ts i).2 (Xe S ⟨sh, (tr ts i).1, (tr ts i).2, 0, 0⟩).2 pls).2 j0).1, (gt (candW b (shp S sh.toNat) (tr ts i).1 (tr ts i).2 (Xe S ⟨sh, (tr ts i).1, (tr ts i).2, 0, 0⟩).2 pls).2 j0).2⟩ from rfl, r0]
       exact hat0.2.2
      ·rw [betR_no]
       have e1 : rgtW S (stEnd b S sh pls ts i j0).put = maxX (Xe S ⟨sh, (tr ts i).1, (tr ts i).2, 0, 0⟩).2 + (gt (candW b (shp S sh.toNat) (tr ts i).1 (tr ts i).2 (Xe S ⟨sh, (tr ts i).1, (tr ts i).2, 0, 0⟩).2 pls).2 j0).1 := r0.trans hat0.2.1
       have e2 : rgtW S (candPut sh (tr ts i).1 (tr ts i).2 (gt (candW b (shp S sh.toNat) (tr ts i).1 (tr ts i).2 (Xe S ⟨sh, (tr ts i).1, (tr ts i).2, 0, 0⟩).2 pls).2 j)) = maxX (Xe S ⟨sh, (tr ts i).1, (tr ts i).2, 0, 0⟩).2 + (gt (candW b (shp S sh.toNat) (tr ts i).1 (tr ts i).2 (Xe S ⟨sh, (tr ts i).1, (tr ts i).2, 0, 0⟩).2 pls).2 j).1 := rq.trans hatq.2.1
       rw [e1, e2]
       have hnl : ¬ j < j0 := fun hl => k3 j hl hf
       show ¬ (_ ∨ (_ ∧ ((gt (candW b (shp S sh.toNat) (tr ts i).1 (tr ts i).2 (Xe S ⟨sh, (tr ts i).1, (tr ts i).2, 0, 0⟩).2 pls).2 j).2 < (gt (candW b (shp S sh.toNat) (tr ts i).1 (tr ts i).2 (Xe S ⟨sh, (tr ts i).1, (tr ts i).2, 0, 0⟩).2 pls).2 j0).2 ∨ ((gt (candW b (shp S sh.toNat) (tr ts i).1 (tr ts i).2 (Xe S ⟨sh, (tr ts i).1, (tr ts i).2, 0, 0⟩).2 pls).2 j).2 = (gt (candW b (shp S sh.toNat) (tr ts i).1 (tr ts i).2 (Xe S ⟨sh, (tr ts i).1, (tr ts i).2, 0, 0⟩).2 pls).2 j0).2 ∧ ((gt (candW b (shp S sh.toNat) (tr ts i).1 (tr ts i).2 (Xe S ⟨sh, (tr ts i).1, (tr ts i).2, 0, 0⟩).2 pls).2 j).1 < (gt (candW b (shp S sh.toNat) (tr ts i).1 (tr ts i).2 (Xe S ⟨sh, (tr ts i).1, (tr ts i).2, 0, 0⟩).2 pls).2 j0).1 ∨ (_ ∧ (tr ts i).2 < (tr ts i).2))))))
       rcases Nat.eq_or_lt_of_le (Nat.le_of_not_lt hnl) with h9 | h9
       ·rw [h9]; omega
       ·have hls := cand_asc (b := b) (s := shp S sh.toNat) (f := (tr ts i).1) (u := (tr ts i).2) (polyW_check a1) hpc h9 hj
        unfold lessS at hls
        simp at hls
        omega
   rcases hcase with ⟨hE0, hs⟩ | ⟨hEne, hs⟩
   ·rw [hs]
    rcases hF with ⟨hr, -⟩ | ⟨p, hr, ⟨i, hi, hD⟩, hf, -⟩
    ·rw [hr]; rfl
    ·obtain ⟨e, he, -⟩ := first i hi p hD hf
     rw [hE0] at he; cases he
   ·rw [hs]
    have hl : leastL E ∈ E := leastTo_mem (l := E) (n := E.length) (by rcases E with _ | ⟨x, y⟩; exact absurd rfl hEne; simp) (Nat.le_refl _)
    obtain ⟨i2, j2, hi2, hst2, he2⟩ := (hmem _).1 hl
    obtain ⟨f1, f2, f3⟩ := fstFit_some hst2.2.2
    have hput : (leastL E).put = ⟨sh, (tr ts i2).1, (tr ts i2).2, (gt (candW b (shp S sh.toNat) (tr ts i2).1 (tr ts i2).2 (Xe S ⟨sh, (tr ts i2).1, (tr ts i2).2, 0, 0⟩).2 pls).2 j2).1, (gt (candW b (shp S sh.toNat) (tr ts i2).1 (tr ts i2).2 (Xe S ⟨sh, (tr ts i2).1, (tr ts i2).2, 0, 0⟩).2 pls).2 j2).2⟩ := by rw [he2]; rfl
    have hfp : fitsW b S ps (leastL E).put = 0 := by rw [hput]; exact f2
    have hDp : (leastL E).put ∈ (candsW b S ps sh (tr ts i2).1 (tr ts i2).2).2 := by
     rw [hcn i2 hi2, hput]
     exact List.mem_map.2 ⟨_, gt_in f1, rfl⟩
    have hrp : (leastL E).right = rgtW S (leastL E).put := by
     have hpat := poly_at hst2.1 (fits_poly f2).2.1
     rw [rgt_fit hfp, hput, he2]
     exact hpat.2.2
    rcases hF with ⟨hr, hnone⟩ | ⟨p, hr, ⟨i, hi, hD⟩, hf, hbest⟩
    ·exact absurd hfp (hnone _ ⟨i2, hi2, hDp⟩)
    ·rw [hr]
     show (0, p) = _
     have h1 := hbest _ ⟨i2, hi2, hDp⟩ hfp
     obtain ⟨e, he, hfe, hre, hbe⟩ := first i hi p hD hf
     have h2 := leastL_minE E e he
     rw [cmpE_iff] at h2
     rw [hre, hrp] at h2
     rw [betR_no] at h1 hbe
     -- p and the program's put agree in all that is compared
     have hp5 : p = ⟨sh, false, p.qu, p.x, p.y⟩ := by
      rw [hcn i hi] at hD
      obtain ⟨a, ha, rfl⟩ := List.mem_map.1 hD
      show (⟨sh, (tr ts i).1, (tr ts i).2, a.1, a.2⟩ : Pt5) = _
      rw [hfl i hi]
      rfl
     have hl5 : (leastL E).put = ⟨sh, false, (leastL E).put.qu, (leastL E).put.x, (leastL E).put.y⟩ := by
      rw [hput, hfl i2 hi2]
     have hq : p.qu = (leastL E).put.qu := by omega
     have hx : p.x = (leastL E).put.x := by omega
     have hy : p.y = (leastL E).put.y := by omega
     rw [hp5, hl5, hq, hx, hy]
 ·have e0 : (candsW b S ps sh false 0).1 = (prepW b S ps sh false 0).1 := by rw [cands_bad h]
  unfold stepR stepW
  rw [if_pos (by rw [e0]; exact h), if_pos h, e0]
end
end Go.Proofs.YtmdncaoilegnnaaGreat

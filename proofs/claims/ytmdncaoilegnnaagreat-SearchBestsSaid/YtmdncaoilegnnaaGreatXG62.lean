/- Lean texts of the claim. -/
import Derived.Test.YtmdncaoilegnnaaGreatXG30
import Derived.Test.YtmdncaoilegnnaaGreatXG28
import Derived.Test.YtmdncaoilegnnaaGreatXG57
import Derived.Test.YtmdncaoilegnnaaGreatXG61
import Derived.Test.YtmdncaoilegnnaaGreatXG79
namespace Go.Proofs.YtmdncaoilegnnaaGreat
set_option linter.unusedVariables false
set_option linter.unusedSimpArgs false
section
open Go.RowKit
theorem addTo_nodup {α : Type} [DecidableEq α] {L xs : List α} {d : α} (h : L.Nodup) : ∀ k, (addTo L xs d k).Nodup
 | 0 => h
 | k + 1 => by
   have ih := addTo_nodup (xs := xs) (d := d) h k
   rw [addTo]; split
   ·exact ih
   ·rename_i hc
    rw [List.nodup_append]
    refine ⟨ih, by simp, fun a ha b hb => ?_⟩
    simp at hb; subst hb
    rintro rfl
    exact hc ha
theorem keptTo_nodup {rx ry : Int} {s : Shp} {fl : Bool} {qu : Int} {sp : List (Int × Int)} : ∀ k, (keptTo rx ry s fl qu sp k).Nodup
 | 0 => by simp [keptTo]
 | k + 1 => by
   rw [keptTo]
   split
   ·exact keptTo_nodup k
   ·exact addTo_nodup (keptTo_nodup k) _
theorem keptTo_mem {rx ry : Int} {s : Shp} {fl : Bool} {qu : Int} {sp : List (Int × Int)} : ∀ k q, q ∈ keptTo rx ry s fl qu sp k ↔ ∃ i, i < k ∧ setlW rx ry s fl qu (gt sp i) = some q
 | 0, q => by simp [keptTo]
 | k + 1, q => by
   rw [keptTo]
   cases h : setlW rx ry s fl qu (gt sp k) with
   | none =>
     dsimp only
     rw [keptTo_mem k q]
     constructor
     ·rintro ⟨i, hi, h1⟩; exact ⟨i, by omega, h1⟩
     ·rintro ⟨i, hi, h1⟩
      by_cases c : i = k
      ·subst c; rw [h] at h1; cases h1
      ·exact ⟨i, by omega, h1⟩
   | some a =>
     dsimp only
     rw [mem_addW_iff, keptTo_mem k q]
     constructor
     ·rintro (⟨i, hi, h1⟩ | h1)
      ·exact ⟨i, by omega, h1⟩
      ·simp at h1; subst h1; exact ⟨k, by omega, h⟩
     ·rintro ⟨i, hi, h1⟩
      by_cases c : i = k
      ·subst c; rw [h] at h1; injection h1 with h1; subst h1; right; simp
      ·exact .inl ⟨i, by omega, h1⟩
def kR (rx ry : Int) (s : Shp) (fl : Bool) (qu : Int) (sp : List (Int × Int)) : Nat → List (Int × Int)
 | 0 => []
 | k + 1 => match setlW rx ry s fl qu (gt sp k) with | none => kR rx ry s fl qu sp k | some a => insG lessS a (kR rx ry s fl qu sp k)
theorem kR_none {rx ry : Int} {s : Shp} {fl : Bool} {qu : Int} {sp : List (Int × Int)} {k : Nat} (h : setlW rx ry s fl qu (gt sp k) = none) : kR rx ry s fl qu sp (k + 1) = kR rx ry s fl qu sp k := by
 rw [kR, h]
theorem kR_some {rx ry : Int} {s : Shp} {fl : Bool} {qu : Int} {sp : List (Int × Int)} {k : Nat} {a : Int × Int} (h : setlW rx ry s fl qu (gt sp k) = some a) : kR rx ry s fl qu sp (k + 1) = insG lessS a (kR rx ry s fl qu sp k) := by
 rw [kR, h]
theorem kR_len {rx ry : Int} {s : Shp} {fl : Bool} {qu : Int} {sp : List (Int × Int)} : ∀ k, (kR rx ry s fl qu sp k).length ≤ k
 | 0 => by simp [kR]
 | k + 1 => by
   have ih := kR_len (rx := rx) (ry := ry) (s := s) (fl := fl) (qu := qu) (sp := sp) k
   rw [kR]; split
   ·omega
   ·rename_i a _
    have := insG_len (lt := lessS) a (kR rx ry s fl qu sp k); omega
theorem kR_mem {rx ry : Int} {s : Shp} {fl : Bool} {qu : Int} {sp : List (Int × Int)} : ∀ k q, q ∈ kR rx ry s fl qu sp k ↔ ∃ i, i < k ∧ setlW rx ry s fl qu (gt sp i) = some q
 | 0, q => by simp [kR]
 | k + 1, q => by
   cases h : setlW rx ry s fl qu (gt sp k) with
   | none =>
     rw [kR_none h, kR_mem k q]
     constructor
     ·rintro ⟨i, hi, h1⟩; exact ⟨i, by omega, h1⟩
     ·rintro ⟨i, hi, h1⟩
      by_cases c : i = k
      ·subst c; rw [h] at h1; cases h1
      ·exact ⟨i, by omega, h1⟩
   | some a =>
     rw [kR_some h, insG_mem Ears.lessS_tot, kR_mem k q]
     constructor
     ·rintro (⟨i, hi, h1⟩ | h1)
      ·exact ⟨i, by omega, h1⟩
      ·subst h1; exact ⟨k, by omega, h⟩
     ·rintro ⟨i, hi, h1⟩
      by_cases c : i = k
      ·subst c; rw [h] at h1; injection h1 with h1; right; exact h1.symm
      ·exact .inl ⟨i, by omega, h1⟩
theorem kR_pw {rx ry : Int} {s : Shp} {fl : Bool} {qu : Int} {sp : List (Int × Int)} : ∀ k, (kR rx ry s fl qu sp k).Pairwise (fun x y => lessS x y = true)
 | 0 => by simp [kR]
 | k + 1 => by
   rw [kR]; split
   ·exact kR_pw k
   ·exact insG_pw Ears.lessS_tr Ears.lessS_tot _ (kR_pw k)
def plRIn (x0 y0 y1 : Int) (sp L : List (Int × Int)) : Nat → List (Int × Int)
 | 0 => L
 | j + 1 => plRIn x0 y0 y1 sp L j ++ four x0 y0 y1 (gt sp j)
def plRTo (l : List (Int × Int)) (x0 y0 y1 : Int) (pls : List (List (Int × Int))) : Nat → List (Int × Int)
 | 0 => [(x0, y0), (x0, y1)]
 | k + 1 => plRIn x0 y0 y1 (spotsW (lt_ pls k) l).2 (plRTo l x0 y0 y1 pls k) (spotsW (lt_ pls k) l).2.length
theorem plRIn_len (x0 y0 y1 : Int) (sp L : List (Int × Int)) : ∀ j, (plRIn x0 y0 y1 sp L j).length = L.length + 4 * j
 | 0 => by simp [plRIn]
 | j + 1 => by rw [plRIn, List.length_append, plRIn_len x0 y0 y1 sp L j]; simp [four]; omega
theorem plRTo_len (l : List (Int × Int)) (x0 y0 y1 : Int) (pls : List (List (Int × Int))) : ∀ k, (plRTo l x0 y0 y1 pls k).length ≤ 2 + 1075840 * k
 | 0 => by simp [plRTo]
 | k + 1 => by
   rw [plRTo, plRIn_len]
   have := plRTo_len l x0 y0 y1 pls k
   have := (spotsW_ok (lt_ pls k) l).1
   omega
theorem pl_mem {l : List (Int × Int)} {x0 y0 y1 : Int} {pls : List (List (Int × Int))} (hs : ∀ t ∈ pls, (spotsW t l).1 = 0) : ∀ k, k ≤ pls.length → (plcTo l x0 y0 y1 pls k).1 = 0 ∧ ∀ q, q ∈ (plcTo l x0 y0 y1 pls k).2 ↔ q ∈ plRTo l x0 y0 y1 pls k
 | 0, _ => ⟨rfl, fun q => by show q ∈ addW [] _ _ ↔ _; rw [mem_addW_iff]; simp [plRTo]⟩
 | k + 1, hk => by
   obtain ⟨i1, i2⟩ := pl_mem hs k (by omega)
   have h := hs _ (Ears.lt_in (ls := pls) (i := k) (by omega))
   rw [plcTo, if_neg (by rw [i1]; simp), if_neg (by rw [h]; simp), plRTo]
   refine ⟨rfl, ?_⟩
   have key : ∀ j q, q ∈ plcIn x0 y0 y1 (spotsW (lt_ pls k) l).2 (plcTo l x0 y0 y1 pls k).2 j ↔ q ∈ plRIn x0 y0 y1 (spotsW (lt_ pls k) l).2 (plRTo l x0 y0 y1 pls k) j := by
    intro j
    induction j with
    | zero => exact i2
    | succ j ih => intro q; rw [plcIn, plRIn, mem_addW_iff, List.mem_append, ih q]
   exact key _
theorem kept_kR {rx ry : Int} {s : Shp} {fl : Bool} {qu : Int} {sp sp' : List (Int × Int)} (h : ∀ q, q ∈ sp ↔ q ∈ sp') : sortW (keptTo rx ry s fl qu sp sp.length) = kR rx ry s fl qu sp' sp'.length := by
 refine asc_ext Ears.less_irr Ears.lessS_tr _ _ ?_ (kR_pw _) fun q => ?_
 ·refine Ears.asc_of_nodup (Ears.sort_pw _) ?_
  unfold sortW
  exact (List.mergeSort_perm _ _).nodup_iff.2 (keptTo_nodup _)
 ·rw [Ears.sort_mem, keptTo_mem, kR_mem]
  constructor
  ·rintro ⟨i, hi, e⟩
   obtain ⟨j, hj, e2⟩ := mem_gt ((h _).1 (gt_in hi))
   exact ⟨j, hj, by rw [e2]; exact e⟩
  ·rintro ⟨i, hi, e⟩
   obtain ⟨j, hj, e2⟩ := mem_gt ((h _).2 (gt_in hi))
   exact ⟨j, hj, by rw [e2]; exact e⟩
theorem spots_zero {a b : List (Int × Int)} (ha : checkW a a.length = 0) (hb : checkW b b.length = 0) : (spotsW a b).1 = 0 := by
 unfold spotsW; rw [if_neg (by rw [(Ears.regions_ok ha hb).1]; simp)]
def plR (b : Bed4) (l : List (Int × Int)) (pls : List (List (Int × Int))) : List (Int × Int) :=
 plRTo l (wrap64 (-loX l l.length)) (wrap64 (-loY l l.length)) (wrap64 (wrap64 (b.wid - loY l l.length) - wrap64 (hiY l l.length - loY l l.length))) pls pls.length
theorem cand_ref {b : Bed4} {s : Shp} {fl : Bool} {qu : Int} {l : List (Int × Int)} {pls : List (List (Int × Int))} (hl : checkW l l.length = 0) (hp : ∀ t ∈ pls, checkW t t.length = 0) :
 candW b s fl qu l pls = (0, kR b.rx b.ry s fl qu (plR b l pls) (plR b l pls).length) := by
 obtain ⟨h1, h2⟩ := pl_mem (l := l) (x0 := wrap64 (-loX l l.length)) (y0 := wrap64 (-loY l l.length)) (y1 := wrap64 (wrap64 (b.wid - loY l l.length) - wrap64 (hiY l l.length - loY l l.length))) (pls := pls) (fun t ht => spots_zero (hp t ht) hl) pls.length (Nat.le_refl _)
 have e : placesW b l pls = plcTo l (wrap64 (-loX l l.length)) (wrap64 (-loY l l.length)) (wrap64 (wrap64 (b.wid - loY l l.length) - wrap64 (hiY l l.length - loY l l.length))) pls pls.length := by
  unfold placesW; rw [if_neg (by rw [hl]; simp)]
 unfold candW
 rw [e, if_neg (by rw [h1]; simp)]
 exact Prod.ext rfl (kept_kR h2)
theorem plac_check {S : List Shp} {ps : List Pt5} : ∀ k, (placTo S ps k).1 = 0 → ∀ t ∈ (placTo S ps k).2, checkW t t.length = 0
 | 0, _, t, ht => by simp [placTo] at ht
 | k + 1, h, t, ht => by
   rw [placTo] at h ht
   by_cases c : (placTo S ps k).1 ≠ 0
   ·rw [if_pos c] at h; exact absurd h c
   ·rw [if_neg c] at h ht
    have c' : (placTo S ps k).1 = 0 := by simpa using c
    by_cases d : (Xe S (pt ps k)).1 ≠ 0
    ·rw [if_pos d] at h; exact absurd h d
    ·rw [if_neg d] at ht
     have d' : (Xe S (pt ps k)).1 = 0 := by simpa using d
     rcases List.mem_append.1 ht with ht | ht
     ·exact plac_check k c' t ht
     ·simp at ht; subst ht; exact polyW_check d'
theorem prep_check {b : Bed4} {S : List Shp} {ps : List Pt5} {sh : Int} {fl : Bool} {qu : Int} (h : (prepW b S ps sh fl qu).1 = 0) : checkW (prepW b S ps sh fl qu).2.1 (prepW b S ps sh fl qu).2.1.length = 0 ∧ ∀ t ∈ (prepW b S ps sh fl qu).2.2, checkW t t.length = 0 := by
 obtain ⟨⟨h1, h2⟩, h3, h4⟩ := prepW_okT h
 rw [h2, h4]
 refine ⟨polyW_check h3, plac_check _ ?_⟩
 unfold prepW at h
 rw [h1] at h
 simp only [Bool.false_eq_true, if_false] at h
 rw [if_neg (by rw [h3]; simp)] at h
 split at h
 ·rename_i h5; exact absurd h h5
 ·rename_i h5; simpa using h5
theorem cands_ref {b : Bed4} {S : List Shp} {ps : List Pt5} {sh : Int} {fl : Bool} {qu : Int} (h : (prepW b S ps sh fl qu).1 = 0) :
 candsW b S ps sh fl qu = (0, (kR b.rx b.ry (shp S sh.toNat) fl qu (plR b (prepW b S ps sh fl qu).2.1 (prepW b S ps sh fl qu).2.2) (plR b (prepW b S ps sh fl qu).2.1 (prepW b S ps sh fl qu).2.2).length).map (candPut sh fl qu)) := by
 obtain ⟨h1, h2⟩ := prep_check h
 unfold candsW
 rw [if_neg (by rw [h]; simp), cand_ref h1 h2, if_neg (by simp)]
theorem cands_bad {b : Bed4} {S : List Shp} {ps : List Pt5} {sh : Int} {fl : Bool} {qu : Int} (h : (prepW b S ps sh fl qu).1 ≠ 0) : candsW b S ps sh fl qu = ((prepW b S ps sh fl qu).1, []) := by
 unfold candsW; rw [if_pos h]
end
section
set_option maxRecDepth 100000
open Go.RowKit
theorem lit2 (w : World) (p q : Int × Int) : OwS (w.alloc (.cells #[.int .i64 p.1, .int .i64 p.2, .int .i64 q.1, .int .i64 q.2] 37)) w.heap.size (.slice (some ⟨w.heap.size, 0, none⟩) 2 2) [p, q] :=
 World.ownsRow_lit w _ 2 (Nat.le_refl _) (by unfold maxLen; omega) rfl
theorem lit4 (w : World) (p q r s : Int × Int) : OwS (w.alloc (.cells #[.int .i64 p.1, .int .i64 p.2, .int .i64 q.1, .int .i64 q.2, .int .i64 r.1, .int .i64 r.2, .int .i64 s.1, .int .i64 s.2] 37)) w.heap.size (.slice (some ⟨w.heap.size, 0, none⟩) 4 4) [p, q, r, s] :=
 World.ownsRow_lit w _ 4 (Nat.le_refl _) (by unfold maxLen; omega) rfl
theorem lit4s (w : World) (x0 y0 y1 : Int) (v : Int × Int) : SpS (w.alloc (.cells #[.int .i64 v.1, .int .i64 v.2, .int .i64 v.1, .int .i64 y0, .int .i64 v.1, .int .i64 y1, .int .i64 x0, .int .i64 v.2] 37)) (some ⟨w.heap.size, 0, none⟩) 4 (four x0 y0 y1 v) :=
 OwS.spsg (lit4 w v (v.1, y0) (v.1, y1) (x0, v.2)) rfl
theorem lit4s2 (w : World) (o : Obj) (x0 y0 y1 : Int) (v : Int × Int) : SpS ((w.alloc o).alloc (.cells #[.int .i64 v.1, .int .i64 v.2, .int .i64 v.1, .int .i64 y0, .int .i64 v.1, .int .i64 y1, .int .i64 x0, .int .i64 v.2] 37)) (some ⟨w.heap.size + 1, 0, none⟩) 4 (four x0 y0 y1 v) := by
 have h := lit4s (w.alloc o) x0 y0 y1 v
 have e : (w.alloc o).heap.size = w.heap.size + 1 := by simp
 rw [e] at h
 exact h
theorem OwS.spsA {w : World} {B n c : Nat} {A : Option Addr} {l : List (Int × Int)} (h : OwS w B (.slice A n c) l) (hn : l.length = n) : SpS w A n l := by
 subst hn
 obtain ⟨A', c', e, _, hS, _⟩ := OwS.sps h
 injection e with e1 e2 e3
 rw [e1]; exact hS
theorem ne_grow {V v v' : Value} {H : Nat} (hne : V.ownBlock = none ∨ V.ownBlock ≠ v.ownBlock) (hat : v'.ownBlock = v.ownBlock ∨ v'.ownBlock = some H) (hlt : ∀ k, V.ownBlock = some k → k < H) : V.ownBlock = none ∨ V.ownBlock ≠ v'.ownBlock := by
 rcases hne with h | h
 ·exact .inl h
 ·refine .inr fun e => ?_
  rcases hat with e2 | e2
  ·exact h (e.trans e2)
  ·have := hlt H (e.trans e2); omega
set_option maxHeartbeats 2000000 in
theorem rplc_any (A B : Option Addr) (c1 c2 n1 n2 : Nat) (b : Bed4) (l : List (Int × Int)) (pls : List (List (Int × Int))) (w : World) (hn2 : n2 ≤ 1000) (hpl : ∀ t ∈ pls, t.length ≤ 1000) (hc1 : n1 ≤ c1) (hs : SpS w A n1 l) (hS : SpSS w B n2 pls) (hc : checkW l n1 = 0) :
 Calls Tryz.prog 36 #[bedV b, .slice B n2 c2, .slice A n1 c1] w (RetS w (plR b l pls)) := by
 obtain ⟨len, wid, rx, ry⟩ := b
 have hn3 := check_len hc
 have HR := Hj (show plR ⟨len, wid, rx, ry⟩ l pls = plRTo l (wrap64 (-loX l n1)) (wrap64 (-loY l n1)) (wrap64 (wrap64 (wid - loY l n1) - wrap64 (hiY l n1 - loY l n1))) pls n2 by unfold plR; rw [hs.1, hS.1])
 have HPL := Hj hpl
 have HN2 := Hj hS.1
 obtain ⟨ba, oa, rfl, -, -⟩ := hs.at_ (k := 0) (by omega)
 unfold bedV
 dsimp only
 have HC := Hj hc
 clear hc hpl
 have hB0 := Hj (BlkS.new w 25 #[.int .i64 len, .int .i64 wid, .int .i64 rx, .int .i64 ry])
 obtain ⟨bx, hbx⟩ : ∃ bx, loX l n1 = bx := ⟨_, rfl⟩
 obtain ⟨bY, hby⟩ : ∃ bY, loY l n1 = bY := ⟨_, rfl⟩
 obtain ⟨bW, hbW⟩ : ∃ bW, wrap64 (hiX l n1 - loX l n1) = bW := ⟨_, rfl⟩
 obtain ⟨bH, hbH⟩ : ∃ bH, wrap64 (hiY l n1 - loY l n1) = bH := ⟨_, rfl⟩
 rw [hbH, hbx, hby] at HR
 have HBX := Hj hbx
 have HBY := Hj hby
 have HBW := Hj hbW
 have HBH := Hj hbH
 clear hbx hby hbW hbH
 go_enter Tryz.func36, Tryz.ntmps36
 go_upto_region 2 with (go_at_call 67; refine (rbox_ok _ _ _ _ l _ (by omega) hc1 (hs.keep (Bl.alloc Br _)) HC.out (by omega)).mono ?_; rintro e w1 ⟨rfl, hb1⟩; rw [HBW.out, HBH.out, HBX.out, HBY.out])
 have k1 := (hB0.out.keep hb1).alloc (.cells #[.int .i64 bx, .int .i64 bY, .int .i64 bW, .int .i64 bH] 82)
 have k2 := BlkS.new w1 82 #[.int .i64 bx, .int .i64 bY, .int .i64 bW, .int .i64 bH]
 have hbA : Below w.heap.size w (w1.alloc (.cells #[.int .i64 bx, .int .i64 bY, .int .i64 bW, .int .i64 bH] 82)) := Bl.alloc (Bl.call (Bl.alloc Br _) hb1) _
 refine wp_world (fun X => BlkS X w.heap.size 25 #[.int .i64 len, .int .i64 wid, .int .i64 rx, .int .i64 ry] ∧ BlkS X w1.heap.size 82 #[.int .i64 bx, .int .i64 bY, .int .i64 bW, .int .i64 bH] ∧ Below w.heap.size w X) ⟨k1, k2, hbA⟩ ?_
 clear k1 k2 hbA hb1 hB0
 rintro X0 ⟨k1, k2, hbA⟩
 obtain ⟨a1, a2, a3, a4, a5⟩ := k1.cells4
 obtain ⟨e1, e2, e3, e4, e5⟩ := k2.cells4
 go_quiet (fail)
 go_upto_region 3 with fail
 obtain ⟨x0, hx0⟩ : ∃ x0, wrap64 (-bx) = x0 := ⟨_, rfl⟩
 obtain ⟨y0, hy0⟩ : ∃ y0, wrap64 (-bY) = y0 := ⟨_, rfl⟩
 obtain ⟨y1, hy1⟩ : ∃ y1, wrap64 (wrap64 (wid - bY) - bH) = y1 := ⟨_, rfl⟩
 rw [hx0, hy0, hy1] at HR ⊢
 clear hx0 hy0 hy1 a1 a2 a3 a4 a5 e1 e2 e3 e4 e5
 refine wp_world (fun X => Below w.heap.size w X) (Bl.drewN hbA nq) ?_
 clear k1 k2 hbA
 rintro W0 hbA
 have HPT := Hj (plRTo_len l x0 y0 y1 pls)
 go_wp2_with fail
 go_loopw [12, 13] (fun s12 i wr => ∃ k : Nat, k ≤ n2 ∧ i = .int .i64 k ∧ OwS wr W0.heap.size s12 (plRTo l x0 y0 y1 pls k) ∧ Below W0.heap.size W0 wr) (fun _ i _ => n2 - (intOf i).toNat)
 case atStart => exact ⟨0, Nat.zero_le _, rfl, lit2 W0 (x0, y0) (x0, y1), Bl.alloc Br _⟩
 case round =>
  obtain ⟨k, hk, rfl, ho, hbr⟩ := hrel
  by_cases hlt : k < n2
  ·obtain ⟨b1, o1, Ak, ck, rfl, hbl, d1, d2, d3, d4⟩ := (hS.keep (Bl.call hbA hbr)).at_ hlt
   have l1 : (lt_ pls k).length ≤ 1000 := HPL.out _ (lt_mem (by rw [HN2.out]; exact hlt))
   obtain ⟨nk, hnk⟩ : ∃ nk, (lt_ pls k).length = nk := ⟨_, rfl⟩
   rw [hnk] at d1 d2 d3 l1
   clear hnk
   have hok := (spotsW_ok (lt_ pls k) l).1
   have HSTEP := Hj (show plRTo l x0 y0 y1 pls (k + 1) = plRIn x0 y0 y1 (spotsW (lt_ pls k) l).2 (plRTo l x0 y0 y1 pls k) (spotsW (lt_ pls k) l).2.length from rfl)
   obtain ⟨sq, hsq⟩ : ∃ sq, spotsW (lt_ pls k) l = sq := ⟨_, rfl⟩
   rw [hsq] at hok HSTEP
   have HSQ := Hj hsq
   clear hsq
   obtain ⟨s1, sp⟩ := sq
   dsimp only at hok HSTEP
   have hz1 : (k : Int) < (n2 : Int) := by omega
   go_upto_region 8 with (go_at_call 68; refine (rspots_any _ _ _ _ _ _ (lt_ pls k) l _ (by omega) (by omega) d2 hc1 d3 (hs.keep (Bl.call hbA hbr))).mono ?_; rintro e w5 ⟨v5, rfl, ho5, hb5⟩; rw [HSQ.out] at ho5 ⊢)
   obtain ⟨As, cs, rfl, hcs, -, -⟩ := OwS.sps ho5
   obtain ⟨ns, hns⟩ : ∃ ns, sp.length = ns := ⟨_, rfl⟩
   have hV5 : OwS w5 W0.heap.size (.slice As ns cs) sp := by rw [← hns]; exact OwG.lower ho5 hbr.size
   have hne5 : (Value.slice As ns cs).ownBlock = none ∨ (Value.slice As ns cs).ownBlock ≠ u12.ownBlock := by
    rw [← hns]
    cases hx : (Value.slice As sp.length cs).ownBlock with
    | none => exact .inl rfl
    | some g =>
      refine .inr fun e => ?_
      have q1 := (OwG.lt ho5 g hx).1
      have q2 := (OwG.lt ho g e.symm).2
      omega
   rw [hns] at hcs hok HSTEP ⊢
   have HNS := Hj hns
   clear hns ho5
   have ho5 : OwS w5 W0.heap.size u12 (plRTo l x0 y0 y1 pls k) := OwG.keep ho hb5
   have hb5' := Bl.call hbr hb5
   have hLl := HPT.out k
   have hLi := Hj (plRIn_len x0 y0 y1 sp (plRTo l x0 y0 y1 pls k))
   clear ho hbl d1 d2 d3 d4 hb5 hbr
   go_wp2_with fail
   go_loopw [12, 16] (fun s12 i wx => ∃ j : Nat, j ≤ ns ∧ i = .int .i64 j ∧ OwS wx W0.heap.size s12 (plRIn x0 y0 y1 sp (plRTo l x0 y0 y1 pls k) j) ∧ OwS wx W0.heap.size (.slice As ns cs) sp ∧ ((Value.slice As ns cs).ownBlock = none ∨ (Value.slice As ns cs).ownBlock ≠ s12.ownBlock) ∧ Below W0.heap.size W0 wx) (fun _ i _ => ns - (intOf i).toNat)
   case atStart => exact ⟨0, Nat.zero_le _, rfl, ho5, hV5, hne5, hb5'⟩
   case round =>
    clear ho5 hV5 hne5 hb5'
    obtain ⟨j, hj, rfl, ho, hV, hne, hbx⟩ := hrel
    by_cases hjn : j < ns
    ·obtain ⟨bq, oq, rfl, hbq, hcc⟩ := (OwS.spsA hV HNS.out).at_ hjn
     obtain ⟨y1c, y2c⟩ := hcc j hjn
     clear hcc
     have hz2 : (j : Int) < (ns : Int) := by omega
     have hlen4 : (plRIn x0 y0 y1 sp (plRTo l x0 y0 y1 pls k) j).length + 4 ≤ 4000000000 := by rw [hLi.out j]; omega
     have HS2 := Hj hbx.size
     go_wp2_with (at_builtin; refine wpList_appSL rfl _ _ rfl W0.heap.size u12 (plRIn x0 y0 y1 sp (plRTo l x0 y0 y1 pls k) j) rfl (OwG.alloc (OwG.alloc ho _) _) (some ⟨wr.heap.size + 1, 0, none⟩) 4 4 (four x0 y0 y1 (gt sp j)) rfl (lit4s2 wr _ x0 y0 y1 (gt sp j)) (fun h => by cases h) hlen4 (by have := HS2.out; simp; omega) ?_; intro v' wv ho' hg' hat')
     refine ⟨⟨j + 1, by omega, by go_num, ho', OwG.kept (OwG.alloc (OwG.alloc hV _) _) hg' hne, ne_grow hne hat' (fun k hk => (OwG.lt (OwG.alloc (OwG.alloc hV _) _) k hk).2), below_app (Bl.alloc (Bl.alloc hbx _) _) (OwG.alloc (OwG.alloc ho _) _) hg'⟩, by simp [intOf]; omega⟩
    ·obtain rfl : ns = j := by omega
     go_wp2_with fail
     exact ⟨⟨k + 1, by omega, by go_num, by rw [HSTEP.out]; exact ho, hbx⟩, by simp [intOf]; omega⟩
  ·obtain rfl : n2 = k := by omega
   go_wp2_with fail
   go_ret
   exact ⟨_, rfl, by rw [HR.out]; exact OwG.lower ho hbA.size, Bl.call hbA hbr⟩
end
end Go.Proofs.YtmdncaoilegnnaaGreat

/- fill.Step. -/
import Derived.Test.YtmdncaoilegnnaaGreatUG21
import Derived.Test.YtmdncaoilegnnaaGreatUG20
namespace Go.Proofs.YtmdncaoilegnnaaGreat
set_option linter.unusedVariables false
set_option linter.unusedSimpArgs false
set_option linter.unusedVariables false
set_option linter.unusedSimpArgs false
open Go.RowKit

theorem keptTo_ok {rx ry : Int} {s : Shp} {fl : Bool} {qu : Int} {sp : List (Int × Int)} (hs : ∀ p ∈ sp, okS p) : ∀ k, k ≤ sp.length → ∀ p ∈ keptTo rx ry s fl qu sp k, okS p := by
  intro k
  induction k with
  | zero => simp [keptTo]
  | succ k ih =>
    intro hk
    rw [keptTo]
    split
    · exact ih (by omega)
    · rename_i a ha
      refine addW_ok (ih (by omega)) (by intro p hp; simp at hp; subst hp; exact setlW_ok (hs _ (List.mem_of_getElem? (gt_some (by omega)))) ha)
theorem candW_ok (b : Bed4) (s : Shp) (fl : Bool) (qu : Int) (l : List (Int × Int)) (pls : List (List (Int × Int))) : (candW b s fl qu l pls).2.length ≤ 2 + 1075840 * pls.length ∧ ∀ p ∈ (candW b s fl qu l pls).2, okS p := by
  have h := placesW_ok b l pls
  unfold candW
  split
  · simp
  · refine ⟨?_, fun p hp => keptTo_ok h.2 _ (Nat.le_refl _) p (List.mem_mergeSort.1 hp)⟩
    show (sortW _).length ≤ _
    rw [sortW_len]
    exact Nat.le_trans (keptTo_len _ _ _ _ _ _ _) h.1
def tr (ts : List Trn) (k : Nat) : Trn := ts.getD k (false, 0)
def isFit (b : Bed4) (S : List Shp) (ps : List Pt5) (sh : Int) (t : Trn) (a : Int × Int) : Bool := fitsW b S ps ⟨sh, t.1, t.2, a.1, a.2⟩ == 0
/-- The first index below n at which a candidate fits. -/
def fstFit (b : Bed4) (S : List Shp) (ps : List Pt5) (sh : Int) (t : Trn) (cs : List (Int × Int)) : Option Nat := (List.range cs.length).find? fun i => isFit b S ps sh t (gt cs i)
def endOf (sh : Int) (t : Trn) (r : List (Int × Int)) (a : Int × Int) : End6 := ⟨⟨sh, t.1, t.2, a.1, a.2⟩, wrap64 (wrap64 (a.1 + loX r r.length) + wrap64 (hiX r r.length - loX r r.length))⟩
def stTo (b : Bed4) (S : List Shp) (ps : List Pt5) (sh : Int) (pls : List (List (Int × Int))) (ts : List Trn) : Nat → Int × List End6
  | 0 => (0, [])
  | k + 1 => if (stTo b S ps sh pls ts k).1 ≠ 0 then stTo b S ps sh pls ts k
    else if (polyW S ⟨sh, (tr ts k).1, (tr ts k).2, 0, 0⟩).1 ≠ 0 then ((polyW S ⟨sh, (tr ts k).1, (tr ts k).2, 0, 0⟩).1, [])
    else if (candW b (shp S sh.toNat) (tr ts k).1 (tr ts k).2 (polyW S ⟨sh, (tr ts k).1, (tr ts k).2, 0, 0⟩).2 pls).1 ≠ 0 then ((candW b (shp S sh.toNat) (tr ts k).1 (tr ts k).2 (polyW S ⟨sh, (tr ts k).1, (tr ts k).2, 0, 0⟩).2 pls).1, [])
    else match fstFit b S ps sh (tr ts k) (candW b (shp S sh.toNat) (tr ts k).1 (tr ts k).2 (polyW S ⟨sh, (tr ts k).1, (tr ts k).2, 0, 0⟩).2 pls).2 with
      | none => (0, (stTo b S ps sh pls ts k).2)
      | some j => (0, addW (stTo b S ps sh pls ts k).2 [endOf sh (tr ts k) (polyW S ⟨sh, (tr ts k).1, (tr ts k).2, 0, 0⟩).2 (gt (candW b (shp S sh.toNat) (tr ts k).1 (tr ts k).2 (polyW S ⟨sh, (tr ts k).1, (tr ts k).2, 0, 0⟩).2 pls).2 j)] ⟨⟨0, false, 0, 0, 0⟩, 0⟩)
def zeroP : Pt5 := ⟨0, false, 0, 0, 0⟩
def stepIn (r : Int × List End6) : Int × Pt5 := if r.1 ≠ 0 then (r.1, zeroP) else if r.2.length = 0 then (18, zeroP) else (0, (leastTo r.2 r.2.length).put)
def stepW (b : Bed4) (S : List Shp) (ps : List Pt5) (sh : Int) : Int × Pt5 :=
  if (prepW b S ps sh false 0).1 ≠ 0 then ((prepW b S ps sh false 0).1, zeroP)
  else stepIn (stTo b S ps sh (prepW b S ps sh false 0).2.2 (allW (shp S sh.toNat).grain false) (allW (shp S sh.toNat).grain false).length)
theorem stTo_bad {b : Bed4} {S : List Shp} {ps : List Pt5} {sh : Int} {pls : List (List (Int × Int))} {ts : List Trn} {k : Nat} {x : Int} (h : stTo b S ps sh pls ts k = (x, [])) (hx : x ≠ 0) : ∀ m, stTo b S ps sh pls ts (k + m) = (x, []) := by
  intro m
  induction m with
  | zero => exact h
  | succ m ih => rw [← Nat.add_assoc, stTo, if_pos (by rw [ih]; exact hx)]; exact ih
theorem addE_len (L : List End6) (x : End6) : (addW L [x] ⟨⟨0, false, 0, 0, 0⟩, 0⟩).length ≤ L.length + 1 := addTo_len _ _ _ _
theorem stTo_len {b : Bed4} {S : List Shp} {ps : List Pt5} {sh : Int} {pls : List (List (Int × Int))} {ts : List Trn} (k : Nat) : (stTo b S ps sh pls ts k).2.length ≤ k := by
  induction k with
  | zero => simp [stTo]
  | succ k ih =>
    rw [stTo]
    split
    · omega
    · split
      · simp
      · split
        · simp
        · split
          · exact Nat.le_succ_of_le ih
          · refine Nat.le_trans (addE_len _ _) (by omega)
theorem polyW_check {S : List Shp} {p : Pt5} (h : (polyW S p).1 = 0) : checkW (polyW S p).2 (polyW S p).2.length = 0 := by
  unfold polyW at h ⊢
  split at h
  · cases h
  · rename_i h1
    rw [if_neg h1]
    unfold polyIn at h ⊢
    split at h
    · rename_i h2; exact absurd h h2
    · rename_i h2
      rw [if_neg h2]
      split at h
      · rename_i h3; exact absurd h h3
      · rename_i h3
        rw [if_neg h3]
        show checkW (movW _ _) (movW _ _).length = 0
        rw [movW_len, tpolW_len]
        simpa using h3
theorem prepW_ok {b : Bed4} {S : List Shp} {ps : List Pt5} {sh : Int} {fl : Bool} {qu : Int} (h : (prepW b S ps sh fl qu).1 = 0) : bedBad b = false ∧ (polyW S ⟨sh, fl, qu, 0, 0⟩).1 = 0 ∧ (prepW b S ps sh fl qu).2.2 = (placTo S ps ps.length).2 := by
  unfold prepW at h ⊢
  split at h
  · cases h
  · rename_i h1
    rw [if_neg h1]
    split at h
    · rename_i h2; exact absurd h h2
    · rename_i h2
      rw [if_neg h2]
      split at h
      · rename_i h3; exact absurd h h3
      · rename_i h3
        rw [if_neg h3]
        exact ⟨by simpa using h1, by simpa using h2, rfl⟩
def TrS (w : World) (A : Option Addr) (n : Nat) (ts : List Trn) : Prop := ts.length = n ∧ (n = 0 ∨ ∃ b, A = some ⟨b, 0, none⟩ ∧ ∀ k, k < n → w.cell? ⟨b, k * 2, none⟩ = some (.bool (tr ts k).1) ∧ w.cell? ⟨b, k * 2 + 1, none⟩ = some (.int .i64 (tr ts k).2))
theorem OwT.trs {w : World} {base : Nat} {v : Value} {l : List Trn} (h : OwG 29 2 enT w base v l) : ∃ A c, v = .slice A l.length c ∧ TrS w A l.length l ∧ (0 < l.length → ∃ g, A = some ⟨g, 0, none⟩ ∧ base ≤ g ∧ g < w.heap.size) := by
  rcases OwG.form h with ⟨rfl, rfl⟩ | ⟨g, cap, rfl, g1, g2, g3, g4⟩
  · exact ⟨none, 0, rfl, ⟨rfl, .inl rfl⟩, fun h => absurd h (by simp)⟩
  · refine ⟨_, cap, rfl, ⟨rfl, .inr ⟨g, rfl, fun k hk => ?_⟩⟩, fun _ => ⟨g, rfl, g1, g2⟩⟩
    have hk2 : l[k]? = some (tr l k) := by unfold tr; rw [List.getD, List.getElem?_eq_getElem hk]; rfl
    have c0 := OwG.cells h (k * 2) (by omega)
    have c1 := OwG.cells h (k * 2 + 1) (by omega)
    have f0 := flat_at enT_len l k 0 _ hk2 (by omega)
    rw [Nat.add_zero] at f0
    rw [f0] at c0
    rw [flat_at enT_len l k 1 _ hk2 (by omega)] at c1
    exact ⟨c0, c1⟩
theorem TrS.keepBlk {w w' : World} {sb n : Nat} {l : List Trn} (h : TrS w (some ⟨sb, 0, none⟩) n l) (hb : w'.heap[sb]? = w.heap[sb]?) : TrS w' (some ⟨sb, 0, none⟩) n l := by
  refine ⟨h.1, ?_⟩
  obtain ⟨_, h2⟩ := h
  rcases h2 with h2 | ⟨b, e, h2⟩
  · exact .inl h2
  · injection e with e
    injection e with e1
    subst e1
    exact .inr ⟨sb, rfl, fun k hk' => ⟨(World.cell?_of_block (w := w) (a := ⟨sb, k * 2, none⟩) hb).trans (h2 k hk').1, (World.cell?_of_block (w := w) (a := ⟨sb, k * 2 + 1, none⟩) hb).trans (h2 k hk').2⟩⟩
theorem TrS.keep {w w' : World} {A : Option Addr} {n : Nat} {l : List Trn} (h : TrS w A n l) (hb : Below w.heap.size w w') : TrS w' A n l := by
  refine ⟨h.1, ?_⟩
  obtain ⟨_, h2⟩ := h
  rcases h2 with h2 | ⟨b, rfl, h2⟩
  · exact .inl h2
  · exact .inr ⟨b, rfl, fun k hk => ⟨cell_keep hb (h2 k hk).1, cell_keep hb (h2 k hk).2⟩⟩
theorem allTo_in (g : Int) (m : Bool) : ∀ k, ∀ t ∈ allTo g m k, t.1 = m ∧ 0 ≤ t.2 ∧ t.2 < k := by
  intro k
  induction k with
  | zero => simp [allTo]
  | succ k ih =>
    intro t ht
    rw [allTo] at ht
    rcases List.mem_append.1 ht with ht | ht
    · have := ih t ht; exact ⟨this.1, this.2.1, by omega⟩
    · split at ht
      · simp at ht; subst ht; exact ⟨rfl, by show (0 : Int) ≤ (k : Int); omega, by show (k : Int) < ((k + 1 : Nat) : Int); omega⟩
      · simp at ht
theorem find_at {f : Nat → Bool} {k n : Nat} (hk : k < n) (h : AnyB f k = false) (h2 : f k = true) : (List.range n).find? f = some k := by
  have e : List.range n = List.range k ++ (List.range' k (n - k)) := by
    have h := List.range'_append_1 (s := 0) (m := k) (n := n - k)
    rw [List.range_eq_range', List.range_eq_range', show n = k + (n - k) by omega, ← h]; simp
  rw [e, List.find?_append]
  have h3 : (List.range k).find? f = none := by
    rw [List.find?_eq_none]; intro x hx hf
    exact (List.any_eq_false.1 h) x hx hf
  rw [h3]
  obtain ⟨m, hm⟩ : ∃ m, n - k = m + 1 := ⟨n - k - 1, by omega⟩
  rw [hm, List.range'_succ]
  simp [h2]
theorem find_none {f : Nat → Bool} {n : Nat} (h : AnyB f n = false) : (List.range n).find? f = none := by
  rw [List.find?_eq_none]; intro x hx hf
  exact (List.any_eq_false.1 h) x hx hf
theorem BlkS.frz5 {w : World} {g : Nat} {t : TypeId} {cs : Array Value} (h : BlkS w g t cs) : w.frozen? ⟨g, 0, none⟩ = false ∧ w.frozen? ⟨g, 1, none⟩ = false ∧ w.frozen? ⟨g, 2, none⟩ = false ∧ w.frozen? ⟨g, 3, none⟩ = false ∧ w.frozen? ⟨g, 4, none⟩ = false :=
  ⟨h.frozen 0, h.frozen 1, h.frozen 2, h.frozen 3, h.frozen 4⟩
def StepRet (w : World) (r : Int × Pt5) (e : Ending) (w' : World) : Prop := e = .returned (.tuple #[putV r.2, .int .i64 r.1]) ∧ Below w.heap.size w w'
set_option maxHeartbeats 1000000 in
set_option maxRecDepth 100000 in
theorem step_bad (A1 A2 : Option Addr) (c1 c2 n1 n2 : Nat) (b : Bed4) (S : List Shp) (ps : List Pt5) (sh : Int) (w : World) (hn2 : n2 ≤ 1000) (hS : ShS w A1 n1 S) (hPu : PuS w A2 n2 ps) (hp : ¬ (prepW b S ps sh false 0).1 = 0) :
    Calls Tryz.prog 15 #[bedV b, .slice A1 n1 c1, .slice A2 n2 c2, .int .i64 sh] w (StepRet w ((prepW b S ps sh false 0).1, zeroP)) := by
  have q : ((prepW b S ps sh false 0).1 != 0) = true := by simpa using hp
  clear hp
  obtain ⟨x, hx⟩ : ∃ x, (prepW b S ps sh false 0).1 = x := ⟨_, rfl⟩
  rw [hx] at q ⊢
  have HX := Lib.hid hx
  clear hx
  obtain ⟨len, wid, rx, ry⟩ := b
  unfold bedV
  dsimp only
  have hbw := Lib.hid (show Below w.heap.size w ((w.alloc (.cells #[.int .i64 len, .int .i64 wid, .int .i64 rx, .int .i64 ry] 25)).alloc (.cells #[.int .i64 0, .bool false, .int .i64 0, .int .i64 0, .int .i64 0] 39)) from (Bl.alloc (Bl.alloc (Below.refl _ _) _) _))
  have H1 := Lib.hid (BlkS.new2 w (.cells #[.int .i64 len, .int .i64 wid, .int .i64 rx, .int .i64 ry] 25) 39 #[.int .i64 0, .bool false, .int .i64 0, .int .i64 0, .int .i64 0])
  go_enter Tryz.func15, Tryz.ntmps15
  go_wp2_with (go_at_call 32; refine (prep_any A1 A2 c1 c2 n1 n2 ⟨len, wid, rx, ry⟩ S ps sh false 0 _ (by omega) (hS.keep hbw.out) (hPu.keep hbw.out)).mono ?_; rintro e w1 ⟨v1, v2, rfl, ho1, ho2, hb1⟩; rw [HX.out]; have k1 := H1.out.keep hb1; obtain ⟨a1, a2, a3, a4, a5, a6⟩ := k1.cells5; obtain ⟨f1, f2, f3, f4, f5⟩ := k1.frz5)
  exact bodyPost_ret (v := .tuple #[putV zeroP, .int .i64 x]) (by simp [results, Tryz.results15, go_sem, a1, a2, a3, a4, a5, putV, zeroP]) rfl ⟨rfl, by have hbb := Bl.call hbw.out hb1; (repeat first | exact hbb | refine Bl.set ?_ (by dsimp only; omega) _)⟩
set_option maxHeartbeats 4000000 in
set_option maxRecDepth 100000 in
theorem step_ok (A1 A2 : Option Addr) (c1 c2 n1 n2 : Nat) (b : Bed4) (S : List Shp) (ps : List Pt5) (sh : Int) (w : World) (hn2 : n2 ≤ 1000) (hS : ShS w A1 n1 S) (hPu : PuS w A2 n2 ps) (hp : (prepW b S ps sh false 0).1 = 0) :
    Calls Tryz.prog 15 #[bedV b, .slice A1 n1 c1, .slice A2 n2 c2, .int .i64 sh] w (StepRet w (stepIn (stTo b S ps sh (prepW b S ps sh false 0).2.2 (allW (shp S sh.toNat).grain false) (allW (shp S sh.toNat).grain false).length))) := by
  obtain ⟨hb0, hp1, hp2⟩ := prepW_ok hp
  obtain ⟨k, hk, hkn, hkt⟩ := polyW_sh hp1
  dsimp only at hk hkn hkt
  have hplm := placTo_small S ps ps.length
  rw [hkt]
  obtain ⟨pls, hpls⟩ : ∃ pls, (prepW b S ps sh false 0).2.2 = pls := ⟨_, rfl⟩
  rw [hpls] at hp2 ⊢
  rw [← hp2, hPu.1] at hplm
  have hpl1 := hplm.1
  have HPL := Lib.hid (show ∀ t ∈ pls, t.length ≤ 1000 from fun t ht => Nat.le_trans (hplm.2 t ht) (by omega))
  have HPLS := Lib.hid hpls
  have HP := Lib.hid hp
  clear hpls hp2 hp1 hp hplm hkt hb0
  subst hk
  have hn1 : k < n1 := by rw [← hS.1]; exact hkn
  have hn1' := hS.2.1
  have HSL := Lib.hid hS.1
  clear hkn
  obtain ⟨ba, oa, rfl, hbl, hsh⟩ := hS.at_ hn1
  have HSH := Lib.hid hsh
  obtain ⟨s, hs⟩ : ∃ s, shp S k = s := ⟨_, rfl⟩
  rw [hs] at HSH ⊢
  have HSS := Lib.hid hs
  clear hs hsh hbl
  obtain ⟨ts, hts⟩ : ∃ ts, allW s.grain false = ts := ⟨_, rfl⟩
  rw [hts]
  have htsl : ts.length ≤ 4 := by rw [← hts]; exact allTo_len _ _ 4
  have HTI := Lib.hid (show ∀ t ∈ ts, inR t.2 from fun t ht => by rw [← hts] at ht; have := allTo_in s.grain false 4 t ht; unfold inR; omega)
  have HTS := Lib.hid hts
  clear hts
  obtain ⟨nt, hnt⟩ : ∃ nt, ts.length = nt := ⟨_, rfl⟩
  rw [hnt] at htsl ⊢
  have HNT := Lib.hid hnt
  clear hnt
  obtain ⟨len, wid, rx, ry⟩ := b
  unfold bedV
  dsimp only
  have hbw := Lib.hid (show Below w.heap.size w ((w.alloc (.cells #[.int .i64 len, .int .i64 wid, .int .i64 rx, .int .i64 ry] 25)).alloc (.cells #[.int .i64 0, .bool false, .int .i64 0, .int .i64 0, .int .i64 0] 39)) from (Bl.alloc (Bl.alloc (Below.refl _ _) _) _))
  have H0 := Lib.hid ((BlkS.new w 25 #[.int .i64 len, .int .i64 wid, .int .i64 rx, .int .i64 ry]).alloc (.cells #[.int .i64 0, .bool false, .int .i64 0, .int .i64 0, .int .i64 0] 39))
  have H1 := Lib.hid (BlkS.new2 w (.cells #[.int .i64 len, .int .i64 wid, .int .i64 rx, .int .i64 ry] 25) 39 #[.int .i64 0, .bool false, .int .i64 0, .int .i64 0, .int .i64 0])
  go_enter Tryz.func15, Tryz.ntmps15
  go_upto_region 4 with (go_at_call 32; refine (prep_any _ A2 c1 c2 n1 n2 ⟨len, wid, rx, ry⟩ S ps (k : Int) false 0 _ (by omega) (hS.keep hbw.out) (hPu.keep hbw.out)).mono ?_; rintro e w1 ⟨v1, v2, rfl, ho1, ho2, hb1⟩; rw [HPLS.out] at ho2; rw [HP.out])
  obtain ⟨Ap, cp, rfl, hcp, hSp, -⟩ := ho2.spss
  have hbA := Bl.call hbw.out hb1
  have hSA := hS.keep hbA
  have hPA := hPu.keep hbA
  have K0 := Lib.hid (H0.out.keep hb1)
  have K1 := Lib.hid (H1.out.keep hb1)
  have hshA := HSH.out.keep hbA
  clear ho1 ho2 hb1 hbw H0 H1 hS hPu HSH
  obtain ⟨np, hnp⟩ : ∃ np, pls.length = np := ⟨_, rfl⟩
  rw [hnp] at hSp hcp hpl1 ⊢
  clear hnp
  obtain ⟨spl, gr, mt, ⟨ax, ay⟩⟩ := s
  obtain ⟨Ak, ck, g1, g2, g3, g4, g5, g6, g7, g8, g9⟩ := hshA
  dsimp only at g1 g2 g4 g6 g7 g8 g9 HTS
  obtain ⟨nk, hnk⟩ : ∃ nk, spl.length = nk := ⟨_, rfl⟩
  rw [hnk] at g1 g2 g4
  clear hnk g2 g3 g4 g5
  obtain ⟨BB, hBB⟩ : ∃ BB, BB = w1.heap.size := ⟨_, rfl⟩
  have hg0 := Lib.hid (BagE.new w1)
  rw [← hBB] at hg0
  have g6' : (w1.alloc (.cells #[.map none, .slice none 0 0] 78)).cell? ⟨ba, oa + k * 5 + 1, none⟩ = some (.int .i64 gr) := cell_keep (Bl.alloc (Below.refl _ _) _) g6
  go_upto_region 6 with (go_at_call 39; refine (all_any _ _ _).mono ?_; rintro e w2 ⟨v3, rfl, ho3, hb3⟩; rw [HTS.out] at ho3; obtain ⟨At, ct, rfl, hTt, hAt⟩ := OwT.trs ho3; rw [HNT.out] at hTt hAt ⊢)
  rw [← hBB]
  have hBB1 : w1.heap.size ≤ BB := by omega
  have hBB2 : BB ≤ w1.heap.size := by omega
  have hg2 := hg0.out.keep hb3
  have hb2 : Below w1.heap.size w1 w2 := Bl.call (Bl.alloc (Below.refl _ _) _) hb3
  have hz3 := hb3.size
  simp at hz3
  obtain ⟨sb, hsb⟩ : ∃ sb, 0 < nt → At = some ⟨sb, 0, none⟩ ∧ AvE w2 BB sb := by
    rcases Nat.eq_zero_or_pos nt with h0 | h0
    · exact ⟨0, fun h => by omega⟩
    · obtain ⟨g, rfl, q1, q2⟩ := hAt h0
      exact ⟨g, fun _ => ⟨rfl, hg2.av (by simp at q1; omega) q2⟩⟩
  have HG2 := Lib.hid (show BagE w2 BB w2.heap.size (stTo ⟨len, wid, rx, ry⟩ S ps (k : Int) pls ts 0).2 from hg2.mono (by omega))
  clear hg0 hg2 hb3 ho3 hAt g6' hz3 hBB
  go_loopw [46] (fun i wr => ∃ j : Nat, j ≤ nt ∧ i = .int .i64 j ∧ Hid ((stTo ⟨len, wid, rx, ry⟩ S ps (k : Int) pls ts j).1 = 0) ∧ BagE wr BB wr.heap.size (stTo ⟨len, wid, rx, ry⟩ S ps (k : Int) pls ts j).2 ∧ TrS wr At nt ts ∧ (0 < nt → AvE wr BB sb) ∧ Below w1.heap.size w1 wr) (fun i _ => nt - (intOf i).toNat)
  case atStart => exact ⟨0, Nat.zero_le _, rfl, Lib.hid rfl, HG2.out, hTt, fun h => (hsb h).2, hb2⟩
  case round =>
    clear HG2 hTt hb2
    obtain ⟨j, hj, rfl, hz, hg, hTt, hav, hbr⟩ := hrel
    by_cases hlt : j < nt
    · obtain ⟨rfl, -⟩ := hsb (by omega)
      have hav' := hav (by omega)
      obtain ⟨-, hT2⟩ := hTt
      rcases hT2 with h | ⟨sb', eq1, hT2⟩
      · omega
      · injection eq1 with eq1
        injection eq1 with eq1
        subst eq1
        obtain ⟨d1, d2⟩ := hT2 j hlt
        have hTt : TrS wr (some ⟨sb, 0, none⟩) nt ts := ⟨HNT.out, .inr ⟨sb, rfl, hT2⟩⟩
        have hstep := Lib.hid (show stTo ⟨len, wid, rx, ry⟩ S ps (k : Int) pls ts (j + 1) = _ by rw [stTo, if_neg (by rw [hz.out]; simp)])
        rw [Int.toNat_natCast, HSS.out] at hstep
        have hti : inR (tr ts j).2 := HTI.out _ (by unfold tr; rw [List.getD, List.getElem?_eq_getElem (by rw [HNT.out]; exact hlt)]; exact List.getElem_mem _)
        obtain ⟨tj, htj⟩ : ∃ tj, tr ts j = tj := ⟨_, rfl⟩
        rw [htj] at d1 d2 hstep hti
        clear htj hT2
        obtain ⟨tf, tq⟩ := tj
        dsimp only at d1 d2 hstep hti
        have hsl : sb < wr.heap.size := lt_of_cell d1
        have hchk := fun h => polyW_check (S := S) (p := ⟨(k : Int), tf, tq, 0, 0⟩) h
        have hrl := polyW_len S ⟨(k : Int), tf, tq, 0, 0⟩
        obtain ⟨r, hr⟩ : ∃ r, polyW S ⟨(k : Int), tf, tq, 0, 0⟩ = r := ⟨_, rfl⟩
        rw [hr] at hstep hchk hrl
        have HR := Lib.hid hr
        clear hr
        obtain ⟨r1, r⟩ := r
        dsimp only at hstep hchk hrl
        by_cases hr1 : r1 = 0
        · subst hr1
          have hck := hchk rfl
          have HCK := Lib.hid hck
          have hcl := check_len hck
          rw [if_neg (by simp)] at hstep
          clear hchk hck
          obtain ⟨nr, hnr⟩ : ∃ nr, r.length = nr := ⟨_, rfl⟩
          rw [hnr] at hrl HCK hcl
          have HNR := Lib.hid hnr
          clear hnr
          go_upto_region 14 with (first | (go_at_call 40; refine (ppoly_any _ _ _ S ⟨(k : Int), tf, tq, 0, 0⟩ _ (hSA.keep (Bl.alloc hbr _))).mono ?_; rintro e w5 ⟨v5, rfl, ho5, hb5⟩; rw [HR.out] at ho5 ⊢; obtain ⟨A5, c5, rfl, hc5, hS5, hA5⟩ := OwS.sps ho5; rw [HNR.out] at hS5 hc5 hA5 ⊢; obtain ⟨gb, rfl, hgb1, hgb2⟩ := hA5 (by omega)) | (go_at_call 41; refine (box_ok _ _ _ _ r _ (by omega) hc5 hS5 HCK.out (by omega)).mono ?_; rintro e w6 ⟨rfl, hb6⟩))
          obtain ⟨T15, hT15⟩ : ∃ T15, T15 = wr.heap.size := ⟨_, rfl⟩
          obtain ⟨T18, hT18⟩ : ∃ T18, T18 = w6.heap.size := ⟨_, rfl⟩
          rw [← hT15, ← hT18]
          have hbX : Below wr.heap.size wr (w6.alloc (.cells #[.int .i64 (loX r nr), .int .i64 (loY r nr), .int .i64 (wrap64 (hiX r nr - loX r nr)), .int .i64 (wrap64 (hiY r nr - loY r nr))] 82)) := Bl.alloc (Bl.call (Bl.call (Bl.alloc (Below.refl _ _) _) hb5) hb6) _
          have x1 : BlkS (w6.alloc (.cells #[.int .i64 (loX r nr), .int .i64 (loY r nr), .int .i64 (wrap64 (hiX r nr - loX r nr)), .int .i64 (wrap64 (hiY r nr - loY r nr))] 82)) T15 29 #[.bool tf, .int .i64 tq] := by rw [hT15]; exact (((BlkS.new wr _ _).keep hb5).keep hb6).alloc _
          have x2 : BlkS (w6.alloc (.cells #[.int .i64 (loX r nr), .int .i64 (loY r nr), .int .i64 (wrap64 (hiX r nr - loX r nr)), .int .i64 (wrap64 (hiY r nr - loY r nr))] 82)) T18 82 #[.int .i64 (loX r nr), .int .i64 (loY r nr), .int .i64 (wrap64 (hiX r nr - loX r nr)), .int .i64 (wrap64 (hiY r nr - loY r nr))] := by rw [hT18]; exact BlkS.new _ _ _
          have hBw : BB < wr.heap.size := by obtain ⟨_, _, q, _⟩ := hg; exact q.lt
          refine wp_world (fun X => Below w1.heap.size w1 X ∧ BlkS X T15 29 #[.bool tf, .int .i64 tq] ∧ BlkS X T18 82 #[.int .i64 (loX r nr), .int .i64 (loY r nr), .int .i64 (wrap64 (hiX r nr - loX r nr)), .int .i64 (wrap64 (hiY r nr - loY r nr))] ∧ SpS X (some ⟨gb, 0, none⟩) nr r ∧ BagE X BB X.heap.size (stTo ⟨len, wid, rx, ry⟩ S ps (k : Int) pls ts j).2 ∧ TrS X (some ⟨sb, 0, none⟩) nt ts ∧ AvE X BB sb) ⟨Bl.call hbr hbX, x1, x2, (hS5.keep hb6).keep (Bl.alloc (Below.refl _ _) _), (hg.keep hbX).mono hbX.size, hTt.keep hbX, hav'.keep hBw hbX⟩ ?_
          clear x1 x2 hbX hBw hg hTt hav hav' hbr hS5 hb5 hb6 ho5 hT15 hT18 d1 d2 hsl hgb1 hgb2
          rintro X ⟨hbr, x1, x2, hS5, hg, hTt, hav⟩
          obtain ⟨a1, a2, a3, a4, a5⟩ := (K0.out.keep hbr).cells4
          obtain ⟨t1, t2, t3, t4, t5⟩ := x1.cells2
          have s1 := cell_keep hbr g1
          have s2 := cell_keep hbr g6
          have s3 := cell_keep hbr g7
          have s4 := cell_keep hbr g8
          have s5 := cell_keep hbr g9
          have hcok := candW_ok ⟨len, wid, rx, ry⟩ ⟨spl, gr, mt, (ax, ay)⟩ tf tq r pls
          obtain ⟨cw, hcw⟩ : ∃ cw, candW ⟨len, wid, rx, ry⟩ ⟨spl, gr, mt, (ax, ay)⟩ tf tq r pls = cw := ⟨_, rfl⟩
          rw [hcw] at hstep hcok
          have HCW := Lib.hid hcw
          clear hcw
          obtain ⟨e1, cs⟩ := cw
          dsimp only at hstep hcok
          go_cut [19, 17] (fun v19 v17 wx => v17 = .int .i64 e1 ∧ OwS wx X.heap.size v19 cs ∧ Below X.heap.size X wx)
          case first =>
            go_region_held3 (fun w' => w'.cell? ⟨w.heap.size, 0, none⟩ = some (.int .i64 len) ∧ w'.cell? ⟨w.heap.size, 1, none⟩ = some (.int .i64 wid) ∧ w'.cell? ⟨w.heap.size, 2, none⟩ = some (.int .i64 rx) ∧ w'.cell? ⟨w.heap.size, 3, none⟩ = some (.int .i64 ry) ∧ w'.cell? ⟨T15, 0, none⟩ = some (.bool tf) ∧ w'.cell? ⟨T15, 1, none⟩ = some (.int .i64 tq) ∧ w'.cell? ⟨ba, oa + k * 5, none⟩ = some (.slice Ak nk ck) ∧ w'.cell? ⟨ba, oa + k * 5 + 1, none⟩ = some (.int .i64 gr) ∧ w'.cell? ⟨ba, oa + k * 5 + 2, none⟩ = some (.bool mt) ∧ w'.cell? ⟨ba, oa + k * 5 + 3, none⟩ = some (.int .i64 ax) ∧ w'.cell? ⟨ba, oa + k * 5 + 4, none⟩ = some (.int .i64 ay))
              (first
                | go_keep
                | exact ⟨cell_keep hb8 a1, cell_keep hb8 a2, cell_keep hb8 a3, cell_keep hb8 a4, cell_keep hb8 t1, cell_keep hb8 t2, cell_keep hb8 s1, cell_keep hb8 s2, cell_keep hb8 s3, cell_keep hb8 s4, cell_keep hb8 s5⟩)
              ((first
                | (go_at_call 33; refine (cand_any _ _ Ak _ _ _ _ nk ck ⟨len, wid, rx, ry⟩ ⟨spl, gr, mt, (ax, ay)⟩ tf tq r pls _ (by omega) (by omega) HPL.out hc5 (hS5.keep (Bl.drew (Below.refl _ _))) (hSp.keep (Bl.drew hbr))).mono ?_; rintro e w8 ⟨v8, rfl, ho8, hb8⟩; rw [HCW.out] at ho8 ⊢)))
            all_goals go_wp2_with fail
            all_goals go_meet
            all_goals exact ⟨rfl, ho8, Bl.call (Bl.drew (Below.refl _ _)) hb8⟩
          case rest =>
            obtain ⟨rfl, ho, hbx⟩ := hcut
            clear a1 a2 a3 a4 a5 t1 t2 t3 t4 t5 s1 s2 s3 s4 s5
            by_cases he1 : e1 = 0
            · subst he1
              rw [if_neg (by simp)] at hstep
              obtain ⟨Ac, cc, rfl, hcc, hSc, -⟩ := OwS.sps ho
              have HCOK := Lib.hid hcok.2
              have hcl2 := hcok.1
              obtain ⟨nc, hnc⟩ : ∃ nc, cs.length = nc := ⟨_, rfl⟩
              rw [hnc] at hcc hSc hcl2 ⊢
              have HNC := Lib.hid hnc
              have hpn := hSp.1
              rw [hpn] at hcl2
              have hst2 := Lib.hid (show fstFit ⟨len, wid, rx, ry⟩ S ps (k : Int) (tf, tq) cs = (List.range nc).find? fun i => isFit ⟨len, wid, rx, ry⟩ S ps (k : Int) (tf, tq) (gt cs i) by unfold fstFit; rw [hnc])
              clear hnc hpn hcok ho
              have hbX := Bl.call hbr hbx
              have y1 := x1.keep hbx
              have y2 := x2.keep hbx
              have hg1 := (hg.keep hbx).mono hbx.size
              have hTt1 := hTt.keep hbx
              have hBX : BB < X.heap.size := by obtain ⟨_, _, q, _⟩ := hg; exact q.lt
              have hav1 := hav.keep hBX hbx
              clear x1 x2 hg hTt hav hS5 hbr hBX
              obtain ⟨wo, hwo⟩ : ∃ wo : World, wo = wc := ⟨_, rfl⟩
              rw [← hwo] at hbx hSc hbX y1 y2 hg1 hTt1 hav1 ⊢
              clear hwo hbx
              have hBw : BB < wo.heap.size := by obtain ⟨_, _, q, _⟩ := hg1; exact q.lt
              have Y1 := Lib.hid y1
              have Y2 := Lib.hid y2
              clear y1 y2
              go_wp2_with fail
              go_loopw [89] (fun i wx => ∃ m : Nat, m ≤ nc ∧ i = .int .i64 m ∧ Hid (AnyB (fun i => isFit ⟨len, wid, rx, ry⟩ S ps (k : Int) (tf, tq) (gt cs i)) m = false) ∧ Below wo.heap.size wo wx) (fun i _ => nc - (intOf i).toNat)
              case atStart => exact ⟨0, Nat.zero_le _, rfl, Lib.hid (AnyB.zero _), Below.refl _ _⟩
              case round =>
                obtain ⟨m, hm, rfl, hf, hbm⟩ := hrel
                by_cases hmn : m < nc
                · obtain ⟨bc, oc, rfl, hblc, hccc⟩ := (hSc.keep hbm).at_ hmn
                  obtain ⟨d1, d2⟩ := hccc m hmn
                  clear hccc
                  have hokm : okS (gt cs m) := HCOK.out _ (List.mem_of_getElem? (gt_some (by rw [HNC.out]; exact hmn)))
                  obtain ⟨a1, a2, a3, a4, a5⟩ := (K0.out.keep (Bl.call hbX hbm)).cells4
                  obtain ⟨t1, t2, t3, t4, t5⟩ := (Y1.out.keep hbm).cells2
                  obtain ⟨px, hpx⟩ : ∃ px, gt cs m = px := ⟨_, rfl⟩
                  rw [hpx] at d1 d2 hokm
                  have HPX := Lib.hid hpx
                  clear hpx
                  obtain ⟨px, py⟩ := px
                  dsimp only at d1 d2
                  by_cases hfit : fitsW ⟨len, wid, rx, ry⟩ S ps ⟨(k : Int), tf, tq, px, py⟩ = 0
                  · have q9 : (fitsW ⟨len, wid, rx, ry⟩ S ps ⟨(k : Int), tf, tq, px, py⟩ == 0) = true := by simpa using hfit
                    rw [hst2.out, find_at hmn hf.out (show isFit ⟨len, wid, rx, ry⟩ S ps (k : Int) (tf, tq) (gt cs m) = true by rw [HPX.out]; exact q9)] at hstep
                    dsimp only at hstep
                    rw [HPX.out] at hstep
                    have hex : endOf (k : Int) (tf, tq) r (px, py) = ⟨⟨(k : Int), tf, tq, px, py⟩, wrap64 (wrap64 (px + loX r nr) + wrap64 (hiX r nr - loX r nr))⟩ := by unfold endOf; rw [HNR.out]
                    rw [hex] at hstep
                    clear hex hfit
                    go_upto_region 22 with (go_at_call 42; refine (fits_any _ _ _ _ _ _ ⟨len, wid, rx, ry⟩ S ps ⟨(k : Int), tf, tq, px, py⟩ _ (by omega) (hSA.keep (Bl.alloc (Bl.alloc (Bl.call hbX hbm) _) _)) (hPA.keep (Bl.alloc (Bl.alloc (Bl.call hbX hbm) _) _))).mono ?_; rintro e w9 ⟨rfl, hb9⟩)
                    have hbo : Below wo.heap.size wo w9 := Bl.call (Bl.alloc (Bl.alloc hbm _) _) hb9
                    obtain ⟨z1, z2, z3, z4, z5⟩ := (Y2.out.keep hbo).cells4
                    obtain ⟨m1, m2, m3, m4, m5⟩ := (((BlkS.new wr 37 #[.int .i64 px, .int .i64 py]).alloc (.cells #[.int .i64 (k : Int), .bool tf, .int .i64 tq, .int .i64 px, .int .i64 py] 39)).keep hb9).cells2
                    obtain ⟨o1, o2, o3, o4, o5, o6⟩ := ((BlkS.new2 wr (.cells #[.int .i64 px, .int .i64 py] 37) 39 #[.int .i64 (k : Int), .bool tf, .int .i64 tq, .int .i64 px, .int .i64 py]).keep hb9).cells5
                    have hbO : Below w9.heap.size w9 (w9.alloc (.cells #[.int .i64 (k : Int), .bool tf, .int .i64 tq, .int .i64 px, .int .i64 py, .int .i64 (wrap64 (wrap64 (px + loX r nr) + wrap64 (hiX r nr - loX r nr)))] 88)) := Bl.alloc (Below.refl _ _) _
                    have hB9 : BB < w9.heap.size := Nat.lt_of_lt_of_le hBw hbo.size
                    have hgO := Lib.hid (((hg1.keep hbo).mono hbo.size).keep hbO)
                    have haO := Lib.hid ((hav1.keep hBw hbo).keep hB9 hbO)
                    have hTO := Lib.hid ((hTt1.keep hbo).keep hbO)
                    have hXO := Lib.hid (BlkS.new w9 88 #[.int .i64 (k : Int), .bool tf, .int .i64 tq, .int .i64 px, .int .i64 py, .int .i64 (wrap64 (wrap64 (px + loX r nr) + wrap64 (hiX r nr - loX r nr)))])
                    have hlO : (stTo ⟨len, wid, rx, ry⟩ S ps (k : Int) pls ts j).2.length ≤ 1000000000000 := Nat.le_trans (stTo_len j) (by omega)
                    have HBO := Lib.hid (Bl.call hbX (Bl.call hbo hbO))
                    have hokO : ∀ x ∈ [(⟨⟨(k : Int), tf, tq, px, py⟩, wrap64 (wrap64 (px + loX r nr) + wrap64 (hiX r nr - loX r nr))⟩ : End6)], okE x := by
                      intro x hx
                      simp at hx
                      subst hx
                      exact ⟨by show inR (k : Int); unfold inR; omega, hti, hokm.1, hokm.2, wrap_inR _⟩
                    have HOKO := Lib.hid hokO
                    clear hbO hb9 hbm hbo hokO
                    go_wp2_with (go_at_call 43; refine (addE_any BB w9.heap.size w9.heap.size 1 1 (stTo ⟨len, wid, rx, ry⟩ S ps (k : Int) pls ts j).2 [⟨⟨(k : Int), tf, tq, px, py⟩, wrap64 (wrap64 (px + loX r nr) + wrap64 (hiX r nr - loX r nr))⟩] _ rfl (by omega) hlO hXO.out (Nat.le_refl _) HOKO.out hgO.out sb haO.out).mono ?_; rintro e w8 ⟨rfl, hg8, hb8, hz8, hh8, hv8⟩)
                    exact ⟨⟨j + 1, by omega, by go_num, Lib.hid (by rw [hstep.out]), by rw [hstep.out]; exact hg8, hTO.out.keepBlk hh8, fun _ => hv8, HBO.out.trans (hb8.mono hBB1)⟩, by simp [intOf]; omega⟩
                  · have q9 : (fitsW ⟨len, wid, rx, ry⟩ S ps ⟨(k : Int), tf, tq, px, py⟩ == 0) = false := by simpa using hfit
                    have hf1 := AnyB.succ hf.out (show isFit ⟨len, wid, rx, ry⟩ S ps (k : Int) (tf, tq) (gt cs m) = false by rw [HPX.out]; exact q9)
                    have HF1 := Lib.hid hf1
                    clear hf1 hfit
                    go_wp2_with (go_at_call 42; refine (fits_any _ _ _ _ _ _ ⟨len, wid, rx, ry⟩ S ps ⟨(k : Int), tf, tq, px, py⟩ _ (by omega) (hSA.keep (Bl.alloc (Bl.alloc (Bl.call hbX hbm) _) _)) (hPA.keep (Bl.alloc (Bl.alloc (Bl.call hbX hbm) _) _))).mono ?_; rintro e w9 ⟨rfl, hb9⟩)
                    exact ⟨⟨m + 1, by omega, by go_num, HF1, Bl.call (Bl.alloc (Bl.alloc hbm _) _) hb9⟩, by simp [intOf]; omega⟩
                · obtain rfl : nc = m := by omega
                  rw [hst2.out, find_none hf.out] at hstep
                  dsimp only at hstep
                  go_wp2_with fail
                  exact ⟨⟨j + 1, by omega, by go_num, Lib.hid (by rw [hstep.out]), by rw [hstep.out]; exact (hg1.keep hbm).mono hbm.size, hTt1.keep hbm, fun _ => hav1.keep hBw hbm, Bl.call hbX hbm⟩, by simp [intOf]; omega⟩
            · have qo : (e1 != 0) = true := by simpa using he1
              rw [if_pos he1] at hstep
              have hbad := stTo_bad hstep.out he1 (nt - (j + 1))
              rw [show j + 1 + (nt - (j + 1)) = nt by omega] at hbad
              have HF := Lib.hid (show stepIn (stTo ⟨len, wid, rx, ry⟩ S ps (k : Int) pls ts nt) = (e1, zeroP) by rw [hbad]; unfold stepIn; rw [if_pos he1])
              clear hbad he1
              have k1 := K1.out.keep (Bl.call hbr hbx)
              obtain ⟨a1, a2, a3, a4, a5, a6⟩ := k1.cells5
              obtain ⟨f1, f2, f3, f4, f5⟩ := k1.frz5
              go_wp2_with fail
              exact bodyPost_ret (v := .tuple #[putV zeroP, .int .i64 e1]) (by simp [results, Tryz.results15, go_sem, a1, a2, a3, a4, a5, putV, zeroP]) rfl ⟨by rw [HF.out], by have hbb := Bl.call hbA (Bl.call hbr hbx); (repeat first | exact hbb | refine Bl.set ?_ (by dsimp only; omega) _)⟩
        · have qo : (r1 != 0) = true := by simpa using hr1
          rw [if_pos hr1] at hstep
          have hbad := stTo_bad hstep.out hr1 (nt - (j + 1))
          rw [show j + 1 + (nt - (j + 1)) = nt by omega] at hbad
          have HF := Lib.hid (show stepIn (stTo ⟨len, wid, rx, ry⟩ S ps (k : Int) pls ts nt) = (r1, zeroP) by rw [hbad]; unfold stepIn; rw [if_pos hr1])
          clear hbad hr1 hchk
          go_wp2_with (go_at_call 40; refine (ppoly_any _ _ _ S ⟨(k : Int), tf, tq, 0, 0⟩ _ (hSA.keep (Bl.alloc hbr _))).mono ?_; rintro e w5 ⟨v5, rfl, ho5, hb5⟩; rw [HR.out]; have k1 := K1.out.keep (Bl.call (Bl.alloc hbr _) hb5); obtain ⟨a1, a2, a3, a4, a5, a6⟩ := k1.cells5; obtain ⟨f1, f2, f3, f4, f5⟩ := k1.frz5)
          exact bodyPost_ret (v := .tuple #[putV zeroP, .int .i64 r1]) (by simp [results, Tryz.results15, go_sem, a1, a2, a3, a4, a5, putV, zeroP]) rfl ⟨by rw [HF.out], by have hbb := Bl.call hbA (Bl.call (Bl.alloc hbr _) hb5); (repeat first | exact hbb | refine Bl.set ?_ (by dsimp only; omega) _)⟩
    · obtain rfl : nt = j := by omega
      obtain ⟨mv, sv, k1, k2, -, -, -⟩ := hg
      obtain ⟨A7, c7, rfl, hE7⟩ := OwE.ens k2
      have hl7 := stTo_len (b := ⟨len, wid, rx, ry⟩) (S := S) (ps := ps) (sh := (k : Int)) (pls := pls) (ts := ts) nt
      obtain ⟨L, hL⟩ : ∃ L, (stTo ⟨len, wid, rx, ry⟩ S ps (k : Int) pls ts nt).2 = L := ⟨_, rfl⟩
      have HF := Lib.hid (show stepIn (stTo ⟨len, wid, rx, ry⟩ S ps (k : Int) pls ts nt) = if L.length = 0 then (18, zeroP) else (0, (leastTo L L.length).put) by unfold stepIn; rw [if_neg (by rw [hz.out]; simp), hL])
      rw [hL] at k1 hE7 hl7
      clear hL k2 hsb hTt hav hlt
      obtain ⟨n7, hn7⟩ : ∃ n7, L.length = n7 := ⟨_, rfl⟩
      rw [hn7] at k1 hE7 hl7 HF
      clear hn7
      obtain ⟨b1, b2, b3, b4, b5⟩ := k1.cells2
      obtain ⟨le, hle⟩ : ∃ le, leastTo L n7 = le := ⟨_, rfl⟩
      rw [hle] at HF
      have HLE := Lib.hid hle
      clear hle
      obtain ⟨⟨e1, e2, e3, e4, e5⟩, e6⟩ := le
      dsimp only at HF
      have K2 := Lib.hid (K1.out.keep hbr)
      by_cases h7 : n7 = 0
      · rw [if_pos h7] at HF
        have q7 : decide (0 < n7) = false := by simp [h7]
        clear h7
        go_upto_region 26 with (go_at_call 44; refine (least_any A7 _ n7 L _ (by omega) hE7).mono ?_; rintro e w8 ⟨rfl, hb8⟩; rw [HLE.out]; unfold keyE; dsimp only)
        obtain ⟨T23, hT23⟩ : ∃ T23, T23 = w8.heap.size := ⟨_, rfl⟩
        rw [← hT23]
        refine wp_world (fun X => Below w.heap.size w X ∧ BlkS X T23 88 #[.int .i64 e1, .bool e2, .int .i64 e3, .int .i64 e4, .int .i64 e5, .int .i64 e6] ∧ BlkS X (w.heap.size + 1) 39 #[.int .i64 0, .bool false, .int .i64 0, .int .i64 0, .int .i64 0]) ⟨Bl.alloc (Bl.call hbA (Bl.call hbr hb8)) _, by rw [hT23]; exact BlkS.new _ _ _, (K2.out.keep hb8).alloc _⟩ ?_
        clear hT23 hb8 b1 b2 b3 b4 b5 hE7 k1 hbr
        rintro X ⟨hbF, kX, k1'⟩
        obtain ⟨a1, a2, a3, a4, a5, a6⟩ := k1'.cells5
        obtain ⟨f1, f2, f3, f4, f5⟩ := k1'.frz5
        obtain ⟨c1', c2', c3', c4', c5', c6', c7'⟩ := kX.cells6
        have HBF := Lib.hid hbF
        clear hbF
        go_wp2_with fail
        exact bodyPost_ret (v := .tuple #[putV zeroP, .int .i64 18]) (by simp [results, Tryz.results15, go_sem, a1, a2, a3, a4, a5, putV, zeroP]) rfl ⟨by rw [HF.out], by have hbb := HBF.out; (repeat first | exact hbb | refine Bl.set ?_ (by dsimp only; omega) _)⟩
      · rw [if_neg h7] at HF
        have q7 : decide (0 < n7) = true := by simp; omega
        clear h7
        go_upto_region 26 with (go_at_call 44; refine (least_any A7 _ n7 L _ (by omega) hE7).mono ?_; rintro e w8 ⟨rfl, hb8⟩; rw [HLE.out]; unfold keyE; dsimp only)
        obtain ⟨T23, hT23⟩ : ∃ T23, T23 = w8.heap.size := ⟨_, rfl⟩
        rw [← hT23]
        refine wp_world (fun X => Below w.heap.size w X ∧ BlkS X T23 88 #[.int .i64 e1, .bool e2, .int .i64 e3, .int .i64 e4, .int .i64 e5, .int .i64 e6] ∧ BlkS X (w.heap.size + 1) 39 #[.int .i64 0, .bool false, .int .i64 0, .int .i64 0, .int .i64 0]) ⟨Bl.alloc (Bl.call hbA (Bl.call hbr hb8)) _, by rw [hT23]; exact BlkS.new _ _ _, (K2.out.keep hb8).alloc _⟩ ?_
        clear hT23 hb8 b1 b2 b3 b4 b5 hE7 k1 hbr
        rintro X ⟨hbF, kX, k1'⟩
        obtain ⟨a1, a2, a3, a4, a5, a6⟩ := k1'.cells5
        obtain ⟨f1, f2, f3, f4, f5⟩ := k1'.frz5
        obtain ⟨c1', c2', c3', c4', c5', c6', c7'⟩ := kX.cells6
        have HBF := Lib.hid hbF
        clear hbF
        go_wp2_with fail
        exact bodyPost_ret (v := .tuple #[putV ⟨e1, e2, e3, e4, e5⟩, .int .i64 0]) (by simp [results, Tryz.results15, go_sem, a1, a2, a3, a4, a5, putV, zeroP]) rfl ⟨by rw [HF.out], by have hbb := HBF.out; (repeat first | exact hbb | refine Bl.set ?_ (by dsimp only; omega) _)⟩
theorem step_any (A1 A2 : Option Addr) (c1 c2 n1 n2 : Nat) (b : Bed4) (S : List Shp) (ps : List Pt5) (sh : Int) (w : World) (hn2 : n2 ≤ 1000) (hS : ShS w A1 n1 S) (hPu : PuS w A2 n2 ps) :
    Calls Tryz.prog 15 #[bedV b, .slice A1 n1 c1, .slice A2 n2 c2, .int .i64 sh] w (StepRet w (stepW b S ps sh)) := by
  unfold stepW
  by_cases hp : (prepW b S ps sh false 0).1 = 0
  · rw [if_neg (by simp [hp])]
    exact step_ok A1 A2 c1 c2 n1 n2 b S ps sh w hn2 hS hPu hp
  · rw [if_pos hp]
    exact step_bad A1 A2 c1 c2 n1 n2 b S ps sh w hn2 hS hPu hp
end Go.Proofs.YtmdncaoilegnnaaGreat

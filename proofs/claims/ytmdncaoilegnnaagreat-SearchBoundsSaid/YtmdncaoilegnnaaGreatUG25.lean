/- search.Bound. search.Best. Twins of the pure functions that the kernel computes (nofit): sorting by insertion, the stack with fuel. Twins of the pure functions that the kernel computes (fill). -/
import Derived.Test.YtmdncaoilegnnaaGreatUG24
import Derived.Test.YtmdncaoilegnnaaGreatUG23
import Derived.Test.YtmdncaoilegnnaaGreatUG17
import Derived.Lib.MinMax
namespace Go.Proofs.YtmdncaoilegnnaaGreat
set_option linter.unusedVariables false
set_option linter.unusedSimpArgs false
set_option linter.unusedVariables false
set_option linter.unusedSimpArgs false
open Go.RowKit

def a2W (l : List (Int × Int)) : Int := if checkW l l.length = 0 then areaW l l.length l.length else 0
/-- error, area, longest -/
def bndTo (S : List Shp) : Nat → Int × Int × Int
  | 0 => (0, 0, 0)
  | k + 1 => if (bndTo S k).1 ≠ 0 then bndTo S k
    else if (narW (shp S k).poly (shp S k).grain).1 ≠ 0 then ((narW (shp S k).poly (shp S k).grain).1, 0, 0)
    else (0, wrap64 ((bndTo S k).2.1 + max (a2W (shp S k).poly) (wrap64 (- a2W (shp S k).poly))), max (bndTo S k).2.2 (narW (shp S k).poly (shp S k).grain).2)
def bndW (b : Bed4) (S : List Shp) : Int × Int :=
  if bedBad b = true then (3, 0)
  else if 60 < S.length then (5, 0)
  else if (bndTo S S.length).1 ≠ 0 then ((bndTo S S.length).1, 0)
  else (0, max (wrap64 (Int.tdiv (wrap64 (wrap64 ((bndTo S S.length).2.1 + 2 * b.wid) - 1)) (2 * b.wid))) (bndTo S S.length).2.2)
theorem bndTo_bad {S : List Shp} {k : Nat} {x : Int} (h : bndTo S k = (x, 0, 0)) (hx : x ≠ 0) : ∀ m, bndTo S (k + m) = (x, 0, 0) := by
  intro m
  induction m with
  | zero => exact h
  | succ m ih => rw [← Nat.add_assoc, bndTo, if_pos (by rw [ih]; exact hx)]; exact ih
def BndRet (w : World) (r : Int × Int) (e : Ending) (w' : World) : Prop := e = .returned (.tuple #[.int .i64 r.2, .int .i64 r.1]) ∧ Below w.heap.size w w'
set_option maxHeartbeats 1000000 in
set_option maxRecDepth 100000 in
theorem bound_1 (A1 : Option Addr) (c1 n1 : Nat) (b : Bed4) (w : World) (hb : bedBad b = true) :
    Calls Tryz.prog 24 #[bedV b, .slice A1 n1 c1] w (BndRet w (3, 0)) := by
  obtain ⟨len, wid, rx, ry⟩ := b
  unfold bedV
  unfold bedBad at hb
  simp only [Bool.or_eq_true, decide_eq_true_eq] at hb
  dsimp only at hb ⊢
  go_enter Tryz.func24, Tryz.ntmps24
  go_upto_region 3 with fail
  all_goals first
    | (go_wp2_with fail; exact bodyPost_ret (v := .tuple #[.int .i64 0, .int .i64 3]) (by simp [results, Tryz.results24, go_sem]) rfl ⟨rfl, (Bl.alloc (Below.refl _ _) _)⟩)
    | (exfalso; omega)
    | skip
set_option maxHeartbeats 2000000 in
set_option maxRecDepth 100000 in
theorem bound_2 (A1 : Option Addr) (c1 n1 : Nat) (b : Bed4) (S : List Shp) (w : World) (hS : ShS w A1 n1 S) (hb : bedBad b = false) :
    Calls Tryz.prog 24 #[bedV b, .slice A1 n1 c1] w (BndRet w (bndW b S)) := by
  have HB := Lib.hid hb
  obtain ⟨len, wid, rx, ry⟩ := b
  unfold bedV
  unfold bedBad at hb
  simp only [Bool.or_eq_false_iff, decide_eq_false_iff_not] at hb
  dsimp only at hb ⊢
  obtain ⟨⟨⟨b1, b2⟩, b3⟩, b4⟩ := hb
  have hn1 := hS.2.1
  have hl := hS.1
  have hbw := Lib.hid (show Below w.heap.size w (w.alloc (.cells #[.int .i64 len, .int .i64 wid, .int .i64 rx, .int .i64 ry] 25)) from (Bl.alloc (Below.refl _ _) _))
  have H0 := Lib.hid (BlkS.new w 25 #[.int .i64 len, .int .i64 wid, .int .i64 rx, .int .i64 ry])
  by_cases h60 : 60 < n1
  · have HR := Lib.hid (show bndW ⟨len, wid, rx, ry⟩ S = (5, 0) by unfold bndW; rw [if_neg (by rw [HB.out]; simp), hl, if_pos h60])
    clear hl
    go_enter Tryz.func24, Tryz.ntmps24
    go_wp2_with fail
    exact bodyPost_ret (v := .tuple #[.int .i64 0, .int .i64 5]) (by simp [results, Tryz.results24, go_sem]) rfl ⟨by rw [HR.out], hbw.out⟩
  · have HR := Lib.hid (show bndW ⟨len, wid, rx, ry⟩ S = if (bndTo S n1).1 ≠ 0 then ((bndTo S n1).1, 0) else (0, max (wrap64 (Int.tdiv (wrap64 (wrap64 ((bndTo S n1).2.1 + 2 * wid) - 1)) (2 * wid))) (bndTo S n1).2.2) by unfold bndW; rw [if_neg (by rw [HB.out]; simp), hl, if_neg h60])
    clear hl
    have hw2 : wrap64 (2 * wid) = 2 * wid := by unfold wrap64; omega
    go_enter Tryz.func24, Tryz.ntmps24
    go_wp2_with fail
    refine wp_world (fun X => Below w.heap.size w X ∧ BlkS X w.heap.size 25 #[.int .i64 len, .int .i64 wid, .int .i64 rx, .int .i64 ry]) ⟨hbw.out, H0.out⟩ ?_
    clear hbw H0
    rintro X ⟨hbw, hB⟩
    have hSX := hS.keep hbw
    have HX := Lib.hid hB
    clear hS hB
    go_loopw [6, 7, 36] (fun v u i wr => ∃ k : Nat, k ≤ n1 ∧ i = .int .i64 k ∧ Hid ((bndTo S k).1 = 0) ∧ v = .int .i64 (bndTo S k).2.1 ∧ u = .int .i64 (bndTo S k).2.2 ∧ Below X.heap.size X wr) (fun _ _ i _ => n1 - (intOf i).toNat)
    case atStart => exact ⟨0, Nat.zero_le _, rfl, Lib.hid rfl, rfl, rfl, Below.refl _ _⟩
    case round =>
      obtain ⟨k, hk, rfl, hz, rfl, rfl, hb⟩ := hrel
      by_cases hlt : k < n1
      · have hstep := Lib.hid (show bndTo S (k + 1) = _ by rw [bndTo, if_neg (by rw [hz.out]; simp)])
        obtain ⟨ba, oa, rfl, hbl, hsh⟩ := (hSX.keep hb).at_ hlt
        obtain ⟨s, hs⟩ : ∃ s, shp S k = s := ⟨_, rfl⟩
        rw [hs] at hsh hstep
        clear hs
        obtain ⟨spl, gr, mt, ⟨ax, ay⟩⟩ := s
        obtain ⟨Ak, ck, g1, g2, g3, g4, g5, g6, g7, g8, g9⟩ := hsh
        dsimp only at g1 g2 g4 g6 g7 g8 g9 hstep
        obtain ⟨nk, hnk⟩ : ∃ nk, spl.length = nk := ⟨_, rfl⟩
        rw [hnk] at g1 g2 g4
        have HNK := Lib.hid hnk
        clear hnk
        obtain ⟨e1, he1⟩ : ∃ e1, (bndTo S k).2.1 = e1 := ⟨_, rfl⟩
        obtain ⟨e2, he2⟩ : ∃ e2, (bndTo S k).2.2 = e2 := ⟨_, rfl⟩
        rw [he1, he2] at hstep ⊢
        clear he1 he2
        obtain ⟨r, hr⟩ : ∃ r, narW spl gr = r := ⟨_, rfl⟩
        rw [hr] at hstep
        have HN := Lib.hid hr
        clear hr
        obtain ⟨r1, r2⟩ := r
        dsimp only at hstep
        have hA := Lib.hid (show a2W spl = if checkW spl nk = 0 then areaW spl nk nk else 0 by unfold a2W; rw [HNK.out])
        by_cases hr1 : r1 = 0
        · subst hr1
          rw [if_neg (by simp)] at hstep
          have H1 := Lib.hid (BlkS.new wr 49 #[.slice Ak nk ck, .int .i64 gr, .bool mt, .int .i64 ax, .int .i64 ay])
          go_wp2_with (first | (go_at_call 50; refine (nar_any _ _ _ spl _ _ _ _ _ (by omega) g2 (g4.keep (Bl.alloc (Below.refl _ _) _))).mono ?_; rintro e w5 ⟨rfl, hb5⟩; rw [HN.out]; obtain ⟨a1, a2, a3, a4, a5, a6⟩ := (H1.out.keep hb5).cells5) | (go_at_call 51; refine (area2_any _ _ _ spl _ (by omega) g2 (g4.keep (Bl.call (Bl.alloc (Below.refl _ _) _) hb5))).mono ?_; rintro e w6 ⟨rfl, hb6⟩; rw [← hA.out]))
          exact ⟨⟨k + 1, by omega, by go_num, Lib.hid (by rw [hstep.out]), by rw [hstep.out], by rw [hstep.out], Bl.call (Bl.call (Bl.alloc hb _) hb5) hb6⟩, by simp [intOf]; omega⟩
        · have qo : (r1 != 0) = true := by simpa using hr1
          rw [if_pos hr1] at hstep
          have hbad := bndTo_bad hstep.out hr1 (n1 - (k + 1))
          rw [show k + 1 + (n1 - (k + 1)) = n1 by omega] at hbad
          rw [hbad, if_pos hr1] at HR
          clear hbad hr1
          go_wp2_with (go_at_call 50; refine (nar_any _ _ _ spl _ _ _ _ _ (by omega) g2 (g4.keep (Bl.alloc (Below.refl _ _) _))).mono ?_; rintro e w5 ⟨rfl, hb5⟩; rw [HN.out])
          exact bodyPost_ret (v := .tuple #[.int .i64 0, .int .i64 r1]) (by simp [results, Tryz.results24, go_sem]) rfl ⟨by rw [HR.out], Bl.call hbw (Bl.call (Bl.alloc hb _) hb5)⟩
      · obtain rfl : n1 = k := by omega
        rw [if_neg (by rw [hz.out]; simp)] at HR
        obtain ⟨a1, a2, a3, a4, a5⟩ := (HX.out.keep hb).cells4
        go_wp2_with fail
        exact bodyPost_ret (v := .tuple #[.int .i64 (max (wrap64 (Int.tdiv (wrap64 (wrap64 ((bndTo S n1).2.1 + 2 * wid) - 1)) (2 * wid))) (bndTo S n1).2.2), .int .i64 0]) (by simp [results, Tryz.results24, go_sem]) rfl ⟨by rw [HR.out], Bl.call hbw hb⟩
theorem bound_any (A1 : Option Addr) (c1 n1 : Nat) (b : Bed4) (S : List Shp) (w : World) (hS : ShS w A1 n1 S) :
    Calls Tryz.prog 24 #[bedV b, .slice A1 n1 c1] w (BndRet w (bndW b S)) := by
  by_cases hb : bedBad b = true
  · rw [show bndW b S = (3, 0) by unfold bndW; rw [if_pos hb]]
    exact bound_1 A1 c1 n1 b w hb
  · exact bound_2 A1 c1 n1 b S w hS (by simpa using hb)
end Go.Proofs.YtmdncaoilegnnaaGreat

namespace Go.Proofs.YtmdncaoilegnnaaGreat
set_option linter.unusedVariables false
set_option linter.unusedSimpArgs false
set_option linter.unusedVariables false
set_option linter.unusedSimpArgs false
open Go.RowKit

/-- One order tried: none if it does not go. -/
def tryW (b : Bed4) (S : List Shp) (o : List Int) : Option Int :=
  if (runW b S o).1 ≠ 0 then none else if (extW S (runW b S o).2).1 ≠ 0 then none else some (extW S (runW b S o).2).2
def bestUp (r : Option (Int × List Int)) (t : Option Int) (o : List Int) : Option (Int × List Int) :=
  match t with
  | none => r
  | some x => match r with
    | none => some (x, o)
    | some (y, p) => if x < y then some (x, o) else some (y, p)
def bestTo (b : Bed4) (S : List Shp) (os : List (List Int)) : Nat → Option (Int × List Int)
  | 0 => none
  | k + 1 => bestUp (bestTo b S os k) (tryW b S (li os k)) (li os k)
/-- error, extent, order -/
def bestW (b : Bed4) (S : List Shp) : Int × Int × List Int :=
  if 5 < S.length then (5, 0, [])
  else if (bndW b S).1 ≠ 0 then ((bndW b S).1, 0, [])
  else match bestTo b S (ordW S.length) (ordW S.length).length with
    | none => (18, 0, [])
    | some (x, o) => (0, x, o)
/-- The value is a slice that reads as l; its block, if it has one, lies from base on. -/
def RdI (base : Nat) (w : World) (v : Value) (l : List Int) : Prop := ∃ A c, v = .slice A l.length c ∧ l.length ≤ c ∧ InS w A l.length l ∧ (A = none → c = 0) ∧ ∀ a, A = some a → base ≤ a.block
theorem RdI.keep {base : Nat} {w w' : World} {v : Value} {l : List Int} (h : RdI base w v l) (hb : Below w.heap.size w w') : RdI base w' v l := by
  obtain ⟨A, c, e, h0, h1, h2⟩ := h
  exact ⟨A, c, e, h0, h1.keep hb, h2⟩
theorem RdI.nil {base : Nat} {w : World} : RdI base w (.slice none 0 0) [] := ⟨none, 0, rfl, Nat.le_refl _, ⟨rfl, .inl rfl⟩, fun _ => rfl, fun a h => by cases h⟩
def BestRet (w : World) (r : Int × Int × List Int) (e : Ending) (w' : World) : Prop := ∃ v, e = .returned (.tuple #[v, .int .i64 r.2.1, .int .i64 r.1]) ∧ RdI w.heap.size w' v r.2.2 ∧ Below w.heap.size w w'
/-- The elements of an owned row of slices lie from its base on. -/
theorem OwII.base {w : World} {base : Nat} {A : Option Addr} {n c : Nat} {ls : List (List Int)} (h : OwII w base (.slice A n c) ls) {b off k m ck : Nat} {Ak : Option Addr} (hA : A = some ⟨b, off, none⟩) (hk : k < n) (hc : w.cell? ⟨b, off + k, none⟩ = some (.slice Ak m ck)) : ∀ a, Ak = some a → base ≤ a.block := by
  obtain ⟨vs, h1, h2, h3, h4⟩ := h
  rcases OwG.form h1 with ⟨e, -⟩ | ⟨g, cap, e, g1, g2, g3, g4⟩
  · injection e with e1; rw [hA] at e1; cases e1
  · injection e with e1 e2 e3
    subst e2 e3
    rw [hA] at e1
    injection e1 with e1
    injection e1 with e1 e4
    subst e1 e4
    subst hA
    obtain ⟨u, hu⟩ : ∃ u, vs[k]? = some u := ⟨_, List.getElem?_eq_getElem hk⟩
    have c0 := OwG.cells h1 k (by omega)
    have f0 := flat_at enV_len vs k 0 u hu (by omega)
    rw [Nat.mul_one, Nat.add_zero] at f0
    rw [Nat.zero_add, c0, f0] at hc
    have hu2 : u = .slice Ak m ck := by simpa [enV] using hc
    obtain ⟨l, hl⟩ : ∃ l, ls[k]? = some l := ⟨_, List.getElem?_eq_getElem (by omega)⟩
    obtain ⟨A', c', e, _, _, _, e5⟩ := h4 k u l hu hl
    rw [hu2] at e
    injection e with e
    subst e
    intro a ha
    exact (e5 a ha).1
theorem runW_len (b : Bed4) (S : List Shp) (os : List Int) : (runW b S os).2.length ≤ os.length := by
  unfold runW
  split
  · simp
  · exact runTo_len _
def bfound (r : Option (Int × List Int)) : Bool := r.isSome
def bleast (r : Option (Int × List Int)) : Int := (r.getD (0, [])).1
def border_ (r : Option (Int × List Int)) : List Int := (r.getD (0, [])).2
set_option maxHeartbeats 4000000 in
set_option maxRecDepth 100000 in
theorem best_any (A1 : Option Addr) (c1 n1 : Nat) (b : Bed4) (S : List Shp) (w : World) (hS : ShS w A1 n1 S) :
    Calls Tryz.prog 27 #[bedV b, .slice A1 n1 c1] w (BestRet w (bestW b S)) := by
  have hB := Lib.hid (BlkS.new w 25 #[.int .i64 b.len, .int .i64 b.wid, .int .i64 b.rx, .int .i64 b.ry])
  have hbw := Lib.hid (show Below w.heap.size w (w.alloc (.cells #[.int .i64 b.len, .int .i64 b.wid, .int .i64 b.rx, .int .i64 b.ry] 25)) from (Bl.alloc (Below.refl _ _) _))
  have hl := hS.1
  have hn1 := hS.2.1
  obtain ⟨len, wid, rx, ry⟩ := b
  unfold bedV
  dsimp only at hB hbw ⊢
  by_cases h5 : 5 < n1
  · have HR := Lib.hid (show bestW ⟨len, wid, rx, ry⟩ S = (5, 0, []) by unfold bestW; rw [hl, if_pos h5])
    clear hl
    go_enter Tryz.func27, Tryz.ntmps27
    go_wp2_with fail
    exact bodyPost_ret (v := .tuple #[.slice none 0 0, .int .i64 0, .int .i64 5]) (by simp [results, Tryz.results27, go_sem]) rfl ⟨_, by rw [HR.out], by rw [HR.out]; exact RdI.nil, hbw.out⟩
  · have HR := Lib.hid (show bestW ⟨len, wid, rx, ry⟩ S = if (bndW ⟨len, wid, rx, ry⟩ S).1 ≠ 0 then ((bndW ⟨len, wid, rx, ry⟩ S).1, 0, []) else match bestTo ⟨len, wid, rx, ry⟩ S (ordW n1) (ordW n1).length with | none => (18, 0, []) | some (x, o) => (0, x, o) by unfold bestW; rw [hl, if_neg h5])
    clear hl
    obtain ⟨rb, hrb⟩ : ∃ rb, bndW ⟨len, wid, rx, ry⟩ S = rb := ⟨_, rfl⟩
    rw [hrb] at HR
    have HRB := Lib.hid hrb
    clear hrb
    obtain ⟨r1, r2⟩ := rb
    dsimp only at HR
    have hsm := ordW_len n1
    obtain ⟨L, hL⟩ : ∃ L, ordW n1 = L := ⟨_, rfl⟩
    rw [hL] at hsm HR
    have HW := Lib.hid hL
    have HSM := Lib.hid hsm.2
    have hsm1 := hsm.1
    clear hsm hL
    obtain ⟨m, hm⟩ : ∃ m, L.length = m := ⟨_, rfl⟩
    rw [hm] at hsm1 HR
    have HM := Lib.hid hm
    clear hm
    by_cases hr1 : r1 = 0
    · subst hr1
      rw [if_neg (by simp)] at HR
      go_enter Tryz.func27, Tryz.ntmps27
      go_upto_region 9 with (first | (go_at_call 24; refine (bound_any _ _ _ ⟨len, wid, rx, ry⟩ S _ (hS.keep hbw.out)).mono ?_; rintro e w1 ⟨rfl, hb1⟩; rw [HRB.out]; dsimp only) | (go_at_call 30; refine (orders_any n1 _ (by omega) (by omega)).mono ?_; rintro e w2 ⟨v2, rfl, ho2, hb2⟩; rw [HW.out] at ho2; obtain ⟨A2, c2, rfl, hc2, hS2, -⟩ := ho2.inss; rw [HM.out] at hS2 hc2 ho2 ⊢))
      have hb12 := Bl.call hbw.out (Bl.call hb1 hb2)
      have HB2 := Lib.hid (hB.out.keep (Bl.call hb1 hb2))
      have hSX := hS.keep hb12
      have HBASE := Lib.hid (show ∀ (b off k m' ck : Nat) (Ak : Option Addr), A2 = some ⟨b, off, none⟩ → k < m → w2.cell? ⟨b, off + k, none⟩ = some (.slice Ak m' ck) → ∀ a, Ak = some a → w1.heap.size ≤ a.block from fun _ _ _ _ _ _ h1 h2 h3 => OwII.base ho2 h1 h2 h3)
      have hwle : w.heap.size ≤ w1.heap.size := (Bl.call hbw.out hb1).size
      clear ho2 hb1 hb2 hB hbw hS
      go_loopw [9, 10, 11, 33] (fun v f l i wr => ∃ k : Nat, k ≤ m ∧ i = .int .i64 k ∧ f = .bool (bfound (bestTo ⟨len, wid, rx, ry⟩ S L k)) ∧ l = .int .i64 (bleast (bestTo ⟨len, wid, rx, ry⟩ S L k)) ∧ RdI w.heap.size wr v (border_ (bestTo ⟨len, wid, rx, ry⟩ S L k)) ∧ Below w2.heap.size w2 wr) (fun _ _ _ i _ => m - (intOf i).toNat)
      case atStart => exact ⟨0, Nat.zero_le _, rfl, rfl, rfl, RdI.nil, Below.refl _ _⟩
      case round =>
        obtain ⟨k, hk, rfl, rfl, rfl, hrd, hb⟩ := hrel
        by_cases hlt : k < m
        · obtain ⟨b1, o1, Ak, ck, rfl, e1, e2, e3, e4⟩ := hS2.at_ hlt
          have hbas := HBASE.out _ _ _ _ _ _ rfl hlt e1
          replace e1 := cell_keep hb e1
          replace e3 := e3.keep hb
          have hl5 : (li L k).length ≤ 5 := HSM.out _ (li_mem (by rw [HM.out]; exact hlt))
          have hstep := Lib.hid (show bestTo ⟨len, wid, rx, ry⟩ S L (k + 1) = bestUp (bestTo ⟨len, wid, rx, ry⟩ S L k) (tryW ⟨len, wid, rx, ry⟩ S (li L k)) (li L k) from rfl)
          obtain ⟨o, hoo⟩ : ∃ o, li L k = o := ⟨_, rfl⟩
          rw [hoo] at e1 e2 e3 hl5 hstep
          clear hoo
          obtain ⟨no, hno⟩ : ∃ no, o.length = no := ⟨_, rfl⟩
          rw [hno] at e1 e2 e3 hl5
          have HNO := Lib.hid hno
          clear hno
          obtain ⟨p, hp⟩ : ∃ p, bestTo ⟨len, wid, rx, ry⟩ S L k = p := ⟨_, rfl⟩
          rw [hp] at hstep hrd ⊢
          clear hp
          have hpl := runW_len ⟨len, wid, rx, ry⟩ S o
          obtain ⟨tv, htry⟩ : ∃ tv, tryW ⟨len, wid, rx, ry⟩ S o = tv := ⟨_, rfl⟩
          rw [htry] at hstep
          unfold tryW at htry
          obtain ⟨r, hr⟩ : ∃ r, runW ⟨len, wid, rx, ry⟩ S o = r := ⟨_, rfl⟩
          rw [hr] at htry hpl
          have HRN := Lib.hid hr
          clear hr
          obtain ⟨q1, ps⟩ := r
          dsimp only at htry hpl
          obtain ⟨np, hnp⟩ : ∃ np, ps.length = np := ⟨_, rfl⟩
          rw [hnp, HNO.out] at hpl
          have HPL := Lib.hid hnp
          clear hnp
          obtain ⟨a1, a2, a3, a4, a5⟩ := (HB2.out.keep hb).cells4
          by_cases hq1 : q1 = 0
          · subst hq1
            rw [if_neg (by simp)] at htry
            obtain ⟨x, hx⟩ : ∃ x, extW S ps = x := ⟨_, rfl⟩
            rw [hx] at htry
            have HX := Lib.hid hx
            clear hx
            obtain ⟨x1, x2⟩ := x
            dsimp only at htry
            by_cases hx1 : x1 = 0
            · subst hx1
              rw [if_neg (by simp)] at htry
              subst htry
              obtain ⟨f0, hf0⟩ : ∃ f0, bfound p = f0 := ⟨_, rfl⟩
              obtain ⟨l0, hl0⟩ : ∃ l0, bleast p = l0 := ⟨_, rfl⟩
              rw [hf0, hl0]
              have hrdo : RdI w.heap.size wr (.slice Ak no ck) o := ⟨Ak, ck, by rw [HNO.out], by rw [HNO.out]; exact e2, by rw [HNO.out]; exact e3, e4, fun a ha => Nat.le_trans hwle (hbas a ha)⟩
              have HU := Lib.hid (show (if f0 = false ∨ x2 < l0 then bestUp p (some x2) o = some (x2, o) else bestUp p (some x2) o = p ∧ f0 = true) from by
                subst hf0 hl0
                cases p with
                | none => simp [bfound, bestUp]
                | some y => obtain ⟨y1, y2⟩ := y; simp only [bfound, bleast, bestUp, Option.isSome, Option.getD, Bool.true_eq_false, false_or]; split <;> simp)
              have HF0 := Lib.hid hf0
              have HL0 := Lib.hid hl0
              clear hf0 hl0
              by_cases hc : f0 = false ∨ x2 < l0
              · have HU2 := HU.out
                rw [if_pos hc] at HU2
                rw [HU2] at hstep
                clear HU HU2
                rcases hc with hc | hc
                all_goals
                  try subst hc
                  try cases f0
                all_goals
                  go_wp2_with (first | (go_at_call 18; refine (run_any _ _ _ _ _ _ ⟨len, wid, rx, ry⟩ S o _ (by omega) (hSX.keep hb) e3).mono ?_; rintro e w5 ⟨v5, rfl, ho5, hb5⟩; rw [HRN.out] at ho5 ⊢; obtain ⟨A5, c5, rfl, hP5⟩ := OwP.pus ho5; rw [HPL.out] at hP5 ⊢) | (go_at_call 21; refine (extent_any _ _ _ _ _ _ S ps _ (by omega) (hSX.keep (Bl.call hb hb5)) hP5).mono ?_; rintro e w6 ⟨rfl, hb6⟩; rw [HX.out]))
                  exact ⟨⟨k + 1, by omega, by go_num, by rw [hstep.out]; rfl, by rw [hstep.out]; rfl, by rw [hstep.out]; exact (hrdo.keep hb5).keep hb6, Bl.call (Bl.call hb hb5) hb6⟩, by simp [intOf]; omega⟩
              · have HU2 := HU.out
                rw [if_neg hc] at HU2
                rw [HU2.1] at hstep
                obtain ⟨-, rfl⟩ := HU2
                have hc2 : l0 ≤ x2 := Int.not_lt.1 fun h => hc (.inr h)
                clear HU hc
                go_wp2_with (first | (go_at_call 18; refine (run_any _ _ _ _ _ _ ⟨len, wid, rx, ry⟩ S o _ (by omega) (hSX.keep hb) e3).mono ?_; rintro e w5 ⟨v5, rfl, ho5, hb5⟩; rw [HRN.out] at ho5 ⊢; obtain ⟨A5, c5, rfl, hP5⟩ := OwP.pus ho5; rw [HPL.out] at hP5 ⊢) | (go_at_call 21; refine (extent_any _ _ _ _ _ _ S ps _ (by omega) (hSX.keep (Bl.call hb hb5)) hP5).mono ?_; rintro e w6 ⟨rfl, hb6⟩; rw [HX.out]))
                exact ⟨⟨k + 1, by omega, by go_num, by rw [hstep.out, HF0.out], by rw [hstep.out, HL0.out], by rw [hstep.out]; exact (hrd.keep hb5).keep hb6, Bl.call (Bl.call hb hb5) hb6⟩, by simp [intOf]; omega⟩
            · rw [if_pos hx1] at htry
              have qo : (x1 != 0) = true := by simpa using hx1
              subst htry
              clear hx1
              go_wp2_with (first | (go_at_call 18; refine (run_any _ _ _ _ _ _ ⟨len, wid, rx, ry⟩ S o _ (by omega) (hSX.keep hb) e3).mono ?_; rintro e w5 ⟨v5, rfl, ho5, hb5⟩; rw [HRN.out] at ho5 ⊢; obtain ⟨A5, c5, rfl, hP5⟩ := OwP.pus ho5; rw [HPL.out] at hP5 ⊢) | (go_at_call 21; refine (extent_any _ _ _ _ _ _ S ps _ (by omega) (hSX.keep (Bl.call hb hb5)) hP5).mono ?_; rintro e w6 ⟨rfl, hb6⟩; rw [HX.out]))
              exact ⟨⟨k + 1, by omega, by go_num, by rw [hstep.out]; rfl, by rw [hstep.out]; rfl, by rw [hstep.out]; exact (hrd.keep hb5).keep hb6, Bl.call (Bl.call hb hb5) hb6⟩, by simp [intOf]; omega⟩
          · rw [if_pos hq1] at htry
            have qo : (q1 != 0) = true := by simpa using hq1
            subst htry
            clear hq1
            go_wp2_with (go_at_call 18; refine (run_any _ _ _ _ _ _ ⟨len, wid, rx, ry⟩ S o _ (by omega) (hSX.keep hb) e3).mono ?_; rintro e w5 ⟨v5, rfl, ho5, hb5⟩; rw [HRN.out])
            exact ⟨⟨k + 1, by omega, by go_num, by rw [hstep.out]; rfl, by rw [hstep.out]; rfl, by rw [hstep.out]; exact hrd.keep hb5, Bl.call hb hb5⟩, by simp [intOf]; omega⟩
        · obtain rfl : m = k := by omega
          obtain ⟨p, hp⟩ : ∃ p, bestTo ⟨len, wid, rx, ry⟩ S L m = p := ⟨_, rfl⟩
          rw [hp] at HR hrd ⊢
          clear hp
          cases p with
          | none =>
            have qf : bfound none = false := rfl
            go_wp2_with fail
            exact bodyPost_ret (v := .tuple #[.slice none 0 0, .int .i64 0, .int .i64 18]) (by simp [results, Tryz.results27, go_sem]) rfl ⟨_, by rw [HR.out], by rw [HR.out]; exact RdI.nil, Bl.call hb12 hb⟩
          | some y =>
            obtain ⟨y1, y2⟩ := y
            have qf : bfound (some (y1, y2)) = true := rfl
            go_wp2_with fail
            exact bodyPost_ret (v := .tuple #[u9, .int .i64 y1, .int .i64 0]) (by simp [results, Tryz.results27, go_sem, bleast]) rfl ⟨_, by rw [HR.out], by rw [HR.out]; exact hrd, Bl.call hb12 hb⟩
    · have qo : (r1 != 0) = true := by simpa using hr1
      rw [if_pos hr1] at HR
      clear hr1
      go_enter Tryz.func27, Tryz.ntmps27
      go_wp2_with (go_at_call 24; refine (bound_any _ _ _ ⟨len, wid, rx, ry⟩ S _ (hS.keep hbw.out)).mono ?_; rintro e w1 ⟨rfl, hb1⟩; rw [HRB.out]; dsimp only)
      exact bodyPost_ret (v := .tuple #[.slice none 0 0, .int .i64 0, .int .i64 r1]) (by simp [results, Tryz.results27, go_sem]) rfl ⟨_, by rw [HR.out], by rw [HR.out]; exact RdI.nil, Bl.call hbw.out hb1⟩
end Go.Proofs.YtmdncaoilegnnaaGreat

namespace Go.Proofs.YtmdncaoilegnnaaGreat
set_option linter.unusedVariables false
set_option linter.unusedSimpArgs false
set_option linter.unusedVariables false
set_option linter.unusedSimpArgs false
open Go.RowKit

section
variable {α : Type}
def insF (lt : α → α → Bool) (x : α) : List α → List α
  | [] => [x]
  | y :: ys => if lt y x then y :: insF lt x ys else x :: y :: ys
def isortF (lt : α → α → Bool) : List α → List α
  | [] => []
  | x :: xs => insF lt x (isortF lt xs)
theorem insF_perm (lt : α → α → Bool) (x : α) (l : List α) : (insF lt x l).Perm (x :: l) := by
  induction l with
  | nil => exact List.Perm.refl _
  | cons y ys ih =>
    unfold insF
    split
    · exact (List.Perm.cons y ih).trans (List.Perm.swap x y ys)
    · exact List.Perm.refl _
theorem isortF_perm (lt : α → α → Bool) (l : List α) : (isortF lt l).Perm l := by
  induction l with
  | nil => exact List.Perm.refl _
  | cons x xs ih => exact (insF_perm lt x _).trans (List.Perm.cons x ih)
variable {lt : α → α → Bool} (hi : ∀ x, lt x x = false) (ht : ∀ x y z, lt x y = true → lt y z = true → lt x z = true) (hu : ∀ x y, lt x y = false → lt y x = false → x = y)
include hi ht hu
omit hi in
theorem leF_trans (x y z : α) (h1 : (!lt y x) = true) (h2 : (!lt z y) = true) : (!lt z x) = true := by
  simp only [Bool.not_eq_true'] at *
  by_cases h : lt z x = true
  · by_cases h3 : lt x y = true
    · rw [ht z x y h h3] at h2; cases h2
    · have := hu x y (by simpa using h3) h1
      subst this
      rw [h] at h2; cases h2
  · simpa using h
omit hu in
theorem leF_total (x y : α) : (!lt y x || !lt x y) = true := by
  by_cases h : lt y x = true
  · by_cases h2 : lt x y = true
    · have := ht x y x h2 h; rw [hi] at this; cases this
    · simp [h2]
  · simp [h]
theorem isortF_sorted (l : List α) : (isortF lt l).Pairwise fun x y => (!lt y x) = true := by
  induction l with
  | nil => exact List.Pairwise.nil
  | cons x xs ih =>
    unfold isortF
    generalize isortF lt xs = ys at ih
    induction ys with
    | nil => exact List.pairwise_singleton _ _
    | cons y ys ih2 =>
      unfold insF
      rw [List.pairwise_cons] at ih
      split
      · rename_i hyx
        rw [List.pairwise_cons]
        refine ⟨fun z hz => ?_, ih2 ih.2⟩
        rcases List.mem_cons.1 ((insF_perm lt x ys).mem_iff.1 hz) with rfl | hz
        · by_cases h : lt z y = true
          · have := ht z y z h hyx; rw [hi] at this; cases this
          · simpa using h
        · exact ih.1 z hz
      · rename_i hyx
        rw [List.pairwise_cons]
        refine ⟨fun z hz => ?_, List.pairwise_cons.2 ih⟩
        have hxy : (!lt y x) = true := by simpa using hyx
        rcases List.mem_cons.1 hz with rfl | hz
        · exact hxy
        · exact leF_trans ht hu x y z hxy (ih.1 z hz)
theorem msort_isort (l : List α) : l.mergeSort (fun x y => !lt y x) = isortF lt l :=
  List.Perm.eq_of_pairwise (le := fun x y => (!lt y x) = true) (fun x y _ _ h1 h2 => hu x y (by simpa using h2) (by simpa using h1))
    (List.pairwise_mergeSort (le := fun x y => !lt y x) (fun x y z => leF_trans ht hu x y z) (fun x y => leF_total hi ht x y) l)
    (isortF_sorted hi ht hu l) ((List.mergeSort_perm _ _).trans (isortF_perm lt l).symm)
end

def sortF (l : List (Int × Int)) : List (Int × Int) := isortF lessS l
theorem sortW_eq (l : List (Int × Int)) : sortW l = sortF l := by
  have e : ltOf cmpS = lessS := by funext p q; exact ltS p q
  unfold sortW sortF
  have h := msort_isort (lt := ltOf cmpS) swoS.irrefl swoS.trans totS l
  rw [h, e]
def sortLF (l : List (List (Int × Int))) : List (List (Int × Int)) := isortF (fun x y => decide (cmpL x y < 0)) l
theorem sortLW_eq (l : List (List (Int × Int))) : sortLW l = sortLF l :=
  msort_isort (lt := ltOf cmpL) (swoOf id).irrefl (swoOf id).trans totL l
def popF (p : Int × Int) : Nat → List (Int × Int) → List (Int × Int)
  | 0, r => r
  | f + 1, r => if 1 < r.length ∧ crossW (gt r (r.length - 2)) (gt r (r.length - 1)) p ≤ 0 then popF p f (r.take (r.length - 1)) else r
theorem popW_eq (p : Int × Int) : ∀ (f : Nat) (r : List (Int × Int)), r.length ≤ f → popW p r = popF p f r := by
  intro f
  induction f with
  | zero => intro r hr; rw [popW, if_neg (by omega)]; rfl
  | succ f ih =>
    intro r hr
    rw [popW, popF]
    split
    · exact ih _ (by rw [List.length_take]; omega)
    · rfl
def borToF (l : List (Int × Int)) : Nat → List (Int × Int)
  | 0 => []
  | k + 1 => popF (gt l k) k (borToF l k) ++ [gt l k]
theorem borTo_eq (l : List (Int × Int)) : ∀ k, borTo l k = borToF l k := by
  intro k
  induction k with
  | zero => rfl
  | succ k ih => rw [borTo, borToF, popW_eq (gt l k) k _ (borTo_len l k), ih]
def borF (l : List (Int × Int)) : List (Int × Int) := (borToF l l.length).dropLast
theorem borW_eq (l : List (Int × Int)) : borW l = borF l := by
  unfold borW borF; rw [borTo_eq, List.dropLast_eq_take]
def hullF2 (s : List (Int × Int)) : Option (List (Int × Int)) :=
  if s.length < 3 then none else if (borF s ++ borF s.reverse).length < 3 then none else some (borF s ++ borF s.reverse)
def hullF (l : List (Int × Int)) : Option (List (Int × Int)) := hullF2 (compW eqS (0, 0) (sortF l))
theorem hullW_eq (l : List (Int × Int)) : hullW l = hullF l := by
  unfold hullW hullF hullF2
  rw [sortW_eq, borW_eq, borW_eq]
def HullF (l : List (Int × Int)) : Int × List (Int × Int) :=
  if l.length > 160 then (5, []) else if AnyB (fun i => outB 4194304 (gt l i)) l.length then (3, []) else match hullF l with | none => (11, []) | some r => (0, r)
theorem HullW_eq (l : List (Int × Int)) : HullW l = HullF l := by
  unfold HullW HullF; rw [hullW_eq]; rfl
def SumF3 (r : List (Int × Int)) : Int × List (Int × Int) :=
  if AnyB (fun i => outB 4194304 (gt r i)) r.length then (3, []) else if r.length > 160 then (5, []) else (0, r)
def SumF (a b : List (Int × Int)) : Int × List (Int × Int) :=
  match HullF a with
  | (x, p) => if x ≠ 0 then (x, []) else match HullF b with
    | (y, q) => if y ≠ 0 then (y, []) else SumF3 ((hullF (sumTo p q p.length)).getD [])
theorem SumW_eq (a b : List (Int × Int)) : SumW a b = SumF a b := by
  unfold SumW SumF SumF3
  rw [HullW_eq, HullW_eq, hullW_eq]
def regInF (s : List (Int × Int)) (ts acc : List (List (Int × Int))) : Nat → Int × List (List (Int × Int))
  | 0 => (0, acc)
  | j + 1 => match regInF s ts acc j with
    | (x, r) => if x ≠ 0 then (x, r) else match SumF s (negW (lt_ ts j)) with
      | (y, t) => if y ≠ 0 then (y, []) else (0, r ++ [t])
theorem regIn_eq (s : List (Int × Int)) (ts acc : List (List (Int × Int))) : ∀ j, regIn s ts acc j = regInF s ts acc j := by
  intro j
  induction j with
  | zero => rfl
  | succ j ih => rw [regIn, regInF, ih, SumW_eq]
def regToF (ss ts : List (List (Int × Int))) : Nat → Int × List (List (Int × Int))
  | 0 => (0, [])
  | k + 1 => match regToF ss ts k with
    | (x, r) => if x ≠ 0 then (x, r) else regInF (lt_ ss k) ts r ts.length
theorem regTo_eq (ss ts : List (List (Int × Int))) : ∀ k, regTo ss ts k = regToF ss ts k := by
  intro k
  induction k with
  | zero => rfl
  | succ k ih => rw [regTo, regToF, ih, regIn_eq]
def regionsF3 (r : Int × List (List (Int × Int))) : Int × List (List (Int × Int)) :=
  match r with
  | (x, l) => if x ≠ 0 then (x, []) else (0, compW eqL [] (sortLF l))
def regionsF (a b : List (Int × Int)) : Int × List (List (Int × Int)) :=
  match splitAllW a with
  | (x, ss) => if x ≠ 0 then (x, []) else match splitAllW b with
    | (y, ts) => if y ≠ 0 then (y, []) else regionsF3 (regToF ss ts ss.length)
theorem regionsW_eq (a b : List (Int × Int)) : regionsW a b = regionsF a b := by
  unfold regionsW regionsF regionsF3
  rw [regTo_eq, sortLW_eq]
def spotsF3 (r : Int × List (List (Int × Int))) : Int × List (Int × Int) :=
  match r with
  | (x, l) => if x ≠ 0 then (x, []) else (0, sortF ((uniq l.flatten).filter fun p => !blockedW l p))
def spotsF (a b : List (Int × Int)) : Int × List (Int × Int) := spotsF3 (regionsF a b)
theorem spotsW_eq (a b : List (Int × Int)) : spotsW a b = spotsF a b := by
  unfold spotsW spotsF spotsF3 spotsOf
  rw [regionsW_eq, sortW_eq]
end Go.Proofs.YtmdncaoilegnnaaGreat

namespace Go.Proofs.YtmdncaoilegnnaaGreat
set_option linter.unusedVariables false
set_option linter.unusedSimpArgs false
set_option linter.unusedVariables false
set_option linter.unusedSimpArgs false
open Go.RowKit

def plcToF (l : List (Int × Int)) (x0 y0 y1 : Int) (pls : List (List (Int × Int))) : Nat → Int × List (Int × Int)
  | 0 => (0, addW [] [(x0, y0), (x0, y1)] (0, 0))
  | k + 1 => match plcToF l x0 y0 y1 pls k with
    | (x, r) => if x ≠ 0 then (x, r) else match spotsF (lt_ pls k) l with
      | (y, sp) => if y ≠ 0 then (y, []) else (0, plcIn x0 y0 y1 sp r sp.length)
theorem plcTo_eq (l : List (Int × Int)) (x0 y0 y1 : Int) (pls : List (List (Int × Int))) : ∀ k, plcTo l x0 y0 y1 pls k = plcToF l x0 y0 y1 pls k := by
  intro k
  induction k with
  | zero => rfl
  | succ k ih => rw [plcTo, plcToF, ih, spotsW_eq]
def placesF (b : Bed4) (l : List (Int × Int)) (pls : List (List (Int × Int))) : Int × List (Int × Int) :=
  if checkW l l.length ≠ 0 then (checkW l l.length, [])
  else plcToF l (wrap64 (-loX l l.length)) (wrap64 (-loY l l.length)) (wrap64 (wrap64 (b.wid - loY l l.length) - wrap64 (hiY l l.length - loY l l.length))) pls pls.length
theorem placesW_eq (b : Bed4) (l : List (Int × Int)) (pls : List (List (Int × Int))) : placesW b l pls = placesF b l pls := by
  unfold placesW placesF
  rw [plcTo_eq]
def candF (b : Bed4) (s : Shp) (fl : Bool) (qu : Int) (l : List (Int × Int)) (pls : List (List (Int × Int))) : Int × List (Int × Int) :=
  match placesF b l pls with
  | (x, r) => if x ≠ 0 then (x, []) else (0, sortF (keptTo b.rx b.ry s fl qu r r.length))
theorem candW_eq (b : Bed4) (s : Shp) (fl : Bool) (qu : Int) (l : List (Int × Int)) (pls : List (List (Int × Int))) : candW b s fl qu l pls = candF b s fl qu l pls := by
  unfold candW candF
  rw [placesW_eq, sortW_eq]
/-- One turn of Step, its candidates given. -/
def stF1 (b : Bed4) (S : List Shp) (ps : List Pt5) (sh : Int) (t : Trn) (E : List End6) (l : List (Int × Int)) (c : Int × List (Int × Int)) : Int × List End6 :=
  match c with
  | (y, cs) => if y ≠ 0 then (y, []) else match fstFit b S ps sh t cs with
    | none => (0, E)
    | some j => (0, addW E [endOf sh t l (gt cs j)] ⟨⟨0, false, 0, 0, 0⟩, 0⟩)
def stF0 (b : Bed4) (S : List Shp) (ps : List Pt5) (sh : Int) (pls : List (List (Int × Int))) (t : Trn) (E : List End6) (q : Int × List (Int × Int)) : Int × List End6 :=
  match q with
  | (x, l) => if x ≠ 0 then (x, []) else stF1 b S ps sh t E l (candF b (shp S sh.toNat) t.1 t.2 l pls)
def stToF (b : Bed4) (S : List Shp) (ps : List Pt5) (sh : Int) (pls : List (List (Int × Int))) (ts : List Trn) : Nat → Int × List End6
  | 0 => (0, [])
  | k + 1 => match stToF b S ps sh pls ts k with
    | (e, E) => if e ≠ 0 then (e, E) else stF0 b S ps sh pls (tr ts k) E (polyW S ⟨sh, (tr ts k).1, (tr ts k).2, 0, 0⟩)
theorem stTo_eq (b : Bed4) (S : List Shp) (ps : List Pt5) (sh : Int) (pls : List (List (Int × Int))) (ts : List Trn) : ∀ k, stTo b S ps sh pls ts k = stToF b S ps sh pls ts k := by
  intro k
  induction k with
  | zero => rfl
  | succ k ih => rw [stTo, stToF, ih, candW_eq]; rfl
def stepF3 (b : Bed4) (S : List Shp) (ps : List Pt5) (sh : Int) (ts : List Trn) (r : Int × List (Int × Int) × List (List (Int × Int))) : Int × Pt5 :=
  match r with
  | (x, _, pls) => if x ≠ 0 then (x, zeroP) else stepIn (stToF b S ps sh pls ts ts.length)
def stepF (b : Bed4) (S : List Shp) (ps : List Pt5) (sh : Int) : Int × Pt5 := stepF3 b S ps sh (allW (shp S sh.toNat).grain false) (prepW b S ps sh false 0)
theorem stepW_eq (b : Bed4) (S : List Shp) (ps : List Pt5) (sh : Int) : stepW b S ps sh = stepF b S ps sh := by
  unfold stepW stepF stepF3
  rw [stTo_eq]
end Go.Proofs.YtmdncaoilegnnaaGreat

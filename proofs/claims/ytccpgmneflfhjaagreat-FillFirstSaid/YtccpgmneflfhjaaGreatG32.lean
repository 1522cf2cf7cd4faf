/- The laws FillBeginning and FillValid; place.Check. The law FillValid. -/
import Derived.Test.YtccpgmneflfhjaaGreatG31
import Derived.Test.YtccpgmneflfhjaaGreatG29
namespace Go.Proofs.YtccpgmneflfhjaaGreat
set_option linter.unusedVariables false
set_option linter.unusedSimpArgs false
open Go.RowKit

/-! ### arguments -/
section
open Go.ChangeShapes Go.WideShapes Go.ChangeAt Go.Deep Go.Joins
variable {H : Type} {enc : TypeId × Value → H} {w : World} {base b0 : Nat} {spare : Nat → Bool} {held : Bool} {r : Reach} {v : Value} {d : DataW H} {p : List MemPlace}
set_option maxRecDepth 100000 in
theorem open_order (hv : Value.okWide Tryz.prog w r b0 27 v) (h : DataW.Trod enc Tryz.prog w base spare held 27 v d p) : ∃ A n c L, v = .slice A n c ∧ n ≤ c ∧ c ≤ 9223372036854775807 ∧ InS w A n L ∧ ∀ z ∈ L, inR z := by
  obtain ⟨A, n, c, rfl⟩ := okWide_slice Tryz.underlying27 hv
  obtain ⟨fuel, hf⟩ := h
  have hf' : DataW.trod enc Tryz.prog w base spare held fuel 27 [.slice A n c] = some (d, p) := by simpa [Value.cells] using hf
  refine ⟨A, n, c, ?_⟩
  rcases open_slice Tryz.underlying27 hf' with ⟨h1, -⟩ | ⟨a, len, cap, m, k, D, Pl, h1, h2, h3, h4, h5, -, h6⟩
  · simp at h1
    obtain ⟨rfl, rfl, rfl⟩ := h1
    exact ⟨[], rfl, Nat.le_refl _, by omega, ⟨rfl, .inl rfl⟩, by simp⟩
  · simp at h1
    obtain ⟨rfl, rfl, rfl⟩ := h1
    have hm : n ≤ m := by rw [h5]; split <;> omega
    have hel : ∀ i, i < n → ∃ z : Int, w.cell? (a.add i) = some (.int .i64 z) ∧ inR z := by
      intro i hi
      obtain ⟨cs', g1, g2⟩ := h6 i (by omega)
      rw [cellsInt, Nat.mul_one] at g1
      obtain ⟨z, rfl, -, wz⟩ := DataW.trod_int Tryz.underlying3 g2
      have c0 := cells_at g1 (show 0 < 1 by omega)
      rw [add_zero_] at c0
      exact ⟨z, c0, bounds_i64 wz⟩
    obtain ⟨f, hf⟩ := choose_lt hel
    refine ⟨(List.range n).map f, rfl, h3, by unfold maxLen at h4; omega, ⟨by simp, ?_⟩, fun z hz => ?_⟩
    · rcases Nat.eq_zero_or_pos n with h0 | h0
      · exact .inl h0
      · have c0 := (hf 0 h0).1
        rw [add_zero_] at c0
        have ea := addr_plain c0
        refine .inr ⟨a.block, a.off, by rw [← ea], fun k hk => ?_⟩
        have g := (hf k hk).1
        rw [ea, add_mk] at g
        have e : gi ((List.range n).map f) k = f k := by unfold gi; simp [List.getD, hk]
        rw [e]
        exact g
    · simp at hz
      obtain ⟨i, hi, rfl⟩ := hz
      exact (hf i hi).2
end

theorem gi_take {l : List Int} {i k : Nat} (h : k < i) : gi (l.take i) k = gi l k := by
  unfold gi; simp [List.getD, List.getElem?_take, h]
theorem InS.take {w : World} {A : Option Addr} {n : Nat} {l : List Int} (h : InS w A n l) {i : Nat} (hi : i ≤ n) : InS w A i (l.take i) := by
  refine ⟨by rw [List.length_take, h.1]; omega, ?_⟩
  obtain ⟨h1, h⟩ := h; rcases h with rfl | ⟨b, off, rfl, h⟩
  · exact .inl (by omega)
  · refine .inr ⟨b, off, rfl, fun k hk => ?_⟩
    rw [gi_take hk]
    exact h k (by omega)
theorem pt_take {l : List Pt5} {i k : Nat} (h : k < i) : pt (l.take i) k = pt l k := by
  unfold pt; simp [List.getD, List.getElem?_take, h]
theorem PuS.take {w : World} {A : Option Addr} {n : Nat} {l : List Pt5} (h : PuS w A n l) {i : Nat} (hi : i ≤ n) : PuS w A i (l.take i) := by
  refine ⟨by rw [List.length_take, h.1]; omega, ?_⟩
  obtain ⟨h1, h⟩ := h; rcases h with rfl | ⟨b, off, rfl, h⟩
  · exact .inl (by omega)
  · refine .inr ⟨b, off, rfl, fun k hk => ?_⟩
    rw [pt_take hk]
    exact h k (by omega)

theorem runTo_take {b : Bed4} {S : List Shp} {os : List Int} {i : Nat} : ∀ {k : Nat}, k ≤ i → runTo b S (os.take i) k = runTo b S os k := by
  intro k
  induction k with
  | zero => intro _; rfl
  | succ k ih =>
    intro h
    rw [runTo, runTo, ih (by omega), gi_take (by omega)]
theorem run_begin {b : Bed4} {S : List Shp} {os : List Int} (h : (runW b S os).1 = 0) {i : Nat} (hi : i ≤ os.length) : runW b S (os.take i) = (0, (runW b S os).2.take i) := by
  obtain ⟨h60, he, hlen, _⟩ := runW_ok h
  have h' : (runTo b S os os.length).1 = 0 := by rw [← he]; exact h
  unfold runW
  rw [if_neg (by rw [List.length_take]; omega), List.length_take, show min i os.length = i by omega, runTo_take (Nat.le_refl _), if_neg (by omega)]
  rcases Nat.eq_or_lt_of_le hi with e | e
  · rw [e, List.take_of_length_le (by rw [← he, hlen]; exact Nat.le_refl _)]
    exact Prod.ext h' rfl
  · exact ((runTo_ok h').2 i e).1

set_option maxHeartbeats 4000000 in
set_option maxRecDepth 100000 in
theorem lawBegin (A1 A2 : Option Addr) (c1 c2 n1 n2 : Nat) (b : Bed4) (S : List Shp) (L : List Int) (z : Int) (w : World) (hS : ShW w A1 n1 S) (hL : InS w A2 n2 L) (hc2 : n2 ≤ c2) (hm2 : c2 ≤ 9223372036854775807) (hz : 0 ≤ z ∧ z ≤ 255) :
    Calls Tryz.prog 3 #[bedV b, .slice A1 n1 c1, .slice A2 n2 c2, .int .u8 z] w fun e w' => e = .returned (.bool true) ∧ Below w.heap.size w w' := by
  have hB := Lib.hid (BlkS.new w 25 #[.int .i64 b.len, .int .i64 b.wid, .int .i64 b.rx, .int .i64 b.ry])
  have hbw := Lib.hid (show Below w.heap.size w (w.alloc (.cells #[.int .i64 b.len, .int .i64 b.wid, .int .i64 b.rx, .int .i64 b.ry] 25)) from (Bl.alloc (Below.refl _ _) _))
  have hl := hS.1
  obtain ⟨len, wid, rx, ry⟩ := b
  unfold bedV
  dsimp only at hB hbw ⊢
  obtain ⟨hz1, hz2⟩ := hz
  have HA := Lib.hid ex_any
  cases hfew : few4W S with
  | false =>
    have HF := Lib.hid hfew
    clear hfew hl
    go_enter Tryz.func3, Tryz.ntmps3
    go_wp2_with (first | (go_at_call 14; refine (few4_any _ _ _ S _ (hS.keep hbw.out)).mono ?_; rintro e w1 ⟨rfl, hb1⟩; rw [HF.out]) | (go_at_call 15; refine (HA.out _).mono ?_; rintro e w2 ⟨rfl, hb2⟩))
    go_ret
    exact ⟨rfl, Bl.call (Bl.call hbw.out hb1) hb2⟩
  | true =>
    have hn4 := few4_len hfew
    rw [hl] at hn4
    have HF := Lib.hid hfew
    have hSS := hS.shs (by omega)
    clear hfew hl
    by_cases h4 : 4 < n2
    · go_enter Tryz.func3, Tryz.ntmps3
      go_wp2_with (first | (go_at_call 14; refine (few4_any _ _ _ S _ (hS.keep hbw.out)).mono ?_; rintro e w1 ⟨rfl, hb1⟩; rw [HF.out]) | (go_at_call 15; refine (HA.out _).mono ?_; rintro e w2 ⟨rfl, hb2⟩))
      go_ret
      exact ⟨rfl, Bl.call (Bl.call hbw.out hb1) hb2⟩
    · have hLl := hL.1
      obtain ⟨r, hr⟩ : ∃ r, runW ⟨len, wid, rx, ry⟩ S L = r := ⟨_, rfl⟩
      have HR := Lib.hid hr
      obtain ⟨er, ps⟩ := r
      by_cases her : er = 0
      · subst her
        have hrok : (runW ⟨len, wid, rx, ry⟩ S L).1 = 0 := by rw [hr]
        have hpl : ps.length = n2 := by have := (runW_ok hrok).2.2.1; rw [hr, hLl] at this; exact this
        obtain ⟨k, hk⟩ : ∃ k : Nat, min z.toNat n2 = k := ⟨_, rfl⟩
        have hkn : k ≤ n2 := by omega
        have hmin : min z (n2 : Int) = (k : Int) := by omega
        have HR2 := Lib.hid (show runW ⟨len, wid, rx, ry⟩ S (L.take k) = (0, ps.take k) by have := run_begin hrok (i := k) (by omega); rw [hr] at this; exact this)
        have HPL := Lib.hid hpl
        have hsame := Lib.hid (show samePW (ps.take k) (ps.take k) = true by unfold samePW; simp)
        have HTL := Lib.hid (show (ps.take k).length = k by rw [List.length_take, hpl]; omega)
        clear hrok hpl hr hLl hk
        go_enter Tryz.func3, Tryz.ntmps3
        go_upto_region 6 with (first | (go_at_call 14; refine (few4_any _ _ _ S _ (hS.keep hbw.out)).mono ?_; rintro e w1 ⟨rfl, hb1⟩; rw [HF.out]; obtain ⟨a1, a2, a3, a4, a5⟩ := (hB.out.keep hb1).cells4) | (go_at_call 16; refine (run_any _ _ _ _ _ _ ⟨len, wid, rx, ry⟩ S L _ (by omega) (hSS.keep (Bl.call hbw.out hb1)) (hL.keep (Bl.call hbw.out hb1))).mono ?_; rintro e w2 ⟨v2, rfl, ho2, hb2⟩; rw [HR.out] at ho2 ⊢))
        obtain ⟨Al, cl, rfl, hPl⟩ := OwP.pus ho2
        have hcl : ps.length ≤ cl := by
          rcases OwG.form ho2 with ⟨e1, e2⟩ | ⟨g, cap, e1, _, _, e3, _⟩
          · injection e1 with _ e4 e5; omega
          · injection e1 with _ e4 e5; omega
        rw [HPL.out] at hPl hcl ⊢
        have hb12 := Bl.call (Bl.call hbw.out hb1) hb2
        obtain ⟨d1, d2, d3, d4, d5⟩ := ((hB.out.keep hb1).keep hb2).cells4
        have hS2 := hSS.keep hb12
        have hL2 := hL.keep hb12
        clear hb1 hb2 a1 a2 a3 a4 a5 hbw hB hSS hS hL ho2
        go_upto_region 7 with fail
        go_cut [12, 13] (fun v12 v13 wx => v13 = .int .i64 0 ∧ (∃ A5 c5, v12 = .slice A5 k c5 ∧ PuS wx A5 k (ps.take k)) ∧ Below w2.heap.size w2 wx)
        case first =>
          have i1 : (0 : Int) ≤ (k : Int) := by omega
          have i2 : (k : Int) ≤ (c2 : Int) := by omega
          have i3 : (k : Int) ≤ (n2 : Int) := by omega
          go_region_held3 (fun w' => w'.cell? ⟨w.heap.size, 0, none⟩ = some (.int .i64 len) ∧ w'.cell? ⟨w.heap.size, 1, none⟩ = some (.int .i64 wid) ∧ w'.cell? ⟨w.heap.size, 2, none⟩ = some (.int .i64 rx) ∧ w'.cell? ⟨w.heap.size, 3, none⟩ = some (.int .i64 ry))
            (first
              | go_keep
              | exact ⟨cell_keep hb5 d1, cell_keep hb5 d2, cell_keep hb5 d3, cell_keep hb5 d4⟩)
            ((first
              | (go_at_call 16; refine (run_any _ _ _ _ _ _ ⟨len, wid, rx, ry⟩ S (L.take k) _ (by omega) (hS2.keep (Bl.drew (Below.refl _ _))) ((hL2.take hkn).keep (Bl.drew (Below.refl _ _)))).mono ?_; rintro e w5 ⟨v5, rfl, ho5, hb5⟩; rw [HR2.out] at ho5 ⊢; obtain ⟨A5, c5, rfl, hP5⟩ := OwP.pus ho5; rw [HTL.out] at hP5 ⊢)))
          all_goals go_wp2_with fail
          all_goals go_meet
          all_goals exact ⟨rfl, ⟨_, _, rfl, hP5⟩, Bl.call (Bl.drew (Below.refl _ _)) hb5⟩
        case rest =>
          clear d1 d2 d3 d4 d5
          obtain ⟨rfl, ⟨A5, c5, rfl, hP5⟩, hbc⟩ := hcut
          have hPlc := (hPl.keep hbc).take hkn
          go_wp2_with (first | (go_at_call 17; refine (samePuts_any A5 _ _ _ k k (ps.take k) (ps.take k) _ (by omega) hP5 hPlc).mono ?_; rintro e w6 ⟨rfl, hb6⟩; rw [hsame.out]) | (go_at_call 15; refine (HA.out _).mono ?_; rintro e w7 ⟨rfl, hb7⟩))
          go_ret
          exact ⟨rfl, Bl.call (Bl.call (Bl.call hb12 hbc) hb6) hb7⟩
      · have qe : (er != 0) = true := by simpa using her
        clear her hr hLl
        go_enter Tryz.func3, Tryz.ntmps3
        go_wp2_with (first | (go_at_call 14; refine (few4_any _ _ _ S _ (hS.keep hbw.out)).mono ?_; rintro e w1 ⟨rfl, hb1⟩; rw [HF.out]; obtain ⟨a1, a2, a3, a4, a5⟩ := (hB.out.keep hb1).cells4) | (go_at_call 16; refine (run_any _ _ _ _ _ _ ⟨len, wid, rx, ry⟩ S L _ (by omega) (hSS.keep (Bl.call hbw.out hb1)) (hL.keep (Bl.call hbw.out hb1))).mono ?_; rintro e w2 ⟨v2, rfl, ho2, hb2⟩; rw [HR.out] at ho2 ⊢) | (go_at_call 15; refine (HA.out _).mono ?_; rintro e w3 ⟨rfl, hb3⟩))
        go_ret
        exact ⟨rfl, Bl.call (Bl.call (Bl.call hbw.out hb1) hb2) hb3⟩

/-! ### place.Check -/
def chkTo (b : Bed4) (S : List Shp) (ps : List Pt5) : Nat → Int
  | 0 => 0
  | k + 1 => if chkTo b S ps k ≠ 0 then chkTo b S ps k else fitsW b S (ps.take k) (pt ps k)
def chkW (b : Bed4) (S : List Shp) (ps : List Pt5) : Int := if 60 < ps.length then 5 else chkTo b S ps ps.length
theorem chkTo_bad {b : Bed4} {S : List Shp} {ps : List Pt5} {k : Nat} {x : Int} (h : chkTo b S ps k = x) (hx : x ≠ 0) : ∀ m, chkTo b S ps (k + m) = x := by
  intro m
  induction m with
  | zero => exact h
  | succ m ih => rw [← Nat.add_assoc, chkTo, if_pos (by rw [ih]; exact hx)]; exact ih
theorem chk_run {b : Bed4} {S : List Shp} {os : List Int} (h : (runW b S os).1 = 0) : chkW b S (runW b S os).2 = 0 := by
  obtain ⟨h60, _, hlen, hf⟩ := runW_ok h
  unfold chkW
  rw [hlen, if_neg (by omega)]
  have : ∀ k, k ≤ os.length → chkTo b S (runW b S os).2 k = 0 := by
    intro k
    induction k with
    | zero => intro _; rfl
    | succ k ih =>
      intro hk
      rw [chkTo, if_neg (by rw [ih (by omega)]; simp)]
      exact (hf k (by omega)).1
  exact this _ (Nat.le_refl _)

set_option maxHeartbeats 2000000 in
set_option maxRecDepth 100000 in
theorem check_put (A1 A2 : Option Addr) (c1 c2 n1 n2 : Nat) (b : Bed4) (S : List Shp) (ps : List Pt5) (w : World) (hn2 : n2 ≤ 9223372036854775807) (hc2 : n2 ≤ c2) (hm2 : c2 ≤ 9223372036854775807) (hS : ShS w A1 n1 S) (hPu : PuS w A2 n2 ps) :
    Calls Tryz.prog 30 #[bedV b, .slice A1 n1 c1, .slice A2 n2 c2] w fun e w' => e = .returned (.int .i64 (chkW b S ps)) ∧ Below w.heap.size w w' := by
  have hB := Lib.hid (BlkS.new w 25 #[.int .i64 b.len, .int .i64 b.wid, .int .i64 b.rx, .int .i64 b.ry])
  have hbw := Lib.hid (show Below w.heap.size w (w.alloc (.cells #[.int .i64 b.len, .int .i64 b.wid, .int .i64 b.rx, .int .i64 b.ry] 25)) from (Bl.alloc (Below.refl _ _) _))
  obtain ⟨len, wid, rx, ry⟩ := b
  unfold bedV
  dsimp only at hB hbw ⊢
  have hl := hPu.1
  by_cases h60 : 60 < n2
  · have HR := Lib.hid (show chkW ⟨len, wid, rx, ry⟩ S ps = 5 by unfold chkW; rw [hl, if_pos h60])
    clear hl
    go_enter Tryz.func30, Tryz.ntmps30
    go_wp2_with fail
    go_ret
    exact ⟨ret_int HR.out.symm, hbw.out⟩
  · have HR := Lib.hid (show chkW ⟨len, wid, rx, ry⟩ S ps = chkTo ⟨len, wid, rx, ry⟩ S ps n2 by unfold chkW; rw [hl, if_neg h60])
    clear hl
    go_enter Tryz.func30, Tryz.ntmps30
    go_wp2_with fail
    refine wp_world (fun X => Below w.heap.size w X ∧ BlkS X w.heap.size 25 #[.int .i64 len, .int .i64 wid, .int .i64 rx, .int .i64 ry]) ⟨hbw.out, hB.out⟩ ?_
    clear hbw hB
    rintro X ⟨hbw, hB⟩
    have hSX := hS.keep hbw
    have hPX := hPu.keep hbw
    have HB := Lib.hid hB
    clear hS hPu hB
    go_loopw [15] (fun i wr => ∃ k : Nat, k ≤ n2 ∧ i = .int .i64 k ∧ Hid (chkTo ⟨len, wid, rx, ry⟩ S ps k = 0) ∧ Below X.heap.size X wr) (fun i _ => n2 - (intOf i).toNat)
    case atStart => exact ⟨0, Nat.zero_le _, rfl, Lib.hid rfl, Below.refl _ _⟩
    case round =>
      obtain ⟨k, hk, rfl, hz, hb⟩ := hrel
      by_cases hlt : k < n2
      · have i2 : (k : Int) ≤ (c2 : Int) := by omega
        have i3 : (k : Int) ≤ (n2 : Int) := by omega
        obtain ⟨b1, o1, rfl, -, c1, c2, c3, c4, c5⟩ := (hPX.keep hb).at_ hlt
        have hstep := Lib.hid (show chkTo ⟨len, wid, rx, ry⟩ S ps (k + 1) = fitsW ⟨len, wid, rx, ry⟩ S (ps.take k) (pt ps k) by rw [chkTo, if_neg (by rw [hz.out]; simp)])
        obtain ⟨p, hp⟩ : ∃ p, pt ps k = p := ⟨_, rfl⟩
        rw [hp] at c1 c2 c3 c4 c5 hstep
        clear hp
        obtain ⟨p1, p2, p3, p4, p5⟩ := p
        dsimp only at c1 c2 c3 c4 c5
        obtain ⟨fv, hfv⟩ : ∃ fv, fitsW ⟨len, wid, rx, ry⟩ S (ps.take k) ⟨p1, p2, p3, p4, p5⟩ = fv := ⟨_, rfl⟩
        rw [hfv] at hstep
        have HFV := Lib.hid hfv
        clear hfv
        have hB1 := Lib.hid (BlkS.new wr 51 #[.int .i64 p1, .bool p2, .int .i64 p3, .int .i64 p4, .int .i64 p5])
        have hb1 := Lib.hid (Bl.alloc (Below.refl _ wr) (.cells #[.int .i64 p1, .bool p2, .int .i64 p3, .int .i64 p4, .int .i64 p5] 51))
        have i1 : (0 : Int) ≤ (k : Int) := by omega
        go_upto_region 6 with fail
        refine wp_world (fun Y => Below wr.heap.size wr Y ∧ BlkS Y wr.heap.size 51 #[.int .i64 p1, .bool p2, .int .i64 p3, .int .i64 p4, .int .i64 p5]) ⟨hb1.out, hB1.out⟩ ?_
        clear hb1 hB1 c1 c2 c3 c4 c5
        rintro Y ⟨hbY, hBY⟩
        obtain ⟨e1, e2, e3, e4, e5, -⟩ := hBY.cells5
        obtain ⟨d1, d2, d3, d4, d5⟩ := (HB.out.keep (Bl.call hb hbY)).cells4
        have hbXY := Bl.call hb hbY
        have hSY := hSX.keep hbXY
        have hPY := (hPX.keep hbXY).take hk
        go_cut [9] (fun v9 wx => v9 = .int .i64 fv ∧ Below Y.heap.size Y wx)
        case first =>
          go_region_held3 (fun w' => w'.cell? ⟨w.heap.size, 0, none⟩ = some (.int .i64 len) ∧ w'.cell? ⟨w.heap.size, 1, none⟩ = some (.int .i64 wid) ∧ w'.cell? ⟨w.heap.size, 2, none⟩ = some (.int .i64 rx) ∧ w'.cell? ⟨w.heap.size, 3, none⟩ = some (.int .i64 ry) ∧ w'.cell? ⟨wr.heap.size, 0, none⟩ = some (.int .i64 p1) ∧ w'.cell? ⟨wr.heap.size, 1, none⟩ = some (.bool p2) ∧ w'.cell? ⟨wr.heap.size, 2, none⟩ = some (.int .i64 p3) ∧ w'.cell? ⟨wr.heap.size, 3, none⟩ = some (.int .i64 p4) ∧ w'.cell? ⟨wr.heap.size, 4, none⟩ = some (.int .i64 p5))
            (first
              | go_keep
              | exact ⟨cell_keep hb5 d1, cell_keep hb5 d2, cell_keep hb5 d3, cell_keep hb5 d4, cell_keep hb5 e1, cell_keep hb5 e2, cell_keep hb5 e3, cell_keep hb5 e4, cell_keep hb5 e5⟩)
            ((first
              | (go_at_call 26; refine (fits_any _ _ _ _ _ _ ⟨len, wid, rx, ry⟩ S (ps.take k) ⟨p1, p2, p3, p4, p5⟩ _ (by omega) (hSY.keep (Bl.drew (Below.refl _ _))) (hPY.keep (Bl.drew (Below.refl _ _)))).mono ?_; rintro e w5 ⟨rfl, hb5⟩; rw [HFV.out])))
          all_goals go_wp2_with fail
          all_goals go_meet
          all_goals exact ⟨rfl, Bl.call (Bl.drew (Below.refl _ _)) hb5⟩
        case rest =>
          clear d1 d2 d3 d4 d5 e1 e2 e3 e4 e5
          obtain ⟨rfl, hbc⟩ := hcut
          by_cases hf0 : fv = 0
          · subst hf0
            go_wp2_with fail
            exact ⟨⟨k + 1, by omega, by go_num, Lib.hid hstep.out, Bl.call hbXY hbc⟩, by simp [intOf]; omega⟩
          · have qf : (fv != 0) = true := by simpa using hf0
            have HBAD := Lib.hid (show chkTo ⟨len, wid, rx, ry⟩ S ps n2 = fv by have := chkTo_bad hstep.out hf0 (n2 - (k + 1)); rwa [show k + 1 + (n2 - (k + 1)) = n2 by omega] at this)
            clear hf0
            go_wp2_with fail
            go_ret
            exact ⟨ret_int (by rw [HR.out, HBAD.out]), Bl.call hbw (Bl.call hbXY hbc)⟩
      · obtain rfl : n2 = k := by omega
        go_wp2_with fail
        go_ret
        exact ⟨ret_int (by rw [HR.out, hz.out]), Bl.call hbw hb⟩

end Go.Proofs.YtccpgmneflfhjaaGreat

namespace Go.Proofs.YtccpgmneflfhjaaGreat
set_option linter.unusedVariables false
set_option linter.unusedSimpArgs false
open Go.RowKit

theorem runTo_err {b : Bed4} {S : List Shp} {os : List Int} : ∀ k, (runTo b S os k).1 ≠ 0 → (runTo b S os k).2 = [] := by
  intro k
  induction k with
  | zero => intro h; exact absurd rfl h
  | succ k ih =>
    intro h
    rw [runTo] at h ⊢
    split
    · rename_i h0; exact ih h0
    · rename_i h0
      rw [if_neg h0] at h
      split
      · rfl
      · rename_i h1
        rw [if_neg h1] at h
        exact absurd rfl h
theorem runW_err {b : Bed4} {S : List Shp} {os : List Int} (h : (runW b S os).1 ≠ 0) : (runW b S os).2 = [] := by
  unfold runW at h ⊢
  split
  · rfl
  · rename_i h60
    rw [if_neg h60] at h
    exact runTo_err _ h
theorem run_ext_le {b : Bed4} {S : List Shp} {os : List Int} (h : (runW b S os).1 = 0) (h0 : 0 < os.length) : (extW S (runW b S os).2).2 ≤ b.len := by
  have h1 := run_ext_ok h
  obtain ⟨_, _, hlen, hf⟩ := runW_ok h
  unfold extW at h1 ⊢
  rw [hlen] at h1 ⊢
  obtain ⟨i, hi, he⟩ := (extTo_max h1).2 h0
  rw [he]
  exact fits_maxX (hf i hi).1

set_option maxHeartbeats 4000000 in
set_option maxRecDepth 100000 in
theorem lawValid (A1 A2 : Option Addr) (c1 c2 n1 n2 : Nat) (b : Bed4) (S : List Shp) (L : List Int) (w : World) (hS : ShW w A1 n1 S) (hL : InS w A2 n2 L) (hc2 : n2 ≤ c2) (hm2 : c2 ≤ 9223372036854775807) :
    Calls Tryz.prog 7 #[bedV b, .slice A1 n1 c1, .slice A2 n2 c2] w fun e w' => e = .returned (.bool true) ∧ Below w.heap.size w w' := by
  have hB := Lib.hid (BlkS.new w 25 #[.int .i64 b.len, .int .i64 b.wid, .int .i64 b.rx, .int .i64 b.ry])
  have hbw := Lib.hid (show Below w.heap.size w (w.alloc (.cells #[.int .i64 b.len, .int .i64 b.wid, .int .i64 b.rx, .int .i64 b.ry] 25)) from (Bl.alloc (Below.refl _ _) _))
  have hl := hS.1
  obtain ⟨len, wid, rx, ry⟩ := b
  unfold bedV
  dsimp only at hB hbw ⊢
  have HA := Lib.hid ex_any
  cases hfew : few4W S with
  | false =>
    have HF := Lib.hid hfew
    clear hfew hl
    go_enter Tryz.func7, Tryz.ntmps7
    go_wp2_with (first | (go_at_call 14; refine (few4_any _ _ _ S _ (hS.keep hbw.out)).mono ?_; rintro e w1 ⟨rfl, hb1⟩; rw [HF.out]) | (go_at_call 15; refine (HA.out _).mono ?_; rintro e w2 ⟨rfl, hb2⟩))
    go_ret
    exact ⟨rfl, Bl.call (Bl.call hbw.out hb1) hb2⟩
  | true =>
    have hn4 := few4_len hfew
    rw [hl] at hn4
    have HF := Lib.hid hfew
    have hSS := hS.shs (by omega)
    clear hfew hl
    by_cases h4 : 4 < n2
    · go_enter Tryz.func7, Tryz.ntmps7
      go_wp2_with (first | (go_at_call 14; refine (few4_any _ _ _ S _ (hS.keep hbw.out)).mono ?_; rintro e w1 ⟨rfl, hb1⟩; rw [HF.out]) | (go_at_call 15; refine (HA.out _).mono ?_; rintro e w2 ⟨rfl, hb2⟩))
      go_ret
      exact ⟨rfl, Bl.call (Bl.call hbw.out hb1) hb2⟩
    · have hLl := hL.1
      obtain ⟨r, hr⟩ : ∃ r, runW ⟨len, wid, rx, ry⟩ S L = r := ⟨_, rfl⟩
      have HR := Lib.hid hr
      obtain ⟨er, ps⟩ := r
      by_cases her : er = 0
      · subst her
        have hrok : (runW ⟨len, wid, rx, ry⟩ S L).1 = 0 := by rw [hr]
        obtain ⟨_, _, hpl, hfit⟩ := runW_ok hrok
        have hchk := chk_run hrok
        have hext := run_ext_ok hrok
        have hle := fun h => run_ext_le hrok h
        rw [hr] at hpl hfit hchk hext hle
        rw [hLl] at hpl hfit hle
        dsimp only at hpl hfit hchk hext hle
        have HCH := Lib.hid hchk
        have HPL := Lib.hid hpl
        have HSH := Lib.hid (show ∀ i, i < n2 → (pt ps i).sh = gi L i from fun i hi => (hfit i hi).2)
        obtain ⟨x, hx⟩ : ∃ x, extW S ps = x := ⟨_, rfl⟩
        rw [hx] at hext hle
        have HX := Lib.hid hx
        obtain ⟨x1, x2⟩ := x
        dsimp only at hext hle
        subst hext
        have HLE := Lib.hid hle
        clear hrok hpl hr hLl hfit hchk hle hx
        have qn : ((n2 : Int) != (n2 : Int)) = false := by simp
        go_enter Tryz.func7, Tryz.ntmps7
        go_upto_region 6 with (first | (go_at_call 14; refine (few4_any _ _ _ S _ (hS.keep hbw.out)).mono ?_; rintro e w1 ⟨rfl, hb1⟩; rw [HF.out]; obtain ⟨a1, a2, a3, a4, a5⟩ := (hB.out.keep hb1).cells4) | (go_at_call 16; refine (run_any _ _ _ _ _ _ ⟨len, wid, rx, ry⟩ S L _ (by omega) (hSS.keep (Bl.call hbw.out hb1)) (hL.keep (Bl.call hbw.out hb1))).mono ?_; rintro e w2 ⟨v2, rfl, ho2, hb2⟩; rw [HR.out] at ho2 ⊢))
        obtain ⟨Al, cl, rfl, hPl⟩ := OwP.pus ho2
        have hcl : ps.length ≤ cl ∧ cl ≤ 9223372036854775807 := by
          rcases OwG.form ho2 with ⟨e1, e2⟩ | ⟨g, cap, e1, _, _, e3, e9⟩
          · injection e1 with _ e4 e5; omega
          · injection e1 with _ e4 e5; unfold maxLen at e9; omega
        rw [HPL.out] at hPl hcl ⊢
        have hb12 := Bl.call (Bl.call hbw.out hb1) hb2
        have HB2 := Lib.hid ((hB.out.keep hb1).keep hb2)
        obtain ⟨d1, d2, d3, d4, d5⟩ := HB2.out.cells4
        have hS2 := hSS.keep hb12
        have hL2 := hL.keep hb12
        clear hb1 hb2 a1 a2 a3 a4 a5 hbw hB hSS hS hL ho2
        go_upto_region 8 with (go_at_call 30; refine (check_put _ _ _ _ _ _ ⟨len, wid, rx, ry⟩ S ps _ (by omega) hcl.1 hcl.2 hS2 hPl).mono ?_; rintro e w3 ⟨rfl, hb3⟩; rw [HCH.out])
        have HB3 := Lib.hid (HB2.out.keep hb3)
        have hS3 := hS2.keep hb3
        have hL3 := hL2.keep hb3
        have hP3 := hPl.keep hb3
        have hb13 := Bl.call hb12 hb3
        clear d1 d2 d3 d4 d5 HB2 hS2 hL2 hPl hb12 hb3
        go_wp2_with fail
        go_loopw [51] (fun i wr => ∃ k : Nat, k ≤ n2 ∧ i = .int .i64 k ∧ Below w3.heap.size w3 wr) (fun i _ => n2 - (intOf i).toNat)
        case atStart => exact ⟨0, Nat.zero_le _, rfl, Below.refl _ _⟩
        case round =>
          obtain ⟨k, hk, rfl, hb⟩ := hrel
          by_cases hlt : k < n2
          · obtain ⟨b1, o1, rfl, -, c1, c2, c3, c4, c5⟩ := (hP3.keep hb).at_ hlt
            obtain ⟨b2, o2, rfl, f1⟩ := (hL3.keep hb).at_ hlt
            have lt2 := lt_of_cell f1
            dsimp only at lt2
            have hsh := HSH.out k hlt
            rw [hsh] at c1
            clear hsh
            have qs : (gi L k != gi L k) = false := by simp
            have hB1 := Lib.hid (BlkS.new wr 51 #[.int .i64 (gi L k), .bool (pt ps k).fl, .int .i64 (pt ps k).qu, .int .i64 (pt ps k).x, .int .i64 (pt ps k).y])
            have hb1 := Lib.hid (Bl.alloc (Below.refl _ wr) (.cells #[.int .i64 (gi L k), .bool (pt ps k).fl, .int .i64 (pt ps k).qu, .int .i64 (pt ps k).x, .int .i64 (pt ps k).y] 51))
            go_upto_region 11 with fail
            refine wp_world (fun Y => Below wr.heap.size wr Y ∧ BlkS Y wr.heap.size 51 #[.int .i64 (gi L k), .bool (pt ps k).fl, .int .i64 (pt ps k).qu, .int .i64 (pt ps k).x, .int .i64 (pt ps k).y]) ⟨hb1.out, hB1.out⟩ ?_
            clear hb1 hB1 c1 c2 c3 c4 c5
            rintro Y ⟨hbY, hBY⟩
            have f1' := cell_keep hbY f1
            obtain ⟨e1, e2, e3, e4, e5, -⟩ := hBY.cells5
            clear f1 e2 e3 e4 e5 hBY
            go_wp2_with fail
            go_quiet (fail)
            have hbq := Bl.drewN (Bl.call hb hbY) nq
            clear hb hbY
            go_wp2_with fail
            exact ⟨⟨k + 1, by omega, by go_num, hbq⟩, by simp [intOf]; omega⟩
          · obtain rfl : n2 = k := by omega
            obtain ⟨d1, d2, d3, d4, d5⟩ := (HB3.out.keep hb).cells4
            by_cases h0 : n2 = 0
            · have q0 : ((n2 : Int) == 0) = true := by simp [h0]
              clear h0
              go_wp2_with (first | (go_at_call 27; refine (extent_any _ _ _ _ _ _ S ps _ (by omega) (hS3.keep hb) (hP3.keep hb)).mono ?_; rintro e w6 ⟨rfl, hb6⟩; rw [HX.out]) | (go_at_call 15; refine (HA.out _).mono ?_; rintro e w7 ⟨rfl, hb7⟩))
              go_ret
              exact ⟨rfl, Bl.call (Bl.call (Bl.call hb13 hb) hb6) hb7⟩
            · have q0 : ((n2 : Int) == 0) = false := by simp; omega
              have hle := HLE.out (by omega)
              clear h0
              go_wp2_with (first | (go_at_call 27; refine (extent_any _ _ _ _ _ _ S ps _ (by omega) (hS3.keep hb) (hP3.keep hb)).mono ?_; rintro e w6 ⟨rfl, hb6⟩; rw [HX.out]; have d1' := cell_keep hb6 d1) | (go_at_call 15; refine (HA.out _).mono ?_; rintro e w7 ⟨rfl, hb7⟩))
              go_ret
              exact ⟨rfl, Bl.call (Bl.call (Bl.call hb13 hb) hb6) hb7⟩
      · have qe : (er != 0) = true := by simpa using her
        have hps : ps = [] := by have := runW_err (b := ⟨len, wid, rx, ry⟩) (S := S) (os := L) (by rw [hr]; exact her); rw [hr] at this; exact this
        subst hps
        clear her hr hLl
        go_enter Tryz.func7, Tryz.ntmps7
        go_wp2_with (first | (go_at_call 14; refine (few4_any _ _ _ S _ (hS.keep hbw.out)).mono ?_; rintro e w1 ⟨rfl, hb1⟩; rw [HF.out]; obtain ⟨a1, a2, a3, a4, a5⟩ := (hB.out.keep hb1).cells4) | (go_at_call 16; refine (run_any _ _ _ _ _ _ ⟨len, wid, rx, ry⟩ S L _ (by omega) (hSS.keep (Bl.call hbw.out hb1)) (hL.keep (Bl.call hbw.out hb1))).mono ?_; rintro e w2 ⟨v2, rfl, ho2, hb2⟩; rw [HR.out] at ho2 ⊢; obtain ⟨Al, cl, rfl, hPl⟩ := OwP.pus ho2; dsimp only [List.length_nil]) | (go_at_call 15; refine (HA.out _).mono ?_; rintro e w3 ⟨rfl, hb3⟩))
        go_ret
        exact ⟨rfl, Bl.call (Bl.call (Bl.call hbw.out hb1) hb2) hb3⟩

end Go.Proofs.YtccpgmneflfhjaaGreat

/- Lean texts of the claim. -/
import Derived.Test.YtmdncaoilegnnaaGreatXG63
import Derived.Test.YtmdncaoilegnnaaGreatXG65
import Derived.Test.YtmdncaoilegnnaaGreatXG67
import Derived.Test.YtmdncaoilegnnaaGreatXG31
namespace Go.Proofs.YtmdncaoilegnnaaGreat
set_option linter.unusedVariables false
set_option linter.unusedSimpArgs false
section
set_option maxRecDepth 100000
open Go.RowKit
set_option maxHeartbeats 1000000 in
theorem rright_any (A1 : Option Addr) (c1 n1 : Nat) (S : List Shp) (p : Pt5) (w : World) (hS : ShS w A1 n1 S) :
 Calls Tryz.prog 85 #[.slice A1 n1 c1, putV p] w fun e w' => e = .returned (.int .i64 (rgtW S p)) ∧ Below w.heap.size w w' := by
 obtain ⟨sh, fl, qu, x, y⟩ := p
 unfold putV
 dsimp only
 have HR := Hj (show (extW S [⟨sh, fl, qu, x, y⟩]).2 = rgtW S ⟨sh, fl, qu, x, y⟩ from rfl)
 have HP := Hj (show PuS ((w.alloc (.cells #[.int .i64 sh, .bool fl, .int .i64 qu, .int .i64 x, .int .i64 y] 39)).alloc (.cells #[.int .i64 sh, .bool fl, .int .i64 qu, .int .i64 x, .int .i64 y] 39)) (some ⟨w.heap.size + 1, 0, none⟩) 1 [⟨sh, fl, qu, x, y⟩] from puS_blk [⟨sh, fl, qu, x, y⟩] (BlkS.new2 w _ 39 _))
 have HC := Hj (fun w' h1 h2 => rextent_any A1 (some ⟨w.heap.size + 1, 0, none⟩) c1 1 n1 1 S [⟨sh, fl, qu, x, y⟩] w' (by omega) h1 h2)
 rw [HR.out] at HC
 go_enter Tryz.func85, Tryz.ntmps85
 go_wp2_with (go_at_call 56; refine (HC.out _ (hS.keep (Bl.alloc (Bl.alloc Br _) _)) HP.out).mono ?_; rintro e w1 ⟨rfl, hb1⟩)
 go_ret
 exact ⟨rfl, Bl.call (Bl.alloc (Bl.alloc Br _) _) hb1⟩
set_option maxHeartbeats 1000000 in
theorem rbetter_any (A1 : Option Addr) (c1 n1 : Nat) (S : List Shp) (a b : Pt5) (w : World) (hS : ShS w A1 n1 S) :
 Calls Tryz.prog 48 #[.slice A1 n1 c1, putV a, putV b] w fun e w' => e = .returned (.bool (betR S a b)) ∧ Below w.heap.size w w' := by
 have HB := Hj (show betR S a b = if rgtW S a ≠ rgtW S b then decide (rgtW S a < rgtW S b) else if a.y ≠ b.y then decide (a.y < b.y) else if a.x ≠ b.x then decide (a.x < b.x) else decide (a.qu < b.qu) from rfl)
 have HC := Hj (show ∀ (s : Int) (f : Bool) (q x y : Int) (w' : World), ShS w' A1 n1 S → Calls Tryz.prog 85 #[.slice A1 n1 c1, .agg #[.int .i64 s, .bool f, .int .i64 q, .int .i64 x, .int .i64 y]] w' fun e w'' => e = .returned (.int .i64 (rgtW S ⟨s, f, q, x, y⟩)) ∧ Below w'.heap.size w' w'' from fun s f q x y w' h => rright_any A1 c1 n1 S ⟨s, f, q, x, y⟩ w' h)
 obtain ⟨RES, hres⟩ : ∃ RES, betR S a b = RES := ⟨_, rfl⟩
 rw [hres] at HB ⊢
 clear hres
 obtain ⟨s1, f1, q1, x1, y1⟩ := a
 obtain ⟨s2, f2, q2, x2, y2⟩ := b
 unfold putV
 dsimp only at HB ⊢
 go_enter Tryz.func48, Tryz.ntmps48
 go_wp2_with fail
 refine Xc w [(⟨w.heap.size, 0, none⟩, .int .i64 s1), (⟨w.heap.size, 1, none⟩, .bool f1), (⟨w.heap.size, 2, none⟩, .int .i64 q1), (⟨w.heap.size, 3, none⟩, .int .i64 x1), (⟨w.heap.size, 4, none⟩, .int .i64 y1), (⟨w.heap.size + 1, 0, none⟩, .int .i64 s2), (⟨w.heap.size + 1, 1, none⟩, .bool f2), (⟨w.heap.size + 1, 2, none⟩, .int .i64 q2), (⟨w.heap.size + 1, 3, none⟩, .int .i64 x2), (⟨w.heap.size + 1, 4, none⟩, .int .i64 y2)] (by kernel_rfl) (by kernel_rfl) ⟨(Bl.alloc (Bl.alloc Br _) _), by simp only [List.mem_cons, List.not_mem_nil, forall_eq_or_imp, or_false, forall_eq]; go_simp⟩ ?_
 repeat
  apply wq_plain
  ·rfl
  ·intro w1 hw1
   have hx := hw1.2
   simp only [List.mem_cons, List.not_mem_nil, forall_eq_or_imp, or_false, forall_eq] at hx
   go_simp
   first | rfl | exact calls_cls hw1 (HC.out _ _ _ _ _ _ (hS.keep hw1.1))
  go_simp
 refine wpQuiet_nil ?_
 intro w9 hCw9
 have hx := hCw9.2
 simp only [List.mem_cons, List.not_mem_nil, forall_eq_or_imp, or_false, forall_eq] at hx
 obtain ⟨X, hX⟩ : ∃ X, rgtW S ⟨s1, f1, q1, x1, y1⟩ = X := ⟨_, rfl⟩
 obtain ⟨Y, hY⟩ : ∃ Y, rgtW S ⟨s2, f2, q2, x2, y2⟩ = Y := ⟨_, rfl⟩
 rw [hX, hY] at HB ⊢
 clear hX hY
 by_cases h1 : X = Y
 ·rw [if_neg (by simpa using h1)] at HB
  have e1 : (X != Y) = false := by simpa using h1
  clear h1
  by_cases h2 : y1 = y2
  ·rw [if_neg (by simpa using h2)] at HB
   have e2 : (y1 != y2) = false := by simpa using h2
   clear h2
   by_cases h3 : x1 = x2
   ·rw [if_neg (by simpa using h3)] at HB
    have e3 : (x1 != x2) = false := by simpa using h3
    clear h3
    go_wp2_with fail
    go_ret
    exact ⟨ret_bool HB.out.symm, hCw9.1⟩
   ·rw [if_pos h3] at HB
    have e3 : (x1 != x2) = true := by simpa using h3
    clear h3
    go_wp2_with fail
    go_ret
    exact ⟨ret_bool HB.out.symm, hCw9.1⟩
  ·rw [if_pos h2] at HB
   have e2 : (y1 != y2) = true := by simpa using h2
   clear h2
   go_wp2_with fail
   go_ret
   exact ⟨ret_bool HB.out.symm, hCw9.1⟩
 ·rw [if_pos h1] at HB
  have e1 : (X != Y) = true := by simpa using h1
  clear h1
  go_wp2_with fail
  go_ret
  exact ⟨ret_bool HB.out.symm, hCw9.1⟩
end
section
set_option maxRecDepth 100000
open Go.RowKit
theorem cands_prep {b : Bed4} {S : List Shp} {ps : List Pt5} {sh : Int} {fl : Bool} {qu : Int} (h : (candsW b S ps sh fl qu).1 = 0) : (prepW b S ps sh fl qu).1 = 0 := by
 by_cases c : (prepW b S ps sh fl qu).1 = 0
 ·exact c
 ·rw [cands_bad c] at h; exact h
theorem candsW_lenR (b : Bed4) (S : List Shp) (ps : List Pt5) (sh : Int) (fl : Bool) (qu : Int) : (candsW b S ps sh fl qu).2.length ≤ 2 + 1075840 * ps.length := by
 unfold candsW
 split
 ·simp
 ·rename_i h
  have h' : (prepW b S ps sh fl qu).1 = 0 := by simpa using h
  split
  ·simp
  ·have h1 := (candW_ok b (shp S sh.toNat) fl qu (prepW b S ps sh fl qu).2.1 (prepW b S ps sh fl qu).2.2).1
   have h2 := (placTo_small S ps ps.length).1
   rw [(prepW_ok h').2.2] at h1
   show (List.map _ _).length ≤ _
   rw [List.length_map, (prepW_ok h').2.2]
   omega
def bsP (r : Option Pt5) : Pt5 := r.getD zeroP
theorem PuS.keepBlk {w w' : World} {A : Option Addr} {n : Nat} {l : List Pt5} (h : PuS w A n l) (hb : ∀ a, A = some a → w'.heap[a.block]? = w.heap[a.block]?) : PuS w' A n l := by
 refine ⟨h.1, ?_⟩
 obtain ⟨_, h2⟩ := h
 rcases h2 with h2 | ⟨b, off, rfl, h2⟩
 ·exact .inl h2
 ·have e := hb _ rfl
  dsimp only at e
  refine .inr ⟨b, off, rfl, fun k hk => ?_⟩
  obtain ⟨h1, h2, h3, h4, h5⟩ := h2 k hk
  exact ⟨(World.cell?_of_block (w := w) (a := ⟨b, _, none⟩) e).trans h1, (World.cell?_of_block (w := w) (a := ⟨b, _, none⟩) e).trans h2, (World.cell?_of_block (w := w) (a := ⟨b, _, none⟩) e).trans h3, (World.cell?_of_block (w := w) (a := ⟨b, _, none⟩) e).trans h4, (World.cell?_of_block (w := w) (a := ⟨b, _, none⟩) e).trans h5⟩
theorem OwP.pusB {w : World} {base : Nat} {v : Value} {l : List Pt5} (h : OwG 39 5 enP w base v l) : ∃ A c, v = .slice A l.length c ∧ PuS w A l.length l ∧ ∀ a, A = some a → base ≤ a.block := by
 obtain ⟨A, c, rfl, h1⟩ := OwP.pus h
 refine ⟨A, c, rfl, h1, fun a ha => ?_⟩
 subst ha
 exact (OwG.lt h a.block (by rfl)).1
theorem heap5 {w : World} {B g : Nat} (h : g ≠ B) (u0 u1 u2 u3 u4 : Value) : (((((w.setCell ⟨B, 0, none⟩ u0).setCell ⟨B, 1, none⟩ u1).setCell ⟨B, 2, none⟩ u2).setCell ⟨B, 3, none⟩ u3).setCell ⟨B, 4, none⟩ u4).heap[g]? = w.heap[g]? := by
 rw [Below.heap_setCell _ _ _ _ h, Below.heap_setCell _ _ _ _ h, Below.heap_setCell _ _ _ _ h, Below.heap_setCell _ _ _ _ h, Below.heap_setCell _ _ _ _ h]
set_option maxHeartbeats 1000000 in
theorem rstep_1 (A1 A2 : Option Addr) (c1 c2 n1 n2 : Nat) (b : Bed4) (S : List Shp) (ps : List Pt5) (sh : Int) (w : World) (hn2 : n2 ≤ 1000) (hS : ShS w A1 n1 S) (hPu : PuS w A2 n2 ps) (hp : ¬ (candsW b S ps sh false 0).1 = 0) :
 Calls Tryz.prog 16 #[bedV b, .slice A1 n1 c1, .slice A2 n2 c2, .int .i64 sh] w (StepRet w ((candsW b S ps sh false 0).1, zeroP)) := by
 have q : ((candsW b S ps sh false 0).1 != 0) = true := by simpa using hp
 clear hp
 obtain ⟨x, hx⟩ : ∃ x, (candsW b S ps sh false 0).1 = x := ⟨_, rfl⟩
 rw [hx] at q ⊢
 have HX := Hj hx
 clear hx
 obtain ⟨len, wid, rx, ry⟩ := b
 unfold bedV
 dsimp only
 have hbw := Hj (show Below w.heap.size w ((w.alloc (.cells #[.int .i64 len, .int .i64 wid, .int .i64 rx, .int .i64 ry] 25)).alloc (.cells #[.int .i64 0, .bool false, .int .i64 0, .int .i64 0, .int .i64 0] 39)) from (Bl.alloc (Bl.alloc Br _) _))
 have H1 := Hj (BlkS.new2 w (.cells #[.int .i64 len, .int .i64 wid, .int .i64 rx, .int .i64 ry] 25) 39 #[.int .i64 0, .bool false, .int .i64 0, .int .i64 0, .int .i64 0])
 go_enter Tryz.func16, Tryz.ntmps16
 go_wp2_with (go_at_call 13; refine (rcands_any A1 A2 c1 c2 n1 n2 ⟨len, wid, rx, ry⟩ S ps sh false 0 _ (by omega) (hS.keep hbw.out) (hPu.keep hbw.out)).mono ?_; rintro e w1 ⟨v1, rfl, ho1, hb1⟩; rw [HX.out]; have k1 := H1.out.keep hb1; obtain ⟨a1, a2, a3, a4, a5, a6⟩ := k1.cells5; obtain ⟨f1, f2, f3, f4, f5⟩ := k1.frz5)
 exact bodyPost_ret (v := .tuple #[putV zeroP, .int .i64 x]) (by simp [results, Tryz.results16, go_sem, a1, a2, a3, a4, a5, putV, zeroP]) rfl ⟨rfl, by have hbb := Bl.call hbw.out hb1; (repeat first | exact hbb | refine Bl.set ?_ (by dsimp only; omega) _)⟩
set_option maxHeartbeats 4000000 in
theorem rstep_2 (A1 A2 : Option Addr) (c1 c2 n1 n2 : Nat) (b : Bed4) (S : List Shp) (ps : List Pt5) (sh : Int) (w : World) (hn2 : n2 ≤ 1000) (hS : ShS w A1 n1 S) (hPu : PuS w A2 n2 ps) (hp : (candsW b S ps sh false 0).1 = 0) :
 Calls Tryz.prog 16 #[bedV b, .slice A1 n1 c1, .slice A2 n2 c2, .int .i64 sh] w (StepRet w (optP (stRTo b S ps sh (allW (shp S sh.toNat).grain false) (allW (shp S sh.toNat).grain false).length))) := by
 obtain ⟨k, hk, hkn, hkt⟩ := polyW_sh (prepW_ok (cands_prep hp)).2.1
 dsimp only at hk hkn hkt
 rw [hkt]
 have HP := Hj hp
 clear hp hkt
 subst hk
 have hn1 : k < n1 := by rw [← hS.1]; exact hkn
 have hn1' := hS.2.1
 clear hkn
 obtain ⟨ba, oa, rfl, hbl, hsh⟩ := hS.at_ hn1
 have HSH := Hj hsh
 obtain ⟨s, hs⟩ : ∃ s, shp S k = s := ⟨_, rfl⟩
 rw [hs] at HSH ⊢
 clear hs hsh hbl
 obtain ⟨ts, hts⟩ : ∃ ts, allW s.grain false = ts := ⟨_, rfl⟩
 rw [hts]
 have htsl : ts.length ≤ 4 := by rw [← hts]; exact allTo_len _ _ 4
 have HTS := Hj hts
 clear hts
 obtain ⟨nt, hnt⟩ : ∃ nt, ts.length = nt := ⟨_, rfl⟩
 rw [hnt] at htsl ⊢
 have HNT := Hj hnt
 clear hnt
 obtain ⟨len, wid, rx, ry⟩ := b
 unfold bedV
 dsimp only
 have hbw := Hj (show Below w.heap.size w ((w.alloc (.cells #[.int .i64 len, .int .i64 wid, .int .i64 rx, .int .i64 ry] 25)).alloc (.cells #[.int .i64 0, .bool false, .int .i64 0, .int .i64 0, .int .i64 0] 39)) from (Bl.alloc (Bl.alloc Br _) _))
 have H0 := Hj ((BlkS.new w 25 #[.int .i64 len, .int .i64 wid, .int .i64 rx, .int .i64 ry]).alloc (.cells #[.int .i64 0, .bool false, .int .i64 0, .int .i64 0, .int .i64 0] 39))
 have H1 := Hj (BlkS.new2 w (.cells #[.int .i64 len, .int .i64 wid, .int .i64 rx, .int .i64 ry] 25) 39 #[.int .i64 0, .bool false, .int .i64 0, .int .i64 0, .int .i64 0])
 go_enter Tryz.func16, Tryz.ntmps16
 go_upto_region 4 with (go_at_call 13; refine (rcands_any _ A2 c1 c2 n1 n2 ⟨len, wid, rx, ry⟩ S ps (k : Int) false 0 _ (by omega) (hS.keep hbw.out) (hPu.keep hbw.out)).mono ?_; rintro e w1 ⟨v1, rfl, ho1, hb1⟩; rw [HP.out])
 have hbA := Bl.call hbw.out hb1
 have hSA := Hj (hS.keep hbA)
 have hPA := Hj (hPu.keep hbA)
 have K0 := Hj (H0.out.keep hb1)
 have K1 := Hj (H1.out.keep hb1)
 have hshA := HSH.out.keep hbA
 clear ho1 hb1 hbw H0 H1 hS hPu HSH
 obtain ⟨spl, gr, mt, ⟨ax, ay⟩⟩ := s
 obtain ⟨Ak, ck, g1, g2, g3, g4, g5, g6, g7, g8, g9⟩ := hshA
 dsimp only at g1 g2 g4 g6 g7 g8 g9 HTS
 clear g1 g2 g3 g4 g5 g7 g8 g9
 obtain ⟨BB, hBB⟩ : ∃ BB, BB = w1.heap.size := ⟨_, rfl⟩
 have hg0 := Hj (BlkS.new w1 39 #[.int .i64 0, .bool false, .int .i64 0, .int .i64 0, .int .i64 0])
 rw [← hBB] at hg0
 have g6' : (w1.alloc (.cells #[.int .i64 0, .bool false, .int .i64 0, .int .i64 0, .int .i64 0] 39)).cell? ⟨ba, oa + k * 5 + 1, none⟩ = some (.int .i64 gr) := Xa (Bl.alloc Br _) g6
 go_upto_region 7 with (go_at_call 46; refine (rall_any _ _ _).mono ?_; rintro e w2 ⟨v3, rfl, ho3, hb3⟩; rw [HTS.out] at ho3; obtain ⟨At, ct, rfl, hTt, hAt⟩ := OwT.trs ho3; rw [HNT.out] at hTt hAt ⊢)
 rw [← hBB]
 have hBB1 : w1.heap.size ≤ BB := by omega
 have hBB2 : w.heap.size + 1 < BB := by rw [hBB]; exact K1.out.lt
 have hg2 := Hj (hg0.out.keep hb3)
 have hb2 : Below w1.heap.size w1 w2 := Bl.call (Bl.alloc Br _) hb3
 have hsb : 0 < nt → ∃ sb, At = some ⟨sb, 0, none⟩ ∧ BB < sb := fun h => by
  obtain ⟨g, rfl, q1, q2⟩ := hAt h
  exact ⟨g, rfl, by simp at q1; omega⟩
 have HSB := Hj hsb
 clear hg0 hb3 ho3 hAt g6 g6' hBB hsb
 go_wp2_with fail
 go_loopw [13, 15] (fun f i wr => ∃ j : Nat, j ≤ nt ∧ i = .int .i64 j ∧ f = .bool (stRTo ⟨len, wid, rx, ry⟩ S ps (k : Int) ts j).isSome ∧ BlkS wr BB 39 #[.int .i64 (bsP (stRTo ⟨len, wid, rx, ry⟩ S ps (k : Int) ts j)).sh, .bool (bsP (stRTo ⟨len, wid, rx, ry⟩ S ps (k : Int) ts j)).fl, .int .i64 (bsP (stRTo ⟨len, wid, rx, ry⟩ S ps (k : Int) ts j)).qu, .int .i64 (bsP (stRTo ⟨len, wid, rx, ry⟩ S ps (k : Int) ts j)).x, .int .i64 (bsP (stRTo ⟨len, wid, rx, ry⟩ S ps (k : Int) ts j)).y] ∧ TrS wr At nt ts ∧ Below w1.heap.size w1 wr) (fun _ i _ => nt - (intOf i).toNat)
 case atStart => exact ⟨0, Nat.zero_le _, rfl, rfl, hg2.out, hTt, hb2⟩
 case round =>
  clear hg2 hTt hb2
  obtain ⟨j, hj, rfl, rfl, hg, hTt, hbr⟩ := hrel
  by_cases hlt : j < nt
  ·obtain ⟨sb, rfl, hsbB⟩ := HSB.out (by omega)
   obtain ⟨-, hT2⟩ := hTt
   rcases hT2 with h | ⟨sb', eq1, hT2⟩
   ·omega
   ·injection eq1 with eq1
    injection eq1 with eq1
    subst eq1
    obtain ⟨d1, d2⟩ := hT2 j hlt
    have hTt : TrS wr (some ⟨sb, 0, none⟩) nt ts := ⟨HNT.out, .inr ⟨sb, rfl, hT2⟩⟩
    have hstep := Hj (show stRTo ⟨len, wid, rx, ry⟩ S ps (k : Int) ts (j + 1) = stRIn ⟨len, wid, rx, ry⟩ S ps (candsW ⟨len, wid, rx, ry⟩ S ps (k : Int) (tr ts j).1 (tr ts j).2).2 (stRTo ⟨len, wid, rx, ry⟩ S ps (k : Int) ts j) (candsW ⟨len, wid, rx, ry⟩ S ps (k : Int) (tr ts j).1 (tr ts j).2).2.length from rfl)
    have hcl := candsW_lenR ⟨len, wid, rx, ry⟩ S ps (k : Int) (tr ts j).1 (tr ts j).2
    rw [hPA.out.1] at hcl
    obtain ⟨tj, htj⟩ : ∃ tj, tr ts j = tj := ⟨_, rfl⟩
    rw [htj] at d1 d2 hstep hcl
    clear htj hT2
    obtain ⟨tf, tq⟩ := tj
    dsimp only at d1 d2 hstep hcl
    obtain ⟨cr, hcr⟩ : ∃ cr, candsW ⟨len, wid, rx, ry⟩ S ps (k : Int) tf tq = cr := ⟨_, rfl⟩
    rw [hcr] at hstep hcl
    have HC := Hj hcr
    clear hcr
    obtain ⟨cr1, cs⟩ := cr
    dsimp only at hstep hcl
    obtain ⟨nc, hnc⟩ : ∃ nc, cs.length = nc := ⟨_, rfl⟩
    rw [hnc] at hstep hcl
    have HNC := Hj hnc
    clear hnc
    obtain ⟨acc, hacc⟩ : ∃ acc, stRTo ⟨len, wid, rx, ry⟩ S ps (k : Int) ts j = acc := ⟨_, rfl⟩
    rw [hacc] at hstep hg ⊢
    clear hacc
    have hgl := hg.lt
    obtain ⟨a1, a2, a3, a4, -⟩ := (K0.out.keep hbr).cells4
    have z1 : (0 : Int) ≤ (j : Int) := by omega
    have z2 : (j : Int) < (nt : Int) := by omega
    have HKP := Hj (show ∀ w' : World, Below wr.heap.size wr w' → (w'.cell? ⟨w.heap.size, 0, none⟩ = some (.int .i64 len) ∧ w'.cell? ⟨w.heap.size, 1, none⟩ = some (.int .i64 wid) ∧ w'.cell? ⟨w.heap.size, 2, none⟩ = some (.int .i64 rx) ∧ w'.cell? ⟨w.heap.size, 3, none⟩ = some (.int .i64 ry) ∧ w'.cell? ⟨sb, j * 2, none⟩ = some (.bool tf) ∧ w'.cell? ⟨sb, j * 2 + 1, none⟩ = some (.int .i64 tq)) from fun w' h => ⟨Xa h a1, Xa h a2, Xa h a3, Xa h a4, Xa h d1, Xa h d2⟩)
    go_wp2_with fail
    go_region_held3 (fun w' => w'.cell? ⟨w.heap.size, 0, none⟩ = some (.int .i64 len) ∧ w'.cell? ⟨w.heap.size, 1, none⟩ = some (.int .i64 wid) ∧ w'.cell? ⟨w.heap.size, 2, none⟩ = some (.int .i64 rx) ∧ w'.cell? ⟨w.heap.size, 3, none⟩ = some (.int .i64 ry) ∧ w'.cell? ⟨sb, j * 2, none⟩ = some (.bool tf) ∧ w'.cell? ⟨sb, j * 2 + 1, none⟩ = some (.int .i64 tq))
     (first
      | exact HKP.out _ (Bl.call (Bl.drew Br) hb5)
      | go_keep)
     ((go_at_call 13; refine (rcands_any _ A2 c1 c2 n1 n2 ⟨len, wid, rx, ry⟩ S ps (k : Int) tf tq _ (by omega) (hSA.out.keep (Bl.drew hbr)) (hPA.out.keep (Bl.drew hbr))).mono ?_; rintro e w5 ⟨v5, rfl, ho5, hb5⟩; rw [HC.out] at ho5 ⊢; obtain ⟨A5, c5, rfl, hP5, hA5'⟩ := OwP.pusB ho5; rw [HNC.out] at hP5 ⊢))
    have hb5' : Below wr.heap.size wr w5 := Bl.call (Bl.drew Br) hb5
    have hA5 : ∀ a, A5 = some a → BB < a.block := fun a ha => by have := hA5' a ha; simp at this; omega
    have hg5 := Hj (hg.keep hb5')
    have hT5 := Hj (hTt.keep hb5')
    have hb15 := Bl.call hbr hb5'
    have HST := hstep
    clear a1 a2 a3 a4 d1 d2 HKP hb5 hb5' ho5 hA5' hg hgl hTt hbr hstep HC
    obtain ⟨wa, rfl⟩ : ∃ wa : World, wa = wr := ⟨_, rfl⟩
    go_wp2_with fail
    go_loopw [13, 18] (fun f i wq => ∃ m : Nat, m ≤ nc ∧ i = .int .i64 m ∧ f = .bool (stRIn ⟨len, wid, rx, ry⟩ S ps cs acc m).isSome ∧ BlkS wq BB 39 #[.int .i64 (bsP (stRIn ⟨len, wid, rx, ry⟩ S ps cs acc m)).sh, .bool (bsP (stRIn ⟨len, wid, rx, ry⟩ S ps cs acc m)).fl, .int .i64 (bsP (stRIn ⟨len, wid, rx, ry⟩ S ps cs acc m)).qu, .int .i64 (bsP (stRIn ⟨len, wid, rx, ry⟩ S ps cs acc m)).x, .int .i64 (bsP (stRIn ⟨len, wid, rx, ry⟩ S ps cs acc m)).y] ∧ TrS wq (some ⟨sb, 0, none⟩) nt ts ∧ PuS wq A5 nc cs ∧ Below w1.heap.size w1 wq) (fun _ i _ => nc - (intOf i).toNat)
    case atStart => exact ⟨0, Nat.zero_le _, rfl, rfl, hg5.out, hT5.out, hP5, hb15⟩
    case round =>
     clear hg5 hT5 hP5 hb15
     obtain ⟨m, hm, rfl, rfl, hgm, hTm, hPm, hbm⟩ := hrel
     by_cases hmn : m < nc
     ·obtain ⟨bb, ob, rfl, hblt, d1, d2, d3, d4, d5⟩ := hPm.at_ hmn
      have hst2 := Hj (show stRIn ⟨len, wid, rx, ry⟩ S ps cs acc (m + 1) = if fitsW ⟨len, wid, rx, ry⟩ S ps (pt cs m) ≠ 0 then stRIn ⟨len, wid, rx, ry⟩ S ps cs acc m else match stRIn ⟨len, wid, rx, ry⟩ S ps cs acc m with | none => some (pt cs m) | some p => if betR S (pt cs m) p = true then some (pt cs m) else some p from rfl)
      have HFT := Hj (fun w' h1 h2 => rfits_any (some ⟨ba, oa, none⟩) A2 c1 c2 n1 n2 ⟨len, wid, rx, ry⟩ S ps (pt cs m) w' (by omega) h1 h2)
      obtain ⟨FT, hft⟩ : ∃ FT, fitsW ⟨len, wid, rx, ry⟩ S ps (pt cs m) = FT := ⟨_, rfl⟩
      rw [hft] at hst2 HFT
      clear hft
      obtain ⟨q, hq⟩ : ∃ q, pt cs m = q := ⟨_, rfl⟩
      rw [hq] at d1 d2 d3 d4 d5 hst2 HFT
      clear hq
      obtain ⟨ac, hac⟩ : ∃ ac, stRIn ⟨len, wid, rx, ry⟩ S ps cs acc m = ac := ⟨_, rfl⟩
      rw [hac] at hst2 hgm ⊢
      clear hac
      obtain ⟨s2, f2, q2, x2, y2⟩ := q
      unfold putV bedV at HFT
      dsimp only at d1 d2 d3 d4 d5 HFT
      obtain ⟨a1, a2, a3, a4, -⟩ := (K0.out.keep hbm).cells4
      have z1 : (0 : Int) ≤ (m : Int) := by omega
      have z2 : (m : Int) < (nc : Int) := by omega
      go_wp2_with fail
      refine Xc wr [(⟨w.heap.size, 0, none⟩, .int .i64 len), (⟨w.heap.size, 1, none⟩, .int .i64 wid), (⟨w.heap.size, 2, none⟩, .int .i64 rx), (⟨w.heap.size, 3, none⟩, .int .i64 ry), (⟨bb, ob + m * 5, none⟩, .int .i64 s2), (⟨bb, ob + m * 5 + 1, none⟩, .bool f2), (⟨bb, ob + m * 5 + 2, none⟩, .int .i64 q2), (⟨bb, ob + m * 5 + 3, none⟩, .int .i64 x2), (⟨bb, ob + m * 5 + 4, none⟩, .int .i64 y2)] (by kernel_rfl) (by kernel_rfl) ⟨Br, by simp only [List.mem_cons, List.not_mem_nil, forall_eq_or_imp, or_false, forall_eq]; go_simp⟩ ?_
      repeat
       apply wq_plain
       ·rfl
       ·intro w1 hw1
        have hx := hw1.2
        simp only [List.mem_cons, List.not_mem_nil, forall_eq_or_imp, or_false, forall_eq] at hx
        go_simp
        first | rfl | exact calls_cls hw1 (HFT.out _ (hSA.out.keep (Bl.call hbm hw1.1)) (hPA.out.keep (Bl.call hbm hw1.1)))
       go_simp
      refine wpQuiet_nil ?_
      intro w9 hCw9
      have hx9 := hCw9.2
      simp only [List.mem_cons, List.not_mem_nil, forall_eq_or_imp, or_false, forall_eq] at hx9
      clear a1 a2 a3 a4 d1 d2 d3 d4 d5
      by_cases hF : FT = 0
      ·rw [if_neg (by simpa using hF)] at hst2
       have e0 : (FT != 0) = false := by simp [hF]
       clear hF
       cases ac with
       | none =>
         dsimp only [Option.isSome] at hst2 ⊢
         go_wp2_with fail
         refine Xc w9 [(⟨bb, ob + m * 5, none⟩, .int .i64 s2), (⟨bb, ob + m * 5 + 1, none⟩, .bool f2), (⟨bb, ob + m * 5 + 2, none⟩, .int .i64 q2), (⟨bb, ob + m * 5 + 3, none⟩, .int .i64 x2), (⟨bb, ob + m * 5 + 4, none⟩, .int .i64 y2)] (by kernel_rfl) (by kernel_rfl) ⟨Br, by simp only [List.mem_cons, List.not_mem_nil, forall_eq_or_imp, or_false, forall_eq]; go_simp⟩ ?_
         repeat
          first
          | go_big_quiet_skip
          | go_big_quiet_want
            apply Exists.intro
            refine And.intro ?_ ?_
            ·intro w1 hw1
             have hx := hw1.2
             simp only [List.mem_cons, List.not_mem_nil, forall_eq_or_imp, or_false, forall_eq] at hx
             go_simp
             first | rfl
            go_simp
            go_big_quiet_on
         refine wpQuiet_nil ?_
         intro w10 hCw10
         have hB10 := (hgm.keep hCw9.1).keep hCw10.1
         obtain ⟨r1, r2, r3, r4, r5, r6⟩ := hB10.cells5
         obtain ⟨f1', f2', f3', f4', f5'⟩ := hB10.frz5
         have hx10 := hCw10.2
         simp only [List.mem_cons, List.not_mem_nil, forall_eq_or_imp, or_false, forall_eq] at hx10
         go_wp2_with fail
         exact ⟨⟨m + 1, by omega, by go_num, by rw [hst2.out]; rfl, by rw [hst2.out]; exact ((((hB10.set_ 0 _).set_ 1 _).set_ 2 _).set_ 3 _).set_ 4 _, TrS.keepBlk ((hTm.keep hCw9.1).keep hCw10.1) (heap5 (by omega) _ _ _ _ _), PuS.keepBlk ((hPm.keep hCw9.1).keep hCw10.1) (fun a ha => heap5 (by have := hA5 a ha; omega) _ _ _ _ _), by have hbb := Bl.call (Bl.call hbm hCw9.1) hCw10.1; (repeat first | exact hbb | refine Bl.set ?_ (by dsimp only; omega) _)⟩, by simp [intOf]; omega⟩
       | some p =>
         dsimp only [Option.isSome] at hst2 ⊢
         have HBT := Hj (fun w' h => rbetter_any (some ⟨ba, oa, none⟩) c1 n1 S ⟨s2, f2, q2, x2, y2⟩ p w' h)
         obtain ⟨s3, f3, q3, x3, y3⟩ := p
         obtain ⟨BT, hbt⟩ : ∃ BT, betR S ⟨s2, f2, q2, x2, y2⟩ ⟨s3, f3, q3, x3, y3⟩ = BT := ⟨_, rfl⟩
         rw [hbt] at hst2 HBT
         clear hbt
         unfold putV at HBT
         dsimp only [bsP, Option.getD] at HBT hgm
         obtain ⟨t1, t2, t3, t4, t5, t6⟩ := (hgm.keep hCw9.1).cells5
         cases BT with
         | true =>
           rw [if_pos rfl] at hst2
           go_wp2_with fail
           refine Xc w9 [(⟨bb, ob + m * 5, none⟩, .int .i64 s2), (⟨bb, ob + m * 5 + 1, none⟩, .bool f2), (⟨bb, ob + m * 5 + 2, none⟩, .int .i64 q2), (⟨bb, ob + m * 5 + 3, none⟩, .int .i64 x2), (⟨bb, ob + m * 5 + 4, none⟩, .int .i64 y2), (⟨BB, 0, none⟩, .int .i64 s3), (⟨BB, 1, none⟩, .bool f3), (⟨BB, 2, none⟩, .int .i64 q3), (⟨BB, 3, none⟩, .int .i64 x3), (⟨BB, 4, none⟩, .int .i64 y3)] (by kernel_rfl) (by kernel_rfl) ⟨Br, by simp only [List.mem_cons, List.not_mem_nil, forall_eq_or_imp, or_false, forall_eq]; go_simp⟩ ?_
           repeat
            first
            | go_big_quiet_skip
            | go_big_quiet_want
              apply Exists.intro
              refine And.intro ?_ ?_
              ·intro w1 hw1
               have hx := hw1.2
               simp only [List.mem_cons, List.not_mem_nil, forall_eq_or_imp, or_false, forall_eq] at hx
               go_simp
               first | rfl | exact calls_cls hw1 (HBT.out _ (hSA.out.keep (Bl.call (Bl.call hbm hCw9.1) hw1.1)))
              go_simp
              go_big_quiet_on
           refine wpQuiet_nil ?_
           intro w10 hCw10
           clear t1 t2 t3 t4 t5 t6
           have hB10 := (hgm.keep hCw9.1).keep hCw10.1
           obtain ⟨r1, r2, r3, r4, r5, r6⟩ := hB10.cells5
           obtain ⟨f1', f2', f3', f4', f5'⟩ := hB10.frz5
           have hx10 := hCw10.2
           simp only [List.mem_cons, List.not_mem_nil, forall_eq_or_imp, or_false, forall_eq] at hx10
           go_wp2_with fail
           exact ⟨⟨m + 1, by omega, by go_num, by rw [hst2.out]; rfl, by rw [hst2.out]; exact ((((hB10.set_ 0 _).set_ 1 _).set_ 2 _).set_ 3 _).set_ 4 _, TrS.keepBlk ((hTm.keep hCw9.1).keep hCw10.1) (heap5 (by omega) _ _ _ _ _), PuS.keepBlk ((hPm.keep hCw9.1).keep hCw10.1) (fun a ha => heap5 (by have := hA5 a ha; omega) _ _ _ _ _), by have hbb := Bl.call (Bl.call hbm hCw9.1) hCw10.1; (repeat first | exact hbb | refine Bl.set ?_ (by dsimp only; omega) _)⟩, by simp [intOf]; omega⟩
         | false =>
           rw [if_neg (by simp)] at hst2
           go_wp2_with fail
           refine Xc w9 [(⟨bb, ob + m * 5, none⟩, .int .i64 s2), (⟨bb, ob + m * 5 + 1, none⟩, .bool f2), (⟨bb, ob + m * 5 + 2, none⟩, .int .i64 q2), (⟨bb, ob + m * 5 + 3, none⟩, .int .i64 x2), (⟨bb, ob + m * 5 + 4, none⟩, .int .i64 y2), (⟨BB, 0, none⟩, .int .i64 s3), (⟨BB, 1, none⟩, .bool f3), (⟨BB, 2, none⟩, .int .i64 q3), (⟨BB, 3, none⟩, .int .i64 x3), (⟨BB, 4, none⟩, .int .i64 y3)] (by kernel_rfl) (by kernel_rfl) ⟨Br, by simp only [List.mem_cons, List.not_mem_nil, forall_eq_or_imp, or_false, forall_eq]; go_simp⟩ ?_
           repeat
            first
            | go_big_quiet_skip
            | go_big_quiet_want
              apply Exists.intro
              refine And.intro ?_ ?_
              ·intro w1 hw1
               have hx := hw1.2
               simp only [List.mem_cons, List.not_mem_nil, forall_eq_or_imp, or_false, forall_eq] at hx
               go_simp
               first | rfl | exact calls_cls hw1 (HBT.out _ (hSA.out.keep (Bl.call (Bl.call hbm hCw9.1) hw1.1)))
              go_simp
              go_big_quiet_on
           refine wpQuiet_nil ?_
           intro w10 hCw10
           clear t1 t2 t3 t4 t5 t6
           go_wp2_with fail
           exact ⟨⟨m + 1, by omega, by go_num, by rw [hst2.out]; rfl, by rw [hst2.out]; exact (hgm.keep hCw9.1).keep hCw10.1, (hTm.keep hCw9.1).keep hCw10.1, (hPm.keep hCw9.1).keep hCw10.1, Bl.call (Bl.call hbm hCw9.1) hCw10.1⟩, by simp [intOf]; omega⟩
      ·rw [if_pos hF] at hst2
       have e0 : (FT != 0) = true := by simpa using hF
       clear hF
       go_wp2_with fail
       exact ⟨⟨m + 1, by omega, by go_num, by rw [hst2.out], by rw [hst2.out]; exact hgm.keep hCw9.1, hTm.keep hCw9.1, hPm.keep hCw9.1, Bl.call hbm hCw9.1⟩, by simp [intOf]; omega⟩
     ·obtain rfl : nc = m := by omega
      go_wp2_with fail
      exact ⟨⟨j + 1, by omega, by go_num, by rw [HST.out], by rw [HST.out]; exact hgm, hTm, hbm⟩, by simp [intOf]; omega⟩
  ·obtain rfl : nt = j := by omega
   obtain ⟨acc, hacc⟩ : ∃ acc, stRTo ⟨len, wid, rx, ry⟩ S ps (k : Int) ts nt = acc := ⟨_, rfl⟩
   rw [hacc] at hg ⊢
   have HACC := Hj hacc
   clear hacc
   have K2 := K1.out.keep hbr
   obtain ⟨a1, a2, a3, a4, a5, a6⟩ := K2.cells5
   obtain ⟨f1, f2, f3, f4, f5⟩ := K2.frz5
   cases acc with
   | none =>
     dsimp only [Option.isSome]
     go_wp2_with fail
     exact bodyPost_ret (v := .tuple #[putV zeroP, .int .i64 18]) (by simp [results, Tryz.results16, go_sem, a1, a2, a3, a4, a5, putV, zeroP]) rfl ⟨by rw [HACC.out]; rfl, by have hbb := Bl.call hbA hbr; (repeat first | exact hbb | refine Bl.set ?_ (by dsimp only; omega) _)⟩
   | some p =>
     obtain ⟨s3, f3, q3, x3, y3⟩ := p
     dsimp only [Option.isSome, bsP, Option.getD] at hg ⊢
     obtain ⟨t1, t2, t3, t4, t5, t6⟩ := hg.cells5
     go_wp2_with fail
     exact bodyPost_ret (v := .tuple #[putV ⟨s3, f3, q3, x3, y3⟩, .int .i64 0]) (by simp [results, Tryz.results16, go_sem, a1, a2, a3, a4, a5, putV]) rfl ⟨by rw [HACC.out]; rfl, by have hbb := Bl.call hbA hbr; (repeat first | exact hbb | refine Bl.set ?_ (by dsimp only; omega) _)⟩
theorem rstep_any (A1 A2 : Option Addr) (c1 c2 n1 n2 : Nat) (b : Bed4) (S : List Shp) (ps : List Pt5) (sh : Int) (w : World) (hn2 : n2 ≤ 1000) (hS : ShS w A1 n1 S) (hPu : PuS w A2 n2 ps) :
 Calls Tryz.prog 16 #[bedV b, .slice A1 n1 c1, .slice A2 n2 c2, .int .i64 sh] w (StepRet w (stepW b S ps sh)) := by
 rw [← stepR_eq]
 unfold stepR
 by_cases hp : (candsW b S ps sh false 0).1 = 0
 ·rw [if_neg (by simp [hp])]
  exact rstep_2 A1 A2 c1 c2 n1 n2 b S ps sh w hn2 hS hPu hp
 ·rw [if_pos hp]
  exact rstep_1 A1 A2 c1 c2 n1 n2 b S ps sh w hn2 hS hPu hp
end
end Go.Proofs.YtmdncaoilegnnaaGreat

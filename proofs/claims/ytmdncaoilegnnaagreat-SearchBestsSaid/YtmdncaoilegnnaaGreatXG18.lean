/- Lean texts of the claim. -/
import Derived.Test.YtmdncaoilegnnaaGreatXE
import Derived.Test.YtmdncaoilegnnaaGreatXG13
import Derived.Test.YtmdncaoilegnnaaGreatXG14
import Derived.Deep.RegionHeld3
namespace Go.Proofs.YtmdncaoilegnnaaGreat
set_option linter.unusedVariables false
set_option linter.unusedSimpArgs false
section
set_option maxRecDepth 100000
open Go.RowKit
structure Shp where
 poly : List (Int × Int)
 grain : Int
 mat : Bool
 anc : Int × Int
structure Pt5 where
 sh : Int
 fl : Bool
 qu : Int
 x : Int
 y : Int
deriving DecidableEq
def shp (S : List Shp) (k : Nat) : Shp := S.getD k ⟨[], 0, false, (0, 0)⟩
def pt (ps : List Pt5) (k : Nat) : Pt5 := ps.getD k ⟨0, false, 0, 0, 0⟩
def putV (p : Pt5) : Value := .agg #[.int .i64 p.sh, .bool p.fl, .int .i64 p.qu, .int .i64 p.x, .int .i64 p.y]
def enP (p : Pt5) : List Value := [.int .i64 p.sh, .bool p.fl, .int .i64 p.qu, .int .i64 p.x, .int .i64 p.y]
theorem enP_len (p : Pt5) : (enP p).length = 5 := rfl
theorem enP_one (p : Pt5) : ∀ u ∈ enP p, u.oneCell' = true := by
 intro u hu; simp [enP] at hu; rcases hu with rfl | rfl | rfl | rfl | rfl <;> rfl
def ShAt (w : World) (b o : Nat) (s : Shp) : Prop :=
 ∃ Ak ck, w.cell? ⟨b, o, none⟩ = some (.slice Ak s.poly.length ck) ∧ s.poly.length ≤ ck ∧ ck ≤ 9223372036854775807 ∧ SpS w Ak s.poly.length s.poly ∧ (Ak = none → ck = 0) ∧
  w.cell? ⟨b, o + 1, none⟩ = some (.int .i64 s.grain) ∧ w.cell? ⟨b, o + 2, none⟩ = some (.bool s.mat) ∧ w.cell? ⟨b, o + 3, none⟩ = some (.int .i64 s.anc.1) ∧ w.cell? ⟨b, o + 4, none⟩ = some (.int .i64 s.anc.2)
def ShS (w : World) (A : Option Addr) (n : Nat) (S : List Shp) : Prop := S.length = n ∧ n ≤ 100000000000000 ∧ (n = 0 ∨ ∃ b off, A = some ⟨b, off, none⟩ ∧ ∀ k, k < n → ShAt w b (off + k * 5) (shp S k))
theorem ShAt.keep {w w' : World} {b o : Nat} {s : Shp} (h : ShAt w b o s) (hb : Below w.heap.size w w') : ShAt w' b o s := by
 obtain ⟨Ak, ck, h1, h2, h3, h4, h5, h6, h7, h8, h9⟩ := h
 exact ⟨Ak, ck, Xa hb h1, h2, h3, h4.keep hb, h5, Xa hb h6, Xa hb h7, Xa hb h8, Xa hb h9⟩
theorem ShS.keep {w w' : World} {A : Option Addr} {n : Nat} {S : List Shp} (h : ShS w A n S) (hb : Below w.heap.size w w') : ShS w' A n S := by
 refine ⟨h.1, h.2.1, ?_⟩
 obtain ⟨h1, -, h⟩ := h; rcases h with rfl | ⟨b, off, rfl, h⟩
 ·exact .inl rfl
 ·exact .inr ⟨b, off, rfl, fun k hk => (h k hk).keep hb⟩
theorem ShS.at_ {w : World} {A : Option Addr} {n : Nat} {S : List Shp} (h : ShS w A n S) {k : Nat} (hk : k < n) : ∃ b off, A = some ⟨b, off, none⟩ ∧ b < w.heap.size ∧ ShAt w b (off + k * 5) (shp S k) := by
 obtain ⟨h1, -, h⟩ := h; rcases h with rfl | ⟨b, off, rfl, h⟩
 ·omega
 ·obtain ⟨Ak, ck, g1, _⟩ := h k hk
  exact ⟨b, off, rfl, lt_of_cell g1, h k hk⟩
def PuS (w : World) (A : Option Addr) (n : Nat) (ps : List Pt5) : Prop := ps.length = n ∧ (n = 0 ∨ ∃ b off, A = some ⟨b, off, none⟩ ∧ ∀ k, k < n →
 w.cell? ⟨b, off + k * 5, none⟩ = some (.int .i64 (pt ps k).sh) ∧ w.cell? ⟨b, off + k * 5 + 1, none⟩ = some (.bool (pt ps k).fl) ∧ w.cell? ⟨b, off + k * 5 + 2, none⟩ = some (.int .i64 (pt ps k).qu) ∧ w.cell? ⟨b, off + k * 5 + 3, none⟩ = some (.int .i64 (pt ps k).x) ∧ w.cell? ⟨b, off + k * 5 + 4, none⟩ = some (.int .i64 (pt ps k).y))
theorem PuS.keep {w w' : World} {A : Option Addr} {n : Nat} {ps : List Pt5} (h : PuS w A n ps) (hb : Below w.heap.size w w') : PuS w' A n ps := by
 refine ⟨h.1, ?_⟩
 obtain ⟨h1, h⟩ := h; rcases h with rfl | ⟨b, off, rfl, h⟩
 ·exact .inl rfl
 ·refine .inr ⟨b, off, rfl, fun k hk => ?_⟩
  obtain ⟨a1, a2, a3, a4, a5⟩ := h k hk
  exact ⟨Xa hb a1, Xa hb a2, Xa hb a3, Xa hb a4, Xa hb a5⟩
theorem PuS.at_ {w : World} {A : Option Addr} {n : Nat} {ps : List Pt5} (h : PuS w A n ps) {k : Nat} (hk : k < n) : ∃ b off, A = some ⟨b, off, none⟩ ∧ b < w.heap.size ∧ w.cell? ⟨b, off + k * 5, none⟩ = some (.int .i64 (pt ps k).sh) ∧ w.cell? ⟨b, off + k * 5 + 1, none⟩ = some (.bool (pt ps k).fl) ∧ w.cell? ⟨b, off + k * 5 + 2, none⟩ = some (.int .i64 (pt ps k).qu) ∧ w.cell? ⟨b, off + k * 5 + 3, none⟩ = some (.int .i64 (pt ps k).x) ∧ w.cell? ⟨b, off + k * 5 + 4, none⟩ = some (.int .i64 (pt ps k).y) := by
 obtain ⟨h1, h⟩ := h; rcases h with rfl | ⟨b, off, rfl, h⟩
 ·omega
 ·exact ⟨b, off, rfl, lt_of_cell (h k hk).1, h k hk⟩
def RetSE' (w : World) (r : Int × List (Int × Int)) (e : Ending) (w' : World) : Prop :=
 ∃ v, e = .returned (.tuple #[v, .int .i64 r.1]) ∧ OwS w' w.heap.size v r.2 ∧ Below w.heap.size w w'
def polyIn (l : List (Int × Int)) (p : Pt5) : Int × List (Int × Int) :=
 if checkW l l.length ≠ 0 then (checkW l l.length, []) else if checkW (movW (tpolW p.fl p.qu l) (p.x, p.y)) l.length ≠ 0 then (checkW (movW (tpolW p.fl p.qu l) (p.x, p.y)) l.length, []) else (0, movW (tpolW p.fl p.qu l) (p.x, p.y))
def Xe (S : List Shp) (p : Pt5) : Int × List (Int × Int) := if p.sh < 0 ∨ p.sh ≥ S.length ∨ outB 1048576 (p.x, p.y) = true then (3, []) else polyIn (shp S p.sh.toNat).poly p
set_option maxHeartbeats 1000000 in
theorem ppoly_bad (A : Option Addr) (cap n : Nat) (S : List Shp) (p : Pt5) (w : World) (hS : ShS w A n S) (h : p.sh < 0 ∨ p.sh ≥ n ∨ outB 1048576 (p.x, p.y) = true) :
 Calls Tryz.prog 40 #[.slice A n cap, putV p] w (RetSE' w (3, [])) := by
 obtain ⟨sh, fl, qu, x, y⟩ := p
 unfold putV
 dsimp only at h ⊢
 have hn := hS.2.1
 go_enter Tryz.func40, Tryz.ntmps40
 by_cases h1 : sh < 0
 ·go_wp2_with fail
  go_ret2
  exact ⟨_, rfl, OwG.nil, Bl.alloc Br _⟩
 ·by_cases h2 : sh ≥ n
  ·go_wp2_with fail
   go_ret2
   exact ⟨_, rfl, OwG.nil, Bl.alloc Br _⟩
  ·have h3 : outB 1048576 (x, y) = true := by rcases h with h | h | h; exact absurd h h1; exact absurd h h2; exact h
   go_wp2_with (go_at_call 73; refine (pbeyond_any _ _ _).mono ?_; rintro e w1 ⟨rfl, hb1⟩)
   go_ret2
   exact ⟨_, rfl, OwG.nil, Bl.call (Bl.alloc Br _) hb1⟩
set_option maxHeartbeats 1000000 in
theorem ppoly_ok (A : Option Addr) (cap n : Nat) (S : List Shp) (p : Pt5) (k : Nat) (w : World) (hS : ShS w A n S) (hk : p.sh = (k : Int)) (hkn : k < n) (ho : outB 1048576 (p.x, p.y) = false) :
 Calls Tryz.prog 40 #[.slice A n cap, putV p] w (RetSE' w (polyIn (shp S k).poly p)) := by
 obtain ⟨sh, fl, qu, x, y⟩ := p
 dsimp only at hk ho
 subst hk
 unfold putV
 dsimp only
 have hn := hS.2.1
 obtain ⟨b, off, rfl, hbl, Ak, ck, g1, g2, g3, g4, g5, g6, g7, g8, g9⟩ := hS.at_ hkn
 obtain ⟨l, hl⟩ : ∃ l, (shp S k).poly = l := ⟨_, rfl⟩
 rw [hl] at g1 g2 g4 ⊢
 clear hl g6 g7 g8 g9
 obtain ⟨m, hm⟩ : ∃ m, l.length = m := ⟨_, rfl⟩
 rw [hm] at g1 g2 g4
 have HM := Hj hm
 clear hm
 have hB := Hj (BlkS.new w 39 #[.int .i64 (k : Int), .bool fl, .int .i64 qu, .int .i64 x, .int .i64 y])
 by_cases hc : checkW l m = 0
 ·have q : (checkW l m != 0) = false := by rw [hc]; rfl
  have hm40 := (check_len hc).2
  have HC := Hj hc
  clear hc
  obtain ⟨r, hr⟩ : ∃ r, movW (tpolW fl qu l) (x, y) = r := ⟨_, rfl⟩
  have hrl : r.length = m := by rw [← hr, movW_len, tpolW_len, HM.out]
  have hP := Hj (show polyIn l ⟨(k : Int), fl, qu, x, y⟩ = if checkW r m ≠ 0 then (checkW r m, []) else (0, r) by unfold polyIn; rw [HM.out, if_neg (by rw [HC.out]; simp), hr])
  have HRR := Hj hr
  have HRL := Hj hrl
  clear hr hrl
  go_enter Tryz.func40, Tryz.ntmps40
  go_upto_region 7 with (first | (go_at_call 73; refine (pbeyond_any _ _ _).mono ?_; rintro e w1 ⟨rfl, hb1⟩; have k0 := hB.out.keep hb1; have a1 := k0.cell 0; simp only [List.getElem?_toArray, List.getElem?_cons_zero, List.getElem?_cons_succ] at a1; have g1' := Xa (Bl.call (Bl.alloc Br _) hb1) g1) | (go_at_call 74; refine (check_any _ _ _ l _ (by omega) g2 (g4.keep (Bl.call (Bl.alloc Br _) hb1))).mono ?_; rintro e w2 ⟨rfl, hb2⟩))
  have hb := Bl.call (Bl.call (Bl.alloc Br _) hb1) hb2
  have k2 := k0.keep hb2
  have hS2 := g4.keep hb
  have d1 := k2.cell 1
  have d2 := k2.cell 2
  have d3 := k2.cell 3
  have d4 := k2.cell 4
  simp only [List.getElem?_toArray, List.getElem?_cons_zero, List.getElem?_cons_succ] at d1 d2 d3 d4
  clear g1' a1 k0 hb1 hb2 g1 hB k2
  go_cut [8] (fun v wx => OwS wx w.heap.size v r ∧ Below w.heap.size w wx)
  case first =>
   go_region_held3 (fun w' => w'.cell? ⟨w.heap.size, 1, none⟩ = some (.bool fl) ∧ w'.cell? ⟨w.heap.size, 2, none⟩ = some (.int .i64 qu) ∧ w'.cell? ⟨w.heap.size, 3, none⟩ = some (.int .i64 x) ∧ w'.cell? ⟨w.heap.size, 4, none⟩ = some (.int .i64 y))
    (first
     | go_keep
     | exact ⟨Xa hb3 d1, Xa hb3 d2, Xa hb3 d3, Xa hb3 d4⟩
     | exact ⟨Xa hb4 (Xa hb3 d1), Xa hb4 (Xa hb3 d2), Xa hb4 (Xa hb3 d3), Xa hb4 (Xa hb3 d4)⟩)
    ((first
      | (go_at_call 76; refine (tpoly_any _ _ _ _ _ l _ (by omega) (hS2.keep (Bl.drew Br))).mono ?_; rintro e w3 ⟨v3, rfl, ho3, hb3⟩; obtain ⟨A3, c3, rfl, hc3, hS3, -, -⟩ := OwS.els ho3; rw [tpolW_len, HM.out] at hS3 ⊢)
      | (go_at_call 75; refine (move_any _ _ _ (tpolW fl qu l) _ _ _ (by omega) hS3).mono ?_; rintro e w4 ⟨v4, rfl, ho4, hb4⟩)))
   all_goals go_wp2_with fail
   all_goals go_meet
   all_goals (rw [HRR.out] at ho4; exact ⟨OwG.lower ho4 (Nat.le_trans hb.size hb3.size), Bl.call (Bl.call (Bl.drew hb) hb3) hb4⟩)
  case rest =>
   clear hb hS2 d1 d2 d3 d4
   obtain ⟨ho, hb⟩ := hcut
   obtain ⟨A8, c8, rfl, hc8, hS8, -, -⟩ := OwS.els ho
   rw [HRL.out] at hc8 hS8 ho ⊢
   by_cases hc2 : checkW r m = 0
   ·have q2 : (checkW r m != 0) = false := by rw [hc2]; rfl
    rw [hc2] at hP
    go_wp2_with (go_at_call 74; refine (check_any _ _ _ r _ (by omega) hc8 hS8).mono ?_; rintro e w5 ⟨rfl, hb5⟩)
    go_ret2
    exact ⟨_, by rw [hP.out]; rfl, by rw [hP.out]; exact OwG.keep ho hb5, Bl.call hb hb5⟩
   ·have q2 : (checkW r m != 0) = true := by simpa using hc2
    rw [if_pos hc2] at hP
    clear hc2
    go_wp2_with (go_at_call 74; refine (check_any _ _ _ r _ (by omega) hc8 hS8).mono ?_; rintro e w5 ⟨rfl, hb5⟩)
    go_ret2
    exact ⟨_, by rw [hP.out]; rfl, by rw [hP.out]; exact OwG.nil, Bl.call hb hb5⟩
 ·have q : (checkW l m != 0) = true := by simpa using hc
  have HR := Hj (show polyIn l ⟨(k : Int), fl, qu, x, y⟩ = (checkW l m, []) by unfold polyIn; rw [HM.out, if_pos hc])
  clear hc
  go_enter Tryz.func40, Tryz.ntmps40
  go_wp2_with (first | (go_at_call 73; refine (pbeyond_any _ _ _).mono ?_; rintro e w1 ⟨rfl, hb1⟩; have k0 := hB.out.keep hb1; have a1 := k0.cell 0; simp only [List.getElem?_toArray, List.getElem?_cons_zero, List.getElem?_cons_succ] at a1; have g1' := Xa (Bl.call (Bl.alloc Br _) hb1) g1) | (go_at_call 74; refine (check_any _ _ _ l _ (by omega) g2 (g4.keep (Bl.call (Bl.alloc Br _) hb1))).mono ?_; rintro e w2 ⟨rfl, hb2⟩))
  go_ret2
  exact ⟨_, by rw [HR.out]; rfl, by rw [HR.out]; exact OwG.nil, Bl.call (Bl.call (Bl.alloc Br _) hb1) hb2⟩
theorem ppoly_any (A : Option Addr) (cap n : Nat) (S : List Shp) (p : Pt5) (w : World) (hS : ShS w A n S) :
 Calls Tryz.prog 40 #[.slice A n cap, putV p] w (RetSE' w (Xe S p)) := by
 by_cases h : p.sh < 0 ∨ p.sh ≥ n ∨ outB 1048576 (p.x, p.y) = true
 ·rw [show Xe S p = (3, []) by unfold Xe; rw [hS.1, if_pos h]]
  exact ppoly_bad A cap n S p w hS h
 ·rw [show Xe S p = polyIn (shp S p.sh.toNat).poly p by unfold Xe; rw [hS.1, if_neg h]]
  simp only [not_or] at h
  exact ppoly_ok A cap n S p p.sh.toNat w hS (by omega) (by omega) (by simpa using h.2.2)
end
section
set_option maxRecDepth 100000
open Go.RowKit
def matW (rx ry : Int) (anc : Int × Int) (p : Pt5) : Bool :=
 !outB 1048576 anc && (!outB 1048576 (addS (applyW p.fl p.qu anc) (p.x, p.y)) && sameW rx ry (addS (applyW p.fl p.qu anc) (p.x, p.y)).1 (addS (applyW p.fl p.qu anc) (p.x, p.y)).2 0 0)
theorem BlkS.cells2 {w : World} {g : Nat} {t : TypeId} {u v : Value} (h : BlkS w g t #[u, v]) : w.cell? ⟨g, 0, none⟩ = some u ∧ w.cell? ⟨g, 1, none⟩ = some v ∧ w.frozen? ⟨g, 0, none⟩ = false ∧ w.frozen? ⟨g, 1, none⟩ = false ∧ g < w.heap.size :=
 ⟨h.cell 0, h.cell 1, h.frozen 0, h.frozen 1, h.lt⟩
theorem BlkS.cells5 {w : World} {g : Nat} {t : TypeId} {u0 u1 u2 u3 u4 : Value} (h : BlkS w g t #[u0, u1, u2, u3, u4]) : w.cell? ⟨g, 0, none⟩ = some u0 ∧ w.cell? ⟨g, 1, none⟩ = some u1 ∧ w.cell? ⟨g, 2, none⟩ = some u2 ∧ w.cell? ⟨g, 3, none⟩ = some u3 ∧ w.cell? ⟨g, 4, none⟩ = some u4 ∧ g < w.heap.size :=
 ⟨h.cell 0, h.cell 1, h.cell 2, h.cell 3, h.cell 4, h.lt⟩
theorem BlkS.cells4 {w : World} {g : Nat} {t : TypeId} {u0 u1 u2 u3 : Value} (h : BlkS w g t #[u0, u1, u2, u3]) : w.cell? ⟨g, 0, none⟩ = some u0 ∧ w.cell? ⟨g, 1, none⟩ = some u1 ∧ w.cell? ⟨g, 2, none⟩ = some u2 ∧ w.cell? ⟨g, 3, none⟩ = some u3 ∧ g < w.heap.size :=
 ⟨h.cell 0, h.cell 1, h.cell 2, h.cell 3, h.lt⟩
set_option maxHeartbeats 1000000 in
theorem matches_any (rx ry ax ay : Int) (p : Pt5) (w : World) :
 Calls Tryz.prog 77 #[.agg #[.int .i64 rx, .int .i64 ry], .agg #[.int .i64 ax, .int .i64 ay], putV p] w fun e w' => e = .returned (.bool (matW rx ry (ax, ay) p)) ∧ Below w.heap.size w w' := by
 obtain ⟨sh, fl, qu, x, y⟩ := p
 unfold putV
 dsimp only
 obtain ⟨W3, hW3⟩ : ∃ W3, W3 = (((w.alloc (.cells #[.int .i64 rx, .int .i64 ry] 23)).alloc (.cells #[.int .i64 ax, .int .i64 ay] 37)).alloc (.cells #[.int .i64 sh, .bool fl, .int .i64 qu, .int .i64 x, .int .i64 y] 39)) := ⟨_, rfl⟩
 have h0 : BlkS W3 w.heap.size 23 #[.int .i64 rx, .int .i64 ry] := by rw [hW3]; exact ((BlkS.new _ _ _).alloc _).alloc _
 have h1 : BlkS W3 (w.heap.size + 1) 37 #[.int .i64 ax, .int .i64 ay] := by rw [hW3]; exact (BlkS.new2 _ _ _ _).alloc _
 have h2 : BlkS W3 (w.heap.size + 1 + 1) 39 #[.int .i64 sh, .bool fl, .int .i64 qu, .int .i64 x, .int .i64 y] := by rw [hW3]; exact BlkS.new3 _ _ _ _ _
 have hbw : Below w.heap.size w W3 := by rw [hW3]; exact (Bl.alloc (Bl.alloc (Bl.alloc Br _) _) _)
 have H0 := Hj h0
 have H1 := Hj h1
 have H2 := Hj h2
 have HBW := Hj hbw
 subst hW3
 clear h0 h1 h2 hbw
 by_cases ho : outB 1048576 (ax, ay) = true
 ·have hm : matW rx ry (ax, ay) ⟨sh, fl, qu, x, y⟩ = false := by unfold matW; rw [ho]; rfl
  have HMM := Hj hm
  clear hm
  go_enter Tryz.func77, Tryz.ntmps77
  go_wp2_with (go_at_call 73; refine (pbeyond_any _ _ _).mono ?_; rintro e w1 ⟨rfl, hb1⟩)
  go_ret
  exact ⟨ret_bool HMM.out.symm, Bl.call HBW.out hb1⟩
 ·have ho' : outB 1048576 (ax, ay) = false := by simpa using ho
  clear ho
  obtain ⟨im, him⟩ : ∃ im, applyW fl qu (ax, ay) = im := ⟨_, rfl⟩
  obtain ⟨ix, iy⟩ := im
  have HIM := Hj him
  have hm : matW rx ry (ax, ay) ⟨sh, fl, qu, x, y⟩ = (!outB 1048576 (wrap64 (ix + x), wrap64 (iy + y)) && sameW rx ry (wrap64 (ix + x)) (wrap64 (iy + y)) 0 0) := by unfold matW; rw [ho', him]; rfl
  have HMM := Hj hm
  clear hm him
  by_cases ho2 : outB 1048576 (wrap64 (ix + x), wrap64 (iy + y)) = true
  ·have tok : True := trivial
   go_enter Tryz.func77, Tryz.ntmps77
   go_wp2_with (first | (go_at_call 94; refine (apply_any _ _ _ _ _).mono ?_; rintro e w2 ⟨rfl, hb2⟩; rw [HIM.out]; have k12 := k11.keep hb2; have k22 := k21.keep hb2; have k02 := k01.keep hb2; obtain ⟨c1, c2, c3, c4, c5, c6⟩ := k22.cells5; obtain ⟨n1, n2, n3, n4, n5⟩ := k02.cells2) | (go_at_call 73; first | (have _t := tok; refine (pbeyond_any _ _ _).mono ?_; rintro e w1 ⟨rfl, hb1⟩; clear tok; have k11 := H1.out.keep hb1; have k21 := H2.out.keep hb1; have k01 := H0.out.keep hb1; obtain ⟨a1, a2, a3, a4, a5⟩ := k11.cells2; obtain ⟨b1, b2, b3, b4, b5, b6⟩ := k21.cells5) | (refine (pbeyond_any _ _ _).mono ?_; rintro e w3 ⟨rfl, hb3⟩)))
   go_ret
   exact ⟨ret_bool (by rw [HMM.out, ho2]; rfl), Bl.call (Bl.alloc (Bl.call (Bl.call HBW.out hb1) hb2) _) hb3⟩
  ·have ho3 : outB 1048576 (wrap64 (ix + x), wrap64 (iy + y)) = false := by simpa using ho2
   clear ho2
   have tok : True := trivial
   go_enter Tryz.func77, Tryz.ntmps77
   go_wp2_with (first | (go_at_call 94; refine (apply_any _ _ _ _ _).mono ?_; rintro e w2 ⟨rfl, hb2⟩; rw [HIM.out]; have k12 := k11.keep hb2; have k22 := k21.keep hb2; have k02 := k01.keep hb2; obtain ⟨c1, c2, c3, c4, c5, c6⟩ := k22.cells5; obtain ⟨n1, n2, n3, n4, n5⟩ := k02.cells2) | (go_at_call 73; first | (have _t := tok; refine (pbeyond_any _ _ _).mono ?_; rintro e w1 ⟨rfl, hb1⟩; clear tok; have k11 := H1.out.keep hb1; have k21 := H2.out.keep hb1; have k01 := H0.out.keep hb1; obtain ⟨a1, a2, a3, a4, a5⟩ := k11.cells2; obtain ⟨b1, b2, b3, b4, b5, b6⟩ := k21.cells5) | (refine (pbeyond_any _ _ _).mono ?_; rintro e w3 ⟨rfl, hb3⟩; have k03 := (k02.alloc _).keep hb3; have k33 := BlkS.keep (BlkS.new w2 37 #[.int .i64 (wrap64 (ix + x)), .int .i64 (wrap64 (iy + y))]) hb3; obtain ⟨m1, m2, m3, m4, m5⟩ := k03.cells2; obtain ⟨r1, r2, r3, r4, r5⟩ := k33.cells2)) | (go_at_call 109; refine (same_any _ _ _ _ _ _ _).mono ?_; rintro e w4 ⟨rfl, hb4⟩))
   go_ret
   exact ⟨ret_bool (by rw [HMM.out, ho3]; rfl), Bl.call (Bl.call (Bl.alloc (Bl.call (Bl.call HBW.out hb1) hb2) _) hb3) hb4⟩
end
section
set_option maxRecDepth 100000
open Go.RowKit
structure Bed4 where
 len : Int
 wid : Int
 rx : Int
 ry : Int
def bedV (b : Bed4) : Value := .agg #[.int .i64 b.len, .int .i64 b.wid, .int .i64 b.rx, .int .i64 b.ry]
def bedBad (b : Bed4) : Bool := decide (b.len < 1) || decide (b.len > 1048576) || decide (b.wid < 1) || decide (b.wid > 1048576)
def outBed (b : Bed4) (v : Int × Int) : Bool := decide (v.1 < 0) || decide (v.1 > b.len) || decide (v.2 < 0) || decide (v.2 > b.wid)
def fitTo (S : List Shp) (poly : List (Int × Int)) (ps : List Pt5) : Nat → Int
 | 0 => 0
 | k + 1 => if fitTo S poly ps k ≠ 0 then fitTo S poly ps k else if (Xe S (pt ps k)).1 ≠ 0 then (Xe S (pt ps k)).1 else if (overW (Xe S (pt ps k)).2 poly).2 ≠ 0 then (overW (Xe S (pt ps k)).2 poly).2 else if (overW (Xe S (pt ps k)).2 poly).1 then 14 else 0
def fitIn (b : Bed4) (S : List Shp) (ps : List Pt5) (p : Pt5) (s : Shp) (r : List (Int × Int)) : Int :=
 if alwW s.grain false p.fl p.qu = false then 12 else if AnyB (fun i => outBed b (gt r i)) r.length then 13 else if s.mat && !matW b.rx b.ry s.anc p then 15 else fitTo S r ps ps.length
def fitsW (b : Bed4) (S : List Shp) (ps : List Pt5) (p : Pt5) : Int :=
 if bedBad b then 3 else if (Xe S p).1 ≠ 0 then (Xe S p).1 else fitIn b S ps p (shp S p.sh.toNat) (Xe S p).2
theorem fitTo_bad {S : List Shp} {poly : List (Int × Int)} {ps : List Pt5} {k : Nat} {x : Int} (h : fitTo S poly ps k = x) (hx : x ≠ 0) : ∀ m, fitTo S poly ps (k + m) = x := by
 intro m
 induction m with
 | zero => exact h
 | succ m ih => rw [← Nat.add_assoc, fitTo, if_pos (by rw [ih]; exact hx)]; exact ih
theorem polyW_len (S : List Shp) (p : Pt5) : (Xe S p).2.length ≤ 40 := by
 unfold Xe
 split
 ·simp
 ·unfold polyIn
  split
  ·simp
  ·split
   ·simp
   ·rename_i h _
    show (movW _ _).length ≤ 40
    rw [movW_len, tpolW_len]
    exact (check_len (by simpa using h)).2
theorem polyW_sh {S : List Shp} {p : Pt5} (h : (Xe S p).1 = 0) : ∃ k : Nat, p.sh = (k : Int) ∧ k < S.length ∧ p.sh.toNat = k := by
 unfold Xe at h
 split at h
 ·cases h
 ·rename_i hh
  simp only [not_or] at hh
  exact ⟨p.sh.toNat, by omega, by omega, rfl⟩
set_option maxHeartbeats 1000000 in
theorem fits_1 (A1 A2 : Option Addr) (c1 c2 n1 n2 : Nat) (b : Bed4) (S : List Shp) (ps : List Pt5) (p : Pt5) (w : World) (hb : bedBad b = true) :
 Calls Tryz.prog 42 #[bedV b, .slice A1 n1 c1, .slice A2 n2 c2, putV p] w fun e w' => e = .returned (.int .i64 3) ∧ Below w.heap.size w w' := by
 obtain ⟨sh, fl, qu, x, y⟩ := p
 obtain ⟨len, wid, rx, ry⟩ := b
 unfold putV bedV
 unfold bedBad at hb
 simp only [Bool.or_eq_true, decide_eq_true_eq] at hb
 dsimp only at hb ⊢
 go_enter Tryz.func42, Tryz.ntmps42
 go_upto_region 3 with fail
 all_goals first
  | (go_ret; exact ⟨rfl, (Bl.alloc (Bl.alloc Br _) _)⟩)
  | (exfalso; omega)
set_option maxHeartbeats 1000000 in
theorem fits_2 (A1 A2 : Option Addr) (c1 c2 n1 n2 : Nat) (b : Bed4) (S : List Shp) (ps : List Pt5) (p : Pt5) (w : World) (hS : ShS w A1 n1 S) (hb : bedBad b = false) (hp : ¬ (Xe S p).1 = 0) :
 Calls Tryz.prog 42 #[bedV b, .slice A1 n1 c1, .slice A2 n2 c2, putV p] w fun e w' => e = .returned (.int .i64 (Xe S p).1) ∧ Below w.heap.size w w' := by
 have hp' : ((Xe S p).1 != 0) = true := by simpa using hp
 clear hp
 obtain ⟨len, wid, rx, ry⟩ := b
 unfold bedBad at hb
 simp only [Bool.or_eq_false_iff, decide_eq_false_iff_not] at hb
 obtain ⟨r, hr⟩ : ∃ r, Xe S p = r := ⟨_, rfl⟩
 rw [hr] at hp' ⊢
 have HR := Hj hr
 clear hr
 obtain ⟨r1, r2⟩ := r
 dsimp only at hp' ⊢
 obtain ⟨sh, fl, qu, x, y⟩ := p
 unfold putV bedV
 dsimp only
 go_enter Tryz.func42, Tryz.ntmps42
 go_wp2_with (go_at_call 40; refine (ppoly_any _ _ _ S ⟨sh, fl, qu, x, y⟩ _ (hS.keep (Bl.alloc (Bl.alloc Br _) _))).mono ?_; rintro e w1 ⟨v1, rfl, ho1, hb1⟩; rw [HR.out])
 go_ret
 exact ⟨rfl, Bl.call (Bl.alloc (Bl.alloc Br _) _) hb1⟩
set_option maxHeartbeats 2000000 in
theorem fits_3 (A1 A2 : Option Addr) (c1 c2 n1 n2 : Nat) (b : Bed4) (S : List Shp) (ps : List Pt5) (p : Pt5) (w : World) (hn2 : n2 ≤ 1000000) (hS : ShS w A1 n1 S) (hPu : PuS w A2 n2 ps) (hb : bedBad b = false) (hp : (Xe S p).1 = 0) :
 Calls Tryz.prog 42 #[bedV b, .slice A1 n1 c1, .slice A2 n2 c2, putV p] w fun e w' => e = .returned (.int .i64 (fitIn b S ps p (shp S p.sh.toNat) (Xe S p).2)) ∧ Below w.heap.size w w' := by
 obtain ⟨k, hk, hkn, hkt⟩ := polyW_sh hp
 rw [hkt]
 clear hkt
 obtain ⟨len, wid, rx, ry⟩ := b
 unfold bedBad at hb
 simp only [Bool.or_eq_false_iff, decide_eq_false_iff_not] at hb
 have hrl := polyW_len S p
 obtain ⟨r, hr⟩ : ∃ r, Xe S p = r := ⟨_, rfl⟩
 rw [hr] at hp hrl ⊢
 have HR := Hj hr
 clear hr
 obtain ⟨r1, r⟩ := r
 dsimp only at hp hrl ⊢
 subst hp
 obtain ⟨sh, fl, qu, x, y⟩ := p
 dsimp only at hk
 subst hk
 have hn1 : k < n1 := by rw [← hS.1]; exact hkn
 have hn1' := hS.2.1
 clear hkn
 obtain ⟨ba, oa, rfl, hbl, Ak, ck, g1, g2, g3, g4, g5, g6, g7, g8, g9⟩ := hS.at_ hn1
 obtain ⟨s, hs⟩ : ∃ s, shp S k = s := ⟨_, rfl⟩
 rw [hs] at g1 g2 g4 g6 g7 g8 g9 ⊢
 have HSH := Hj hs
 clear hs
 obtain ⟨pl, gr, mt, ⟨ax, ay⟩⟩ := s
 dsimp only at g1 g2 g4 g6 g7 g8 g9
 obtain ⟨npl, hnpl⟩ : ∃ npl, pl.length = npl := ⟨_, rfl⟩
 rw [hnpl] at g1 g2 g4
 clear hnpl g4 g2
 unfold putV bedV
 dsimp only
 obtain ⟨bed, hbed⟩ : ∃ bed : Bed4, bed = ⟨len, wid, rx, ry⟩ := ⟨_, rfl⟩
 obtain ⟨pp, hpp⟩ : ∃ pp : Pt5, pp = ⟨(k : Int), fl, qu, x, y⟩ := ⟨_, rfl⟩
 obtain ⟨RES, hres⟩ : ∃ RES, fitIn ⟨len, wid, rx, ry⟩ S ps ⟨(k : Int), fl, qu, x, y⟩ ⟨pl, gr, mt, (ax, ay)⟩ r = RES := ⟨_, rfl⟩
 rw [hres]
 have HRES := Hj (show RES = if alwW gr false fl qu = false then 12 else if AnyB (fun i => outBed ⟨len, wid, rx, ry⟩ (gt r i)) r.length then 13 else if mt && !matW rx ry (ax, ay) ⟨(k : Int), fl, qu, x, y⟩ then 15 else fitTo S r ps ps.length from hres.symm)
 clear hres
 obtain ⟨W2, hW2⟩ : ∃ W2, W2 = ((w.alloc (.cells #[.int .i64 len, .int .i64 wid, .int .i64 rx, .int .i64 ry] 25)).alloc (.cells #[.int .i64 (k : Int), .bool fl, .int .i64 qu, .int .i64 x, .int .i64 y] 39)) := ⟨_, rfl⟩
 have h0 : BlkS W2 w.heap.size 25 #[.int .i64 len, .int .i64 wid, .int .i64 rx, .int .i64 ry] := by rw [hW2]; exact (BlkS.new _ _ _).alloc _
 have h1 : BlkS W2 (w.heap.size + 1) 39 #[.int .i64 (k : Int), .bool fl, .int .i64 qu, .int .i64 x, .int .i64 y] := by rw [hW2]; exact BlkS.new2 _ _ _ _
 have hbw : Below w.heap.size w W2 := by rw [hW2]; exact (Bl.alloc (Bl.alloc Br _) _)
 have H0 := Hj h0
 have H1 := Hj h1
 have HBW := Hj hbw
 subst hW2
 clear h0 h1 hbw hbed hpp
 by_cases ha : alwW gr false fl qu = true
 ·rw [if_neg (by rw [ha]; simp)] at HRES
  go_enter Tryz.func42, Tryz.ntmps42
  go_upto_region 9 with (first | (go_at_call 40; refine (ppoly_any _ _ _ S ⟨(k : Int), fl, qu, x, y⟩ _ (hS.keep HBW.out)).mono ?_; rintro e w1 ⟨v1, rfl, ho1, hb1⟩; rw [HR.out] at ho1 ⊢; have k01 := H0.out.keep hb1; have k11 := H1.out.keep hb1; obtain ⟨a1, a2, a3, a4, a5⟩ := k01.cells4; obtain ⟨b1, b2, b3, b4, b5, b6⟩ := k11.cells5; have hbb := Bl.call HBW.out hb1; have e1 := Xa hbb g1; have e2 := Xa hbb g6; have e3 := Xa hbb g7; have e4 := Xa hbb g8; have e5 := Xa hbb g9) | (go_at_call 72; refine (allowed_any _ _ _ _ _).mono ?_; rintro e w2 ⟨rfl, hb2⟩))
  have hbA : Below w.heap.size w w2 := Bl.call (Bl.alloc hbb _) hb2
  have K0 := (k01.alloc _).keep hb2
  have K1 := (k11.alloc _).keep hb2
  have K2 := (BlkS.new w1 49 #[.slice Ak npl ck, .int .i64 gr, .bool mt, .int .i64 ax, .int .i64 ay]).keep hb2
  have ho2 := OwG.keep (OwG.alloc ho1 (.cells #[.slice Ak npl ck, .int .i64 gr, .bool mt, .int .i64 ax, .int .i64 ay] 49)) hb2
  obtain ⟨B11, hB11⟩ : ∃ B11, B11 = w1.heap.size := ⟨_, rfl⟩
  rw [← hB11] at K2 ⊢
  obtain ⟨A9, c9, rfl, hc9, hS9, -, -⟩ := OwS.els ho2
  have hSA := hS.keep hbA
  have hPA := hPu.keep hbA
  have HK0 := Hj K0
  have HK1 := Hj K1
  have HK2 := Hj K2
  clear ho1 ho2 a1 a2 a3 a4 a5 b1 b2 b3 b4 b5 b6 e1 e2 e3 e4 e5 k01 k11 hb1 hb2 hbb hB11 K0 K1 K2 g1 g6 g7 g8 g9 hbl hS hPu H0 H1 HBW
  obtain ⟨nr, hnr⟩ : ∃ nr, r.length = nr := ⟨_, rfl⟩
  rw [hnr] at hc9 hS9 hrl HRES ⊢
  clear hnr
  go_wp2_with fail
  go_loopw [59] (fun i wr => ∃ j : Nat, j ≤ nr ∧ i = .int .i64 j ∧ Hid (AnyB (fun i => outBed ⟨len, wid, rx, ry⟩ (gt r i)) j = false) ∧ Below w2.heap.size w2 wr) (fun i _ => nr - (intOf i).toNat)
  case atStart => exact ⟨0, Nat.zero_le _, rfl, Hj (AnyB.zero _), Below.refl _ _⟩
  case round =>
   obtain ⟨j, hj, rfl, hp, hbr⟩ := hrel
   obtain ⟨a1, a2, a3, a4, a5⟩ := (HK0.out.keep hbr).cells4
   by_cases hlt : j < nr
   ·obtain ⟨bb, ob, rfl, hbl, hc⟩ := (hS9.keep hbr).at_ hlt
    obtain ⟨d1, d2⟩ := hc j hlt
    clear hc a3 a4
    by_cases hq : outBed ⟨len, wid, rx, ry⟩ (gt r j) = true
    ·have HQ := Hj hq
     unfold outBed at hq
     simp only [Bool.or_eq_true, decide_eq_true_eq] at hq
     rw [if_pos (AnyB.yes hlt HQ.out)] at HRES
     go_wp2_with fail
     all_goals first
      | (go_ret; exact ⟨ret_int HRES.out.symm, Bl.call hbA (Bl.alloc hbr _)⟩)
      | (exfalso; omega)
    ·have HQ := Hj (show outBed ⟨len, wid, rx, ry⟩ (gt r j) = false by simpa using hq)
     unfold outBed at hq
     simp only [Bool.or_eq_true, decide_eq_true_eq, not_or] at hq
     go_wp2_with fail
     all_goals first
      | exact ⟨⟨j + 1, by omega, by go_num, Hj (AnyB.succ hp.out HQ.out), Bl.alloc hbr _⟩, by simp [intOf]; omega⟩
      | (exfalso; omega)
   ·obtain rfl : nr = j := by omega
    rw [if_neg (by rw [hp.out]; simp)] at HRES
    obtain ⟨b1, b2, b3, b4, b5, b6⟩ := (HK1.out.keep hbr).cells5
    obtain ⟨e1, e2, e3, e4, e5, e6⟩ := (HK2.out.keep hbr).cells5
    cases mt with
    | true =>
      rw [Bool.true_and] at HRES
      by_cases hm : matW rx ry (ax, ay) ⟨(k : Int), fl, qu, x, y⟩ = true
      ·rw [hm, if_neg (by simp)] at HRES
       go_wp2_with (go_at_call 77; refine (matches_any _ _ _ _ ⟨(k : Int), fl, qu, x, y⟩ _).mono ?_; rintro e w3 ⟨rfl, hb3⟩)
       clear a1 a2 a3 a4 a5 b1 b2 b3 b4 b5 b6 e1 e2 e3 e4 e5 e6
       go_loopw [99] (fun i wx => ∃ j : Nat, j ≤ n2 ∧ i = .int .i64 j ∧ Hid (fitTo S r ps j = 0) ∧ Below w2.heap.size w2 wx) (fun i _ => n2 - (intOf i).toNat)
       case atStart => exact ⟨0, Nat.zero_le _, rfl, Hj rfl, Bl.call hbr hb3⟩
       case round =>
        clear hbr hb3
        obtain ⟨j, hj, rfl, hp, hbr⟩ := hrel
        by_cases hlt2 : j < n2
        ·obtain ⟨bb, ob, rfl, hbl, d1, d2, d3, d4, d5⟩ := (hPA.keep hbr).at_ hlt2
         have hql := polyW_len S (pt ps j)
         have hstep := Hj (show fitTo S r ps (j + 1) = if (Xe S (pt ps j)).1 ≠ 0 then (Xe S (pt ps j)).1 else if (overW (Xe S (pt ps j)).2 r).2 ≠ 0 then (overW (Xe S (pt ps j)).2 r).2 else if (overW (Xe S (pt ps j)).2 r).1 then 14 else 0 by rw [fitTo, if_neg (by rw [hp.out]; simp)])
         obtain ⟨qq, hqq⟩ : ∃ qq, Xe S (pt ps j) = qq := ⟨_, rfl⟩
         rw [hqq] at hql hstep
         have HQQ := Hj hqq
         clear hqq
         obtain ⟨q1, q⟩ := qq
         dsimp only at hql hstep
         obtain ⟨pq, hpt⟩ : ∃ pq, pt ps j = pq := ⟨_, rfl⟩
         rw [hpt] at d1 d2 d3 d4 d5 HQQ
         clear hpt
         obtain ⟨sh2, fl2, qu2, x2, y2⟩ := pq
         dsimp only at d1 d2 d3 d4 d5
         by_cases hq1 : q1 = 0
         ·subst hq1
          rw [if_neg (by simp)] at hstep
          by_cases ho1 : (overW q r).2 = 0
          ·rw [if_neg (by rw [ho1]; simp)] at hstep
           by_cases ho2 : (overW q r).1 = true
           ·rw [if_pos ho2] at hstep
            have hbad := fitTo_bad hstep.out (by omega) (n2 - (j + 1))
            rw [show j + 1 + (n2 - (j + 1)) = n2 by omega] at hbad
            rw [hPA.1, hbad] at HRES
            clear hbad
            go_wp2_with (first | (go_at_call 40; refine (ppoly_any _ _ _ S ⟨sh2, fl2, qu2, x2, y2⟩ _ (hSA.keep (Bl.alloc hbr _))).mono ?_; rintro e w5 ⟨v5, rfl, ho5, hb5⟩; rw [HQQ.out] at ho5 ⊢; obtain ⟨A5, c5, rfl, hc5, hS5, -, -⟩ := OwS.els ho5) | (go_at_call 78; refine (overlap_any _ _ _ _ _ _ q r _ (by omega) (by omega) hc5 hc9 hS5 (hS9.keep (Bl.call (Bl.alloc hbr _) hb5))).mono ?_; rintro e w6 ⟨rfl, hb6⟩))
            go_ret
            exact ⟨ret_int HRES.out.symm, Bl.call hbA (Bl.call (Bl.call (Bl.alloc hbr _) hb5) hb6)⟩
           ·have ho2' : (overW q r).1 = false := by simpa using ho2
            rw [if_neg ho2] at hstep
            clear ho2
            go_wp2_with (first | (go_at_call 40; refine (ppoly_any _ _ _ S ⟨sh2, fl2, qu2, x2, y2⟩ _ (hSA.keep (Bl.alloc hbr _))).mono ?_; rintro e w5 ⟨v5, rfl, ho5, hb5⟩; rw [HQQ.out] at ho5 ⊢; obtain ⟨A5, c5, rfl, hc5, hS5, -, -⟩ := OwS.els ho5) | (go_at_call 78; refine (overlap_any _ _ _ _ _ _ q r _ (by omega) (by omega) hc5 hc9 hS5 (hS9.keep (Bl.call (Bl.alloc hbr _) hb5))).mono ?_; rintro e w6 ⟨rfl, hb6⟩))
            exact ⟨⟨j + 1, by omega, by go_num, hstep, Bl.call (Bl.call (Bl.alloc hbr _) hb5) hb6⟩, by simp [intOf]; omega⟩
          ·have qo : ((overW q r).2 != 0) = true := by simpa using ho1
           rw [if_pos ho1] at hstep
           have hbad := fitTo_bad hstep.out ho1 (n2 - (j + 1))
           rw [show j + 1 + (n2 - (j + 1)) = n2 by omega] at hbad
           rw [hPA.1, hbad] at HRES
           clear hbad ho1
           go_wp2_with (first | (go_at_call 40; refine (ppoly_any _ _ _ S ⟨sh2, fl2, qu2, x2, y2⟩ _ (hSA.keep (Bl.alloc hbr _))).mono ?_; rintro e w5 ⟨v5, rfl, ho5, hb5⟩; rw [HQQ.out] at ho5 ⊢; obtain ⟨A5, c5, rfl, hc5, hS5, -, -⟩ := OwS.els ho5) | (go_at_call 78; refine (overlap_any _ _ _ _ _ _ q r _ (by omega) (by omega) hc5 hc9 hS5 (hS9.keep (Bl.call (Bl.alloc hbr _) hb5))).mono ?_; rintro e w6 ⟨rfl, hb6⟩))
           go_ret
           exact ⟨ret_int HRES.out.symm, Bl.call hbA (Bl.call (Bl.call (Bl.alloc hbr _) hb5) hb6)⟩
         ·have qo : (q1 != 0) = true := by simpa using hq1
          rw [if_pos hq1] at hstep
          have hbad := fitTo_bad hstep.out hq1 (n2 - (j + 1))
          rw [show j + 1 + (n2 - (j + 1)) = n2 by omega] at hbad
          rw [hPA.1, hbad] at HRES
          clear hbad hq1
          go_wp2_with (go_at_call 40; refine (ppoly_any _ _ _ S ⟨sh2, fl2, qu2, x2, y2⟩ _ (hSA.keep (Bl.alloc hbr _))).mono ?_; rintro e w5 ⟨v5, rfl, ho5, hb5⟩; rw [HQQ.out])
          go_ret
          exact ⟨ret_int HRES.out.symm, Bl.call hbA (Bl.call (Bl.alloc hbr _) hb5)⟩
        ·obtain rfl : n2 = j := by omega
         rw [hPA.1, hp.out] at HRES
         go_wp2_with fail
         go_ret
         exact ⟨ret_int HRES.out.symm, Bl.call hbA hbr⟩
      ·have hm' : matW rx ry (ax, ay) ⟨(k : Int), fl, qu, x, y⟩ = false := by simpa using hm
       rw [hm', if_pos (by decide)] at HRES
       clear hm
       go_wp2_with (go_at_call 77; refine (matches_any _ _ _ _ ⟨(k : Int), fl, qu, x, y⟩ _).mono ?_; rintro e w3 ⟨rfl, hb3⟩)
       go_ret
       exact ⟨ret_int HRES.out.symm, Bl.call hbA (Bl.call hbr hb3)⟩
    | false =>
      rw [Bool.false_and, if_neg (by simp)] at HRES
      go_wp2_with fail
      clear a1 a2 a3 a4 a5 b1 b2 b3 b4 b5 b6 e1 e2 e3 e4 e5 e6
      go_loopw [99] (fun i wx => ∃ j : Nat, j ≤ n2 ∧ i = .int .i64 j ∧ Hid (fitTo S r ps j = 0) ∧ Below w2.heap.size w2 wx) (fun i _ => n2 - (intOf i).toNat)
      case atStart => exact ⟨0, Nat.zero_le _, rfl, Hj rfl, hbr⟩
      case round =>
       clear hbr 
       obtain ⟨j, hj, rfl, hp, hbr⟩ := hrel
       by_cases hlt2 : j < n2
       ·obtain ⟨bb, ob, rfl, hbl, d1, d2, d3, d4, d5⟩ := (hPA.keep hbr).at_ hlt2
        have hql := polyW_len S (pt ps j)
        have hstep := Hj (show fitTo S r ps (j + 1) = if (Xe S (pt ps j)).1 ≠ 0 then (Xe S (pt ps j)).1 else if (overW (Xe S (pt ps j)).2 r).2 ≠ 0 then (overW (Xe S (pt ps j)).2 r).2 else if (overW (Xe S (pt ps j)).2 r).1 then 14 else 0 by rw [fitTo, if_neg (by rw [hp.out]; simp)])
        obtain ⟨qq, hqq⟩ : ∃ qq, Xe S (pt ps j) = qq := ⟨_, rfl⟩
        rw [hqq] at hql hstep
        have HQQ := Hj hqq
        clear hqq
        obtain ⟨q1, q⟩ := qq
        dsimp only at hql hstep
        obtain ⟨pq, hpt⟩ : ∃ pq, pt ps j = pq := ⟨_, rfl⟩
        rw [hpt] at d1 d2 d3 d4 d5 HQQ
        clear hpt
        obtain ⟨sh2, fl2, qu2, x2, y2⟩ := pq
        dsimp only at d1 d2 d3 d4 d5
        by_cases hq1 : q1 = 0
        ·subst hq1
         rw [if_neg (by simp)] at hstep
         by_cases ho1 : (overW q r).2 = 0
         ·rw [if_neg (by rw [ho1]; simp)] at hstep
          by_cases ho2 : (overW q r).1 = true
          ·rw [if_pos ho2] at hstep
           have hbad := fitTo_bad hstep.out (by omega) (n2 - (j + 1))
           rw [show j + 1 + (n2 - (j + 1)) = n2 by omega] at hbad
           rw [hPA.1, hbad] at HRES
           clear hbad
           go_wp2_with (first | (go_at_call 40; refine (ppoly_any _ _ _ S ⟨sh2, fl2, qu2, x2, y2⟩ _ (hSA.keep (Bl.alloc hbr _))).mono ?_; rintro e w5 ⟨v5, rfl, ho5, hb5⟩; rw [HQQ.out] at ho5 ⊢; obtain ⟨A5, c5, rfl, hc5, hS5, -, -⟩ := OwS.els ho5) | (go_at_call 78; refine (overlap_any _ _ _ _ _ _ q r _ (by omega) (by omega) hc5 hc9 hS5 (hS9.keep (Bl.call (Bl.alloc hbr _) hb5))).mono ?_; rintro e w6 ⟨rfl, hb6⟩))
           go_ret
           exact ⟨ret_int HRES.out.symm, Bl.call hbA (Bl.call (Bl.call (Bl.alloc hbr _) hb5) hb6)⟩
          ·have ho2' : (overW q r).1 = false := by simpa using ho2
           rw [if_neg ho2] at hstep
           clear ho2
           go_wp2_with (first | (go_at_call 40; refine (ppoly_any _ _ _ S ⟨sh2, fl2, qu2, x2, y2⟩ _ (hSA.keep (Bl.alloc hbr _))).mono ?_; rintro e w5 ⟨v5, rfl, ho5, hb5⟩; rw [HQQ.out] at ho5 ⊢; obtain ⟨A5, c5, rfl, hc5, hS5, -, -⟩ := OwS.els ho5) | (go_at_call 78; refine (overlap_any _ _ _ _ _ _ q r _ (by omega) (by omega) hc5 hc9 hS5 (hS9.keep (Bl.call (Bl.alloc hbr _) hb5))).mono ?_; rintro e w6 ⟨rfl, hb6⟩))
           exact ⟨⟨j + 1, by omega, by go_num, hstep, Bl.call (Bl.call (Bl.alloc hbr _) hb5) hb6⟩, by simp [intOf]; omega⟩
         ·have qo : ((overW q r).2 != 0) = true := by simpa using ho1
          rw [if_pos ho1] at hstep
          have hbad := fitTo_bad hstep.out ho1 (n2 - (j + 1))
          rw [show j + 1 + (n2 - (j + 1)) = n2 by omega] at hbad
          rw [hPA.1, hbad] at HRES
          clear hbad ho1
          go_wp2_with (first | (go_at_call 40; refine (ppoly_any _ _ _ S ⟨sh2, fl2, qu2, x2, y2⟩ _ (hSA.keep (Bl.alloc hbr _))).mono ?_; rintro e w5 ⟨v5, rfl, ho5, hb5⟩; rw [HQQ.out] at ho5 ⊢; obtain ⟨A5, c5, rfl, hc5, hS5, -, -⟩ := OwS.els ho5) | (go_at_call 78; refine (overlap_any _ _ _ _ _ _ q r _ (by omega) (by omega) hc5 hc9 hS5 (hS9.keep (Bl.call (Bl.alloc hbr _) hb5))).mono ?_; rintro e w6 ⟨rfl, hb6⟩))
          go_ret
          exact ⟨ret_int HRES.out.symm, Bl.call hbA (Bl.call (Bl.call (Bl.alloc hbr _) hb5) hb6)⟩
        ·have qo : (q1 != 0) = true := by simpa using hq1
         rw [if_pos hq1] at hstep
         have hbad := fitTo_bad hstep.out hq1 (n2 - (j + 1))
         rw [show j + 1 + (n2 - (j + 1)) = n2 by omega] at hbad
         rw [hPA.1, hbad] at HRES
         clear hbad hq1
         go_wp2_with (go_at_call 40; refine (ppoly_any _ _ _ S ⟨sh2, fl2, qu2, x2, y2⟩ _ (hSA.keep (Bl.alloc hbr _))).mono ?_; rintro e w5 ⟨v5, rfl, ho5, hb5⟩; rw [HQQ.out])
         go_ret
         exact ⟨ret_int HRES.out.symm, Bl.call hbA (Bl.call (Bl.alloc hbr _) hb5)⟩
       ·obtain rfl : n2 = j := by omega
        rw [hPA.1, hp.out] at HRES
        go_wp2_with fail
        go_ret
        exact ⟨ret_int HRES.out.symm, Bl.call hbA hbr⟩
 ·have ha' : alwW gr false fl qu = false := by simpa using ha
  rw [if_pos ha'] at HRES
  clear ha
  go_enter Tryz.func42, Tryz.ntmps42
  go_wp2_with (first | (go_at_call 40; refine (ppoly_any _ _ _ S ⟨(k : Int), fl, qu, x, y⟩ _ (hS.keep HBW.out)).mono ?_; rintro e w1 ⟨v1, rfl, ho1, hb1⟩; rw [HR.out] at ho1 ⊢; have k01 := H0.out.keep hb1; have k11 := H1.out.keep hb1; obtain ⟨a1, a2, a3, a4, a5⟩ := k01.cells4; obtain ⟨b1, b2, b3, b4, b5, b6⟩ := k11.cells5; have hbb := Bl.call HBW.out hb1; have e1 := Xa hbb g1; have e2 := Xa hbb g6; have e3 := Xa hbb g7; have e4 := Xa hbb g8; have e5 := Xa hbb g9) | (go_at_call 72; refine (allowed_any _ _ _ _ _).mono ?_; rintro e w2 ⟨rfl, hb2⟩))
  go_ret
  exact ⟨ret_int HRES.out.symm, Bl.call (Bl.alloc (Bl.call HBW.out hb1) _) hb2⟩
theorem fits_any (A1 A2 : Option Addr) (c1 c2 n1 n2 : Nat) (b : Bed4) (S : List Shp) (ps : List Pt5) (p : Pt5) (w : World) (hn2 : n2 ≤ 1000000) (hS : ShS w A1 n1 S) (hPu : PuS w A2 n2 ps) :
 Calls Tryz.prog 42 #[bedV b, .slice A1 n1 c1, .slice A2 n2 c2, putV p] w fun e w' => e = .returned (.int .i64 (fitsW b S ps p)) ∧ Below w.heap.size w w' := by
 by_cases hb : bedBad b = true
 ·rw [show fitsW b S ps p = 3 by unfold fitsW; rw [if_pos hb]]
  exact fits_1 A1 A2 c1 c2 n1 n2 b S ps p w hb
 ·by_cases hp : (Xe S p).1 = 0
  ·rw [show fitsW b S ps p = fitIn b S ps p (shp S p.sh.toNat) (Xe S p).2 by unfold fitsW; rw [if_neg hb, if_neg (by rw [hp]; simp)]]
   exact fits_3 A1 A2 c1 c2 n1 n2 b S ps p w hn2 hS hPu (by simpa using hb) hp
  ·rw [show fitsW b S ps p = (Xe S p).1 by unfold fitsW; rw [if_neg hb, if_pos hp]]
   exact fits_2 A1 A2 c1 c2 n1 n2 b S ps p w hS (by simpa using hb) hp
end
section
set_option maxRecDepth 100000
open Go.RowKit
def setlW (rx ry : Int) (s : Shp) (fl : Bool) (qu : Int) (p : Int × Int) : Option (Int × Int) :=
 if s.mat then
  if outB 1048576 s.anc then none
  else if outB 1048576 (addS (applyW fl qu s.anc) p) then none
  else some (wrap64 ((snextW rx ry (addS (applyW fl qu s.anc) p).1 (addS (applyW fl qu s.anc) p).2 0 0).1 - (applyW fl qu s.anc).1), wrap64 ((snextW rx ry (addS (applyW fl qu s.anc) p).1 (addS (applyW fl qu s.anc) p).2 0 0).2 - (applyW fl qu s.anc).2))
 else some p
def optV (o : Option (Int × Int)) : Value := .tuple #[.agg #[.int .i64 (o.getD (0, 0)).1, .int .i64 (o.getD (0, 0)).2], .bool o.isSome]
set_option maxHeartbeats 1000000 in
theorem settle_any (rx ry : Int) (Ak : Option Addr) (nk ck : Nat) (pl : List (Int × Int)) (gr : Int) (mt : Bool) (ax ay : Int) (fl : Bool) (qu x y : Int) (w : World) :
 Calls Tryz.prog 60 #[.agg #[.int .i64 rx, .int .i64 ry], .agg #[.slice Ak nk ck, .int .i64 gr, .bool mt, .int .i64 ax, .int .i64 ay], .agg #[.bool fl, .int .i64 qu], .agg #[.int .i64 x, .int .i64 y]] w fun e w' => e = .returned (optV (setlW rx ry ⟨pl, gr, mt, (ax, ay)⟩ fl qu (x, y))) ∧ Below w.heap.size w w' := by
 obtain ⟨W5, hW5⟩ : ∃ W5, W5 = (((((w.alloc (.cells #[.int .i64 rx, .int .i64 ry] 23)).alloc (.cells #[.slice Ak nk ck, .int .i64 gr, .bool mt, .int .i64 ax, .int .i64 ay] 49)).alloc (.cells #[.bool fl, .int .i64 qu] 29)).alloc (.cells #[.int .i64 x, .int .i64 y] 37)).alloc (.cells #[.int .i64 0, .int .i64 0] 37)) := ⟨_, rfl⟩
 have h0 : BlkS W5 w.heap.size 23 #[.int .i64 rx, .int .i64 ry] := by rw [hW5]; exact ((((BlkS.new _ _ _).alloc _).alloc _).alloc _).alloc _
 have h1 : BlkS W5 (w.heap.size + 1) 49 #[.slice Ak nk ck, .int .i64 gr, .bool mt, .int .i64 ax, .int .i64 ay] := by rw [hW5]; exact (((BlkS.new2 _ _ _ _).alloc _).alloc _).alloc _
 have h2 : BlkS W5 (w.heap.size + 1 + 1) 29 #[.bool fl, .int .i64 qu] := by rw [hW5]; exact ((BlkS.new3 _ _ _ _ _).alloc _).alloc _
 have h3 : BlkS W5 (w.heap.size + 1 + 1 + 1) 37 #[.int .i64 x, .int .i64 y] := by
  rw [hW5]
  have := (BlkS.new (((w.alloc (.cells #[.int .i64 rx, .int .i64 ry] 23)).alloc (.cells #[.slice Ak nk ck, .int .i64 gr, .bool mt, .int .i64 ax, .int .i64 ay] 49)).alloc (.cells #[.bool fl, .int .i64 qu] 29)) 37 #[.int .i64 x, .int .i64 y]).alloc (.cells #[.int .i64 0, .int .i64 0] 37)
  simpa using this
 have h4 : BlkS W5 (w.heap.size + 1 + 1 + 1 + 1) 37 #[.int .i64 0, .int .i64 0] := by
  rw [hW5]
  have := BlkS.new ((((w.alloc (.cells #[.int .i64 rx, .int .i64 ry] 23)).alloc (.cells #[.slice Ak nk ck, .int .i64 gr, .bool mt, .int .i64 ax, .int .i64 ay] 49)).alloc (.cells #[.bool fl, .int .i64 qu] 29)).alloc (.cells #[.int .i64 x, .int .i64 y] 37)) 37 #[.int .i64 0, .int .i64 0]
  simpa using this
 have hbw : Below w.heap.size w W5 := by rw [hW5]; exact (Bl.alloc (Bl.alloc (Bl.alloc (Bl.alloc (Bl.alloc Br _) _) _) _) _)
 have H0 := Hj h0
 have H1 := Hj h1
 have H2 := Hj h2
 have H3 := Hj h3
 have H4 := Hj h4
 have HBW := Hj hbw
 subst hW5
 clear h0 h1 h2 h3 h4 hbw
 cases mt with
 | false =>
   go_enter Tryz.func60, Tryz.ntmps60
   go_wp2_with fail
   exact bodyPost_ret (v := .tuple #[.agg #[.int .i64 x, .int .i64 y], .bool true]) (by simp [results, Tryz.results60, go_sem]) rfl ⟨rfl, (Bl.alloc (Bl.alloc (Bl.alloc (Bl.alloc (Bl.alloc Br _) _) _) _) _)⟩
 | true =>
   by_cases ho : outB 1048576 (ax, ay) = true
   ·have HE := Hj (show setlW rx ry ⟨pl, gr, true, (ax, ay)⟩ fl qu (x, y) = none by unfold setlW; dsimp only; rw [if_pos rfl, if_pos ho])
    go_enter Tryz.func60, Tryz.ntmps60
    go_wp2_with (go_at_call 93; refine (fbeyond_any _ _ _).mono ?_; rintro e w1 ⟨rfl, hb1⟩; obtain ⟨a1, a2, a3, a4, a5⟩ := (H4.out.keep hb1).cells2)
    exact bodyPost_ret (v := .tuple #[.agg #[.int .i64 0, .int .i64 0], .bool false]) (by simp [results, Tryz.results60, go_sem, a1, a2]) rfl ⟨by rw [HE.out]; rfl, by have hbb := Bl.call HBW.out hb1; (repeat first | exact hbb | refine Bl.set ?_ (by dsimp only; omega) _)⟩
   ·have ho' : outB 1048576 (ax, ay) = false := by simpa using ho
    clear ho
    obtain ⟨im, him⟩ : ∃ im, applyW fl qu (ax, ay) = im := ⟨_, rfl⟩
    obtain ⟨ix, iy⟩ := im
    have HIM := Hj him
    have hE : setlW rx ry ⟨pl, gr, true, (ax, ay)⟩ fl qu (x, y) = if outB 1048576 (wrap64 (ix + x), wrap64 (iy + y)) = true then none else some (wrap64 ((snextW rx ry (wrap64 (ix + x)) (wrap64 (iy + y)) 0 0).1 - ix), wrap64 ((snextW rx ry (wrap64 (ix + x)) (wrap64 (iy + y)) 0 0).2 - iy)) := by
     unfold setlW; dsimp only; rw [if_pos rfl, if_neg (by rw [ho']; simp), him]; rfl
    have HE := Hj hE
    clear hE him
    by_cases ho2 : outB 1048576 (wrap64 (ix + x), wrap64 (iy + y)) = true
    ·rw [if_pos ho2] at HE
     have tok : True := trivial
     go_enter Tryz.func60, Tryz.ntmps60
     go_wp2_with (first | (go_at_call 94; refine (apply_any _ _ _ _ _).mono ?_; rintro e w2 ⟨rfl, hb2⟩; rw [HIM.out]; have k32 := k31.keep hb2; have k42 := k41.keep hb2; obtain ⟨c1, c2, c3, c4, c5⟩ := k32.cells2; have kk2 := BlkS.lt k42) | (go_at_call 93; first | (have _t := tok; refine (fbeyond_any _ _ _).mono ?_; rintro e w1 ⟨rfl, hb1⟩; clear tok; have k11 := H1.out.keep hb1; have k21 := H2.out.keep hb1; have k31 := H3.out.keep hb1; have k41 := H4.out.keep hb1; obtain ⟨a1, a2, a3, a4, a5, a6⟩ := k11.cells5; obtain ⟨b1, b2, b3, b4, b5⟩ := k21.cells2) | (refine (fbeyond_any _ _ _).mono ?_; rintro e w3 ⟨rfl, hb3⟩; have k43 := ((k42.alloc _).alloc _).keep hb3; obtain ⟨m1, m2, m3, m4, m5⟩ := k43.cells2)))
     exact bodyPost_ret (v := .tuple #[.agg #[.int .i64 0, .int .i64 0], .bool false]) (by simp [results, Tryz.results60, go_sem, m1, m2]) rfl ⟨by rw [HE.out]; rfl, by have hbb := Bl.call (Bl.alloc (Bl.alloc (Bl.call (Bl.call HBW.out hb1) hb2) _) _) hb3; (repeat first | exact hbb | refine Bl.set ?_ (by dsimp only; omega) _)⟩
    ·have ho3 : outB 1048576 (wrap64 (ix + x), wrap64 (iy + y)) = false := by simpa using ho2
     rw [if_neg ho2] at HE
     clear ho2
     obtain ⟨nx, hnx⟩ : ∃ nx, snextW rx ry (wrap64 (ix + x)) (wrap64 (iy + y)) 0 0 = nx := ⟨_, rfl⟩
     rw [hnx] at HE
     have HNX := Hj hnx
     clear hnx
     obtain ⟨nx1, nx2⟩ := nx
     have tok : True := trivial
     go_enter Tryz.func60, Tryz.ntmps60
     go_wp2_with (first | (go_at_call 94; refine (apply_any _ _ _ _ _).mono ?_; rintro e w2 ⟨rfl, hb2⟩; rw [HIM.out]; have k32 := k31.keep hb2; have k42 := k41.keep hb2; have k02 := k01.keep hb2; obtain ⟨c1, c2, c3, c4, c5⟩ := k32.cells2; have kk2 := BlkS.lt k42) | (go_at_call 95; refine (snext_any _ _ _ _ _ _ _).mono ?_; rintro e w4 ⟨rfl, hb4⟩; rw [HNX.out]; have k44 := k43.keep hb4; have k54 := k53.keep hb4; obtain ⟨s1, s2, s3, s4, s5⟩ := k44.cells2; obtain ⟨t1, t2, t3, t4, t5⟩ := k54.cells2) | (go_at_call 93; first | (have _t := tok; refine (fbeyond_any _ _ _).mono ?_; rintro e w1 ⟨rfl, hb1⟩; clear tok; have k11 := H1.out.keep hb1; have k21 := H2.out.keep hb1; have k31 := H3.out.keep hb1; have k41 := H4.out.keep hb1; have k01 := H0.out.keep hb1; obtain ⟨a1, a2, a3, a4, a5, a6⟩ := k11.cells5; obtain ⟨b1, b2, b3, b4, b5⟩ := k21.cells2) | (refine (fbeyond_any _ _ _).mono ?_; rintro e w3 ⟨rfl, hb3⟩; have k43 := ((k42.alloc _).alloc _).keep hb3; have k03 := ((k02.alloc _).alloc _).keep hb3; have k53 := BlkS.keep ((BlkS.new w2 37 #[.int .i64 ix, .int .i64 iy]).alloc _) hb3; have k63 := BlkS.keep (BlkS.new2 w2 _ 37 #[.int .i64 (wrap64 (ix + x)), .int .i64 (wrap64 (iy + y))]) hb3; obtain ⟨m1, m2, m3, m4, m5⟩ := k03.cells2; obtain ⟨n1, n2, n3, n4, n5⟩ := k63.cells2)))
     exact bodyPost_ret (v := .tuple #[.agg #[.int .i64 (wrap64 (nx1 - ix)), .int .i64 (wrap64 (nx2 - iy))], .bool true]) (by simp [results, Tryz.results60, go_sem, s1, s2, s5]) rfl ⟨by rw [HE.out]; rfl, by have hbb := Bl.call (Bl.call (Bl.alloc (Bl.alloc (Bl.call (Bl.call HBW.out hb1) hb2) _) _) hb3) hb4; (repeat first | exact hbb | refine Bl.alloc ?_ _ | refine Bl.set ?_ (by dsimp only; omega) _)⟩
end
end Go.Proofs.YtmdncaoilegnnaaGreat

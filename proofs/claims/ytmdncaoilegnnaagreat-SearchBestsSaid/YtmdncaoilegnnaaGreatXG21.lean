/- Lean texts of the claim. -/
import Derived.Test.YtmdncaoilegnnaaGreatXG19
namespace Go.Proofs.YtmdncaoilegnnaaGreat
set_option linter.unusedVariables false
set_option linter.unusedSimpArgs false
section
set_option maxRecDepth 100000
open Go.RowKit
def cmpE (a b : End6) : Int := orI [cmpI a.right b.right, cmpI a.put.y b.put.y, cmpI a.put.x b.put.x, cmpI a.put.qu b.put.qu]
theorem or4 (b : Nat) (tb : TypeId) (x y z u : Int) (w : World) (h : BlkS w b tb #[.int .i64 x, .int .i64 y, .int .i64 z, .int .i64 u]) :
 Calls Tryz.prog 79 #[.slice (some ⟨b, 0, none⟩) 4 4] w fun e w' => e = .returned (.int .i64 (orI [x, y, z, u])) ∧ w = w' :=
 or_any b 4 4 [x, y, z, u] w rfl (by omega) (fun k v hv => by
  match k, hv with
  | 0, hv => simp at hv; subst hv; exact h.cell 0
  | 1, hv => simp at hv; subst hv; exact h.cell 1
  | 2, hv => simp at hv; subst hv; exact h.cell 2
  | 3, hv => simp at hv; subst hv; exact h.cell 3)
set_option maxHeartbeats 1000000 in
theorem cmpE_any (a b : End6) (w : World) : Calls Tryz.prog 45 #[keyE a, keyE b] w fun e w' => e = .returned (.int .i64 (cmpE a b)) ∧ Below w.heap.size w w' := by
 obtain ⟨⟨a0, a1, a2, a3, a4⟩, a5⟩ := a
 obtain ⟨⟨b0, b1, b2, b3, b4⟩, b5⟩ := b
 unfold keyE
 dsimp only
 go_enter Tryz.func45, Tryz.ntmps45
 go_wp2_with fail
 refine wp_region_tailD 32 (by kernel_rfl) (by kernel_rfl) ?_
 simp only [List.take_succ_cons, List.take_zero, List.drop_succ_cons, List.drop_zero]
 repeat still_step
 still_call (compare_eq _ _ _)
 repeat still_step
 still_call (compare_eq _ _ _)
 repeat still_step
 still_call (compare_eq _ _ _)
 repeat still_step
 still_call (compare_eq _ _ _)
 refine wpStill_nil ?_
 go_wp2_with (go_at_call 79; refine (or4 _ _ _ _ _ _ _ (BlkS.drew (BlkS.new3 _ _ _ _ _))).mono ?_; rintro e w1 ⟨rfl, rfl⟩)
 go_ret
 exact ⟨rfl, Bl.drew (Bl.alloc (Bl.alloc (Bl.alloc Br _) _) _)⟩
def ed (l : List End6) (k : Nat) : End6 := l.getD k ⟨⟨0, false, 0, 0, 0⟩, 0⟩
def leastTo (l : List End6) : Nat → End6
 | 0 => ⟨⟨0, false, 0, 0, 0⟩, 0⟩
 | k + 1 => if k = 0 ∨ cmpE (ed l k) (leastTo l k) < 0 then ed l k else leastTo l k
def EnS (w : World) (A : Option Addr) (n : Nat) (l : List End6) : Prop := l.length = n ∧ (n = 0 ∨ ∃ b, A = some ⟨b, 0, none⟩ ∧ ∀ k, k < n → ∀ i, i < 6 → w.cell? ⟨b, k * 6 + i, none⟩ = (enE (ed l k))[i]?)
theorem EnS.keep {w w' : World} {A : Option Addr} {n : Nat} {l : List End6} (h : EnS w A n l) (hb : Below w.heap.size w w') : EnS w' A n l := by
 refine ⟨h.1, ?_⟩
 obtain ⟨_, h⟩ := h
 rcases h with h | ⟨b, rfl, h⟩
 ·exact .inl h
 ·refine .inr ⟨b, rfl, fun k hk i hi => ?_⟩
  have h1 := h k hk i hi
  obtain ⟨u, hu⟩ : ∃ u, (enE (ed l k))[i]? = some u := ⟨_, List.getElem?_eq_getElem (by rw [enE_len]; exact hi)⟩
  rw [hu] at h1 ⊢
  exact Xa hb h1
theorem OwE.ens {w : World} {base : Nat} {v : Value} {l : List End6} (h : OwG 88 6 enE w base v l) : ∃ A c, v = .slice A l.length c ∧ EnS w A l.length l := by
 rcases OwG.form h with ⟨rfl, rfl⟩ | ⟨g, cap, rfl, g1, g2, g3, g4⟩
 ·exact ⟨none, 0, rfl, rfl, .inl rfl⟩
 ·refine ⟨_, cap, rfl, rfl, .inr ⟨g, rfl, fun k hk i hi => ?_⟩⟩
  have c0 := OwG.cells h (k * 6 + i) (by omega)
  have hk2 : l[k]? = some (ed l k) := by unfold ed; rw [List.getD, List.getElem?_eq_getElem hk]; rfl
  rw [flat_at enE_len l k i _ hk2 hi] at c0
  exact c0
set_option maxHeartbeats 2000000 in
theorem least_any (A : Option Addr) (c n : Nat) (l : List End6) (w : World) (hn : n ≤ 1000000) (hs : EnS w A n l) :
 Calls Tryz.prog 44 #[.slice A n c, .func (.func 45) #[] #[]] w fun e w' => e = .returned (.tuple #[keyE (leastTo l n), .bool (decide (0 < n))]) ∧ Below w.heap.size w w' := by
 go_enter Tryz.func44, Tryz.ntmps44
 go_wp2_with fail
 go_loopw [11] (fun i wr => ∃ k : Nat, k ≤ n ∧ i = .int .i64 k ∧ BlkS wr w.heap.size 88 (enE ⟨⟨0, false, 0, 0, 0⟩, 0⟩).toArray ∧ BlkS wr (w.heap.size + 1) 88 (enE (leastTo l k)).toArray ∧ Below w.heap.size w wr) (fun i _ => n - (intOf i).toNat)
 case atStart => exact ⟨0, Nat.zero_le _, rfl, (BlkS.new _ _ _).alloc _, BlkS.new2 _ _ _ _, (Bl.alloc (Bl.alloc Br _) _)⟩
 case round =>
  obtain ⟨k, hk, rfl, hB0, hB, hb⟩ := hrel
  obtain ⟨be, hbe⟩ : ∃ be, leastTo l k = be := ⟨_, rfl⟩
  have hstep := Hj (show leastTo l (k + 1) = if k = 0 ∨ cmpE (ed l k) be < 0 then ed l k else be by rw [leastTo, hbe])
  rw [hbe] at hB
  have HBE := Hj hbe
  clear hbe
  obtain ⟨⟨b0, b1, b2, b3, b4⟩, b5⟩ := be
  obtain ⟨m0, m1, m2, m3, m4, m5, m6⟩ := BlkS.cells6 hB
  have n0 := hB.frozen 0
  have n1 := hB.frozen 1
  have n2 := hB.frozen 2
  have n3 := hB.frozen 3
  have n4 := hB.frozen 4
  have n5 := hB.frozen 5
  by_cases hlt : k < n
  ·obtain ⟨-, hs2⟩ := hs.keep hb
   rcases hs2 with h | ⟨bb, rfl, hc⟩
   ·omega
   ·obtain ⟨ek, hek⟩ : ∃ ek, ed l k = ek := ⟨_, rfl⟩
    have hck := hc k hlt
    rw [hek] at hck hstep
    have HEK := Hj hek
    clear hek hc
    obtain ⟨⟨e0, e1, e2, e3, e4⟩, e5⟩ := ek
    have d0 := hck 0 (by omega)
    have d1 := hck 1 (by omega)
    have d2 := hck 2 (by omega)
    have d3 := hck 3 (by omega)
    have d4 := hck 4 (by omega)
    have d5 := hck 5 (by omega)
    simp only [enE, List.getElem?_cons_zero, List.getElem?_cons_succ, Nat.add_zero] at d0 d1 d2 d3 d4 d5
    have hbl : bb < wr.heap.size := lt_of_cell d0
    clear hck
    by_cases hk0 : k = 0
    ·rw [if_pos (.inl hk0)] at hstep
     have q0 : ((k : Int) == 0) = true := by rw [hk0]; rfl
     clear hk0
     go_wp2_with fail
     exact ⟨⟨k + 1, by omega, by go_num, BlkS.alloc (BlkS.far (BlkS.far (BlkS.far (BlkS.far (BlkS.far (BlkS.far hB0 (p := ⟨w.heap.size + 1, 0, none⟩) (by simp) _) (p := ⟨w.heap.size + 1, 1, none⟩) (by simp) _) (p := ⟨w.heap.size + 1, 2, none⟩) (by simp) _) (p := ⟨w.heap.size + 1, 3, none⟩) (by simp) _) (p := ⟨w.heap.size + 1, 4, none⟩) (by simp) _) (p := ⟨w.heap.size + 1, 5, none⟩) (by simp) _) _, by rw [hstep.out]; exact BlkS.alloc (BlkS.set_ (BlkS.set_ (BlkS.set_ (BlkS.set_ (BlkS.set_ (BlkS.set_ hB 0 _) 1 _) 2 _) 3 _) 4 _) 5 _) _, Bl.alloc (Bl.set (Bl.set (Bl.set (Bl.set (Bl.set (Bl.set hb (p := ⟨w.heap.size + 1, 0, none⟩) (by simp) _) (p := ⟨w.heap.size + 1, 1, none⟩) (by simp) _) (p := ⟨w.heap.size + 1, 2, none⟩) (by simp) _) (p := ⟨w.heap.size + 1, 3, none⟩) (by simp) _) (p := ⟨w.heap.size + 1, 4, none⟩) (by simp) _) (p := ⟨w.heap.size + 1, 5, none⟩) (by simp) _) _⟩, by simp [intOf]; omega⟩
    ·have q0 : ((k : Int) == 0) = false := by simpa using hk0
     by_cases hcm : cmpE ⟨⟨e0, e1, e2, e3, e4⟩, e5⟩ ⟨⟨b0, b1, b2, b3, b4⟩, b5⟩ < 0
     ·rw [if_pos (.inr hcm)] at hstep
      clear hk0
      have HB1 := Hj ((hB.alloc (.cells (enE ⟨⟨e0, e1, e2, e3, e4⟩, e5⟩).toArray 88)))
      have HX1 := Hj (BlkS.new wr 88 (enE ⟨⟨e0, e1, e2, e3, e4⟩, e5⟩).toArray)
      go_wp2_with (go_at_call 45; refine (cmpE_any ⟨⟨e0, e1, e2, e3, e4⟩, e5⟩ ⟨⟨b0, b1, b2, b3, b4⟩, b5⟩ _).mono ?_; rintro e w5 ⟨rfl, hb5⟩; have hB5 := HB1.out.keep hb5; have hX5 := HX1.out.keep hb5; obtain ⟨p0, p1, p2, p3, p4, p5, p6⟩ := BlkS.cells6 hB5; obtain ⟨x0, x1, x2, x3, x4, x5, x6⟩ := BlkS.cells6 hX5; have r0 := hB5.frozen 0; have r1 := hB5.frozen 1; have r2 := hB5.frozen 2; have r3 := hB5.frozen 3; have r4 := hB5.frozen 4; have r5 := hB5.frozen 5)
      exact ⟨⟨k + 1, by omega, by go_num, (BlkS.far (BlkS.far (BlkS.far (BlkS.far (BlkS.far (BlkS.far (BlkS.keep (BlkS.alloc hB0 _) hb5) (p := ⟨w.heap.size + 1, 0, none⟩) (by simp) _) (p := ⟨w.heap.size + 1, 1, none⟩) (by simp) _) (p := ⟨w.heap.size + 1, 2, none⟩) (by simp) _) (p := ⟨w.heap.size + 1, 3, none⟩) (by simp) _) (p := ⟨w.heap.size + 1, 4, none⟩) (by simp) _) (p := ⟨w.heap.size + 1, 5, none⟩) (by simp) _), by rw [hstep.out]; exact (BlkS.set_ (BlkS.set_ (BlkS.set_ (BlkS.set_ (BlkS.set_ (BlkS.set_ hB5 0 _) 1 _) 2 _) 3 _) 4 _) 5 _), (Bl.set (Bl.set (Bl.set (Bl.set (Bl.set (Bl.set (Bl.call (Bl.alloc hb _) hb5) (p := ⟨w.heap.size + 1, 0, none⟩) (by simp) _) (p := ⟨w.heap.size + 1, 1, none⟩) (by simp) _) (p := ⟨w.heap.size + 1, 2, none⟩) (by simp) _) (p := ⟨w.heap.size + 1, 3, none⟩) (by simp) _) (p := ⟨w.heap.size + 1, 4, none⟩) (by simp) _) (p := ⟨w.heap.size + 1, 5, none⟩) (by simp) _)⟩, by simp [intOf]; omega⟩
     ·rw [if_neg (by simp [hk0]; omega)] at hstep
      clear hk0
      go_wp2_with (go_at_call 45; refine (cmpE_any ⟨⟨e0, e1, e2, e3, e4⟩, e5⟩ ⟨⟨b0, b1, b2, b3, b4⟩, b5⟩ _).mono ?_; rintro e w5 ⟨rfl, hb5⟩)
      exact ⟨⟨k + 1, by omega, by go_num, (hB0.alloc _).keep hb5, by rw [hstep.out]; exact (hB.alloc _).keep hb5, Bl.call (Bl.alloc hb _) hb5⟩, by simp [intOf]; omega⟩
  ·obtain rfl : n = k := by omega
   obtain ⟨z0, z1, z2, z3, z4, z5, z6⟩ := BlkS.cells6 hB0
   have y0 := hB0.frozen 0
   have y1 := hB0.frozen 1
   have y2 := hB0.frozen 2
   have y3 := hB0.frozen 3
   have y4 := hB0.frozen 4
   have y5 := hB0.frozen 5
   have e : keyE (leastTo l n) = .agg #[.int .i64 b0, .bool b1, .int .i64 b2, .int .i64 b3, .int .i64 b4, .int .i64 b5] := by rw [HBE.out]; rfl
   have HKE := Hj e
   clear e
   go_wp2_with fail
   refine bodyPost_ret (v := .tuple #[.agg #[.int .i64 b0, .bool b1, .int .i64 b2, .int .i64 b3, .int .i64 b4, .int .i64 b5], .bool (decide (0 < n))]) (by simp [results, Tryz.results44, go_sem, z0, z1, z2, z3, z4, z5]) rfl ⟨by rw [HKE.out], by (repeat first | exact hb | refine Bl.set ?_ (by dsimp only; omega) _)⟩
end
end Go.Proofs.YtmdncaoilegnnaaGreat

/- garmentlaw16.NofitMoves returns true. PROVED HERE: the statement NofitMoves, for every two lists of spots and every two moves, without a condition. -/
import Derived.Test.YtnggempmdhmoeaaG44
import Derived.Test.YtnggempmdhmoeaaG43
import Derived.Deep.RegionHeld3
import Derived.Deep.DeepCutAuto
namespace Go.Proofs.Ytnggempmdhmoeaa
set_option linter.unusedVariables false
set_option linter.unusedSimpArgs false
open Go.RowKit

theorem four_cells {w : World} {g : Nat} {t : TypeId} {x y z u : Value} (h : BlkS w g t #[x, y, z, u]) : w.cell? ⟨g, 0, none⟩ = some x ∧ w.cell? ⟨g, 1, none⟩ = some y ∧ w.cell? ⟨g, 2, none⟩ = some z ∧ w.cell? ⟨g, 3, none⟩ = some u := ⟨(h.cell 0).trans rfl, (h.cell 1).trans rfl, (h.cell 2).trans rfl, (h.cell 3).trans rfl⟩


set_option maxHeartbeats 4000000 in
set_option maxRecDepth 100000 in
theorem lawMoves (A B : Option Addr) (ca cb na nb : Nat) (a b : List (Int × Int)) (x y mx my : Int) (w : World) (hca : na ≤ ca) (hcb : nb ≤ cb) (hcA : ca ≤ 9223372036854775807) (hcB : cb ≤ 9223372036854775807) (hsA : SpS w A na a) (hsB : SpS w B nb b) :
    Calls Try.prog 4 #[.slice A na ca, .slice B nb cb, .agg #[.int .i64 x, .int .i64 y, .int .i64 mx, .int .i64 my]] w fun e w' => e = .returned (.bool true) ∧ Below w.heap.size w w' := by
  have hna : na ≤ 9223372036854775807 := by omega
  have hnb : nb ≤ 9223372036854775807 := by omega
  have la := hsA.1
  have lb := hsB.1
  cases hl : lightW na nb with
  | false =>
    go_enter Try.func4, Try.ntmps4
    go_wp2_with (first | (go_at_call 12; refine (nalive_any _).mono ?_; rintro e wz ⟨rfl, hbz⟩) | (go_at_call 9; refine (light_any _ _ _ _ _ _ _).mono ?_; rintro e wl ⟨rfl, rfl⟩; rw [hl]))
    go_ret
    exact ⟨rfl, Bl.call (Bl.alloc (Below.refl _ _) _) hbz⟩
  | true =>
    have hlt : na ≤ 12 ∧ nb ≤ 12 := by unfold lightW at hl; simpa using hl
    have ka : na ≤ 1000000 := by omega
    have kb : nb ≤ 1000000 := by omega
    clear hlt
    cases hnm : (!outB 1048576 (mx, my)) with
    | false =>
      go_enter Try.func4, Try.ntmps4
      go_wp2_with (first | (go_at_call 12; refine (nalive_any _).mono ?_; rintro e wz ⟨rfl, hbz⟩) | (go_at_call 10; refine (lnear_any mx my _).mono ?_; rintro e w1 ⟨rfl, hb1⟩; rw [hnm]; have hX1 := Bl.call (Bl.alloc (Below.refl _ _) _) hb1; have kB1 := (BlkS.new w 34 #[.int .i64 x, .int .i64 y, .int .i64 mx, .int .i64 my]).keep hb1; obtain ⟨d1, d2, d3, d4⟩ := four_cells kB1) | (go_at_call 9; refine (light_any _ _ _ _ _ _ _).mono ?_; rintro e wl ⟨rfl, rfl⟩; rw [hl]))
      go_ret
      exact ⟨rfl, Bl.call hX1 hbz⟩
    | true =>
      have nm := near_of_out (M := 1048576) (q := (mx, my)) (by simpa using hnm)
      cases hnd : (!outB 1048576 (x, y)) with
      | false =>
        go_enter Try.func4, Try.ntmps4
        go_wp2_with (first | (go_at_call 12; refine (nalive_any _).mono ?_; rintro e wz ⟨rfl, hbz⟩) | (go_at_call 10; have hX1g := hX1; clear hX1g; refine (lnear_any x y _).mono ?_; rintro e w2 ⟨rfl, hb2⟩; rw [hnd]; have hX2 := Bl.call hX1 hb2; have kB2 := kB1.keep hb2; clear d1 d2 d3 d4) | (go_at_call 10; refine (lnear_any mx my _).mono ?_; rintro e w1 ⟨rfl, hb1⟩; rw [hnm]; have hX1 := Bl.call (Bl.alloc (Below.refl _ _) _) hb1; have kB1 := (BlkS.new w 34 #[.int .i64 x, .int .i64 y, .int .i64 mx, .int .i64 my]).keep hb1; obtain ⟨d1, d2, d3, d4⟩ := four_cells kB1) | (go_at_call 9; refine (light_any _ _ _ _ _ _ _).mono ?_; rintro e wl ⟨rfl, rfl⟩; rw [hl]))
        go_ret
        exact ⟨rfl, Bl.call hX2 hbz⟩
      | true =>
        have nd := near_of_out (M := 1048576) (q := (x, y)) (by simpa using hnd)
        go_enter Try.func4, Try.ntmps4
        go_upto_region 3 with (first | (go_at_call 12; refine (nalive_any _).mono ?_; rintro e wz ⟨rfl, hbz⟩) | (go_at_call 10; have hX1g := hX1; clear hX1g; refine (lnear_any x y _).mono ?_; rintro e w2 ⟨rfl, hb2⟩; rw [hnd]; have hX2 := Bl.call hX1 hb2; have kB2 := kB1.keep hb2; clear d1 d2 d3 d4) | (go_at_call 10; refine (lnear_any mx my _).mono ?_; rintro e w1 ⟨rfl, hb1⟩; rw [hnm]; have hX1 := Bl.call (Bl.alloc (Below.refl _ _) _) hb1; have kB1 := (BlkS.new w 34 #[.int .i64 x, .int .i64 y, .int .i64 mx, .int .i64 my]).keep hb1; obtain ⟨d1, d2, d3, d4⟩ := four_cells kB1) | (go_at_call 9; refine (light_any _ _ _ _ _ _ _).mono ?_; rintro e wl ⟨rfl, rfl⟩; rw [hl]))
        obtain ⟨d1, d2, d3, d4⟩ := four_cells kB2
        have hXd : Below w.heap.size w w2.drew := Bl.drew hX2
        go_cut [7, 8] (fun v7 v8 wx => (∃ A7 c7, v7 = .slice A7 na c7 ∧ na ≤ c7 ∧ SpS wx A7 na (movW a (mx, my))) ∧ (∃ A8 c8, v8 = .slice A8 nb c8 ∧ nb ≤ c8 ∧ SpS wx A8 nb (movW b (mx, my))) ∧ Below w.heap.size w wx ∧ BlkS wx w.heap.size 34 #[.int .i64 x, .int .i64 y, .int .i64 mx, .int .i64 my])
        case first =>
          go_region_held3 (fun w' => w'.cell? ⟨w.heap.size, 2, none⟩ = some (.int .i64 mx) ∧ w'.cell? ⟨w.heap.size, 3, none⟩ = some (.int .i64 my))
            (first
              | go_keep
              | exact ⟨cell_keep hb3 d3, cell_keep hb3 d4⟩
              | exact ⟨cell_keep hb4 (cell_keep hb3 d3), cell_keep hb4 (cell_keep hb3 d4)⟩)
            ((first
              | (go_at_call 14; refine (move_any B cb nb b mx my _ kb (hsB.keep (Bl.call hXd hb3))).mono ?_; rintro e w4 ⟨v4, rfl, ho4, hb4⟩)
              | (go_at_call 14; refine (move_any A ca na a mx my _ ka (hsA.keep hXd)).mono ?_; rintro e w3 ⟨v3, rfl, ho3, hb3⟩)))
          all_goals go_wp2_with fail
          all_goals go_meet
          all_goals obtain ⟨A7, c7, rfl, hc7, hS7, -⟩ := ho3.sps
          all_goals obtain ⟨A8, c8, rfl, hc8, hS8, -⟩ := ho4.sps
          all_goals rw [movW_len, la] at hc7 hS7
          all_goals rw [movW_len, lb] at hc8 hS8
          all_goals exact ⟨⟨A7, c7, by rw [movW_len, la], hc7, hS7.keep hb4⟩, ⟨A8, c8, by rw [movW_len, lb], hc8, hS8⟩, Bl.call (Bl.call hXd hb3) hb4, ((kB2.drew).keep hb3).keep hb4⟩
        case rest =>
          clear d1 d2 d3 d4 hXd kB2 hX2 hb2 kB1 hX1 hb1
          obtain ⟨⟨A7, c7, rfl, hc7, hC⟩, ⟨A8, c8, rfl, hc8, hD⟩, hX, kB⟩ := hcut
          by_cases ha : checkW a na = 0
          · have qa : (checkW a na != 0) = false := by rw [ha]; rfl
            by_cases hb : checkW b nb = 0
            · have qb : (checkW b nb != 0) = false := by rw [hb]; rfl
              by_cases hc : checkW (movW a (mx, my)) na = 0
              · have qc : (checkW (movW a (mx, my)) na != 0) = false := by rw [hc]; rfl
                by_cases hd : checkW (movW b (mx, my)) nb = 0
                · have qd : (checkW (movW b (mx, my)) nb != 0) = false := by rw [hd]; rfl
                  obtain ⟨v, h1, h2, h3⟩ := moves_plain (a := a) (b := b) (m := (mx, my)) (by rw [la]; exact ha) (by rw [lb]; exact hb) nm (by rw [la]; exact hc) (by rw [lb]; exact hd) (x, y)
                  have H1 := Lib.hid h1
                  have H2 := Lib.hid h2
                  have H3 := Lib.hid h3
                  unfold nearB at nm nd
                  have q1 : IntKind.i64.wrap (x + mx) = x + mx := wrap_in _ (by omega) (by omega)
                  have q2 : IntKind.i64.wrap (y + my) = y + my := wrap_in _ (by omega) (by omega)
                  have q3 : IntKind.i64.wrap (x - mx) = x - mx := wrap_in _ (by omega) (by omega)
                  have q4 : IntKind.i64.wrap (y - my) = y - my := wrap_in _ (by omega) (by omega)
                  clear h1 h2 h3 ha hb hc hd nm nd la lb
                  go_wp2_with (first
                    | (go_at_call 12; refine (nalive_any _).mono ?_; rintro e wz ⟨rfl, hbz⟩)
                    | (go_at_call 13; refine (blocks_any _ _ _ _ _ _ a (movW b (mx, my)) (x - mx) (y - my) _ hna hnb hca hc8 (hsA.keep hX10) hD10).mono ?_; rintro e w11 ⟨rfl, hb11⟩; rw [H3.out]; have hX11 := Bl.call hX10 hb11)
                    | (go_at_call 13; refine (blocks_any _ _ _ _ _ _ (movW a (mx, my)) b (x + mx) (y + my) _ hna hnb hc7 hcb hC9 (hsB.keep hX9)).mono ?_; rintro e w10 ⟨rfl, hb10⟩; rw [H2.out]; have hX10 := Bl.call hX9 hb10; have hD10 := hD9.keep hb10; clear d1 d2 d3 d4; obtain ⟨d1, d2, d3, d4⟩ := four_cells (kB9.keep hb10))
                    | (go_at_call 13; refine (blocks_any _ _ _ _ _ _ a b x y _ hna hnb hca hcb (hsA.keep hX8) (hsB.keep hX8)).mono ?_; rintro e w9 ⟨rfl, hb9⟩; rw [H1.out]; have hX9 := Bl.call hX8 hb9; have hC9 := hC8.keep hb9; have hD9 := hD8.keep hb9; have kB9 := kB8.keep hb9; clear d1 d2 d3 d4; obtain ⟨d1, d2, d3, d4⟩ := four_cells kB9)
                    | (go_at_call 11; refine (check_any _ _ _ (movW b (mx, my)) _ hnb hc8 hD7).mono ?_; rintro e w8 ⟨rfl, hb8⟩; have hX8 := Bl.call hX7 hb8; have kB8 := kB7.keep hb8; have hC8 := hC7.keep hb8; have hD8 := hD7.keep hb8; obtain ⟨d1, d2, d3, d4⟩ := four_cells kB8)
                    | (go_at_call 11; refine (check_any _ _ _ (movW a (mx, my)) _ hna hc7 hC6).mono ?_; rintro e w7 ⟨rfl, hb7⟩; have hX7 := Bl.call hX6 hb7; have kB7 := kB6.keep hb7; have hC7 := hC6.keep hb7; have hD7 := hD6.keep hb7)
                    | (go_at_call 11; refine (check_any _ _ _ b _ hnb hcb (hsB.keep hX5)).mono ?_; rintro e w6 ⟨rfl, hb6⟩; have hX6 := Bl.call hX5 hb6; have kB6 := kB5.keep hb6; have hC6 := hC5.keep hb6; have hD6 := hD5.keep hb6)
                    | (go_at_call 11; refine (check_any _ _ _ a _ hna hca (hsA.keep hX)).mono ?_; rintro e w5 ⟨rfl, hb5⟩; have hX5 := Bl.call hX hb5; have kB5 := kB.keep hb5; have hC5 := hC.keep hb5; have hD5 := hD.keep hb5))
                  go_ret
                  exact ⟨rfl, Bl.call hX11 hbz⟩
                · have qd : (checkW (movW b (mx, my)) nb != 0) = true := by rw [bne_iff_ne]; exact hd
                  clear ha hb hc hd nm nd la lb
                  go_wp2_with (first
                    | (go_at_call 12; refine (nalive_any _).mono ?_; rintro e wz ⟨rfl, hbz⟩)
                    | (go_at_call 11; refine (check_any _ _ _ (movW b (mx, my)) _ hnb hc8 hD7).mono ?_; rintro e w8 ⟨rfl, hb8⟩; have hX8 := Bl.call hX7 hb8; have kB8 := kB7.keep hb8; have hC8 := hC7.keep hb8; have hD8 := hD7.keep hb8; obtain ⟨d1, d2, d3, d4⟩ := four_cells kB8)
                    | (go_at_call 11; refine (check_any _ _ _ (movW a (mx, my)) _ hna hc7 hC6).mono ?_; rintro e w7 ⟨rfl, hb7⟩; have hX7 := Bl.call hX6 hb7; have kB7 := kB6.keep hb7; have hC7 := hC6.keep hb7; have hD7 := hD6.keep hb7)
                    | (go_at_call 11; refine (check_any _ _ _ b _ hnb hcb (hsB.keep hX5)).mono ?_; rintro e w6 ⟨rfl, hb6⟩; have hX6 := Bl.call hX5 hb6; have kB6 := kB5.keep hb6; have hC6 := hC5.keep hb6; have hD6 := hD5.keep hb6)
                    | (go_at_call 11; refine (check_any _ _ _ a _ hna hca (hsA.keep hX)).mono ?_; rintro e w5 ⟨rfl, hb5⟩; have hX5 := Bl.call hX hb5; have kB5 := kB.keep hb5; have hC5 := hC.keep hb5; have hD5 := hD.keep hb5))
                  go_ret
                  exact ⟨rfl, Bl.call hX8 hbz⟩
              · have qc : (checkW (movW a (mx, my)) na != 0) = true := by rw [bne_iff_ne]; exact hc
                clear ha hb hc nm nd la lb
                go_wp2_with (first
                    | (go_at_call 12; refine (nalive_any _).mono ?_; rintro e wz ⟨rfl, hbz⟩)
                    | (go_at_call 11; refine (check_any _ _ _ (movW a (mx, my)) _ hna hc7 hC6).mono ?_; rintro e w7 ⟨rfl, hb7⟩; have hX7 := Bl.call hX6 hb7; have kB7 := kB6.keep hb7; have hC7 := hC6.keep hb7; have hD7 := hD6.keep hb7)
                    | (go_at_call 11; refine (check_any _ _ _ b _ hnb hcb (hsB.keep hX5)).mono ?_; rintro e w6 ⟨rfl, hb6⟩; have hX6 := Bl.call hX5 hb6; have kB6 := kB5.keep hb6; have hC6 := hC5.keep hb6; have hD6 := hD5.keep hb6)
                    | (go_at_call 11; refine (check_any _ _ _ a _ hna hca (hsA.keep hX)).mono ?_; rintro e w5 ⟨rfl, hb5⟩; have hX5 := Bl.call hX hb5; have kB5 := kB.keep hb5; have hC5 := hC.keep hb5; have hD5 := hD.keep hb5))
                go_ret
                exact ⟨rfl, Bl.call hX7 hbz⟩
            · have qb : (checkW b nb != 0) = true := by rw [bne_iff_ne]; exact hb
              clear ha hb nm nd la lb
              go_wp2_with (first
                    | (go_at_call 12; refine (nalive_any _).mono ?_; rintro e wz ⟨rfl, hbz⟩)
                    | (go_at_call 11; refine (check_any _ _ _ b _ hnb hcb (hsB.keep hX5)).mono ?_; rintro e w6 ⟨rfl, hb6⟩; have hX6 := Bl.call hX5 hb6; have kB6 := kB5.keep hb6; have hC6 := hC5.keep hb6; have hD6 := hD5.keep hb6)
                    | (go_at_call 11; refine (check_any _ _ _ a _ hna hca (hsA.keep hX)).mono ?_; rintro e w5 ⟨rfl, hb5⟩; have hX5 := Bl.call hX hb5; have kB5 := kB.keep hb5; have hC5 := hC.keep hb5; have hD5 := hD.keep hb5))
              go_ret
              exact ⟨rfl, Bl.call hX6 hbz⟩
          · have qa : (checkW a na != 0) = true := by rw [bne_iff_ne]; exact ha
            clear ha nm nd la lb
            go_wp2_with (first
                    | (go_at_call 12; refine (nalive_any _).mono ?_; rintro e wz ⟨rfl, hbz⟩)
                    | (go_at_call 11; refine (check_any _ _ _ a _ hna hca (hsA.keep hX)).mono ?_; rintro e w5 ⟨rfl, hb5⟩; have hX5 := Bl.call hX hb5; have kB5 := kB.keep hb5; have hC5 := hC.keep hb5; have hD5 := hD.keep hb5))
            go_ret
            exact ⟨rfl, Bl.call hX5 hbz⟩

end Go.Proofs.Ytnggempmdhmoeaa

namespace Go.Proofs.Ytnggempmdhmoeaa
set_option linter.unusedVariables false
set_option linter.unusedSimpArgs false
open Go.ChangeShapes Go.WideShapes Go.ChangeAt Go.RowKit

namespace nofitMoves
set_option maxRecDepth 100000 in
set_option maxHeartbeats 1000000 in
theorem lifted (os : Os) (started : os.Started) (H : Type) (enc : TypeId × Value → H) :
    ReturnsInHanded {} Try.checked os 4 .any (Rows.nofitMovesSpec.pre6 enc Try.prog Try.f4 Rows.nofitMovesRow.domain false) (Rows.nofitMovesSpec.post enc Try.prog Try.f4 false true false false) := by
  refine returnsInHanded_of_change (C := Try.checked) own started (by kernel_rfl) Try.func4
    (ChangeSpec.witness6 (enc := enc) (C := Try.checked) false ⟨#[], #[.slice none 0 0, .slice none 0 0, .agg #[.int .i64 0, .int .i64 0, .int .i64 0, .int .i64 0]], []⟩ 8 (by kernel_rfl) (by kernel_rfl) (by kernel_rfl) (by kernel_rfl)) ?_
  intro W base args ds gs before hval0 hW hcnd _
  have hval : ∀ (j : Nat) t v, Try.f4.params[j]? = some t → args[j]? = some v → Value.okWide Try.prog W .any base t v := hval0
  have hW' := hW
  obtain ⟨p, q, hA0, hV, rfl, hfz, hnd⟩ := hW
  have hA : DataW.TrodAll enc Try.prog W 0 (fun _ => true) true Try.f4.params.toList args.toList ds p := hA0
  rw [Try.params4] at hA hval
  obtain ⟨v0, vs0, d0, ds0, p0, q0, hargs, rfl, rfl, h0, r0⟩ := trodAll_cons hA
  obtain ⟨v1, vs1, d1, ds1, p1, q1, rfl, rfl, rfl, h1, r1⟩ := trodAll_cons r0
  obtain ⟨v2, vs2, d2, ds2, p2, q2, rfl, rfl, rfl, h2, r2⟩ := trodAll_cons r1
  obtain ⟨rfl, rfl, rfl⟩ := trodAll_nil r2
  obtain rfl : args = #[v0, v1, v2] := by cases args; simp_all
  obtain ⟨rfl, rfl⟩ := trodVars_none hV
  have k0 := h0
  have lt0 : ∀ x ∈ p0, x.block < W.heap.size := by obtain ⟨m, hm⟩ := k0; exact DataW.trod_lt m _ _ _ hm
  obtain ⟨A0, n0, c0, L0, rfl, w0⟩ := open_spots (hval 0 22 v0 rfl rfl) h0
  have k1 := h1
  have lt1 : ∀ x ∈ p1, x.block < W.heap.size := by obtain ⟨m, hm⟩ := k1; exact DataW.trod_lt m _ _ _ hm
  obtain ⟨A1, n1, c1, L1, rfl, w1⟩ := open_spots (hval 1 22 v1 rfl rfl) h1
  have k2 := h2
  have lt2 : ∀ x ∈ p2, x.block < W.heap.size := by obtain ⟨m, hm⟩ := k2; exact DataW.trod_lt m _ _ _ hm
  obtain ⟨q2, m2, rfl, w2⟩ := open_moves (hval 2 34 v2 rfl rfl) h2
  clear hA0 hval0
  refine (lawMoves A0 A1 c0 c1 n0 n1 L0 L1 q2.1 q2.2 m2.1 m2.2 W w0.1 w1.1 w0.2.1 w1.2.1 w0.2.2.2.1 w1.2.2.2.1).mono fun e W' ⟨he, bel⟩ => ?_
  subst he
  exact ⟨_, rfl, _, _, _, [], _, [], hW', trodAll_mk1 (shut_bool Try.underlying4 _), (trodAll_cons_mk (Below.trod laidOut (by kernel_rfl) (of_decide_eq_true (by kernel_rfl)) k0 bel lt0) (trodAll_cons_mk (Below.trod laidOut (by kernel_rfl) (of_decide_eq_true (by kernel_rfl)) k1 bel lt1) (trodAll_cons_mk (Below.trod laidOut (by kernel_rfl) (of_decide_eq_true (by kernel_rfl)) k2 bel lt2) trodAll_mk0))), rfl, bel.frame _, fun h => by cases h⟩

theorem over : Rows.nofitMovesRow.holds Try.pinned (OpenSpec.ofChange Rows.nofitMovesSpec) :=
  OpenClaim.holds_of_wide 4 Try.f4 rfl rfl rfl rfl rfl rfl rfl ⟨rfl, rfl, rfl, rfl, rfl⟩ rfl rfl rfl rfl rfl (by kernel_rfl) Try.func4 (by kernel_rfl)
    (of_decide_eq_true (by kernel_rfl)) (by unfold Func.isWrapper; first | (rw [if_pos (by decide +kernel)]; kernel_rfl) | (rw [if_neg (by decide +kernel)]; exact ⟨rfl, rfl⟩))
    (fun os started H enc _ => lifted os started H enc)

theorem proved : Rows.NofitMovesSaid := over
end nofitMoves

end Go.Proofs.Ytnggempmdhmoeaa

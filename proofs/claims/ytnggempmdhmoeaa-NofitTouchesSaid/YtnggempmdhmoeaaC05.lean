/- garmentlaw16.NofitTouches returns true. PROVED HERE: the statement NofitTouches, for every two lists of spots and every number, without a condition. -/
import Derived.Test.YtnggempmdhmoeaaG44
import Derived.Test.YtnggempmdhmoeaaG43
namespace Go.Proofs.Ytnggempmdhmoeaa
set_option linter.unusedVariables false
set_option linter.unusedSimpArgs false
open Go.RowKit

theorem asc_at {l : List (Int × Int)} (h : l.Pairwise (fun x y => lessS x y = true)) {i : Nat} (hi : i + 1 < l.length) : lessS (gt l i) (gt l (i + 1)) = true := by
  have g : ∀ j (hj : j < l.length), gt l j = l[j] := fun j hj => by unfold gt; rw [List.getD_eq_getElem?_getD, List.getElem?_eq_getElem hj]; rfl
  rw [g i (by omega), g (i + 1) hi]
  exact List.pairwise_iff_getElem.1 h i (i + 1) (by omega) hi (by omega)

theorem spotsOf_len (rs : List (List (Int × Int))) (h1 : rs.length ≤ 1681) (h2 : ∀ t ∈ rs, t.length ≤ 160) : (spotsOf rs).length ≤ 300000 := by
  unfold spotsOf
  rw [sortW_len]
  refine Nat.le_trans (List.length_filter_le _ _) ?_
  have h3 : (uniq rs.flatten).length ≤ rs.flatten.length := by
    have : ∀ l : List (Int × Int), (uniq l).length ≤ l.length := by
      intro l
      induction l with
      | nil => simp [uniq]
      | cons x l ih => rw [uniq]; split <;> simp <;> omega
    exact this _
  refine Nat.le_trans h3 ?_
  rw [List.length_flatten]
  have : ∀ l : List (List (Int × Int)), (∀ t ∈ l, t.length ≤ 160) → (l.map List.length).sum ≤ l.length * 160 := by
    intro l
    induction l with
    | nil => simp
    | cons x l ih =>
      intro h
      simp only [List.map_cons, List.sum_cons, List.length_cons]
      have := ih (fun t ht => h t (by simp [ht]))
      have := h x (by simp)
      omega
  have := this rs h2
  omega


set_option maxHeartbeats 4000000 in
set_option maxRecDepth 100000 in
theorem lawTouches (A B : Option Addr) (ca cb na nb : Nat) (a b : List (Int × Int)) (z : Int) (w : World) (hca : na ≤ ca) (hcb : nb ≤ cb) (hcA : ca ≤ 9223372036854775807) (hcB : cb ≤ 9223372036854775807) (hsA : SpS w A na a) (hsB : SpS w B nb b) (hz : 0 ≤ z ∧ z ≤ 255) :
    Calls Try.prog 8 #[.slice A na ca, .slice B nb cb, .int .u8 z] w fun e w' => e = .returned (.bool true) ∧ Below w.heap.size w w' := by
  have hna : na ≤ 9223372036854775807 := by omega
  have hnb : nb ≤ 9223372036854775807 := by omega
  have la := hsA.1
  have lb := hsB.1
  by_cases h8 : na ≤ 8
  · have q8 : ¬ (8 : Int) < (na : Int) := by omega
    by_cases h9 : nb ≤ 8
    · have q9 : ¬ (8 : Int) < (nb : Int) := by omega
      by_cases hab : checkW a na = 0 ∧ checkW b nb = 0
      · obtain ⟨ha, hb⟩ := hab
        have qa : (checkW a na != 0) = false := by rw [ha]; rfl
        have qb : (checkW b nb != 0) = false := by rw [hb]; rfl
        have ha' : checkW a a.length = 0 := by rw [la]; exact ha
        have hb' : checkW b b.length = 0 := by rw [lb]; exact hb
        obtain ⟨t1, t2⟩ := touch_plain ha' hb'
        have asc := spots_asc (regionsW a b).2
        have hlen := spotsOf_len (regionsW a b).2 (regionsW_in a b).1 (fun t ht => ((regionsW_in a b).2 t ht).1)
        have HS := Lib.hid (spots_ok ha' hb')
        obtain ⟨L, hL⟩ : ∃ L, L = spotsOf (regionsW a b).2 := ⟨_, rfl⟩
        rw [← hL] at t1 t2 asc hlen HS
        have T2 := Lib.hid t2
        have AS := Lib.hid asc
        obtain ⟨n, hn⟩ : ∃ n, n = L.length := ⟨_, rfl⟩
        have hn0 : 0 < n := by rw [hn]; cases L with | nil => exact absurd rfl t1 | cons x l => simp
        rw [← hn] at hlen
        have HN := Lib.hid hn
        clear ha hb ha' hb' t1 t2 asc hL hn
        have qn : ((n : Int) == 0) = false := beq0 hn0
        go_enter Try.func8, Try.ntmps8
        go_upto_region 6 with (first
          | (go_at_call 11; refine (check_any _ _ _ b _ hnb hcb (hsB.keep hX2)).mono ?_; rintro e w3 ⟨rfl, hb3⟩; have hX3 := Bl.call hX2 hb3)
          | (go_at_call 11; refine (check_any _ _ _ a _ hna hca (hsA.keep hb1)).mono ?_; rintro e w2 ⟨rfl, hb2⟩; have hX2 := Bl.call hb1 hb2)
          | (go_at_call 21; refine (spots_any _ _ _ _ _ _ a b _ hna hnb hca hcb hsA hsB).mono ?_; rintro e w1 ⟨v1, rfl, ho1, hb1⟩; rw [HS.out] at ho1 ⊢))
        obtain ⟨A1, c1, rfl, hc1, hS1, -⟩ := ho1.sps
        rw [← HN.out] at hc1 hS1 ⊢
        have hS3 := (hS1.keep hb2).keep hb3
        clear ho1 hS1 hb1 hb2 hb3 hX2
        go_wp2_with fail
        go_loopw [9] (fun i wr => ∃ k : Nat, 1 ≤ k ∧ k ≤ n ∧ i = .int .i64 k ∧ Below w3.heap.size w3 wr) (fun i _ => n - (intOf i).toNat)
        case atStart => exact ⟨1, by omega, by omega, rfl, Below.refl _ _⟩
        case round =>
          obtain ⟨k, hk1, hk2, rfl, hb3⟩ := hrel
          by_cases hlt : k < n
          · obtain ⟨ba, oa, rfl, hbl, hc⟩ := (hS3.keep hb3).at_ hlt
            obtain ⟨e1, e2⟩ := hc k hlt
            obtain ⟨e3, e4⟩ := hc (k - 1) (by omega)
            clear hc
            have hls : lessS ((gt L (k - 1)).1, (gt L (k - 1)).2) ((gt L k).1, (gt L k).2) = true := by
              have := asc_at AS.out (i := k - 1) (by rw [← HN.out]; omega)
              rwa [show k - 1 + 1 = k by omega] at this
            have q1 : IntKind.i64.wrap ((k : Int) - 1) = (k : Int) - 1 := wrap_in _ (by omega) (by omega)
            have q2 : ((k : Int) - 1).toNat = k - 1 := by omega
            have q3 : (1 : Int) ≤ (k : Int) := by omega
            have q4 : (k : Int) - 1 < (n : Int) := by omega
            go_wp2_with fail
            refine wp_region_cls w3 [(⟨ba, oa + (k - 1) * 2, none⟩, .int .i64 (gt L (k - 1)).1), (⟨ba, oa + (k - 1) * 2 + 1, none⟩, .int .i64 (gt L (k - 1)).2), (⟨ba, oa + k * 2, none⟩, .int .i64 (gt L k).1), (⟨ba, oa + k * 2 + 1, none⟩, .int .i64 (gt L k).2)] (by kernel_rfl) (by kernel_rfl) ⟨hb3, by simp only [List.mem_cons, List.not_mem_nil, forall_eq_or_imp, or_false, forall_eq]; go_simp⟩ ?_
            repeat
              apply wq_plain
              · rfl
              · intro w1 hw1
                have hx := hw1.2
                simp only [List.mem_cons, List.not_mem_nil, forall_eq_or_imp, or_false, forall_eq] at hx
                go_simp
                first | rfl | exact calls_cls hw1 (rless_any _ _ _ _ _)
              go_simp
            refine wpQuiet_nil ?_
            intro w9 hCw9
            have hb9 := hCw9.1
            clear hCw9 e1 e2 e3 e4 q1 q2 q3 q4
            go_wp2_with fail
            exact ⟨⟨k + 1, by omega, by omega, by go_num, hb9⟩, by simp [intOf]; omega⟩
          · obtain rfl : n = k := by omega
            have hb := Bl.call hX3 hb3
            have m := modf z z.toNat n (by omega) hn0
            have hi0 : z.toNat % n < n := Nat.mod_lt _ hn0
            obtain ⟨i0, hi0'⟩ : ∃ i0, i0 = z.toNat % n := ⟨_, rfl⟩
            rw [← hi0'] at m hi0
            obtain ⟨ba, oa, rfl, hbl, hc⟩ := (hS3.keep hb3).at_ hi0
            obtain ⟨e1, e2⟩ := hc i0 hi0
            clear hc
            obtain ⟨tn, tb, tr⟩ := T2.out (gt L i0) (gt_in (by rw [← HN.out]; exact hi0))
            obtain ⟨px, hpx⟩ : ∃ px, px = (gt L i0).1 := ⟨_, rfl⟩
            obtain ⟨py, hpy⟩ : ∃ py, py = (gt L i0).2 := ⟨_, rfl⟩
            rw [show gt L i0 = (px, py) from Prod.ext hpx.symm hpy.symm] at tn tb tr
            rw [← hpx] at e1
            rw [← hpy] at e2
            have HBl := Lib.hid tb
            have hn8 : nb ≤ 1000000 := by omega
            obtain ⟨m1, m2, m3, m4⟩ := m
            have hcv : IntKind.i64.wrap z = z := wrap_in _ (by omega) (by omega)
            by_cases hm : checkW (movW b (px, py)) nb = 0
            · have qm : (checkW (movW b (px, py)) nb != 0) = false := by rw [hm]; rfl
              have HT := Lib.hid (show touchW a (movW b (px, py)) = (true, 0) by unfold touchW; rw [tr (by rw [lb]; exact hm)]; rfl)
              clear hm tr tb tn hpx hpy hi0' la lb
              go_wp2_with (first
                | (go_at_call 12; refine (nalive_any _).mono ?_; rintro e wz ⟨rfl, hbz⟩)
                | (go_at_call 23; refine (touch_any _ _ _ _ _ _ a (movW b (px, py)) _ hna hnb hca hc6 (hsA.keep hX7) hS7).mono ?_; rintro e w8 ⟨rfl, hb8⟩; rw [HT.out]; have hX8 := Bl.call hX7 hb8)
                | (go_at_call 11; refine (check_any _ _ _ (movW b (px, py)) _ hnb hc6 hS6).mono ?_; rintro e w7 ⟨rfl, hb7⟩; have hX7 := Bl.call hX6 hb7; have hS7 := hS6.keep hb7)
                | (go_at_call 14; refine (move_any _ _ _ b px py _ (by omega) (hsB.keep hX5)).mono ?_; rintro e w6 ⟨v6, rfl, ho6, hb6⟩; have hX6 := Bl.call hX5 hb6; obtain ⟨A6, c6, rfl, hc6, hS6, -⟩ := ho6.sps; rw [movW_len, hsB.1] at hc6 hS6 ⊢)
                | (go_at_call 13; refine (blocks_any _ _ _ _ _ _ a b px py _ hna hnb hca hcb (hsA.keep (Bl.alloc hb _)) (hsB.keep (Bl.alloc hb _))).mono ?_; rintro e w5 ⟨rfl, hb5⟩; rw [HBl.out]; have hX5 := Bl.call (Bl.alloc hb _) hb5; obtain ⟨d1, d2⟩ := spot_cells ((BlkS.new wr 24 #[.int .i64 px, .int .i64 py]).keep hb5)))
              go_ret
              exact ⟨rfl, Bl.call hX8 hbz⟩
            · have qm : (checkW (movW b (px, py)) nb != 0) = true := by rw [bne_iff_ne]; exact hm
              clear hm tr tb tn hpx hpy hi0' la lb
              go_wp2_with (first
                | (go_at_call 12; refine (nalive_any _).mono ?_; rintro e wz ⟨rfl, hbz⟩)
                | (go_at_call 11; refine (check_any _ _ _ (movW b (px, py)) _ hnb hc6 hS6).mono ?_; rintro e w7 ⟨rfl, hb7⟩; have hX7 := Bl.call hX6 hb7; have hS7 := hS6.keep hb7)
                | (go_at_call 14; refine (move_any _ _ _ b px py _ (by omega) (hsB.keep hX5)).mono ?_; rintro e w6 ⟨v6, rfl, ho6, hb6⟩; have hX6 := Bl.call hX5 hb6; obtain ⟨A6, c6, rfl, hc6, hS6, -⟩ := ho6.sps; rw [movW_len, hsB.1] at hc6 hS6 ⊢)
                | (go_at_call 13; refine (blocks_any _ _ _ _ _ _ a b px py _ hna hnb hca hcb (hsA.keep (Bl.alloc hb _)) (hsB.keep (Bl.alloc hb _))).mono ?_; rintro e w5 ⟨rfl, hb5⟩; rw [HBl.out]; have hX5 := Bl.call (Bl.alloc hb _) hb5; obtain ⟨d1, d2⟩ := spot_cells ((BlkS.new wr 24 #[.int .i64 px, .int .i64 py]).keep hb5)))
              go_ret
              exact ⟨rfl, Bl.call hX7 hbz⟩
      · have hS := spots_bad (a := a) (b := b) (by rw [la, lb]; by_cases g : checkW a na = 0; exact .inr (fun g2 => hab ⟨g, g2⟩); exact .inl g)
        obtain ⟨y, hy, hs⟩ : ∃ y, (y != 0) = true ∧ spotsW a b = (y, []) := ⟨_, bne_iff_ne.2 hS.1, Prod.ext rfl hS.2⟩
        have HS := Lib.hid hs
        clear hS hs
        by_cases ha : checkW a na = 0
        · have qa : (checkW a na != 0) = false := by rw [ha]; rfl
          have qb : (checkW b nb != 0) = true := by rw [bne_iff_ne]; exact fun g => hab ⟨ha, g⟩
          clear hab ha
          go_enter Try.func8, Try.ntmps8
          go_upto_region 5 with (first
            | (go_at_call 11; refine (check_any _ _ _ b _ hnb hcb (hsB.keep hX2)).mono ?_; rintro e w3 ⟨rfl, hb3⟩; have hX3 := Bl.call hX2 hb3)
            | (go_at_call 11; refine (check_any _ _ _ a _ hna hca (hsA.keep hb1)).mono ?_; rintro e w2 ⟨rfl, hb2⟩; have hX2 := Bl.call hb1 hb2)
            | (go_at_call 21; refine (spots_any _ _ _ _ _ _ a b _ hna hnb hca hcb hsA hsB).mono ?_; rintro e w1 ⟨v1, rfl, ho1, hb1⟩; rw [HS.out] at ho1 ⊢))
          obtain ⟨A1, c1, rfl, hc1, hS1, -⟩ := ho1.sps
          go_wp2_with (first | (go_at_call 12; refine (nalive_any _).mono ?_; rintro e wz ⟨rfl, hbz⟩))
          go_ret
          exact ⟨rfl, Bl.call hX3 hbz⟩
        · have qa : (checkW a na != 0) = true := by rw [bne_iff_ne]; exact ha
          clear hab ha
          go_enter Try.func8, Try.ntmps8
          go_upto_region 5 with (first
            | (go_at_call 11; refine (check_any _ _ _ a _ hna hca (hsA.keep hb1)).mono ?_; rintro e w2 ⟨rfl, hb2⟩; have hX2 := Bl.call hb1 hb2)
            | (go_at_call 21; refine (spots_any _ _ _ _ _ _ a b _ hna hnb hca hcb hsA hsB).mono ?_; rintro e w1 ⟨v1, rfl, ho1, hb1⟩; rw [HS.out] at ho1 ⊢))
          obtain ⟨A1, c1, rfl, hc1, hS1, -⟩ := ho1.sps
          go_wp2_with (first | (go_at_call 12; refine (nalive_any _).mono ?_; rintro e wz ⟨rfl, hbz⟩))
          go_ret
          exact ⟨rfl, Bl.call hX2 hbz⟩
    · have q9 : (8 : Int) < (nb : Int) := by omega
      go_enter Try.func8, Try.ntmps8
      go_wp2_with (first | (go_at_call 12; refine (nalive_any _).mono ?_; rintro e wz ⟨rfl, hbz⟩))
      go_ret
      exact ⟨rfl, hbz⟩
  · have q8 : (8 : Int) < (na : Int) := by omega
    go_enter Try.func8, Try.ntmps8
    go_wp2_with (first | (go_at_call 12; refine (nalive_any _).mono ?_; rintro e wz ⟨rfl, hbz⟩))
    go_ret
    exact ⟨rfl, hbz⟩

end Go.Proofs.Ytnggempmdhmoeaa

namespace Go.Proofs.Ytnggempmdhmoeaa
set_option linter.unusedVariables false
set_option linter.unusedSimpArgs false
open Go.ChangeShapes Go.WideShapes Go.ChangeAt Go.RowKit

namespace nofitTouches
set_option maxRecDepth 100000 in
set_option maxHeartbeats 1000000 in
theorem lifted (os : Os) (started : os.Started) (H : Type) (enc : TypeId × Value → H) :
    ReturnsInHanded {} Try.checked os 8 .any (Rows.nofitTouchesSpec.pre6 enc Try.prog Try.f8 Rows.nofitTouchesRow.domain false) (Rows.nofitTouchesSpec.post enc Try.prog Try.f8 false true false false) := by
  refine returnsInHanded_of_change (C := Try.checked) own started (by kernel_rfl) Try.func8
    (ChangeSpec.witness6 (enc := enc) (C := Try.checked) false ⟨#[], #[.slice none 0 0, .slice none 0 0, .int .u8 0], []⟩ 8 (by kernel_rfl) (by kernel_rfl) (by kernel_rfl) (by kernel_rfl)) ?_
  intro W base args ds gs before hval0 hW hcnd _
  have hval : ∀ (j : Nat) t v, Try.f8.params[j]? = some t → args[j]? = some v → Value.okWide Try.prog W .any base t v := hval0
  have hW' := hW
  obtain ⟨p, q, hA0, hV, rfl, hfz, hnd⟩ := hW
  have hA : DataW.TrodAll enc Try.prog W 0 (fun _ => true) true Try.f8.params.toList args.toList ds p := hA0
  rw [Try.params8] at hA hval
  obtain ⟨v0, vs0, d0, ds0, p0, q0, hargs, rfl, rfl, h0, r0⟩ := trodAll_cons hA
  obtain ⟨v1, vs1, d1, ds1, p1, q1, rfl, rfl, rfl, h1, r1⟩ := trodAll_cons r0
  obtain ⟨v2, vs2, d2, ds2, p2, q2, rfl, rfl, rfl, h2, r2⟩ := trodAll_cons r1
  obtain ⟨rfl, rfl, rfl⟩ := trodAll_nil r2
  obtain rfl : args = #[v0, v1, v2] := by cases args; simp_all
  obtain ⟨rfl, rfl⟩ := trodVars_none hV
  have k0 := h0
  have lt0 : ∀ x ∈ p0, x.block < W.heap.size := by obtain ⟨m, hm⟩ := k0; exact DataW.trod_lt m _ _ _ hm
  obtain ⟨A0, n0, c0, L0, rfl, w0⟩ := open_spots (hval 0 22 v0 rfl rfl) h0
  have k1 := h1
  have lt1 : ∀ x ∈ p1, x.block < W.heap.size := by obtain ⟨m, hm⟩ := k1; exact DataW.trod_lt m _ _ _ hm
  obtain ⟨A1, n1, c1, L1, rfl, w1⟩ := open_spots (hval 1 22 v1 rfl rfl) h1
  obtain ⟨a2, rfl, rfl, rfl, w2⟩ := open_int Try.underlying5 (hval 2 5 v2 rfl rfl) h2
  clear hA0 hval0
  refine (lawTouches A0 A1 c0 c1 n0 n1 L0 L1 a2 W w0.1 w1.1 w0.2.1 w1.2.1 w0.2.2.2.1 w1.2.2.2.1 (bounds_u8 w2)).mono fun e W' ⟨he, bel⟩ => ?_
  subst he
  exact ⟨_, rfl, _, _, _, [], _, [], hW', trodAll_mk1 (shut_bool Try.underlying4 _), (trodAll_cons_mk (Below.trod laidOut (by kernel_rfl) (of_decide_eq_true (by kernel_rfl)) k0 bel lt0) (trodAll_cons_mk (Below.trod laidOut (by kernel_rfl) (of_decide_eq_true (by kernel_rfl)) k1 bel lt1) (trodAll_cons_mk (shut_int Try.underlying5 w2) trodAll_mk0))), rfl, bel.frame _, fun h => by cases h⟩

theorem over : Rows.nofitTouchesRow.holds Try.pinned (OpenSpec.ofChange Rows.nofitTouchesSpec) :=
  OpenClaim.holds_of_wide 8 Try.f8 rfl rfl rfl rfl rfl rfl rfl ⟨rfl, rfl, rfl, rfl, rfl⟩ rfl rfl rfl rfl rfl (by kernel_rfl) Try.func8 (by kernel_rfl)
    (of_decide_eq_true (by kernel_rfl)) (by unfold Func.isWrapper; first | (rw [if_pos (by decide +kernel)]; kernel_rfl) | (rw [if_neg (by decide +kernel)]; exact ⟨rfl, rfl⟩))
    (fun os started H enc _ => lifted os started H enc)

theorem proved : Rows.NofitTouchesSaid := over
end nofitTouches

end Go.Proofs.Ytnggempmdhmoeaa

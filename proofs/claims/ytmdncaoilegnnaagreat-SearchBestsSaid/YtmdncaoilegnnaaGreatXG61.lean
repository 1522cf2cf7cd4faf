/- Lean texts of the claim. -/
import Derived.Test.YtmdncaoilegnnaaGreatXG56
import Derived.Test.YtmdncaoilegnnaaGreatXG60
namespace Go.Proofs.YtmdncaoilegnnaaGreat
set_option linter.unusedVariables false
set_option linter.unusedSimpArgs false
section
set_option maxRecDepth 100000
open Go.RowKit
set_option maxHeartbeats 400000 in
theorem rlss_any (ax ay bx bY : Int) (w : World) :
 Calls Tryz.prog 71 #[.agg #[.int .i64 ax, .int .i64 ay], .agg #[.int .i64 bx, .int .i64 bY]] w fun e w' => e = .returned (.bool (lessS (ax, ay) (bx, bY))) ∧ Below w.heap.size w w' := by
 go_enter Tryz.func71, Tryz.ntmps71
 go_wp2
 all_goals go_ret
 all_goals exact ⟨ret_bool (by rw [Bool.eq_iff_iff]; simp [lessS] <;> omega), (Bl.alloc (Bl.alloc Br _) _)⟩
theorem wpList_appSL {w : World} {ops : Array Oper} {rest : List Oper} {o : Oper} {a : Act} {Q : Exit → Act → World → Prop} (hgd : o.guard = none) (s x : Operand)
 (ho : o.op = .call { callee := .builtin .append, args := #[s, x], argTypes := #[47, 47] })
 (base : Nat) (v : Value) (l : List (Int × Int)) (hs : a.eval s = v) (hown : OwS w base v l)
 (A : Option Addr) (m c : Nat) (l2 : List (Int × Int)) (hx : a.eval x = .slice A m c) (hr : SpS w A m l2) (hnil : A = none → c = 0)
 (hlen : l.length + m ≤ 4000000000) (hbase : base ≤ w.heap.size)
 (h : ∀ v' w', OwS w' base v' (l ++ l2) → w.grownBy w' v.ownBlock → (v'.ownBlock = v.ownBlock ∨ v'.ownBlock = some w.heap.size) → wpList Tryz.prog ops Q rest (a.put o.dst v') w') :
 wpList Tryz.prog ops Q (o :: rest) a w := by
 obtain ⟨i, hi, hz0, hz1, hz2⟩ := info_parts infoS
 cases A with
 | none =>
   have h0 := hnil rfl
   subst h0
   have hm : m = 0 := by
    rcases Nat.eq_zero_or_pos m with h1 | h1
    ·exact h1
    ·obtain ⟨_, _, e, _⟩ := hr.at_ h1; cases e
   subst hm
   have hl2 : l2 = [] := List.eq_nil_of_length_eq_zero hr.1
   subst hl2
   refine wpList_append_own_none hgd s x 47 ho base 37 i 2 Tryz.underlying47 hi v l.length (l.flatMap enS) hs hown hx ?_
   exact h v w (by rw [List.append_nil]; exact hown) (World.grownBy.refl _ _) (Or.inl rfl)
 | some ad =>
   refine wpList_append_own_at (P := Tryz.prog) w hgd s x 47 ho base 37 i (.agg #[.int .i64 0, .int .i64 0]) 2 16 Tryz.underlying47 hi hz0 hz1 hz2 rfl (by omega) v l.length (l.flatMap enS) hs hown ad m c (l2.flatMap enS) hx (by rw [flat_len enS_len, hr.1]) (news_of_sps hr) ?_ (by unfold maxLen; omega) (by omega) hbase ?_
   ·intro u hu
    obtain ⟨p, _, hp⟩ := List.mem_flatMap.1 hu
    exact enS_one p u hp
   ·intro v' w' ho' hg _ hat
    refine h v' w' ?_ hg hat
    unfold OwS OwG
    rw [List.length_append, List.flatMap_append, hr.1]
    exact ho'
theorem wpList_appL {w : World} {ops : Array Oper} {rest : List Oper} {o : Oper} {a : Act} {Q : Exit → Act → World → Prop} (hgd : o.guard = none) (s x : Operand)
 (ho : o.op = .call { callee := .builtin .append, args := #[s, x], argTypes := #[47, 47] })
 (base : Nat) (v : Value) (l : List (Int × Int)) (hs : a.eval s = v) (hown : OwS w base v l)
 (bx c : Nat) (p : Int × Int) (tb : TypeId) (hx : a.eval x = .slice (some ⟨bx, 0, none⟩) 1 c) (hnew : BlkS w bx tb #[.int .i64 p.1, .int .i64 p.2])
 (hlen : l.length ≤ 4000000000) (hbase : base ≤ w.heap.size)
 (h : ∀ v' w', OwS w' base v' (l ++ [p]) → w.grownBy w' v.ownBlock → (v'.ownBlock = v.ownBlock ∨ v'.ownBlock = some w.heap.size) → wpList Tryz.prog ops Q rest (a.put o.dst v') w') :
 wpList Tryz.prog ops Q (o :: rest) a w :=
 wpList_app1 hgd s x 47 ho enS base 37 (.agg #[.int .i64 0, .int .i64 0]) 2 16 Tryz.underlying47 infoS rfl (by omega) enS_len enS_one v l hs hown bx c p tb hx hnew (by unfold maxLen; omega) (by omega) hbase h
theorem ins_no {l : List (Int × Int)} {s : Int × Int} {i : Nat} (h : insG lessS s l = l.take i ++ insG lessS s (l.drop i)) (hi : i < l.length) (h1 : lessS (gt l i) s = false) (h2 : eqS (gt l i) s = false) : insG lessS s l = l.take i ++ [s] ++ l.drop i := by
 have h3 : lessS s (gt l i) = true := by have := less_eq h1; rw [h2] at this; simpa using this.symm
 rw [h, drop_cons hi, insG_gt h1 h3]; simp
theorem ins_same {l : List (Int × Int)} {s : Int × Int} {i : Nat} (h : insG lessS s l = l.take i ++ insG lessS s (l.drop i)) (hi : i < l.length) (h1 : lessS (gt l i) s = false) (h2 : eqS (gt l i) s = true) : insG lessS s l = l := by
 have h3 : lessS s (gt l i) = false := by have := less_eq h1; rw [h2] at this; simpa using this.symm
 rw [h, drop_cons hi, insG_eq h1 h3, ← drop_cons hi, List.take_append_drop]
theorem ins_on {l : List (Int × Int)} {s : Int × Int} {i : Nat} (h : insG lessS s l = l.take i ++ insG lessS s (l.drop i)) (hi : i < l.length) (h1 : lessS (gt l i) s = true) : insG lessS s l = l.take (i + 1) ++ insG lessS s (l.drop (i + 1)) := by
 rw [h, drop_cons hi, insG_lt h1, gt_takeS hi]; simp
theorem ins_end {l : List (Int × Int)} {s : Int × Int} (h : insG lessS s l = l.take l.length ++ insG lessS s (l.drop l.length)) : insG lessS s l = l.take l.length ++ [s] ++ l.drop l.length := by
 rw [h, List.drop_length]; simp [insG]
set_option maxHeartbeats 2000000 in
theorem rins_any (B : Nat) (v : Value) (l : List (Int × Int)) (x y : Int) (w : World) (hBw : B ≤ w.heap.size) (hn : l.length ≤ 2000000000) (ho : OwS w B v l) :
 Calls Tryz.prog 38 #[v, .agg #[.int .i64 x, .int .i64 y]] w fun e w' => ∃ v', e = .returned v' ∧ OwS w' B v' (insG lessS (x, y) l) ∧ Below w.heap.size w w' := by
 have heqs := eqInSpot
 obtain ⟨A, c, rfl, hc, hs, hform⟩ : ∃ A c, v = .slice A l.length c ∧ l.length ≤ c ∧ SpS w A l.length l ∧ ((A = none ∧ l.length = 0 ∧ c = 0) ∨ ∃ b off, A = some ⟨b, off, none⟩) := by
  obtain ⟨A, c, rfl, hc, hs, -⟩ := ho.sps
  refine ⟨A, c, rfl, hc, hs, ?_⟩
  rcases OwG.form ho with ⟨e, rfl⟩ | ⟨g, cap, e, -⟩
  ·injection e with e1 e2 e3; exact .inl ⟨e1, rfl, e3⟩
  ·injection e with e1 e2 e3; exact .inr ⟨g, 0, e1⟩
 have HF := Hj hform
 have HO := Hj ho
 obtain ⟨n, hne⟩ : ∃ n, l.length = n := ⟨_, rfl⟩
 rw [hne] at hn hc hs HF HO ⊢
 have HN := Hj hne
 clear hne ho hform
 go_enter Tryz.func38, Tryz.ntmps38
 go_wp2_with fail
 go_loopw [5] (fun s5 wr => ∃ i : Nat, i ≤ n ∧ s5 = .int .i64 i ∧ BlkS wr w.heap.size 37 #[.int .i64 x, .int .i64 y] ∧ Below w.heap.size w wr ∧ Hid (insG lessS (x, y) l = l.take i ++ insG lessS (x, y) (l.drop i))) (fun i _ => n - (intOf i).toNat)
 case atStart => exact ⟨0, Nat.zero_le _, rfl, BlkS.new _ _ _, Bl.alloc Br _, Hj (by simp)⟩
 case round =>
  obtain ⟨i, hi, rfl, hB, hb, HI⟩ := hrel
  obtain ⟨d1, d2, d3, d4, d5⟩ := hB.two
  by_cases hlt : i < n
  ·obtain ⟨b, off, rfl, hbl, hcc⟩ := (hs.keep hb).at_ hlt
   obtain ⟨c1, c2⟩ := hcc i hlt
   clear hcc
   have hin : i < l.length := by rw [HN.out]; exact hlt
   obtain ⟨q, hq⟩ : ∃ q, gt l i = q := ⟨_, rfl⟩
   have HQ := Hj hq
   rw [hq] at c1 c2
   clear hq hbl
   have z1 : (i : Int) < (n : Int) := by omega
   cases hv1 : lessS (q.1, q.2) (x, y) with
   | true =>
     have HE := Hj (ins_on HI.out hin (by rw [HQ.out]; exact hv1))
     go_wp2_with fail
     refine Xc wr [(⟨w.heap.size, 0, none⟩, .int .i64 x), (⟨w.heap.size, 1, none⟩, .int .i64 y), (⟨b, off + i * 2, none⟩, .int .i64 q.1), (⟨b, off + i * 2 + 1, none⟩, .int .i64 q.2)] (by kernel_rfl) (by kernel_rfl) ⟨Br, by simp only [List.mem_cons, List.not_mem_nil, forall_eq_or_imp, or_false, forall_eq]; go_simp⟩ ?_
     repeat
      first
      | go_big_quiet_skip
      | go_big_quiet_want
        apply Exists.intro
        refine And.intro ?_ ?_
        ·intro w1 hw1
         have hx := hw1.2
         simp only [List.mem_cons, List.not_mem_nil, forall_eq_or_imp, or_false, forall_eq] at hx
         go_simp
         first | rfl | exact calls_cls hw1 (rlss_any _ _ _ _ _)
        go_simp
        go_big_quiet_on
     refine wpQuiet_nil ?_
     intro wy hCwy
     have hby := hCwy.1
     clear hCwy
     have y1 := Xa hby c1
     have y2 := Xa hby c2
     have hBy := hB.keep hby
     have hbY := Bl.call hb hby
     clear c1 c2 d1 d2 d3 d4 d5 hB hb hby
     obtain ⟨d1, d2, d3, d4, d5⟩ := hBy.two
     go_wp2_with fail
     exact ⟨⟨i + 1, by omega, by go_num, hBy, hbY, HE⟩, by simp [intOf]; omega⟩
   | false =>
     cases hv2 : eqS (q.1, q.2) (x, y) with
     | true =>
       have HE := Hj (ins_same HI.out hin (by rw [HQ.out]; exact hv1) (by rw [HQ.out]; exact hv2))
       go_wp2_with fail
       refine Xc wr [(⟨w.heap.size, 0, none⟩, .int .i64 x), (⟨w.heap.size, 1, none⟩, .int .i64 y), (⟨b, off + i * 2, none⟩, .int .i64 q.1), (⟨b, off + i * 2 + 1, none⟩, .int .i64 q.2)] (by kernel_rfl) (by kernel_rfl) ⟨Br, by simp only [List.mem_cons, List.not_mem_nil, forall_eq_or_imp, or_false, forall_eq]; go_simp⟩ ?_
       repeat
        first
        | go_big_quiet_skip
        | go_big_quiet_want
          apply Exists.intro
          refine And.intro ?_ ?_
          ·intro w1 hw1
           have hx := hw1.2
           simp only [List.mem_cons, List.not_mem_nil, forall_eq_or_imp, or_false, forall_eq] at hx
           go_simp
           first | rfl | exact calls_cls hw1 (rlss_any _ _ _ _ _)
          go_simp
          go_big_quiet_on
       refine wpQuiet_nil ?_
       intro wy hCwy
       have hby := hCwy.1
       clear hCwy
       have y1 := Xa hby c1
       have y2 := Xa hby c2
       have hBy := hB.keep hby
       have hbY := Bl.call hb hby
       clear c1 c2 d1 d2 d3 d4 d5 hB hb hby
       obtain ⟨d1, d2, d3, d4, d5⟩ := hBy.two
       go_wp2_with fail
       refine Xc wy [(⟨w.heap.size, 0, none⟩, .int .i64 x), (⟨w.heap.size, 1, none⟩, .int .i64 y), (⟨b, off + i * 2, none⟩, .int .i64 q.1), (⟨b, off + i * 2 + 1, none⟩, .int .i64 q.2)] (by kernel_rfl) (by kernel_rfl) ⟨Br, by simp only [List.mem_cons, List.not_mem_nil, forall_eq_or_imp, or_false, forall_eq]; go_simp⟩ ?_
       repeat
        first
        | go_big_quiet_skip
        | go_big_quiet_want
          apply Exists.intro
          refine And.intro ?_ ?_
          ·intro w1 hw1
           have hx := hw1.2
           simp only [List.mem_cons, List.not_mem_nil, forall_eq_or_imp, or_false, forall_eq] at hx
           go_simp
           first | rfl
          go_simp
          go_big_quiet_on
       refine wpQuiet_nil ?_
       intro wz hCwz
       have hbz := hCwz.1
       clear hCwz
       have hBz := hBy.keep hbz
       have hbZ := Bl.call hbY hbz
       clear y1 y2 d1 d2 d3 d4 d5 hBy hbY hbz
       obtain ⟨d1, d2, d3, d4, d5⟩ := hBz.two
       go_wp2_with fail
       go_ret
       exact ⟨_, rfl, by rw [HE.out]; exact OwG.keep HO.out hbZ, hbZ⟩
     | false =>
       have HE := Hj (ins_no HI.out hin (by rw [HQ.out]; exact hv1) (by rw [HQ.out]; exact hv2))
       go_wp2_with fail
       refine Xc wr [(⟨w.heap.size, 0, none⟩, .int .i64 x), (⟨w.heap.size, 1, none⟩, .int .i64 y), (⟨b, off + i * 2, none⟩, .int .i64 q.1), (⟨b, off + i * 2 + 1, none⟩, .int .i64 q.2)] (by kernel_rfl) (by kernel_rfl) ⟨Br, by simp only [List.mem_cons, List.not_mem_nil, forall_eq_or_imp, or_false, forall_eq]; go_simp⟩ ?_
       repeat
        first
        | go_big_quiet_skip
        | go_big_quiet_want
          apply Exists.intro
          refine And.intro ?_ ?_
          ·intro w1 hw1
           have hx := hw1.2
           simp only [List.mem_cons, List.not_mem_nil, forall_eq_or_imp, or_false, forall_eq] at hx
           go_simp
           first | rfl | exact calls_cls hw1 (rlss_any _ _ _ _ _)
          go_simp
          go_big_quiet_on
       refine wpQuiet_nil ?_
       intro wy hCwy
       have hby := hCwy.1
       clear hCwy
       have y1 := Xa hby c1
       have y2 := Xa hby c2
       have hBy := hB.keep hby
       have hbY := Bl.call hb hby
       clear c1 c2 d1 d2 d3 d4 d5 hB hb hby
       obtain ⟨d1, d2, d3, d4, d5⟩ := hBy.two
       go_wp2_with fail
       refine Xc wy [(⟨w.heap.size, 0, none⟩, .int .i64 x), (⟨w.heap.size, 1, none⟩, .int .i64 y), (⟨b, off + i * 2, none⟩, .int .i64 q.1), (⟨b, off + i * 2 + 1, none⟩, .int .i64 q.2)] (by kernel_rfl) (by kernel_rfl) ⟨Br, by simp only [List.mem_cons, List.not_mem_nil, forall_eq_or_imp, or_false, forall_eq]; go_simp⟩ ?_
       repeat
        first
        | go_big_quiet_skip
        | go_big_quiet_want
          apply Exists.intro
          refine And.intro ?_ ?_
          ·intro w1 hw1
           have hx := hw1.2
           simp only [List.mem_cons, List.not_mem_nil, forall_eq_or_imp, or_false, forall_eq] at hx
           go_simp
           first | rfl
          go_simp
          go_big_quiet_on
       refine wpQuiet_nil ?_
       intro wz hCwz
       have hbz := hCwz.1
       clear hCwz
       have hBz := hBy.keep hbz
       have hbZ := Bl.call hbY hbz
       clear y1 y2 d1 d2 d3 d4 d5 hBy hbY hbz
       obtain ⟨d1, d2, d3, d4, d5⟩ := hBz.two
       have hnil : OwS wz (w.heap.size + 1) (.slice none 0 0) [] := OwG.nil
       have hlen1 : ([] : List (Int × Int)).length + i ≤ 4000000000 := by simp; omega
       have hlt1 : (l.take i).length = i := by rw [List.length_take, HN.out]; omega
       have hlen2 : (l.take i ++ [(x, y)]).length + (n - i) ≤ 4000000000 := by rw [List.length_append, hlt1]; simp; omega
       have q1 : (i : Int) ≤ (n : Int) := by omega
       have q2 : (i : Int) ≤ (c : Int) := by omega
       have hic : i ≤ c := by omega
       obtain ⟨A2, hA2⟩ : ∃ A2 : Option Addr, (if c = i then some ⟨b, off, none⟩ else some ⟨b, off + i * 2, none⟩) = A2 := ⟨_, rfl⟩
       have HA := Hj hA2
       have hz2 : A2 = none → c - i = 0 := by
        intro h; subst h; split at hA2 <;> cases hA2
       have hs2 : ∀ w', SpS w' (some ⟨b, off, none⟩) n l → SpS w' A2 (n - i) (l.drop i) := by
        intro w' h
        by_cases hcc : c = i
        ·rw [if_pos hcc] at hA2
         have h2 := h.take (Nat.zero_le n)
         rw [← hA2, show n - i = 0 by omega, List.drop_of_length_le (by rw [h.1]; omega)]
         exact h2
        ·rw [if_neg hcc] at hA2
         rw [← hA2]
         exact h.drop hi
       clear hA2
       go_wp2_with (first
        | (at_builtin; have hzz := hbb; refine wpList_appSL rfl _ _ rfl (w.heap.size + 1) _ (l.take i ++ [(x, y)]) rfl ho2 (some ⟨b, off + i * 2, none⟩) (n - i) (c - i) (l.drop i) rfl ((hs.keep hbb).drop hi) (fun h => by cases h) hlen2 (by have := hg2.size; simp at this; omega) ?_; intro v3 wc ho3 hg3 hat3; have hbc := below_app hbb (OwG.lower ho2 (by omega)) hg3)
        | (at_builtin; have hzz := hba; refine wpList_appL rfl _ _ rfl (w.heap.size + 1) _ (l.take i) rfl (OwG.alloc ho1 _) wa.heap.size 1 (x, y) 37 rfl (BlkS.new _ _ _) (by rw [hlt1]; omega) (by simp; omega) ?_; intro v2 wb ho2 hg2 hat2; have hbb := below_app (Bl.alloc hba _) (OwG.lower (OwG.alloc ho1 _) (by omega)) hg2)
        | (at_builtin; (refine wpList_appSL rfl _ _ rfl (w.heap.size + 1) (.slice none 0 0) [] rfl hnil (some ⟨b, off, none⟩) i c (l.take i) rfl ((hs.keep hbZ).take hi) (fun h => by cases h) hlen1 d5 ?_; intro v1 wa ho1 hg1 hat1; rw [List.nil_append] at ho1; have hba := below_app hbZ (OwG.lower hnil (by omega)) hg1; have hBa : BlkS wa w.heap.size 37 #[.int .i64 x, .int .i64 y] := (hg1.block w.heap.size d5 (by simp [Value.ownBlock])).trans hBz; obtain ⟨e1, e2, e3, e4, e5⟩ := hBa.two)))
       all_goals go_ret
       all_goals exact ⟨_, rfl, by rw [HE.out]; exact OwG.lower ho3 (by omega), hbc⟩
  ·obtain rfl : n = i := by omega
   have HE := Hj (show insG lessS (x, y) l = l.take n ++ [(x, y)] ++ l.drop n by have := HI.out; rw [← HN.out] at this ⊢; exact ins_end this)
   go_wp2_with fail
   refine Xc wr [(⟨w.heap.size, 0, none⟩, .int .i64 x), (⟨w.heap.size, 1, none⟩, .int .i64 y)] (by kernel_rfl) (by kernel_rfl) ⟨Br, by simp only [List.mem_cons, List.not_mem_nil, forall_eq_or_imp, or_false, forall_eq]; go_simp⟩ ?_
   repeat
    first
    | go_big_quiet_skip
    | go_big_quiet_want
      apply Exists.intro
      refine And.intro ?_ ?_
      ·intro w1 hw1
       have hx := hw1.2
       simp only [List.mem_cons, List.not_mem_nil, forall_eq_or_imp, or_false, forall_eq] at hx
       go_simp
       first | rfl | exact calls_cls hw1 (rlss_any _ _ _ _ _)
      go_simp
      go_big_quiet_on
   refine wpQuiet_nil ?_
   intro wy hCwy
   have hby := hCwy.1
   clear hCwy
   have hBy := hB.keep hby
   have hbY := Bl.call hb hby
   clear d1 d2 d3 d4 d5 hB hb hby
   obtain ⟨d1, d2, d3, d4, d5⟩ := hBy.two
   go_wp2_with fail
   refine Xc wy [(⟨w.heap.size, 0, none⟩, .int .i64 x), (⟨w.heap.size, 1, none⟩, .int .i64 y)] (by kernel_rfl) (by kernel_rfl) ⟨Br, by simp only [List.mem_cons, List.not_mem_nil, forall_eq_or_imp, or_false, forall_eq]; go_simp⟩ ?_
   repeat
    first
    | go_big_quiet_skip
    | go_big_quiet_want
      apply Exists.intro
      refine And.intro ?_ ?_
      ·intro w1 hw1
       have hx := hw1.2
       simp only [List.mem_cons, List.not_mem_nil, forall_eq_or_imp, or_false, forall_eq] at hx
       go_simp
       first | rfl
      go_simp
      go_big_quiet_on
   refine wpQuiet_nil ?_
   intro wz hCwz
   have hbz := hCwz.1
   clear hCwz
   have hBz := hBy.keep hbz
   have hbZ := Bl.call hbY hbz
   clear d1 d2 d3 d4 d5 hBy hbY hbz
   obtain ⟨d1, d2, d3, d4, d5⟩ := hBz.two
   rcases HF.out with ⟨rfl, hn0, rfl⟩ | ⟨b, off, rfl⟩
   ·subst hn0
    have hl0 : l = [] := List.eq_nil_of_length_eq_zero HN.out
    subst hl0
    have hnil : OwS wz (w.heap.size + 1) (.slice none 0 0) [] := OwG.nil
    have hE : ∀ w', SpS w' none 0 [] := fun w' => ⟨rfl, .inl rfl⟩
    go_wp2_with (first
     | (at_builtin; have hzz := hbb; refine wpList_appSL rfl _ _ rfl (w.heap.size + 1) _ [(x, y)] rfl ho2 none 0 0 [] rfl (hE _) (fun _ => rfl) (by simp) (by have := hg2.size; simp at this; omega) ?_; intro v3 wc ho3 hg3 hat3; have hbc := below_app hbb (OwG.lower ho2 (by omega)) hg3)
     | (at_builtin; have hzz := hba; refine wpList_appL rfl _ _ rfl (w.heap.size + 1) _ [] rfl (OwG.alloc ho1 _) wa.heap.size 1 (x, y) 37 rfl (BlkS.new _ _ _) (by simp) (by simp; omega) ?_; intro v2 wb ho2 hg2 hat2; rw [List.nil_append] at ho2; have hbb := below_app (Bl.alloc hba _) (OwG.lower (OwG.alloc ho1 _) (by omega)) hg2)
     | (at_builtin; refine wpList_appSL rfl _ _ rfl (w.heap.size + 1) (.slice none 0 0) [] rfl hnil none 0 0 [] rfl (hE _) (fun _ => rfl) (by simp) d5 ?_; intro v1 wa ho1 hg1 hat1; rw [List.nil_append] at ho1; have hba := below_app hbZ (OwG.lower hnil (by omega)) hg1; have hBa : BlkS wa w.heap.size 37 #[.int .i64 x, .int .i64 y] := (hg1.block w.heap.size d5 (by simp [Value.ownBlock])).trans hBz; obtain ⟨e1, e2, e3, e4, e5⟩ := hBa.two))
    all_goals go_ret
    all_goals exact ⟨_, rfl, by rw [HE.out]; exact OwG.lower ho3 (by omega), hbc⟩
   ·have hnil : OwS wz (w.heap.size + 1) (.slice none 0 0) [] := OwG.nil
    have hlen1 : ([] : List (Int × Int)).length + n ≤ 4000000000 := by simp; omega
    have hlt1 : (l.take n).length = n := by rw [List.length_take, HN.out]; omega
    have hlen2 : (l.take n ++ [(x, y)]).length + (n - n) ≤ 4000000000 := by rw [List.length_append, hlt1]; simp; omega
    have q1 : (n : Int) ≤ (n : Int) := by omega
    have q2 : (n : Int) ≤ (c : Int) := by omega
    have hic : n ≤ c := by omega
    obtain ⟨A2, hA2⟩ : ∃ A2 : Option Addr, (if c = n then some ⟨b, off, none⟩ else some ⟨b, off + n * 2, none⟩) = A2 := ⟨_, rfl⟩
    have HA := Hj hA2
    have hz2 : A2 = none → c - n = 0 := by
     intro h; subst h; split at hA2 <;> cases hA2
    have hs2 : ∀ w', SpS w' (some ⟨b, off, none⟩) n l → SpS w' A2 (n - n) (l.drop n) := by
     intro w' h
     by_cases hcc : c = n
     ·rw [if_pos hcc] at hA2
      have h2 := h.take (Nat.zero_le n)
      rw [← hA2, show n - n = 0 by omega, List.drop_of_length_le (by rw [h.1]; omega)]
      exact h2
     ·rw [if_neg hcc] at hA2
      rw [← hA2]
      exact h.drop hi
    clear hA2
    go_wp2_with (first
     | (at_builtin; have hzz := hbb; refine wpList_appSL rfl _ _ rfl (w.heap.size + 1) _ (l.take n ++ [(x, y)]) rfl ho2 A2 0 (c - n) [] (by rw [← HA.out]; rfl) ⟨rfl, .inl rfl⟩ hz2 (by have := hlen2; omega) (by have := hg2.size; simp at this; omega) ?_; intro v3 wc ho3 hg3 hat3; have hbc := below_app hbb (OwG.lower ho2 (by omega)) hg3)
     | (at_builtin; have hzz := hba; refine wpList_appL rfl _ _ rfl (w.heap.size + 1) _ (l.take n) rfl (OwG.alloc ho1 _) wa.heap.size 1 (x, y) 37 rfl (BlkS.new _ _ _) (by rw [hlt1]; omega) (by simp; omega) ?_; intro v2 wb ho2 hg2 hat2; have hbb := below_app (Bl.alloc hba _) (OwG.lower (OwG.alloc ho1 _) (by omega)) hg2)
     | (at_builtin; (refine wpList_appSL rfl _ _ rfl (w.heap.size + 1) (.slice none 0 0) [] rfl hnil (some ⟨b, off, none⟩) n c (l.take n) rfl ((hs.keep hbZ).take hi) (fun h => by cases h) hlen1 d5 ?_; intro v1 wa ho1 hg1 hat1; rw [List.nil_append] at ho1; have hba := below_app hbZ (OwG.lower hnil (by omega)) hg1; have hBa : BlkS wa w.heap.size 37 #[.int .i64 x, .int .i64 y] := (hg1.block w.heap.size d5 (by simp [Value.ownBlock])).trans hBz; obtain ⟨e1, e2, e3, e4, e5⟩ := hBa.two)))
    all_goals go_ret
    all_goals exact ⟨_, rfl, by rw [HE.out, List.drop_of_length_le (by rw [HN.out]; exact Nat.le_refl _)]; exact OwG.lower ho3 (by omega), hbc⟩
end
end Go.Proofs.YtmdncaoilegnnaaGreat

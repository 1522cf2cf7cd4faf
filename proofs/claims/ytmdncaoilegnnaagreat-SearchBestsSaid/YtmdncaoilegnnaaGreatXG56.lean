/- Lean texts of the claim. -/
import Derived.Test.YtmdncaoilegnnaaGreatXG55
namespace Go.Proofs.YtmdncaoilegnnaaGreat
set_option linter.unusedVariables false
set_option linter.unusedSimpArgs false
section
set_option maxRecDepth 100000
open Go.RowKit
theorem gt_takeS {l : List (Int × Int)} {i : Nat} (h : i < l.length) : l.take (i + 1) = l.take i ++ [gt l i] := by
 rw [List.take_succ_eq_append_getElem h]; simp [gt, h]
theorem less_eq {x s : Int × Int} (h : lessS x s = false) : eqS x s = !lessS s x := by
 obtain ⟨a, b⟩ := x; obtain ⟨c, d⟩ := s
 unfold lessS at *; unfold eqS
 rw [Bool.eq_iff_iff]
 simp at *
 omega
set_option maxHeartbeats 2000000 in
theorem rput_any (A : Option Addr) (cap n : Nat) (l : List (Int × Int)) (x y : Int) (w : World) (hn : n ≤ 900000) (hs : SpS w A n l) :
 Calls Tryz.prog 101 #[.slice A n cap, .agg #[.int .i64 x, .int .i64 y]] w (RetS w (insG lessS (x, y) l)) := by
 have HN := Hj hs.1
 have heqs := eqInSpot
 go_enter Tryz.func101, Tryz.ntmps101
 go_wp2_with fail
 go_loopw [5, 6, 7] (fun s5 s6 s7 wr => ∃ (i : Nat) (d : Bool) (out : List (Int × Int)), i ≤ n ∧ s7 = .int .i64 i ∧ s6 = .bool d ∧ OwS wr (w.heap.size + 1) s5 out ∧ BlkS wr w.heap.size 37 #[.int .i64 x, .int .i64 y] ∧ Below w.heap.size w wr ∧ out.length ≤ i + 1 ∧ Hid (InsI lessS l (x, y) i d out)) (fun _ _ i _ => n - (intOf i).toNat)
 case atStart => exact ⟨0, false, [], Nat.zero_le _, rfl, rfl, OwG.nil, BlkS.new _ _ _, Bl.alloc Br _, by simp, Hj (.inl ⟨rfl, by simp, by simp⟩)⟩
 case round =>
  obtain ⟨i, d, out, hi, rfl, rfl, ho, hB, hb, hol, HI⟩ := hrel
  obtain ⟨d1, d2, d3, d4, d5⟩ := hB.two
  by_cases hlt : i < n
  ·obtain ⟨b, off, rfl, hbl, hc⟩ := (hs.keep hb).at_ hlt
   obtain ⟨c1, c2⟩ := hc i hlt
   clear hc
   have hin : i < l.length := by rw [HN.out]; exact hlt
   have HD := Hj (drop_cons hin)
   have HT := Hj (gt_takeS hin)
   obtain ⟨q, hq⟩ : ∃ q, gt l i = q := ⟨_, rfl⟩
   rw [hq] at c1 c2 HD HT
   have HQ := Hj hq
   clear hq hin hbl
   have z1 : (i : Int) < (n : Int) := by omega
   cases d with
   | true =>
     go_wp2_with fail
     refine Xc wr [(⟨w.heap.size, 0, none⟩, .int .i64 x), (⟨w.heap.size, 1, none⟩, .int .i64 y), (⟨b, off + i * 2, none⟩, .int .i64 q.1), (⟨b, off + i * 2 + 1, none⟩, .int .i64 q.2)] (by kernel_rfl) (by kernel_rfl) ⟨Br, by simp only [List.mem_cons, List.not_mem_nil, forall_eq_or_imp, or_false, forall_eq]; go_simp⟩ ?_
     repeat
      first
      | go_big_quiet_skip
      | go_big_quiet_want
        apply Exists.intro
        refine And.intro ?_ ?_
        ·intro w1 hw1
         have hx := hw1.2
         simp only [List.mem_cons, List.not_mem_nil, forall_eq_or_imp, or_false, forall_eq] at hx
         go_simp
         first | rfl | exact calls_cls hw1 (rless_any _ _ _ _ _)
        go_simp
        go_big_quiet_on
     refine wpQuiet_nil ?_
     intro wy hCwy
     have hby := hCwy.1
     clear hCwy
     have y1 := Xa hby c1
     have y2 := Xa hby c2
     have hBy := hB.keep hby
     have hoy : OwS wy (w.heap.size + 1) u5 out := OwG.keep ho hby
     have hbY := Bl.call hb hby
     clear c1 c2 d1 d2 d3 d4 d5 hB ho hb hby
     have hsz : w.heap.size < wy.heap.size := hBy.lt
     obtain ⟨d1, d2, d3, d4, d5⟩ := hBy.two
     go_wp2_with (at_builtin; refine wpList_appS rfl _ _ rfl (w.heap.size + 1) _ out rfl (hoy.alloc _) wy.heap.size 1 q 37 rfl (BlkS.new _ _ _) (by omega) (by simp; omega) ?_; intro v' wv ho' hg' hat')
     have hX := Bl.alloc hbY (.cells #[.int .i64 q.1, .int .i64 q.2] 37)
     have hogy : OwS (wy.alloc (.cells #[.int .i64 q.1, .int .i64 q.2] 37)) (w.heap.size + 1) u5 out := hoy.alloc _
     have hne : some w.heap.size ≠ u5.ownBlock := fun e => by have := (OwG.lt hoy _ e.symm).1; omega
     have hBv : BlkS wv w.heap.size 37 #[.int .i64 x, .int .i64 y] := (hg'.block w.heap.size (hBy.alloc _).lt hne).trans (hBy.alloc _)
     have hbv : Below w.heap.size w wv := below_app hX (OwG.lower hogy (by omega)) hg'
     exact ⟨⟨i + 1, true, out ++ [q], by omega, by go_num, rfl, ho', hBv, hbv, by rw [List.length_append]; simp; omega, Hj (HI.out.on HD.out)⟩, by simp [intOf]; omega⟩
   | false =>
     cases hv1 : lessS (q.1, q.2) (x, y) with
     | true =>
       go_wp2_with fail
       refine Xc wr [(⟨w.heap.size, 0, none⟩, .int .i64 x), (⟨w.heap.size, 1, none⟩, .int .i64 y), (⟨b, off + i * 2, none⟩, .int .i64 q.1), (⟨b, off + i * 2 + 1, none⟩, .int .i64 q.2)] (by kernel_rfl) (by kernel_rfl) ⟨Br, by simp only [List.mem_cons, List.not_mem_nil, forall_eq_or_imp, or_false, forall_eq]; go_simp⟩ ?_
       repeat
        first
        | go_big_quiet_skip
        | go_big_quiet_want
          apply Exists.intro
          refine And.intro ?_ ?_
          ·intro w1 hw1
           have hx := hw1.2
           simp only [List.mem_cons, List.not_mem_nil, forall_eq_or_imp, or_false, forall_eq] at hx
           go_simp
           first | rfl | exact calls_cls hw1 (rless_any _ _ _ _ _)
          go_simp
          go_big_quiet_on
       refine wpQuiet_nil ?_
       intro wy hCwy
       have hby := hCwy.1
       clear hCwy
       have y1 := Xa hby c1
       have y2 := Xa hby c2
       have hBy := hB.keep hby
       have hoy : OwS wy (w.heap.size + 1) u5 out := OwG.keep ho hby
       have hbY := Bl.call hb hby
       clear c1 c2 d1 d2 d3 d4 d5 hB ho hb hby
       have hsz : w.heap.size < wy.heap.size := hBy.lt
       obtain ⟨d1, d2, d3, d4, d5⟩ := hBy.two
       go_wp2_with (at_builtin; refine wpList_appS rfl _ _ rfl (w.heap.size + 1) _ out rfl (hoy.alloc _) wy.heap.size 1 q 37 rfl (BlkS.new _ _ _) (by omega) (by simp; omega) ?_; intro v' wv ho' hg' hat')
       have hX := Bl.alloc hbY (.cells #[.int .i64 q.1, .int .i64 q.2] 37)
       have hogy : OwS (wy.alloc (.cells #[.int .i64 q.1, .int .i64 q.2] 37)) (w.heap.size + 1) u5 out := hoy.alloc _
       have hne : some w.heap.size ≠ u5.ownBlock := fun e => by have := (OwG.lt hoy _ e.symm).1; omega
       have hBv : BlkS wv w.heap.size 37 #[.int .i64 x, .int .i64 y] := (hg'.block w.heap.size (hBy.alloc _).lt hne).trans (hBy.alloc _)
       have hbv : Below w.heap.size w wv := below_app hX (OwG.lower hogy (by omega)) hg'
       exact ⟨⟨i + 1, false, out ++ [q], by omega, by go_num, rfl, ho', hBv, hbv, by rw [List.length_append]; simp; omega, Hj (HI.out.ltc HD.out HT.out hv1)⟩, by simp [intOf]; omega⟩
     | false =>
       have hol2 : out.length ≤ i := by
        rcases HI.out with ⟨-, e, -⟩ | ⟨e, -⟩
        ·rw [e, List.length_take]; omega
        ·cases e
       cases hv2 : eqS (q.1, q.2) (x, y) with
       | true =>
         have HV2 := Hj (show lessS (x, y) q = false by have := less_eq hv1; rw [hv2] at this; simpa using this)
         go_wp2_with fail
         refine Xc wr [(⟨w.heap.size, 0, none⟩, .int .i64 x), (⟨w.heap.size, 1, none⟩, .int .i64 y), (⟨b, off + i * 2, none⟩, .int .i64 q.1), (⟨b, off + i * 2 + 1, none⟩, .int .i64 q.2)] (by kernel_rfl) (by kernel_rfl) ⟨Br, by simp only [List.mem_cons, List.not_mem_nil, forall_eq_or_imp, or_false, forall_eq]; go_simp⟩ ?_
         repeat
          first
          | go_big_quiet_skip
          | go_big_quiet_want
            apply Exists.intro
            refine And.intro ?_ ?_
            ·intro w1 hw1
             have hx := hw1.2
             simp only [List.mem_cons, List.not_mem_nil, forall_eq_or_imp, or_false, forall_eq] at hx
             go_simp
             first | rfl | exact calls_cls hw1 (rless_any _ _ _ _ _)
            go_simp
            go_big_quiet_on
         refine wpQuiet_nil ?_
         intro wy hCwy
         have hby := hCwy.1
         clear hCwy
         have y1 := Xa hby c1
         have y2 := Xa hby c2
         have hBy := hB.keep hby
         have hoy : OwS wy (w.heap.size + 1) u5 out := OwG.keep ho hby
         have hbY := Bl.call hb hby
         clear c1 c2 d1 d2 d3 d4 d5 hB ho hb hby
         have hsz : w.heap.size < wy.heap.size := hBy.lt
         obtain ⟨d1, d2, d3, d4, d5⟩ := hBy.two
         go_wp2_with fail
         refine Xc wy [(⟨w.heap.size, 0, none⟩, .int .i64 x), (⟨w.heap.size, 1, none⟩, .int .i64 y), (⟨b, off + i * 2, none⟩, .int .i64 q.1), (⟨b, off + i * 2 + 1, none⟩, .int .i64 q.2)] (by kernel_rfl) (by kernel_rfl) ⟨Br, by simp only [List.mem_cons, List.not_mem_nil, forall_eq_or_imp, or_false, forall_eq]; go_simp⟩ ?_
         repeat
          apply wq_plain
          ·rfl
          ·intro w1 hw1
           have hx := hw1.2
           simp only [List.mem_cons, List.not_mem_nil, forall_eq_or_imp, or_false, forall_eq] at hx
           go_simp
           first | rfl
          go_simp
         refine wpQuiet_nil ?_
         intro wz hCwz
         have hbz := hCwz.1
         clear hCwz
         have t1 := Xa hbz y1
         have t2 := Xa hbz y2
         have hBz := hBy.keep hbz
         have hoz : OwS wz (w.heap.size + 1) u5 out := OwG.keep hoy hbz
         have hbZ := Bl.call hbY hbz
         clear y1 y2 d1 d2 d3 d4 d5 hBy hoy hbY hbz hsz
         have hsz : w.heap.size < wz.heap.size := hBz.lt
         obtain ⟨d1, d2, d3, d4, d5⟩ := hBz.two
         go_wp2_with (at_builtin; refine wpList_appS rfl _ _ rfl (w.heap.size + 1) _ out rfl (hoz.alloc _) wz.heap.size 1 q 37 rfl (BlkS.new _ _ _) (by omega) (by simp; omega) ?_; intro v' wv ho' hg' hat')
         have hX := Bl.alloc hbZ (.cells #[.int .i64 q.1, .int .i64 q.2] 37)
         have hogz : OwS (wz.alloc (.cells #[.int .i64 q.1, .int .i64 q.2] 37)) (w.heap.size + 1) u5 out := hoz.alloc _
         have hne : some w.heap.size ≠ u5.ownBlock := fun e => by have := (OwG.lt hoz _ e.symm).1; omega
         have hBv : BlkS wv w.heap.size 37 #[.int .i64 x, .int .i64 y] := (hg'.block w.heap.size (hBz.alloc _).lt hne).trans (hBz.alloc _)
         have hbv : Below w.heap.size w wv := below_app hX (OwG.lower hogz (by omega)) hg'
         exact ⟨⟨i + 1, true, out ++ [q], by omega, by go_num, rfl, ho', hBv, hbv, by rw [List.length_append]; simp; omega, Hj (HI.out.eqc HD.out hv1 HV2.out)⟩, by simp [intOf]; omega⟩
       | false =>
         have HV2 := Hj (show lessS (x, y) q = true by have := less_eq hv1; rw [hv2] at this; simpa using this)
         go_wp2_with fail
         refine Xc wr [(⟨w.heap.size, 0, none⟩, .int .i64 x), (⟨w.heap.size, 1, none⟩, .int .i64 y), (⟨b, off + i * 2, none⟩, .int .i64 q.1), (⟨b, off + i * 2 + 1, none⟩, .int .i64 q.2)] (by kernel_rfl) (by kernel_rfl) ⟨Br, by simp only [List.mem_cons, List.not_mem_nil, forall_eq_or_imp, or_false, forall_eq]; go_simp⟩ ?_
         repeat
          first
          | go_big_quiet_skip
          | go_big_quiet_want
            apply Exists.intro
            refine And.intro ?_ ?_
            ·intro w1 hw1
             have hx := hw1.2
             simp only [List.mem_cons, List.not_mem_nil, forall_eq_or_imp, or_false, forall_eq] at hx
             go_simp
             first | rfl | exact calls_cls hw1 (rless_any _ _ _ _ _)
            go_simp
            go_big_quiet_on
         refine wpQuiet_nil ?_
         intro wy hCwy
         have hby := hCwy.1
         clear hCwy
         have y1 := Xa hby c1
         have y2 := Xa hby c2
         have hBy := hB.keep hby
         have hoy : OwS wy (w.heap.size + 1) u5 out := OwG.keep ho hby
         have hbY := Bl.call hb hby
         clear c1 c2 d1 d2 d3 d4 d5 hB ho hb hby
         have hsz : w.heap.size < wy.heap.size := hBy.lt
         obtain ⟨d1, d2, d3, d4, d5⟩ := hBy.two
         go_wp2_with fail
         refine Xc wy [(⟨w.heap.size, 0, none⟩, .int .i64 x), (⟨w.heap.size, 1, none⟩, .int .i64 y), (⟨b, off + i * 2, none⟩, .int .i64 q.1), (⟨b, off + i * 2 + 1, none⟩, .int .i64 q.2)] (by kernel_rfl) (by kernel_rfl) ⟨Br, by simp only [List.mem_cons, List.not_mem_nil, forall_eq_or_imp, or_false, forall_eq]; go_simp⟩ ?_
         repeat
          apply wq_plain
          ·rfl
          ·intro w1 hw1
           have hx := hw1.2
           simp only [List.mem_cons, List.not_mem_nil, forall_eq_or_imp, or_false, forall_eq] at hx
           go_simp
           first | rfl
          go_simp
         refine wpQuiet_nil ?_
         intro wz hCwz
         have hbz := hCwz.1
         clear hCwz
         have t1 := Xa hbz y1
         have t2 := Xa hbz y2
         have hBz := hBy.keep hbz
         have hoz : OwS wz (w.heap.size + 1) u5 out := OwG.keep hoy hbz
         have hbZ := Bl.call hbY hbz
         clear y1 y2 d1 d2 d3 d4 d5 hBy hoy hbY hbz hsz
         have hsz : w.heap.size < wz.heap.size := hBz.lt
         obtain ⟨d1, d2, d3, d4, d5⟩ := hBz.two
         have hne : some w.heap.size ≠ u5.ownBlock := fun e => by have := (OwG.lt hoz _ e.symm).1; omega
         have hbl : b < w.heap.size := by obtain ⟨b', off', e, hl, -⟩ := hs.at_ hlt; injection e with e; injection e with e1 e2; omega
         go_wp2_with (first
          | (at_builtin; have hzz := hbv; refine wpList_appS rfl _ _ rfl (w.heap.size + 1) _ (out ++ [(x, y)]) rfl (OwG.alloc ho' _) wv.heap.size 1 q 37 rfl (BlkS.new _ _ _) (by rw [List.length_append]; simp; omega) (by have := hBv.lt; simp; omega) ?_; intro v2 wu ho2 hg2 hat2)
          | (at_builtin; refine wpList_appS rfl _ _ rfl (w.heap.size + 1) _ out rfl (hoz.alloc _) wz.heap.size 1 (x, y) 37 rfl (BlkS.new _ _ _) (by omega) (by simp; omega) ?_; intro v' wv ho' hg' hat'; have hBv : BlkS wv w.heap.size 37 #[.int .i64 x, .int .i64 y] := (hg'.block w.heap.size (hBz.alloc _).lt hne).trans (hBz.alloc _); have hbv : Below w.heap.size w wv := below_app (Bl.alloc hbZ _) (OwG.lower (OwG.alloc hoz _) (by omega)) hg'; obtain ⟨e1, e2⟩ := (hs.keep hbv).cells hlt; rw [HQ.out] at e1 e2))
         have hne2 : some w.heap.size ≠ v'.ownBlock := fun e => by have := (OwG.lt ho' _ e.symm).1; omega
         have hBu : BlkS wu w.heap.size 37 #[.int .i64 x, .int .i64 y] := (hg2.block w.heap.size (hBv.alloc _).lt hne2).trans (hBv.alloc _)
         have hbu : Below w.heap.size w wu := below_app (Bl.alloc hbv _) (OwG.lower (OwG.alloc ho' _) (by omega)) hg2
         exact ⟨⟨i + 1, true, out ++ [(x, y)] ++ [q], by omega, by go_num, rfl, ho2, hBu, hbu, by rw [List.length_append, List.length_append]; simp; omega, Hj (HI.out.gtc HD.out hv1 HV2.out)⟩, by simp [intOf]; omega⟩
  ·obtain rfl : n = i := by omega
   cases d with
   | true =>
     go_wp2_with fail
     go_ret
     have e1 : insG lessS (x, y) l = out := by have := HI.out; rw [← HN.out] at this; exact this.end1
     exact ⟨_, rfl, by rw [e1]; exact OwG.lower ho (by omega), hb⟩
   | false =>
     have e1 : insG lessS (x, y) l = out ++ [(x, y)] := by have := HI.out; rw [← HN.out] at this; exact this.end0
     have HE := Hj e1
     clear e1
     go_wp2_with (at_builtin; refine wpList_appS rfl _ _ rfl (w.heap.size + 1) _ out rfl (ho.alloc _) wr.heap.size 1 (x, y) 37 rfl (BlkS.new _ _ _) (by omega) (by simp; omega) ?_; intro v' wv ho' hg' hat')
     go_ret
     exact ⟨_, rfl, by rw [HE.out]; exact OwG.lower ho' (by omega), below_app (Bl.alloc hb _) (OwG.lower (OwG.alloc ho _) (by omega)) hg'⟩
def wthW (ls : List (List (Int × Int))) (d : Int × Int) (i : Nat) : Bool := !outB 4194304 d && AllB (intW (lt_ ls i) (lt_ ls i).length d) (lt_ ls i).length
set_option maxHeartbeats 1000000 in
theorem rwthin_any (A : Option Addr) (cap n : Nat) (ls : List (List (Int × Int))) (x y : Int) (w : World) (hn : n ≤ 1000000) (hl : ∀ t ∈ ls, t.length ≤ 1000000) (hs : SpSS w A n ls) :
 Calls Tryz.prog 100 #[.slice A n cap, .agg #[.int .i64 x, .int .i64 y]] w fun e w' => e = .returned (.bool (AnyB (wthW ls (x, y)) n)) ∧ Below w.heap.size w w' := by
 have HL := Hj hl
 have HN := Hj hs.1
 clear hl
 go_enter Tryz.func100, Tryz.ntmps100
 go_wp2_with fail
 go_loopw [5] (fun s5 wr => ∃ i : Nat, i ≤ n ∧ s5 = .int .i64 i ∧ Hid (AnyB (wthW ls (x, y)) i = false) ∧ BlkS wr w.heap.size 37 #[.int .i64 x, .int .i64 y] ∧ Below w.heap.size w wr) (fun i _ => n - (intOf i).toNat)
 case atStart => exact ⟨0, Nat.zero_le _, rfl, Hj (AnyB.zero _), BlkS.new _ _ _, Bl.alloc Br _⟩
 case round =>
  obtain ⟨i, hi, rfl, hp, hB, hb⟩ := hrel
  by_cases hlt : i < n
  ·obtain ⟨b, off, Ak, ck, rfl, hbl, c1, e2, e3, e4⟩ := (hs.keep hb).at_ hlt
   obtain ⟨d1, d2, d3, d4, d5⟩ := hB.two
   have hXl := HL.out _ (Ears.lt_in (ls := ls) (i := i) (by rw [HN.out]; exact hlt))
   have HW := Hj (show wthW ls (x, y) i = (!outB 4194304 (x, y) && AllB (intW (lt_ ls i) (lt_ ls i).length (x, y)) (lt_ ls i).length) from rfl)
   obtain ⟨xl, hxl⟩ : ∃ xl, (lt_ ls i).length = xl := ⟨_, rfl⟩
   rw [hxl] at hXl c1 e2 e3 HW
   clear hxl
   have z1 : (i : Int) < (n : Int) := by omega
   cases hv : (!outB 4194304 (x, y) && AllB (intW (lt_ ls i) xl (x, y)) xl) with
   | true =>
     rw [hv] at HW
     have HV := Hj (fun (w' : World) (hb' : Below wr.heap.size wr w') => rinterior_any Ak ck xl (lt_ ls i) x y w' hXl e2 (e3.keep hb'))
     rw [hv] at HV
     clear hv
     go_wp2_with fail
     refine Xc wr [(⟨w.heap.size, 0, none⟩, .int .i64 x), (⟨w.heap.size, 1, none⟩, .int .i64 y), (⟨b, off + i, none⟩, .slice Ak xl ck)] (by kernel_rfl) (by kernel_rfl) ⟨Br, by simp only [List.mem_cons, List.not_mem_nil, forall_eq_or_imp, or_false, forall_eq]; go_simp⟩ ?_
     repeat
      apply wq_plain
      ·rfl
      ·intro w1 hw1
       have hx := hw1.2
       simp only [List.mem_cons, List.not_mem_nil, forall_eq_or_imp, or_false, forall_eq] at hx
       go_simp
       first | rfl | exact calls_cls hw1 (HV.out _ hw1.1)
      go_simp
     refine wpQuiet_nil ?_
     intro wy hCwy
     have hby := hCwy.1
     clear hCwy
     go_wp2_with fail
     go_ret
     exact ⟨ret_bool (AnyB.yes hlt HW.out).symm, Bl.call hb hby⟩
   | false =>
     rw [hv] at HW
     have HV := Hj (fun (w' : World) (hb' : Below wr.heap.size wr w') => rinterior_any Ak ck xl (lt_ ls i) x y w' hXl e2 (e3.keep hb'))
     rw [hv] at HV
     clear hv
     go_wp2_with fail
     refine Xc wr [(⟨w.heap.size, 0, none⟩, .int .i64 x), (⟨w.heap.size, 1, none⟩, .int .i64 y), (⟨b, off + i, none⟩, .slice Ak xl ck)] (by kernel_rfl) (by kernel_rfl) ⟨Br, by simp only [List.mem_cons, List.not_mem_nil, forall_eq_or_imp, or_false, forall_eq]; go_simp⟩ ?_
     repeat
      apply wq_plain
      ·rfl
      ·intro w1 hw1
       have hx := hw1.2
       simp only [List.mem_cons, List.not_mem_nil, forall_eq_or_imp, or_false, forall_eq] at hx
       go_simp
       first | rfl | exact calls_cls hw1 (HV.out _ hw1.1)
      go_simp
     refine wpQuiet_nil ?_
     intro wy hCwy
     have hby := hCwy.1
     clear hCwy
     go_wp2_with fail
     exact ⟨⟨i + 1, by omega, by go_num, Hj (AnyB.succ hp.out HW.out), hB.keep hby, Bl.call hb hby⟩, by simp [intOf]; omega⟩
  ·obtain rfl : n = i := by omega
   go_wp2_with fail
   go_ret
   exact ⟨ret_bool hp.out.symm, hb⟩
end
section
set_option maxRecDepth 100000
open Go.RowKit
def rgIn (s : List (Int × Int)) (ts acc : List (List (Int × Int))) : Nat → List (List (Int × Int))
 | 0 => acc
 | j + 1 => insG ltL (SumW s (negW (lt_ ts j))).2 (rgIn s ts acc j)
def rgTo (ss ts : List (List (Int × Int))) : Nat → List (List (Int × Int))
 | 0 => []
 | i + 1 => rgIn (lt_ ss i) ts (rgTo ss ts i) ts.length
namespace Ears
theorem rgIn_len {s : List P} {ts acc : List (List P)} : ∀ j, (rgIn s ts acc j).length ≤ acc.length + j
 | 0 => Nat.le_refl _
 | j + 1 => by rw [rgIn]; have := insG_len (lt := ltL) (SumW s (negW (lt_ ts j))).2 (rgIn s ts acc j); have := rgIn_len (s := s) (ts := ts) (acc := acc) j; omega
theorem rgTo_len {ss ts : List (List P)} : ∀ i, (rgTo ss ts i).length ≤ i * ts.length
 | 0 => by simp [rgTo]
 | i + 1 => by rw [rgTo, Nat.add_mul]; have := rgIn_len (s := lt_ ss i) (ts := ts) (acc := rgTo ss ts i) ts.length; have := rgTo_len (ss := ss) (ts := ts) i; omega
theorem ltL_tot (x y : List P) (h1 : ltL x y = false) (h2 : ltL y x = false) : x = y := totL x y h1 h2
theorem rgIn_mem {s : List P} {ts acc : List (List P)} : ∀ j q, q ∈ rgIn s ts acc j ↔ q ∈ acc ∨ ∃ i, i < j ∧ q = (SumW s (negW (lt_ ts i))).2
 | 0, q => by simp [rgIn]
 | j + 1, q => by
   rw [rgIn, insG_mem ltL_tot, rgIn_mem j q]
   constructor
   ·rintro ((h | ⟨i, hi, h⟩) | h)
    ·exact .inl h
    ·exact .inr ⟨i, by omega, h⟩
    ·exact .inr ⟨j, by omega, h⟩
   ·rintro (h | ⟨i, hi, h⟩)
    ·exact .inl (.inl h)
    ·by_cases c : i = j
     ·subst c; exact .inr h
     ·exact .inl (.inr ⟨i, by omega, h⟩)
theorem rgTo_mem {ss ts : List (List P)} : ∀ k q, q ∈ rgTo ss ts k ↔ ∃ i, i < k ∧ ∃ j, j < ts.length ∧ q = (SumW (lt_ ss i) (negW (lt_ ts j))).2
 | 0, q => by simp [rgTo]
 | k + 1, q => by
   rw [rgTo, rgIn_mem, rgTo_mem k q]
   constructor
   ·rintro (⟨i, hi, h⟩ | ⟨j, hj, h⟩)
    ·exact ⟨i, by omega, h⟩
    ·exact ⟨k, by omega, j, hj, h⟩
   ·rintro ⟨i, hi, j, hj, h⟩
    by_cases c : i = k
    ·subst c; exact .inr ⟨j, hj, h⟩
    ·exact .inl ⟨i, by omega, j, hj, h⟩
theorem rgIn_pw {s : List P} {ts acc : List (List P)} (h : acc.Pairwise (fun x y => ltL x y = true)) : ∀ j, (rgIn s ts acc j).Pairwise (fun x y => ltL x y = true)
 | 0 => h
 | j + 1 => by rw [rgIn]; exact insG_pw ltL_trans ltL_tot _ (rgIn_pw h j)
theorem rgTo_pw {ss ts : List (List P)} : ∀ k, (rgTo ss ts k).Pairwise (fun x y => ltL x y = true)
 | 0 => by simp [rgTo]
 | k + 1 => by rw [rgTo]; exact rgIn_pw (rgTo_pw k) _
theorem sortL_pw (ls : List (List P)) : (sortLW ls).Pairwise (fun x y => ltL y x = false) := by
 have : (sortLW ls).Pairwise (fun x y => (!ltOf cmpL y x) = true) := List.pairwise_mergeSort (fun a b c h1 h2 => by
  have h1' : ltL b a = false := by simpa [ltL] using h1
  have h2' : ltL c b = false := by simpa [ltL] using h2
  have : ltL c a = false := by
   cases h : ltL c a with
   | false => rfl
   | true =>
     rcases ltL_tri b a with e | e | e
     ·subst e; rw [h2'] at h; cases h
     ·rw [h1'] at e; cases e
     ·have := ltL_trans _ _ _ h e; rw [h2'] at this; cases this
  simpa [ltL] using this) (fun a b => by
  show (!ltL b a || !ltL a b) = true
  rcases ltL_tri a b with e | e | e
  ·subst e; rw [ltL_irr]; rfl
  ·cases h : ltL b a with
   | false => rfl
   | true => have := ltL_trans _ _ _ e h; rw [ltL_irr] at this; cases this
  ·cases h : ltL a b with
   | false => simp
   | true => have := ltL_trans _ _ _ e h; rw [ltL_irr] at this; cases this) _
 exact this.imp (fun {x y} h => by simpa [ltL] using h)
theorem rgTo_regions {a b : List P} (ha : checkW a a.length = 0) (hb : checkW b b.length = 0) : rgTo (Xb a).2 (Xb b).2 (Xb a).2.length = (regionsW a b).2 := by
 obtain ⟨h0, hm⟩ := regions_ok ha hb
 refine asc_ext ltL_irr ltL_trans _ _ (rgTo_pw _) ?_ fun q => ?_
 ·obtain ⟨a1, a2, _⟩ := split_ok ha
  obtain ⟨b1, b2, _⟩ := split_ok hb
  obtain ⟨i1, _⟩ := regTo_ok (ss := (Xb a).2) (ts := (Xb b).2) (fun s hs => tri_of (check_near ha) (a2 s hs)) (fun t ht => tri_of (check_near hb) (b2 t ht)) _ (Nat.le_refl _)
  unfold regionsW
  rw [if_neg (by rw [a1]; simp), if_neg (by rw [b1]; simp), if_neg (by rw [i1]; simp)]
  exact cp_asc (d := []) ltL_irr (fun x y => ⟨fun h => eqL_eq h, fun h => by rw [h]; exact decide_eq_true rfl⟩) ltL_tri (sortL_pw _) _ (Nat.le_refl _)
 ·rw [hm q, rgTo_mem]
  constructor
  ·rintro ⟨i, hi, j, hj, h⟩; exact ⟨_, lt_in hi, _, lt_in hj, h⟩
  ·rintro ⟨s, hs, t, ht, h⟩
   obtain ⟨i, hi, rfl⟩ := mem_lt hs
   obtain ⟨j, hj, rfl⟩ := mem_lt ht
   exact ⟨i, hi, j, hj, h⟩
theorem tris {l : List P} (h : checkW l l.length = 0) : ∀ t ∈ (Xb l).2, Tri 1048576 t := fun t ht => tri_of (check_near h) ((split_ok h).2.1 t ht)
theorem Tri.len {M : Int} {t : List P} (h : Tri M t) : t.length = 3 := by obtain ⟨a, b, c, rfl, _⟩ := h; rfl
end Ears
theorem OwSS.tri {w : World} {base : Nat} {v : Value} {ls : List (List (Int × Int))} (h : OwSS w base v ls) (h3 : ∀ t ∈ ls, t.length = 3) : ∃ A c, v = .slice A ls.length c ∧ ls.length ≤ c ∧ ∀ k, k < ls.length → ∃ g b off ck, A = some ⟨g, 0, none⟩ ∧ w.cell? ⟨g, k, none⟩ = some (.slice (some ⟨b, off, none⟩) 3 ck) ∧ 3 ≤ ck ∧ SpS w (some ⟨b, off, none⟩) 3 (lt_ ls k) := by
 obtain ⟨A, c, e, hc, hr⟩ := h.rows
 refine ⟨A, c, e, hc, fun k hk => ?_⟩
 obtain ⟨g, Ak, ck, e1, e2, e3⟩ := hr k hk
 have hl := h3 _ (Ears.lt_in hk)
 rw [hl] at e2 e3
 obtain ⟨b, off, c', e4, e5, e6⟩ := e3.formS hl (by omega)
 injection e4 with e7 e8 e9
 subst e7 e9
 exact ⟨g, b, off, ck, e1, e2, e5, e6⟩
set_option maxHeartbeats 2000000 in
theorem rregions_ok (A B : Option Addr) (ca cb na nb : Nat) (a b : List (Int × Int)) (w : World) (hna : na ≤ 9223372036854775807) (hnb : nb ≤ 9223372036854775807) (hca : na ≤ ca) (hcb : nb ≤ cb) (hsA : SpS w A na a) (hsB : SpS w B nb b) (ha : checkW a na = 0) (hb : checkW b nb = 0) :
 Calls Tryz.prog 99 #[.slice A na ca, .slice B nb cb] w (RetSSE w (0, rgTo (Xb a).2 (Xb b).2 (Xb a).2.length)) := by
 have ha' : checkW a a.length = 0 := by rw [hsA.1]; exact ha
 have hb' : checkW b b.length = 0 := by rw [hsB.1]; exact hb
 have H1 := Hj (rsplit_any A ca na a w hna hca hsA)
 have H2 := Hj (fun (w' : World) (hb : Below w.heap.size w w') => rsplit_any B cb nb b w' hnb hcb (hsB.keep hb))
 have e1 : Xb a = (0, (Xb a).2) := Prod.ext (Ears.split_ok ha').1 rfl
 have e2 : Xb b = (0, (Xb b).2) := Prod.ext (Ears.split_ok hb').1 rfl
 have t1 := Ears.tris ha'
 have t2 := Ears.tris hb'
 have s1 := (splitAllW_small a).1
 have s2 := (splitAllW_small b).1
 rw [e1] at H1
 rw [e2] at H2
 clear e1 e2 ha hb ha' hb' hsA hsB hna hnb hca hcb
 obtain ⟨sa, hsa⟩ : ∃ sa, (Xb a).2 = sa := ⟨_, rfl⟩
 obtain ⟨sb, hsb⟩ : ∃ sb, (Xb b).2 = sb := ⟨_, rfl⟩
 rw [hsa] at H1 t1 s1 ⊢
 rw [hsb] at H2 t2 s2 ⊢
 clear hsa hsb
 have HT1 := Hj t1
 have HT2 := Hj t2
 obtain ⟨n1, hn1⟩ : ∃ n1, sa.length = n1 := ⟨_, rfl⟩
 obtain ⟨n2, hn2⟩ : ∃ n2, sb.length = n2 := ⟨_, rfl⟩
 have HN1 := Hj hn1
 have HN2 := Hj hn2
 rw [hn1] at s1 ⊢
 rw [hn2] at s2
 clear hn1 hn2 t1 t2
 have HE := Hj (show ∀ i, rgTo sa sb (i + 1) = rgIn (lt_ sa i) sb (rgTo sa sb i) n2 from fun i => by rw [rgTo, HN2.out])
 go_enter Tryz.func99, Tryz.ntmps99
 go_wp2_with (first
  | (go_at_call 114; have hz := hb1; refine (H2.out _ hb1).mono ?_; rintro e w2 ⟨v2, rfl, ho2, hb2⟩)
  | (go_at_call 114; refine H1.out.mono ?_; rintro e w1 ⟨v1, rfl, ho1, hb1⟩))
 clear H1 H2 hz
 have ho1' := ho1.keep hb2
 obtain ⟨A1, c1, rfl, hc1, hr1⟩ := ho1'.tri (fun t ht => (HT1.out t ht).len)
 obtain ⟨A2, c2, rfl, hc2, hr2⟩ := ho2.tri (fun t ht => (HT2.out t ht).len)
 have hbX := Bl.call hb1 hb2
 rw [HN1.out] at hc1 hr1 ⊢
 rw [HN2.out] at hc2 hr2 ⊢
 have HR1 := Hj hr1
 have HR2 := Hj hr2
 clear hr1 hr2 ho1 ho1' ho2 hb1 hb2
 go_loopw [9, 10] (fun s9 s10 wr => ∃ i : Nat, i ≤ n1 ∧ s10 = .int .i64 i ∧ OwSS wr w.heap.size s9 (rgTo sa sb i) ∧ Below w2.heap.size w2 wr) (fun _ i _ => n1 - (intOf i).toNat)
 case atStart => exact ⟨0, Nat.zero_le _, rfl, OwSS.nil, Below.refl _ _⟩
 case round =>
  obtain ⟨i, hi, rfl, ho, hb⟩ := hrel
  by_cases hlt : i < n1
  ·obtain ⟨g1, p1, o1, k1, hA1, x1, x2, x3⟩ := HR1.out i hlt
   have z1 : (i : Int) < (n1 : Int) := by omega
   have HS := Hj (HT1.out _ (Ears.lt_in (ls := sa) (i := i) (by rw [HN1.out]; exact hlt)))
   go_wp2_with fail
   obtain ⟨wo, rfl⟩ : ∃ wo : World, wo = wr := ⟨_, rfl⟩
   go_loopw [9, 11] (fun s9 s11 wr => ∃ j : Nat, j ≤ n2 ∧ s11 = .int .i64 j ∧ OwSS wr w.heap.size s9 (rgIn (lt_ sa i) sb (rgTo sa sb i) j) ∧ Below w2.heap.size w2 wr) (fun _ i _ => n2 - (intOf i).toNat)
   case atStart => exact ⟨0, Nat.zero_le _, rfl, ho, hb⟩
   case round =>
    clear ho hb
    obtain ⟨j, hj, rfl, ho, hb⟩ := hrel
    by_cases hjn : j < n2
    ·obtain ⟨g2, p2, o2, k2, hA2, y1, y2, y3⟩ := HR2.out j hjn
     have z2 : (j : Int) < (n2 : Int) := by omega
     have HTt := Hj (HT2.out _ (Ears.lt_in (ls := sb) (i := j) (by rw [HN2.out]; exact hjn)))
     obtain ⟨t, ht⟩ : ∃ t, lt_ sb j = t := ⟨_, rfl⟩
     have HIN := Hj (show rgIn (lt_ sa i) sb (rgTo sa sb i) (j + 1) = insG ltL (SumW (lt_ sa i) (negW t)).2 (rgIn (lt_ sa i) sb (rgTo sa sb i) j) by rw [rgIn, ht])
     have hsz : (rgIn (lt_ sa i) sb (rgTo sa sb i) j).length ≤ 100000 := by
      have q1 := Ears.rgIn_len (s := lt_ sa i) (ts := sb) (acc := rgTo sa sb i) j
      have q2 := Ears.rgTo_len (ss := sa) (ts := sb) i
      have q3 : i * sb.length ≤ 41 * 41 := Nat.mul_le_mul (by omega) (by rw [HN2.out]; omega)
      omega
     have hll : ∀ t ∈ rgIn (lt_ sa i) sb (rgTo sa sb i) j, t.length ≤ 1000000 := by
      intro q hq
      have key : ∀ i' j', i' < n1 → j' < n2 → ((SumW (lt_ sa i') (negW (lt_ sb j'))).2).length ≤ 1000000 := fun i' j' h1 h2 => by
       have := (Ears.sum_same (HT1.out _ (Ears.lt_in (ls := sa) (i := i') (by rw [HN1.out]; exact h1))) (HT2.out _ (Ears.lt_in (ls := sb) (i := j') (by rw [HN2.out]; exact h2)))).2.2.2.1
       omega
      rcases (Ears.rgIn_mem j q).1 hq with h | ⟨j', h1, rfl⟩
      ·obtain ⟨i', h1, j', h2, rfl⟩ := (Ears.rgTo_mem i q).1 h
       exact key i' j' (by omega) (by rw [HN2.out] at h2; exact h2)
      ·exact key i j' hlt (by omega)
     have HLL := Hj hll
     rw [ht] at y3 HTt
     clear ht hll
     have hR9 : (SumW (lt_ sa i) (negW t)).2.length ≤ 1000000 := by have := (Ears.sum_same HS.out HTt.out).2.2.2.1; omega
     obtain ⟨s, hs⟩ : ∃ s, lt_ sa i = s := ⟨_, rfl⟩
     rw [hs] at x3 HS hR9 HLL hsz HIN ho
     have HSE := Hj hs
     clear hs
     obtain ⟨acc, hacc⟩ : ∃ acc, rgIn s sb (rgTo sa sb i) j = acc := ⟨_, rfl⟩
     rw [hacc] at HLL hsz HIN ho
     clear hacc
     subst hA1 hA2
     have d1 := Xa hb x1
     have d2 := Xa hb y1
     have hl1 : g1 < wr.heap.size := lt_of_cell d1
     have hl2 : g2 < wr.heap.size := lt_of_cell d2
     have hbs := hb.size
     have hb0 := hbX.size
     go_wp2_with fail
     go_region_held3 (fun w' => w'.cell? ⟨g1, i, none⟩ = some (.slice (some ⟨p1, o1, none⟩) 3 k1) ∧ w'.cell? ⟨g2, j, none⟩ = some (.slice (some ⟨p2, o2, none⟩) 3 k2))
      (first
       | go_keep
       | exact ⟨Xa hb3 d1, Xa hb3 d2⟩
       | exact ⟨Xa hb4 (Xa hb3 d1), Xa hb4 (Xa hb3 d2)⟩)
      ((first
        | (go_at_call 135; have hz := hb3; refine (rsum_tri p1 o1 k1 g3 0 c3 s t _ x2 hc3 ((x3.keep (Bl.drew hb)).keep hb3) hs3 HS.out HTt.out).mono ?_; rintro e w4 ⟨v4, rfl, ho4, hb4⟩)
        | (go_at_call 136; refine (rnegate_any (some ⟨p2, o2, none⟩) k2 3 t _ (by omega) (y3.keep (Bl.drew hb))).mono ?_; rintro e w3 ⟨v3, rfl, ho3, hb3⟩; obtain ⟨g3, c3, rfl, hc3, hs3⟩ := ho3.formS (n := 3) (by rw [negW_len]; exact HTt.out.len) (by omega))))
     have hbA : Below wr.heap.size wr w4 := Bl.call (Bl.call (Bl.drew Br) hb3) hb4
     have hE4 : ElS w4 w.heap.size v4 (SumW s (negW t)).2 := ElS.lower (OwS.els ho4) (Bl.call (Bl.call hbX hb) (Bl.call (Bl.drew Br) hb3)).size
     have hw4 : w.heap.size ≤ w4.heap.size := (Bl.call (Bl.call hbX hb) hbA).size
     have ho' := ho.keep hbA
     clear hb3 hb4 ho3 hs3 ho4 d1 d2 x1 x3 y1 y3 ho
     go_wp2_with (go_at_call 137; refine (rinsert_any w.heap.size _ _ acc (SumW s (negW t)).2 _ hw4 hsz HLL.out hR9 ho' hE4).mono ?_; rintro e w5 ⟨v5, rfl, ho5, hb5⟩)
     exact ⟨⟨j + 1, by omega, by go_num, by rw [HSE.out, HIN.out]; exact ho5, Bl.call (Bl.call hb hbA) hb5⟩, by simp [intOf]; omega⟩
    ·obtain rfl : n2 = j := by omega
     go_wp2_with fail
     exact ⟨⟨i + 1, by omega, by go_num, by rw [HE.out]; exact ho, hb⟩, by simp [intOf]; omega⟩
  ·obtain rfl : n1 = i := by omega
   go_wp2_with fail
   go_ret2
   exact ⟨_, rfl, ho, Bl.call hbX hb⟩
set_option maxHeartbeats 1000000 in
theorem rregions_bad1 (A B : Option Addr) (ca cb na nb : Nat) (a b : List (Int × Int)) (w : World) (hna : na ≤ 9223372036854775807) (hca : na ≤ ca) (hsA : SpS w A na a) (ha : ¬ checkW a na = 0) :
 Calls Tryz.prog 99 #[.slice A na ca, .slice B nb cb] w (RetSSE w (checkW a na, [])) := by
 have q : (checkW a na != 0) = true := by rw [bne_iff_ne]; exact ha
 have H1 := Hj (rsplit_bad A ca na a w hna hca hsA ha)
 clear ha
 go_enter Tryz.func99, Tryz.ntmps99
 go_wp2_with (go_at_call 114; refine H1.out.mono ?_; rintro e w1 ⟨rfl, hb1⟩)
 go_ret2
 exact ⟨_, rfl, OwSS.nil, hb1⟩
set_option maxHeartbeats 1000000 in
theorem rregions_bad2 (A B : Option Addr) (ca cb na nb : Nat) (a b : List (Int × Int)) (w : World) (hna : na ≤ 9223372036854775807) (hnb : nb ≤ 9223372036854775807) (hca : na ≤ ca) (hcb : nb ≤ cb) (hsA : SpS w A na a) (hsB : SpS w B nb b) (ha : checkW a na = 0) (hb : ¬ checkW b nb = 0) :
 Calls Tryz.prog 99 #[.slice A na ca, .slice B nb cb] w (RetSSE w (checkW b nb, [])) := by
 have ha' : checkW a a.length = 0 := by rw [hsA.1]; exact ha
 have q : (checkW b nb != 0) = true := by rw [bne_iff_ne]; exact hb
 have H1 := Hj (rsplit_any A ca na a w hna hca hsA)
 have e1 : Xb a = (0, (Xb a).2) := Prod.ext (Ears.split_ok ha').1 rfl
 rw [e1] at H1
 have H2 := Hj (fun (w' : World) (hb' : Below w.heap.size w w') => rsplit_bad B cb nb b w' hnb hcb (hsB.keep hb') hb)
 clear ha ha' hb e1
 go_enter Tryz.func99, Tryz.ntmps99
 go_wp2_with (first
  | (go_at_call 114; have hz := hb1; refine (H2.out _ hb1).mono ?_; rintro e w2 ⟨rfl, hb2⟩)
  | (go_at_call 114; refine H1.out.mono ?_; rintro e w1 ⟨v1, rfl, ho1, hb1⟩))
 go_ret2
 exact ⟨_, rfl, OwSS.nil, Bl.call hb1 hb2⟩
theorem rregions_any (A B : Option Addr) (ca cb na nb : Nat) (a b : List (Int × Int)) (w : World) (hna : na ≤ 9223372036854775807) (hnb : nb ≤ 9223372036854775807) (hca : na ≤ ca) (hcb : nb ≤ cb) (hsA : SpS w A na a) (hsB : SpS w B nb b) :
 Calls Tryz.prog 99 #[.slice A na ca, .slice B nb cb] w (RetSSE w (regionsW a b)) := by
 have l1 := hsA.1
 have l2 := hsB.1
 by_cases ha : checkW a na = 0
 ·by_cases hb : checkW b nb = 0
  ·have ha' : checkW a a.length = 0 := by rw [l1]; exact ha
   have hb' : checkW b b.length = 0 := by rw [l2]; exact hb
   have e : regionsW a b = (0, rgTo (Xb a).2 (Xb b).2 (Xb a).2.length) := Prod.ext (Ears.regions_ok ha' hb').1 (Ears.rgTo_regions ha' hb').symm
   rw [e]
   exact rregions_ok A B ca cb na nb a b w hna hnb hca hcb hsA hsB ha hb
  ·have e : regionsW a b = (checkW b nb, []) := by
    have := Ears.regions_bad2 (a := a) (b := b) (by rw [l1]; exact ha) (by rw [l2]; exact hb)
    rw [l2] at this; exact this
   rw [e]
   exact rregions_bad2 A B ca cb na nb a b w hna hnb hca hcb hsA hsB ha hb
 ·have e : regionsW a b = (checkW a na, []) := by
   have := Ears.regions_bad1 (a := a) (b := b) (by rw [l1]; exact ha)
   rw [l1] at this; exact this
  rw [e]
  exact rregions_bad1 A B ca cb na nb a b w hna hca hsA ha
end
end Go.Proofs.YtmdncaoilegnnaaGreat

/- Lean texts of the claim. -/
import Derived.Test.YtmdncaoilegnnaaGreatXG50
import Derived.Test.YtmdncaoilegnnaaGreatXG40
import Derived.Test.YtmdncaoilegnnaaGreatXG51
import Derived.BigRegion
namespace Go.Proofs.YtmdncaoilegnnaaGreat
set_option linter.unusedVariables false
set_option linter.unusedSimpArgs false
section
open Go.RowKit
theorem OwS.formS {w : World} {base n : Nat} {v : Value} {l : List (Int × Int)} (h : OwS w base v l) (hn : l.length = n) (h0 : 0 < n) : ∃ g c, v = .slice (some ⟨g, 0, none⟩) n c ∧ n ≤ c ∧ SpS w (some ⟨g, 0, none⟩) n l := by
 subst hn
 obtain ⟨A, c, rfl, hc, hs, hz⟩ := h.sps
 obtain ⟨g, rfl, -, -⟩ := hz h0
 exact ⟨g, c, rfl, hc, hs⟩
theorem rcorn {l : List (Int × Int)} {n : Nat} (hn : l.length = n) (hc : checkW l n = 0) : 3 ≤ (corn l n n).length ∧ areaW (corn l n n) (corn l n n).length (corn l n n).length = areaW l n n := by
 subst hn
 obtain ⟨-, h3, -, h4, h5⟩ := Ears.corn_good hc
 have hl := check_len hc
 have hl2 := corn_len l l.length l.length
 refine ⟨h3, ?_⟩
 rw [Ears.area_ar (fun q hq => check_near hc q (h5.1 q hq)) (by omega) (by omega), Ears.area_ar (check_near hc) (by omega) (by omega), h4]
set_option maxHeartbeats 2000000 in
theorem rnormal_ok (b off cap n : Nat) (l : List (Int × Int)) (w : World) (hl : n ≤ 1000) (hcap : n ≤ cap) (hs : SpS w (some ⟨b, off, none⟩) n l) (hc : checkW l n = 0) :
 Calls Tryz.prog 151 #[.slice (some ⟨b, off, none⟩) n cap] w fun e w' => ∃ v, e = .returned (.tuple #[v, .int .i64 0]) ∧ OwS w' w.heap.size v (normalW l n) ∧ Below w.heap.size w w' := by
 have HF := Hj (rcorn hs.1 hc)
 have h3 := (check_len hc).1
 have q : (checkW l n != 0) = false := by rw [hc]; rfl
 clear hc
 go_enter Tryz.func151, Tryz.ntmps151
 go_wp2_with (go_at_call 52; refine (rcheck_any _ _ _ l _ (by omega) hcap hs).mono ?_; rintro e w1 ⟨rfl, hb1⟩)
 clear q
 go_loopw [5, 7] (fun s i wr => ∃ k : Nat, k ≤ n ∧ i = .int .i64 k ∧ OwS wr w.heap.size s (corn l n k) ∧ Below w.heap.size w wr) (fun _ i _ => n - (intOf i).toNat)
 case atStart => exact ⟨0, Nat.zero_le _, rfl, OwG.nil, hb1⟩
 case round =>
  clear hb1
  obtain ⟨k, hk, rfl, ho, hb⟩ := hrel
  by_cases hlt : k < n
  ·have hlen := corn_len l n k
   have hm1 : (k + 1) % n < n := Nat.mod_lt _ (by omega)
   have hm2 : (k + n - 1) % n < n := Nat.mod_lt _ (by omega)
   obtain ⟨h1, h2⟩ := (hs.keep hb).cells hlt
   obtain ⟨h3, h4⟩ := (hs.keep hb).cells hm1
   obtain ⟨h5, h6⟩ := (hs.keep hb).cells hm2
   have m1 := modf ((k : Int) + 1) (k + 1) n rfl (by omega)
   have m2 := modf ((k : Int) + (n : Int) - 1) (k + n - 1) n (by omega) (by omega)
   have q1 : IntKind.i64.wrap ((k : Int) + 1) = (k : Int) + 1 := wrap_add k 1 (by omega)
   have q2 : IntKind.i64.wrap ((k : Int) + (n : Int)) = (k : Int) + (n : Int) := wrap_add k n (by omega)
   have q3 : IntKind.i64.wrap ((k : Int) + (n : Int) - 1) = (k : Int) + (n : Int) - 1 := wrap_in _ (by omega) (by omega)
   have q4 : ¬ n = 0 := by omega
   by_cases hbe : (bendW l n k != 0) = true
   ·have q5 : (crossW ((gt l ((k + n - 1) % n)).1, (gt l ((k + n - 1) % n)).2) ((gt l k).1, (gt l k).2) ((gt l ((k + 1) % n)).1, (gt l ((k + 1) % n)).2) != 0) = true := hbe
    have HBE := Hj hbe
    clear hbe
    go_wp2_with fail
    refine Xc wr [(⟨b, off + k * 2, none⟩, .int .i64 (gt l k).1), (⟨b, off + k * 2 + 1, none⟩, .int .i64 (gt l k).2), (⟨b, off + (k + 1) % n * 2, none⟩, .int .i64 (gt l ((k + 1) % n)).1), (⟨b, off + (k + 1) % n * 2 + 1, none⟩, .int .i64 (gt l ((k + 1) % n)).2), (⟨b, off + (k + n - 1) % n * 2, none⟩, .int .i64 (gt l ((k + n - 1) % n)).1), (⟨b, off + (k + n - 1) % n * 2 + 1, none⟩, .int .i64 (gt l ((k + n - 1) % n)).2)] (by kernel_rfl) (by kernel_rfl) ⟨Br, by simp only [List.mem_cons, List.not_mem_nil, forall_eq_or_imp, or_false, forall_eq]; go_simp⟩ ?_
    repeat
     apply wq_plain
     ·rfl
     ·intro w1 hw1
      have hx := hw1.2
      simp only [List.mem_cons, List.not_mem_nil, forall_eq_or_imp, or_false, forall_eq] at hx
      go_simp
      first | rfl | exact calls_cls hw1 (rcross_any _ _ _ _ _ _ _)
     go_simp
    refine wpQuiet_nil ?_
    intro w9 hCw9
    have hb9 := hCw9.1
    clear hCw9 m1 m2 q2 q3 h3 h4 h5 h6
    have c1 := Xa hb9 h1
    have c2 := Xa hb9 h2
    have ho9 : OwS w9 w.heap.size _ _ := OwG.keep ho hb9
    have hX := Bl.call hb hb9
    clear h1 h2 ho hb hb9
    go_wp2_with (at_builtin; refine wpList_appS rfl _ _ rfl w.heap.size _ (corn l n k) rfl (ho9.alloc _) w9.heap.size 1 (gt l k) 37 rfl (BlkS.new _ _ _) (by omega) (Bl.alloc hX _).size ?_; intro v' w' ho' hg' hat')
    exact ⟨⟨k + 1, by omega, by go_num, by rw [← corn_yes HBE.out]; exact ho', below_app (Bl.alloc hX _) (ho9.alloc _) hg'⟩, by simp [intOf]; omega⟩
   ·have hbe' : (bendW l n k != 0) = false := by simpa using hbe
    have q5 : (crossW ((gt l ((k + n - 1) % n)).1, (gt l ((k + n - 1) % n)).2) ((gt l k).1, (gt l k).2) ((gt l ((k + 1) % n)).1, (gt l ((k + 1) % n)).2) != 0) = false := hbe'
    have HBE := Hj hbe'
    clear hbe hbe'
    go_wp2_with fail
    refine Xc wr [(⟨b, off + k * 2, none⟩, .int .i64 (gt l k).1), (⟨b, off + k * 2 + 1, none⟩, .int .i64 (gt l k).2), (⟨b, off + (k + 1) % n * 2, none⟩, .int .i64 (gt l ((k + 1) % n)).1), (⟨b, off + (k + 1) % n * 2 + 1, none⟩, .int .i64 (gt l ((k + 1) % n)).2), (⟨b, off + (k + n - 1) % n * 2, none⟩, .int .i64 (gt l ((k + n - 1) % n)).1), (⟨b, off + (k + n - 1) % n * 2 + 1, none⟩, .int .i64 (gt l ((k + n - 1) % n)).2)] (by kernel_rfl) (by kernel_rfl) ⟨Br, by simp only [List.mem_cons, List.not_mem_nil, forall_eq_or_imp, or_false, forall_eq]; go_simp⟩ ?_
    repeat
     apply wq_plain
     ·rfl
     ·intro w1 hw1
      have hx := hw1.2
      simp only [List.mem_cons, List.not_mem_nil, forall_eq_or_imp, or_false, forall_eq] at hx
      go_simp
      first | rfl | exact calls_cls hw1 (rcross_any _ _ _ _ _ _ _)
     go_simp
    refine wpQuiet_nil ?_
    intro w9 hCw9
    have hb9 := hCw9.1
    clear hCw9 m1 m2 q2 q3 h3 h4 h5 h6
    go_wp2_with fail
    exact ⟨⟨k + 1, by omega, by go_num, by rw [← corn_no HBE.out]; exact OwG.keep ho hb9, Bl.call hb hb9⟩, by simp [intOf]; omega⟩
  ·obtain rfl : n = k := by omega
   have hlen := corn_len l n n
   have HN := Hj (show cornR l n = if areaW l n n < 0 then (corn l n n).reverse else corn l n n from rfl)
   have HN2 := Hj (show normalW l n = rot (cornR l n) (frst (cornR l n) (cornR l n).length) from rfl)
   obtain ⟨c, hcd⟩ : ∃ c, corn l n n = c := ⟨_, rfl⟩
   rw [hcd] at HF HN ho hlen
   obtain ⟨m, hm⟩ : ∃ m, c.length = m := ⟨_, rfl⟩
   rw [hm] at HF hlen
   have HM := Hj hm
   have hm3 : 3 ≤ m := HF.out.1
   have HA := Hj HF.out.2
   obtain ⟨g, cp, rfl, hcp, hsc⟩ := ho.formS hm (by omega)
   clear hm hcd HF
   by_cases ha : areaW l n n < 0
   ·go_wp2_with (first
     | (go_at_call 191; have hz3 := hb3; refine (rleast_any g3 0 c3 m c.reverse _ (by omega) (by omega) hc3 hs3).mono ?_; rintro e w4 ⟨v4, rfl, ho4, hb4⟩)
     | (go_at_call 190; have hz2 := hb2; refine (rreversed_any g 0 cp m c _ (by omega) (hsc.keep hb2)).mono ?_; rintro e w3 ⟨v3, rfl, ho3, hb3⟩; obtain ⟨g3, c3, rfl, hc3, hs3⟩ := ho3.formS (n := m) (by rw [List.length_reverse]; exact HM.out) (by omega))
     | (go_at_call 89; refine (rtwice_any g 0 cp m c _ (by omega) (by omega) hcp hsc).mono ?_; rintro e w2 ⟨rfl, hb2⟩; rw [HA.out]))
    go_ret2
    have hX := Bl.call (Bl.call hb hb2) hb3
    refine ⟨_, rfl, ?_, Bl.call hX hb4⟩
    have e1 : cornR l n = c.reverse := by rw [HN.out, if_pos ha]
    rw [HN2.out, e1, List.length_reverse, HM.out]
    exact OwG.lower ho4 hX.size
   ·go_wp2_with (first
     | (go_at_call 191; have hz3 := hb2; refine (rleast_any g 0 cp m c _ (by omega) (by omega) hcp (hsc.keep hb2)).mono ?_; rintro e w4 ⟨v4, rfl, ho4, hb4⟩)
     | (go_at_call 89; refine (rtwice_any g 0 cp m c _ (by omega) (by omega) hcp hsc).mono ?_; rintro e w2 ⟨rfl, hb2⟩; rw [HA.out]))
    go_ret2
    have hX := Bl.call hb hb2
    refine ⟨_, rfl, ?_, Bl.call hX hb4⟩
    have e1 : cornR l n = c := by rw [HN.out, if_neg (by omega)]
    rw [HN2.out, e1, HM.out]
    exact OwG.lower ho4 hX.size
set_option maxHeartbeats 1000000 in
theorem rnormal_bad (A : Option Addr) (cap n : Nat) (l : List (Int × Int)) (w : World) (hl : n ≤ 9223372036854775807) (hcap : n ≤ cap) (hs : SpS w A n l) (hc : ¬ checkW l n = 0) :
 Calls Tryz.prog 151 #[.slice A n cap] w fun e w' => e = .returned (.tuple #[.slice none 0 0, .int .i64 (checkW l n)]) ∧ Below w.heap.size w w' := by
 have q : (checkW l n != 0) = true := by rw [bne_iff_ne]; exact hc
 clear hc
 go_enter Tryz.func151, Tryz.ntmps151
 go_wp2_with (go_at_call 52; refine (rcheck_any _ _ _ l _ hl hcap hs).mono ?_; rintro e w1 ⟨rfl, hb1⟩)
 go_ret2
 exact ⟨rfl, hb1⟩
end
section
set_option maxRecDepth 100000
open Go.RowKit
theorem find_congr {f g : Nat → Bool} : ∀ (l : List Nat), (∀ x ∈ l, f x = g x) → l.find? f = l.find? g
 | [], _ => rfl
 | a :: l, h => by
   rw [List.find?_cons, List.find?_cons, h a (by simp), find_congr l (fun x hx => h x (by simp [hx]))]
theorem idxOf_congr {f g : Nat → Bool} {n : Nat} (h : ∀ i, i < n → f i = g i) : idxOf f n = idxOf g n := by
 unfold idxOf; rw [find_congr (List.range n) (fun x hx => h x (by simpa using hx))]
theorem OwSS.apart {w : World} {base k : Nat} {v : Value} {ls : List (List (Int × Int))} {cs : Array Value} {fr : Nat × Nat} (h : OwSS w base v ls) (hh : w.heap[k]? = some (.cells cs 37 fr)) : some k ≠ v.ownBlock := by
 intro he
 rcases (OwSS.own h).2 with ⟨e, _⟩ | ⟨g, cap, cur, e, _, hg, _⟩
 ·rw [e] at he; simp [Value.ownBlock] at he
 ·rw [e] at he
  have : k = g := by simpa [Value.ownBlock] using he
  subst this
  rw [hg] at hh
  simp at hh
theorem ElS.formS {w : World} {base n : Nat} {v : Value} {l : List (Int × Int)} (h : ElS w base v l) (hn : l.length = n) (h0 : 0 < n) : ∃ b off c, v = .slice (some ⟨b, off, none⟩) n c ∧ n ≤ c ∧ SpS w (some ⟨b, off, none⟩) n l := by
 subst hn
 obtain ⟨A, c, rfl, hc, hs, -, -⟩ := h
 obtain ⟨b, off, rfl, -, -⟩ := hs.at_ h0
 exact ⟨b, off, c, rfl, hc, hs⟩
theorem ElS.sp {w : World} {base n c : Nat} {A : Option Addr} {l : List (Int × Int)} (h : ElS w base (.slice A n c) l) : SpS w A n l := by
 obtain ⟨A', c', e, -, hs, -, -⟩ := h
 injection e with e1 e2 e3
 subst e1 e2
 exact hs
def sliceLen (v : Value) : Nat := match v with | .slice _ m _ => m | _ => 0
namespace Ears
theorem plc_neg {a b c q : P} (ha : nearB 1048576 a) (hb : nearB 1048576 b) (hc : nearB 1048576 c) (hq : nearB 1048576 q) (D : 0 < cr a b c) : plcW a b c q < 0 ↔ ¬ InT a b c q := by
 unfold plcW InT
 rw [cross_near ha hb hc, cross_near ha hb hq, cross_near hb hc hq, cross_near hc ha hq]
 rw [crP_eq, crP_eq, crP_eq, crP_eq]
 have s : cmpI (cr a b c) 0 = 1 := by unfold cmpI; rw [if_neg (by omega), if_pos (by omega)]
 rw [s, Int.one_mul, Int.one_mul, Int.one_mul]
 unfold cmpI
 (repeat' split) <;> omega
theorem ear_free {l : List P} (h : Good l) {i : Nat} (hi : i < l.length) : earR l l.length i = freeW l l.length i := by
 have near : ∀ j, j < l.length → nearB 1048576 (gt l j) := fun j hj => h.near _ (gt_in hj)
 have m1 : (i + 1) % l.length < l.length := Nat.mod_lt _ (by omega)
 have m2 : (i + l.length - 1) % l.length < l.length := Nat.mod_lt _ (by omega)
 unfold earR freeW bendW
 by_cases D : 0 < crossW (gt l ((i + l.length - 1) % l.length)) (gt l i) (gt l ((i + 1) % l.length))
 ·rw [decide_eq_true D, Bool.true_and, Bool.true_and]
  rw [cross_near (near _ m2) (near _ hi) (near _ m1), crP_eq] at D
  refine AllB.congr fun j hj => ?_
  unfold frR frW
  congr 1
  rw [decide_eq_decide, plc_neg (near _ m2) (near _ hi) (near _ m1) (near _ hj) D, holds_neg (near _ m2) (near _ hi) (near _ m1) (near _ hj) D]
 ·rw [decide_eq_false D, Bool.false_and, Bool.false_and]
theorem ear_idx {l : List P} {n : Nat} (hn : l.length = n) (h : Good l) : ∃ i : Nat, i < n ∧ idxOf (earR l n) n = (i : Int) ∧ idxOf (freeW l n) n = (i : Int) := by
 subst hn
 have e : idxOf (earR l l.length) l.length = idxOf (freeW l l.length) l.length := idxOf_congr fun i hi => ear_free h hi
 rcases idxOf_cases (freeW l l.length) l.length with h1 | ⟨i, hi, h1⟩
 ·exfalso
  obtain ⟨i, hi, h2⟩ := good_has_ear h
  have h3 : AnyB (freeW l l.length) l.length = true := AnyB.iff.2 ⟨i, hi, (free_iff h hi).2 h2⟩
  rw [← idxOf_any, h1] at h3
  simp at h3
 ·exact ⟨i, hi, e.trans h1, h1⟩
theorem good_str {l : List P} {n i : Nat} (hn : l.length = n) (h : Good l) (h4 : 3 < n) (hi : idxOf (strW l n) n = (i : Int)) : Good (l.eraseIdx i) := by
 subst hn
 obtain ⟨h1, h2⟩ := idx_found hi
 have near : ∀ j, j < l.length → nearB 1048576 (gt l j) := fun j hj => h.near _ (gt_in hj)
 refine good_flat h h1 h4 ?_
 unfold strW at h2
 rw [beq_iff_eq, cross_near (near _ (Nat.mod_lt _ (by omega))) (near _ h1) (near _ (Nat.mod_lt _ (by omega)))] at h2
 exact h2
theorem good_fr {l : List P} {n i : Nat} (hn : l.length = n) (h : Good l) (h4 : 3 < n) (hi : idxOf (freeW l n) n = (i : Int)) : Good (l.eraseIdx i) := by
 subst hn
 obtain ⟨h1, h2⟩ := idx_found hi
 obtain ⟨h3, h5⟩ := (free_iff h h1).1 h2
 exact good_ear h h1 h4 h3 h5
end Ears
set_option maxHeartbeats 4000000 in
theorem rsplit_ok (b off cap n : Nat) (l : List (Int × Int)) (w : World) (hl : n ≤ 1000) (hcap : n ≤ cap) (hs : SpS w (some ⟨b, off, none⟩) n l) (hc : checkW l n = 0) :
 Calls Tryz.prog 114 #[.slice (some ⟨b, off, none⟩) n cap] w (SplitPost w (splitW (normalW l n).length (normalW l n) [])) := by
 have hln := lenNorm l n
 have hno := rnormal_ok b off cap n l w hl hcap hs hc
 have hgo : Ears.Good (normalW l n) := by
  have := Ears.normal_good (l := l) (by rw [hs.1]; exact hc)
  rw [hs.1] at this; exact this.1
 obtain ⟨form, hform⟩ : ∃ form, form = normalW l n := ⟨_, rfl⟩
 rw [← hform] at hno hln hgo ⊢
 have HNO := Hj hno
 have HGO := Hj hgo
 clear hno hform hc hgo
 obtain ⟨m, hm⟩ : ∃ m, form.length = m := ⟨_, rfl⟩
 rw [hm] at hln ⊢
 have HM := Hj hm
 clear hm
 go_enter Tryz.func114, Tryz.ntmps114
 go_wp2_with (go_at_call 151; refine HNO.out.mono ?_; rintro e w1 ⟨v1, rfl, ho1, hb1⟩)
 go_loopw [4, 6, 7] (fun s4 s6 _ wr => ∃ (cur : List (Int × Int)) (k f : Nat) (ts : List (List (Int × Int))), Hid (cur.length = k) ∧ Hid (Ears.Good cur) ∧ 3 ≤ k ∧ k ≤ m ∧ ts.length + k ≤ m ∧ ElS wr w.heap.size s4 cur ∧ OwSS wr w.heap.size s6 ts ∧ Below w.heap.size w wr ∧ k ≤ f ∧ Hid (splitW f cur ts = splitW m form [])) (fun s4 _ _ _ => sliceLen s4)
 case atStart => exact ⟨form, m, m, [], HM, HGO, by have := HGO.out.len; rw [HM.out] at this; exact this, Nat.le_refl _, by simp, OwS.els ho1, OwSS.nil, hb1, Nat.le_refl _, Hj rfl⟩
 case round =>
  clear HNO ho1 hb1
  obtain ⟨cur, k, f, ts, HK, HG, hk3, hkm, htk, hE, hoS, hb, hkf, hsp⟩ := hrel
  obtain ⟨b4, o4, c4, rfl, hc4, hs4⟩ := hE.formS HK.out (by omega)
  by_cases hk4 : 3 < k
  ·have q0 : (3 : Int) < (k : Int) := by omega
   rcases idxOf_cases (strW cur k) k with hn1 | ⟨i, hik, hii⟩
   ·obtain ⟨i, hik, he1, he2⟩ := Ears.ear_idx HK.out HG.out
    have hst := splitW_ear (f := f - 1) (ts := ts) HK.out (by omega) (by rw [hn1]; omega) he2
    rw [show f - 1 + 1 = f by omega] at hst
    have HST := Hj (hst.symm.trans hsp.out)
    have HG2 := Hj (Ears.good_fr HK.out HG.out hk4 he2)
    have HN1 := Hj hn1
    have HE1 := Hj he1
    have q1 : ¬ (i : Int) < 0 := by omega
    clear hst hsp hn1 he1 he2
    go_wp2_with (first
     | (go_at_call 155; have hz := hbB; refine (without_any b4 o4 c4 k i cur _ (by omega) hc4 hEB.sp hik).mono ?_; rintro e w5 ⟨v5, rfl, ho5, hb5⟩)
     | (at_builtin; refine wpList_appV rfl _ _ rfl w.heap.size _ ts rfl (hoS.keep (Bl.alloc hbA _)) w4.heap.size 1 (.slice (some ⟨g4, 0, none⟩) 3 3) (triW cur k i) 47 rfl (BlkS.new _ _ _) ((ElS.lower (OwS.els ho4) hlow).keep (Bl.alloc Br _)) (by omega) (Nat.le_trans hb.size (Bl.alloc hbA _).size) ?_; intro v' wB ho' hg' hat'; have hbB : Below w.heap.size w wB := below_app (Bl.alloc (Bl.call hb hbA) _) (OwSS.own (hoS.keep (Bl.alloc hbA _))) hg'; have hEB : ElS wB w.heap.size (.slice (some ⟨b4, o4, none⟩) k c4) cur := ElS.grown (hE.keep (Bl.alloc hbA _)) hg' (fun k cs fr _ hh => OwSS.apart (hoS.keep (Bl.alloc hbA _)) hh))
     | (go_at_call 154; have hz := hb3; refine (around_any b4 o4 c4 k i cur _ (by omega) hc4 ((hs4.keep hb2).keep hb3) hik).mono ?_; rintro e w4 ⟨g4, rfl, ho4, hb4⟩; have hbA := Bl.call (Bl.call hb2 hb3) hb4; have hlow : w.heap.size ≤ w3.heap.size := (Bl.call hb (Bl.call hb2 hb3)).size)
     | (go_at_call 153; have hz := hb2; refine (rear_any b4 o4 c4 k cur _ (by omega) hc4 (hs4.keep hb2)).mono ?_; rintro e w3 ⟨rfl, hb3⟩; rw [HE1.out])
     | (go_at_call 152; refine (rflat_any b4 o4 c4 k cur _ (by omega) hc4 hs4).mono ?_; rintro e w2 ⟨rfl, hb2⟩; rw [HN1.out]))
    have hE5 : ElS w5 w.heap.size v5 (cur.eraseIdx i) := ElS.lower (OwS.els ho5) hbB.size
    have hlen : (cur.eraseIdx i).length = k - 1 := by rw [List.length_eraseIdx_of_lt (by rw [HK.out]; exact hik), HK.out]
    refine ⟨⟨cur.eraseIdx i, k - 1, f - 1, ts ++ [triW cur k i], Hj hlen, HG2, by omega, by omega, by rw [List.length_append]; simp; omega, hE5, ho'.keep hb5, Bl.call hbB hb5, by omega, HST⟩, ?_⟩
    obtain ⟨b5, o5, c5, rfl, -, -⟩ := hE5.formS hlen (by omega)
    simp [sliceLen]; omega
   ·have hst := splitW_str (f := f - 1) (ts := ts) HK.out (by omega) hii
    rw [show f - 1 + 1 = f by omega] at hst
    have HST := Hj (hst.symm.trans hsp.out)
    have HG2 := Hj (Ears.good_str HK.out HG.out hk4 hii)
    have HII := Hj hii
    clear hst hsp hii
    go_wp2_with (first
     | (go_at_call 155; have hz := hb2; refine (without_any b4 o4 c4 k i cur _ (by omega) hc4 (hs4.keep hb2) hik).mono ?_; rintro e w5 ⟨v5, rfl, ho5, hb5⟩)
     | (go_at_call 152; refine (rflat_any b4 o4 c4 k cur _ (by omega) hc4 hs4).mono ?_; rintro e w2 ⟨rfl, hb2⟩; rw [HII.out]))
    have hX := Bl.call hb hb2
    have hE5 : ElS w5 w.heap.size v5 (cur.eraseIdx i) := ElS.lower (OwS.els ho5) hX.size
    have hlen : (cur.eraseIdx i).length = k - 1 := by rw [List.length_eraseIdx_of_lt (by rw [HK.out]; exact hik), HK.out]
    refine ⟨⟨cur.eraseIdx i, k - 1, f - 1, ts, Hj hlen, HG2, by omega, by omega, by omega, hE5, (hoS.keep hb2).keep hb5, Bl.call hX hb5, by omega, HST⟩, ?_⟩
    obtain ⟨b5, o5, c5, rfl, -, -⟩ := hE5.formS hlen (by omega)
    simp [sliceLen]; omega
  ·obtain rfl : k = 3 := by omega
   have hend := splitW_end (f := f) (cur := cur) (ts := ts) (by rw [HK.out]; omega)
   have HEND := Hj (hsp.out.symm.trans hend)
   clear hend hsp
   go_wp2_with (at_builtin; refine wpList_appV rfl _ _ rfl w.heap.size _ ts rfl (hoS.keep (Bl.alloc Br _)) wr.heap.size 1 (.slice (some ⟨b4, o4, none⟩) 3 c4) cur 47 rfl (BlkS.new _ _ _) (hE.keep (Bl.alloc Br _)) (by omega) (Bl.alloc hb _).size ?_; intro v' w' ho' hg' hat')
   go_ret2
   refine ⟨below_app (Bl.alloc hb _) (OwSS.own (hoS.keep (Bl.alloc Br _))) hg', ?_⟩
   rw [HEND.out]
   exact ⟨v', rfl, ho'⟩
set_option maxHeartbeats 1000000 in
theorem rsplit_bad (A : Option Addr) (cap n : Nat) (l : List (Int × Int)) (w : World) (hl : n ≤ 9223372036854775807) (hcap : n ≤ cap) (hs : SpS w A n l) (hc : ¬ checkW l n = 0) :
 Calls Tryz.prog 114 #[.slice A n cap] w fun e w' => e = .returned (.tuple #[.slice none 0 0, .int .i64 (checkW l n)]) ∧ Below w.heap.size w w' := by
 have q : (checkW l n != 0) = true := by rw [bne_iff_ne]; exact hc
 have hno := rnormal_bad A cap n l w hl hcap hs hc
 have HNO := Hj hno
 clear hno hc
 go_enter Tryz.func114, Tryz.ntmps114
 go_wp2_with (go_at_call 151; refine HNO.out.mono ?_; rintro e w1 ⟨rfl, hb1⟩)
 go_ret2
 exact ⟨rfl, hb1⟩
theorem rsplit_any (A : Option Addr) (cap n : Nat) (l : List (Int × Int)) (w : World) (hl : n ≤ 9223372036854775807) (hcap : n ≤ cap) (hs : SpS w A n l) :
 Calls Tryz.prog 114 #[.slice A n cap] w (RetSSE w (Xb l)) := by
 have hn := hs.1
 by_cases hc : checkW l n = 0
 ·have h3 := check_len hc
  obtain ⟨b, off, rfl, -, -⟩ := hs.at_ (k := 0) (by omega)
  refine (rsplit_ok b off cap n l w (by omega) hcap hs hc).mono ?_
  rintro e w' ⟨hb, h⟩
  cases hsp : splitW (normalW l n).length (normalW l n) [] with
  | none =>
    have e1 : Xb l = (11, []) := by unfold Xb; rw [hn, if_pos hc, hsp]
    rw [hsp] at h; rw [e1]; exact ⟨_, h, OwSS.nil, hb⟩
  | some ts =>
    have e1 : Xb l = (0, ts) := by unfold Xb; rw [hn, if_pos hc, hsp]
    rw [hsp] at h
    obtain ⟨v, rfl, ho⟩ := h
    rw [e1]
    exact ⟨v, rfl, ho, hb⟩
 ·refine (rsplit_bad A cap n l w hl hcap hs hc).mono ?_
  rintro e w' ⟨rfl, hb⟩
  have e1 : Xb l = (checkW l n, []) := by unfold Xb; rw [hn, if_neg hc]
  rw [e1]
  exact ⟨_, rfl, OwSS.nil, hb⟩
end
end Go.Proofs.YtmdncaoilegnnaaGreat

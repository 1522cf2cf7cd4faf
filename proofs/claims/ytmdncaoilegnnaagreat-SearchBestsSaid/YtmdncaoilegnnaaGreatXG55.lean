/- Lean texts of the claim. -/
import Derived.Test.YtmdncaoilegnnaaGreatXG54
import Derived.Test.YtmdncaoilegnnaaGreatXG52
import Derived.Test.YtmdncaoilegnnaaGreatXG17
import Derived.Test.YtmdncaoilegnnaaGreatXC
namespace Go.Proofs.YtmdncaoilegnnaaGreat
set_option linter.unusedVariables false
set_option linter.unusedSimpArgs false
section
open Go.RowKit
section
variable {α : Type} {lt : α → α → Bool}
def insG (lt : α → α → Bool) (r : α) : List α → List α
 | [] => [r]
 | x :: xs => if lt x r then x :: insG lt r xs else if lt r x then r :: x :: xs else x :: xs
theorem insG_lt {r x : α} {xs : List α} (h : lt x r = true) : insG lt r (x :: xs) = x :: insG lt r xs := by rw [insG, if_pos h]
theorem insG_gt {r x : α} {xs : List α} (h : lt x r = false) (h2 : lt r x = true) : insG lt r (x :: xs) = r :: x :: xs := by rw [insG, if_neg (by rw [h]; simp), if_pos h2]
theorem insG_eq {r x : α} {xs : List α} (h : lt x r = false) (h2 : lt r x = false) : insG lt r (x :: xs) = x :: xs := by rw [insG, if_neg (by rw [h]; simp), if_neg (by rw [h2]; simp)]
theorem insG_len (r : α) : ∀ l : List α, (insG lt r l).length ≤ l.length + 1
 | [] => by simp [insG]
 | x :: xs => by
   have := insG_len r xs
   rw [insG]; split
   ·simp only [List.length_cons]; omega
   ·split <;> simp only [List.length_cons] <;> omega
theorem insG_mem {r : α} (tot : ∀ x y, lt x y = false → lt y x = false → x = y) : ∀ (l : List α) (q : α), q ∈ insG lt r l ↔ q ∈ l ∨ q = r
 | [], q => by simp [insG]
 | x :: xs, q => by
   have ih := insG_mem (r := r) tot xs q
   cases h : lt x r with
   | true => rw [insG_lt h, List.mem_cons, List.mem_cons, ih]; exact or_assoc.symm
   | false =>
     cases h2 : lt r x with
     | true => rw [insG_gt h h2, List.mem_cons]; exact or_comm
     | false =>
       rw [insG_eq h h2]
       have e := tot x r h h2
       constructor
       ·exact .inl
       ·rintro (h | h)
        ·exact h
        ·rw [h, ← e]; simp
theorem insG_pw {r : α} (tr : ∀ x y z, lt x y = true → lt y z = true → lt x z = true) (tot : ∀ x y, lt x y = false → lt y x = false → x = y) : ∀ (l : List α), l.Pairwise (fun x y => lt x y = true) → (insG lt r l).Pairwise (fun x y => lt x y = true)
 | [], _ => by simp [insG]
 | x :: xs, hp => by
   rw [List.pairwise_cons] at hp
   cases h : lt x r with
   | true =>
     rw [insG_lt h, List.pairwise_cons]
     refine ⟨fun q hq => ?_, insG_pw tr tot xs hp.2⟩
     rcases (insG_mem tot xs q).1 hq with h1 | h1
     ·exact hp.1 q h1
     ·rw [h1]; exact h
   | false =>
     cases h2 : lt r x with
     | true =>
       rw [insG_gt h h2, List.pairwise_cons, List.pairwise_cons]
       refine ⟨fun q hq => ?_, hp⟩
       rcases List.mem_cons.1 hq with e | e
       ·rw [e]; exact h2
       ·exact tr _ _ _ h2 (hp.1 q e)
     | false => rw [insG_eq h h2, List.pairwise_cons]; exact hp
theorem asc_ext (ir : ∀ x, lt x x = false) (tr : ∀ x y z, lt x y = true → lt y z = true → lt x z = true) : ∀ (l m : List α), l.Pairwise (fun x y => lt x y = true) → m.Pairwise (fun x y => lt x y = true) → (∀ q, q ∈ l ↔ q ∈ m) → l = m
 | [], [], _, _, _ => rfl
 | [], y :: m, _, _, h => absurd ((h y).2 (by simp)) (by simp)
 | x :: l, [], _, _, h => absurd ((h x).1 (by simp)) (by simp)
 | x :: l, y :: m, h1, h2, h => by
   rw [List.pairwise_cons] at h1 h2
   have e : x = y := by
    rcases List.mem_cons.1 ((h x).1 (by simp)) with e | e
    ·exact e
    ·rcases List.mem_cons.1 ((h y).2 (by simp)) with e2 | e2
     ·exact e2.symm
     ·have a1 := h1.1 y e2
      have a2 := h2.1 x e
      have := tr _ _ _ a1 a2
      rw [ir] at this; cases this
   subst e
   congr 1
   refine asc_ext ir tr l m h1.2 h2.2 fun q => ?_
   constructor
   ·intro hq
    rcases List.mem_cons.1 ((h q).1 (by simp [hq])) with e | e
    ·subst e; have := h1.1 q hq; rw [ir] at this; cases this
    ·exact e
   ·intro hq
    rcases List.mem_cons.1 ((h q).2 (by simp [hq])) with e | e
    ·subst e; have := h2.1 q hq; rw [ir] at this; cases this
    ·exact e
theorem cp_asc {d : α} {eq : α → α → Bool} (ir : ∀ x, lt x x = false) (heq : ∀ x y, eq x y = true ↔ x = y) (tri : ∀ x y, x = y ∨ lt x y = true ∨ lt y x = true) {s : List α} (hs : s.Pairwise (fun x y => lt y x = false)) : ∀ k, k ≤ s.length → (cpTo eq s d k).Pairwise (fun x y => lt x y = true)
 | 0, _ => by simp [cpTo]
 | k + 1, hk => by
   have ih := cp_asc (d := d) ir heq tri hs k (by omega)
   by_cases c : 0 < k ∧ eq (s.getD k d) (s.getD (k - 1) d) = true
   ·rw [cpTo, if_pos c]; exact ih
   ·rw [cpTo, if_neg c, List.pairwise_append]
    refine ⟨ih, by simp, fun q hq y hy => ?_⟩
    simp only [List.mem_cons, List.not_mem_nil, or_false] at hy
    subst hy
    have hq' := (Ears.cp_mem (fun x y h => (heq x y).1 h) k (by omega) q).1 hq
    obtain ⟨j, hj, rfl⟩ := List.mem_take_iff_getElem.1 hq'
    have g : ∀ i (h : i < s.length), s.getD i d = s[i] := fun i h => by rw [List.getD_eq_getElem?_getD, List.getElem?_eq_getElem h]; rfl
    rw [g k (by omega)]
    have le := List.pairwise_iff_getElem.1 hs j k (by omega) (by omega) (by omega)
    rcases tri s[j] s[k] with e | e | e
    ·exfalso
     have ne : s[k] ≠ s[k - 1] := by
      intro z; apply c; refine ⟨by omega, ?_⟩
      rw [g k (by omega), g (k - 1) (by omega)]; exact (heq _ _).2 z
     by_cases cj : j = k - 1
     ·subst cj; exact ne e.symm
     ·have l1 := List.pairwise_iff_getElem.1 hs j (k - 1) (by omega) (by omega) (by omega)
      have l2 := List.pairwise_iff_getElem.1 hs (k - 1) k (by omega) (by omega) (by omega)
      rcases tri s[k - 1] s[k] with f | f | f
      ·exact ne f.symm
      ·rw [← e] at f; rw [l1] at f; cases f
      ·rw [l2] at f; cases f
    ·exact e
    ·rw [le] at e; cases e
end
def ltL (a b : List (Int × Int)) : Bool := ltOf cmpL a b
theorem ltL_irr (x : List (Int × Int)) : ltL x x = false := by unfold ltL ltOf; rw [cmpL_self]; rfl
theorem ltL_trans (x y z : List (Int × Int)) (h1 : ltL x y = true) (h2 : ltL y z = true) : ltL x z = true := by
 unfold ltL ltOf at *; simp only [decide_eq_true_eq] at *; exact cmpL_trans x y z h1 h2
theorem ltL_tri (x y : List (Int × Int)) : x = y ∨ ltL x y = true ∨ ltL y x = true := by
 cases h1 : ltL x y with
 | true => exact .inr (.inl rfl)
 | false =>
   cases h2 : ltL y x with
   | true => exact .inr (.inr rfl)
   | false => exact .inl (totL x y h1 h2)
theorem cmpL_ne {x y : Int × Int} {l m : List (Int × Int)} (h : x ≠ y) : ltL (x :: l) (y :: m) = lessS x y := by
 unfold ltL ltOf
 rw [cmpL, if_pos (by rw [bne_iff_ne]; intro e; exact h ((cmpS_zero x y).1 e)), ← ltS]
 rfl
theorem cmpL_eq {x y : Int × Int} {l m : List (Int × Int)} (h : x = y) : cmpL (x :: l) (y :: m) = cmpL l m := by
 subst h
 rw [cmpL, if_neg (by rw [(cmpS_zero x x).2 rfl]; simp)]
set_option maxHeartbeats 1000000 in
theorem rlessL_any (A B : Option Addr) (ca cb na nb : Nat) (a b : List (Int × Int)) (w : World) (hna : na ≤ 1000000) (hnb : nb ≤ 1000000) (hsA : SpS w A na a) (hsB : SpS w B nb b) :
 Calls Tryz.prog 177 #[.slice A na ca, .slice B nb cb] w fun e w' => e = .returned (.bool (ltL a b)) ∧ Below w.heap.size w w' := by
 have HNA := Hj hsA.1
 have HNB := Hj hsB.1
 have heq := eqInSpot
 go_enter Tryz.func177, Tryz.ntmps177
 go_wp2_with fail
 go_loopw [5] (fun i wr => ∃ k : Nat, k ≤ na ∧ k ≤ nb ∧ i = .int .i64 k ∧ Hid (cmpL (a.drop k) (b.drop k) = cmpL a b) ∧ Below w.heap.size w wr) (fun i _ => na - (intOf i).toNat)
 case atStart => exact ⟨0, Nat.zero_le _, Nat.zero_le _, rfl, Hj rfl, Below.refl _ _⟩
 case round =>
  obtain ⟨k, hk1, hk2, rfl, hp, hb⟩ := hrel
  by_cases hl1 : k < na
  ·by_cases hl2 : k < nb
   ·obtain ⟨ba, oa, rfl, hbl, hc⟩ := (hsA.keep hb).at_ hl1
    obtain ⟨h1, h2⟩ := hc k hl1
    clear hc
    obtain ⟨bb, ob, rfl, hbl2, hc⟩ := (hsB.keep hb).at_ hl2
    obtain ⟨h3, h4⟩ := hc k hl2
    clear hc
    have z1 : (k : Int) < (na : Int) := by omega
    have z2 : (k : Int) < (nb : Int) := by omega
    have HD := Hj (show cmpL (gt a k :: a.drop (k + 1)) (gt b k :: b.drop (k + 1)) = cmpL a b by rw [← drop_cons (by rw [HNA.out]; exact hl1), ← drop_cons (by rw [HNB.out]; exact hl2)]; exact hp.out)
    by_cases hq : eqS ((gt a k).1, (gt a k).2) ((gt b k).1, (gt b k).2) = true
    ·have HE := Hj (show cmpL (a.drop (k + 1)) (b.drop (k + 1)) = cmpL a b by rw [← HD.out]; exact (cmpL_eq ((eqS_iff _ _).1 hq)).symm)
     go_wp2_with fail
     go_quiet (fail)
     clear h1 h2 h3 h4
     have hb2 := Bl.drewN hb nq
     go_wp2_with fail
     exact ⟨⟨k + 1, by omega, by omega, by go_num, HE, hb2⟩, by simp [intOf]; omega⟩
    ·have hq' : eqS ((gt a k).1, (gt a k).2) ((gt b k).1, (gt b k).2) = false := by simpa using hq
     clear hq
     have HE := Hj (show lessS ((gt a k).1, (gt a k).2) ((gt b k).1, (gt b k).2) = ltL a b by
      have e := cmpL_ne (l := a.drop (k + 1)) (m := b.drop (k + 1)) ((eqS_false (gt a k) (gt b k)).1 hq')
      unfold ltL ltOf at *
      rw [HD.out] at e
      exact e.symm)
     go_wp2_with fail
     go_quiet (fail)
     have hb2 := Bl.drewN hb nq
     obtain ⟨wq, hwq⟩ : ∃ wq : World, wq = wr.drewN nq := ⟨_, rfl⟩
     have k1 : wq.cell? ⟨ba, oa + k * 2, none⟩ = some (.int .i64 (gt a k).1) := by rw [hwq]; exact h1
     have k2 : wq.cell? ⟨ba, oa + k * 2 + 1, none⟩ = some (.int .i64 (gt a k).2) := by rw [hwq]; exact h2
     have k3 : wq.cell? ⟨bb, ob + k * 2, none⟩ = some (.int .i64 (gt b k).1) := by rw [hwq]; exact h3
     have k4 : wq.cell? ⟨bb, ob + k * 2 + 1, none⟩ = some (.int .i64 (gt b k).2) := by rw [hwq]; exact h4
     rw [← hwq] at hb2 ⊢
     clear h1 h2 h3 h4 hwq hb
     go_wp2_with fail
     refine Xc w [(⟨ba, oa + k * 2, none⟩, .int .i64 (gt a k).1), (⟨ba, oa + k * 2 + 1, none⟩, .int .i64 (gt a k).2), (⟨bb, ob + k * 2, none⟩, .int .i64 (gt b k).1), (⟨bb, ob + k * 2 + 1, none⟩, .int .i64 (gt b k).2)] (by kernel_rfl) (by kernel_rfl) ⟨hb2, by simp only [List.mem_cons, List.not_mem_nil, forall_eq_or_imp, or_false, forall_eq]; go_simp⟩ ?_
     repeat
      apply wq_plain
      ·rfl
      ·intro w1 hw1
       have hx := hw1.2
       simp only [List.mem_cons, List.not_mem_nil, forall_eq_or_imp, or_false, forall_eq] at hx
       go_simp
       first | rfl | exact calls_cls hw1 (rless_any _ _ _ _ _)
      go_simp
     refine wpQuiet_nil ?_
     intro w9 hCw9
     have hb9 := hCw9.1
     clear hCw9 k1 k2 k3 k4
     go_wp2_with fail
     go_ret
     exact ⟨ret_bool HE.out, hb9⟩
   ·obtain rfl : nb = k := by omega
    have z1 : (nb : Int) < (na : Int) := by omega
    have HE := Hj (show ltL a b = decide (na < nb) by
     unfold ltL ltOf
     rw [← hp.out, List.drop_of_length_le (l := b) (by rw [HNB.out]; exact Nat.le_refl _), drop_cons (by rw [HNA.out]; exact hl1), cmpL, decide_eq_false (by omega), decide_eq_false (by omega)])
    go_wp2_with fail
    go_ret
    exact ⟨ret_bool HE.out.symm, hb⟩
  ·obtain rfl : na = k := by omega
   have HE := Hj (show ltL a b = decide (na < nb) by
    unfold ltL ltOf
    rw [← hp.out, List.drop_of_length_le (l := a) (by rw [HNA.out]; exact Nat.le_refl _)]
    by_cases h : na < nb
    ·rw [drop_cons (by rw [HNB.out]; exact h), cmpL, decide_eq_true (by omega), decide_eq_true (by omega)]
    ·rw [List.drop_of_length_le (l := b) (by rw [HNB.out]; omega), cmpL, decide_eq_false (by omega), decide_eq_false (by omega)])
   go_wp2_with fail
   go_ret
   exact ⟨ret_bool HE.out.symm, hb⟩
end
section
set_option maxRecDepth 100000
open Go.RowKit
theorem OwSS.rows {w : World} {base : Nat} {v : Value} {ls : List (List (Int × Int))} (h : OwSS w base v ls) : ∃ A c, v = .slice A ls.length c ∧ ls.length ≤ c ∧ ∀ k, k < ls.length → ∃ g Ak ck, A = some ⟨g, 0, none⟩ ∧ w.cell? ⟨g, k, none⟩ = some (.slice Ak (lt_ ls k).length ck) ∧ ElS w base (.slice Ak (lt_ ls k).length ck) (lt_ ls k) := by
 have hlen : (Classical.choose h).length = ls.length := (Classical.choose_spec h).2.1
 rcases OwG.form (OwSS.own h) with ⟨rfl, e⟩ | ⟨g, cap, e, -, -, hc, -⟩
 ·have e0 : ls.length = 0 := by rw [← hlen, e]; rfl
  exact ⟨none, 0, by rw [e0], by omega, fun k hk => absurd hk (by omega)⟩
 ·rw [hlen] at e hc
  clear hlen
  subst e
  refine ⟨_, cap, rfl, hc, fun k hk => ?_⟩
  obtain ⟨A, c, h1, -, -, -, h2⟩ := h.at_ rfl hk
  exact ⟨g, A, c, rfl, h1, h2⟩
theorem lt_take {ls : List (List (Int × Int))} {i : Nat} (h : i < ls.length) : ls.take (i + 1) = ls.take i ++ [lt_ ls i] := by
 rw [List.take_succ_eq_append_getElem h]; simp [lt_, h]
theorem lt_drop {ls : List (List (Int × Int))} {i : Nat} (h : i < ls.length) : ls.drop i = lt_ ls i :: ls.drop (i + 1) := by
 rw [List.drop_eq_getElem_cons h]; simp [lt_, h]
theorem ownGo {v v' : Value} {H B : Nat} (hat : v'.ownBlock = v.ownBlock ∨ v'.ownBlock = some H) (hown : ∀ k, v.ownBlock = some k → B ≤ k) (hH : B ≤ H) : ∀ k, v'.ownBlock = some k → B ≤ k := by
 intro k hk
 rcases hat with e | e
 ·exact hown k (e.symm.trans hk)
 ·rw [e] at hk; injection hk with hk; omega
def InsI {α : Type} (lt : α → α → Bool) (ls : List α) (r : α) (i : Nat) (d : Bool) (out : List α) : Prop :=
 (d = false ∧ out = ls.take i ∧ insG lt r ls = ls.take i ++ insG lt r (ls.drop i)) ∨ (d = true ∧ insG lt r ls = out ++ ls.drop i)
section
variable {α : Type} {lt : α → α → Bool} {ls out : List α} {r x : α} {i : Nat}
theorem InsI.ltc (h : InsI lt ls r i false out) (hd : ls.drop i = x :: ls.drop (i + 1)) (ht : ls.take (i + 1) = ls.take i ++ [x]) (h1 : lt x r = true) : InsI lt ls r (i + 1) false (out ++ [x]) := by
 rcases h with ⟨-, rfl, h⟩ | ⟨h, -⟩
 ·refine .inl ⟨rfl, ht.symm, ?_⟩
  rw [h, hd, insG_lt h1, ht]; simp
 ·cases h
theorem InsI.gtc (h : InsI lt ls r i false out) (hd : ls.drop i = x :: ls.drop (i + 1)) (h1 : lt x r = false) (h2 : lt r x = true) : InsI lt ls r (i + 1) true (out ++ [r] ++ [x]) := by
 rcases h with ⟨-, rfl, h⟩ | ⟨h, -⟩
 ·refine .inr ⟨rfl, ?_⟩
  rw [h, hd, insG_gt h1 h2]; simp
 ·cases h
theorem InsI.eqc (h : InsI lt ls r i false out) (hd : ls.drop i = x :: ls.drop (i + 1)) (h1 : lt x r = false) (h2 : lt r x = false) : InsI lt ls r (i + 1) true (out ++ [x]) := by
 rcases h with ⟨-, rfl, h⟩ | ⟨h, -⟩
 ·refine .inr ⟨rfl, ?_⟩
  rw [h, hd, insG_eq h1 h2]; simp
 ·cases h
theorem InsI.on (h : InsI lt ls r i true out) (hd : ls.drop i = x :: ls.drop (i + 1)) : InsI lt ls r (i + 1) true (out ++ [x]) := by
 rcases h with ⟨h, -⟩ | ⟨-, h⟩
 ·cases h
 ·refine .inr ⟨rfl, ?_⟩
  rw [h, hd]; simp
theorem InsI.end0 (h : InsI lt ls r ls.length false out) : insG lt r ls = out ++ [r] := by
 rcases h with ⟨-, rfl, h⟩ | ⟨h, -⟩
 ·rw [h, List.drop_length]; rfl
 ·cases h
theorem InsI.end1 (h : InsI lt ls r ls.length true out) : insG lt r ls = out := by
 rcases h with ⟨h, -⟩ | ⟨-, h⟩
 ·cases h
 ·rw [h, List.drop_length, List.append_nil]
end
set_option maxHeartbeats 2000000 in
theorem rinsert_any (B : Nat) (v u : Value) (ls : List (List (Int × Int))) (r : List (Int × Int)) (w : World) (hBw : B ≤ w.heap.size) (hn : ls.length ≤ 100000) (hll : ∀ t ∈ ls, t.length ≤ 1000000) (hr1 : r.length ≤ 1000000) (hv : OwSS w B v ls) (hu : ElS w B u r) :
 Calls Tryz.prog 137 #[v, u] w fun e w' => ∃ v', e = .returned v' ∧ OwSS w' B v' (insG ltL r ls) ∧ Below w.heap.size w w' := by
 obtain ⟨A, c, rfl, hc, hrow⟩ := hv.rows
 obtain ⟨Au, cu, rfl, hcu, hSu, -⟩ := id hu
 have HROW := Hj hrow
 have HLL := Hj (show ∀ k, k < ls.length → (lt_ ls k).length ≤ 1000000 from fun k hk => hll _ (Ears.lt_in hk))
 obtain ⟨n, hne⟩ : ∃ n, ls.length = n := ⟨_, rfl⟩
 rw [hne] at hn hc HROW HLL ⊢
 have HN := Hj hne
 clear hrow hne hv hll
 obtain ⟨rl, hrl⟩ : ∃ rl, r.length = rl := ⟨_, rfl⟩
 rw [hrl] at hr1 hcu hSu hu ⊢
 clear hrl
 go_enter Tryz.func137, Tryz.ntmps137
 go_wp2_with fail
 go_loopw [5, 6, 7] (fun s5 s6 s7 wr => ∃ (i : Nat) (d : Bool) (out : List (List (Int × Int))), i ≤ n ∧ s7 = .int .i64 i ∧ s6 = .bool d ∧ OwSS wr B s5 out ∧ (∀ k, s5.ownBlock = some k → w.heap.size ≤ k) ∧ Below w.heap.size w wr ∧ out.length ≤ i + 1 ∧ Hid (InsI ltL ls r i d out)) (fun _ _ i _ => n - (intOf i).toNat)
 case atStart => exact ⟨0, false, [], Nat.zero_le _, rfl, rfl, OwSS.nil, fun k hk => by simp [Value.ownBlock] at hk, Below.refl _ _, by simp, Hj (.inl ⟨rfl, by simp, by simp⟩)⟩
 case round =>
  obtain ⟨i, d, out, hi, rfl, rfl, ho, hown, hb, hol, HI⟩ := hrel
  by_cases hlt : i < n
  ·obtain ⟨g, Ak, ck, rfl, hcell, hEx⟩ := HROW.out i hlt
   have hXl := HLL.out i hlt
   have hin : i < ls.length := by rw [HN.out]; exact hlt
   have HD := Hj (lt_drop hin)
   have HT := Hj (lt_take hin)
   obtain ⟨xl, hxl⟩ : ∃ xl, (lt_ ls i).length = xl := ⟨_, rfl⟩
   rw [hxl] at hXl hEx hcell
   have HXL := Hj hxl
   clear hxl hin
   have k1 := Xa hb hcell
   have hgl : g < w.heap.size := lt_of_cell hcell
   have z1 : (i : Int) < (n : Int) := by omega
   cases d with
   | true =>
     go_wp2_with (at_builtin; refine wpList_appV rfl _ _ rfl B _ out rfl (ho.keep (Bl.alloc Br _)) wr.heap.size 1 (.slice Ak xl ck) (lt_ ls i) 47 rfl (BlkS.new _ _ _) (hEx.keep (Bl.alloc hb _)) (by omega) (Nat.le_trans hBw (Bl.alloc hb _).size) ?_; intro v' wv ho' hg' hat')
     have hbv : Below w.heap.size w wv := Below.grown (Bl.alloc hb _) hg' (Bl.alloc hb _).size hown
     exact ⟨⟨i + 1, true, out ++ [lt_ ls i], by omega, by go_num, rfl, ho', ownGo hat' hown (by have := hb.size; simp; omega), hbv, by rw [List.length_append]; simp; omega, Hj (HI.out.on HD.out)⟩, by simp [intOf]; omega⟩
   | false =>
     cases hv1 : ltL (lt_ ls i) r with
     | true =>
       have HV := Hj hv1
       clear hv1
       go_wp2_with (first
        | (at_builtin; have hz := hb2; refine wpList_appV rfl _ _ rfl B _ out rfl (ho.keep (Bl.alloc hb2 _)) w2.heap.size 1 (.slice Ak xl ck) (lt_ ls i) 47 rfl (BlkS.new _ _ _) (hEx.keep (Bl.alloc (Bl.call hb hb2) _)) (by omega) (Nat.le_trans hBw (Bl.alloc (Bl.call hb hb2) _).size) ?_; intro v' wv ho' hg' hat')
        | (go_at_call 177; refine (rlessL_any _ _ _ _ _ _ (lt_ ls i) r _ hXl hr1 (hEx.keep hb).sp (hSu.keep hb)).mono ?_; rintro e w2 ⟨rfl, hb2⟩; rw [HV.out]; have k2 := Xa hb2 k1))
       have hX := Bl.alloc (Bl.call hb hb2) (.cells #[.slice Ak xl ck] 47)
       have hbv : Below w.heap.size w wv := Below.grown hX hg' hX.size hown
       exact ⟨⟨i + 1, false, out ++ [lt_ ls i], by omega, by go_num, rfl, ho', ownGo hat' hown (by have := hX.size; simp at this ⊢; omega), hbv, by rw [List.length_append]; simp; omega, Hj (HI.out.ltc HD.out HT.out HV.out)⟩, by simp [intOf]; omega⟩
     | false =>
       have HV := Hj hv1
       clear hv1
       cases hv2 : ltL r (lt_ ls i) with
       | false =>
         have HV2 := Hj hv2
         clear hv2
         go_wp2_with (first
          | (at_builtin; have hz := hb3; refine wpList_appV rfl _ _ rfl B _ out rfl (ho.keep (Bl.alloc hb23 _)) w3.heap.size 1 (.slice Ak xl ck) (lt_ ls i) 47 rfl (BlkS.new _ _ _) (hEx.keep (Bl.alloc (Bl.call hb hb23) _)) (by omega) (Nat.le_trans hBw (Bl.alloc (Bl.call hb hb23) _).size) ?_; intro v' wv ho' hg' hat')
          | (go_at_call 177; have hz := hb2; refine (rlessL_any _ _ _ _ _ _ r (lt_ ls i) _ hr1 hXl (hSu.keep (Bl.call hb hb2)) (hEx.keep (Bl.call hb hb2)).sp).mono ?_; rintro e w3 ⟨rfl, hb3⟩; rw [HV2.out]; have k3 := Xa hb3 k2; have hb23 := Bl.call hb2 hb3)
          | (go_at_call 177; refine (rlessL_any _ _ _ _ _ _ (lt_ ls i) r _ hXl hr1 (hEx.keep hb).sp (hSu.keep hb)).mono ?_; rintro e w2 ⟨rfl, hb2⟩; rw [HV.out]; have k2 := Xa hb2 k1))
         have hX := Bl.alloc (Bl.call hb hb23) (.cells #[.slice Ak xl ck] 47)
         have hbv : Below w.heap.size w wv := Below.grown hX hg' hX.size hown
         exact ⟨⟨i + 1, true, out ++ [lt_ ls i], by omega, by go_num, rfl, ho', ownGo hat' hown (by have := hX.size; simp at this ⊢; omega), hbv, by rw [List.length_append]; simp; omega, Hj (HI.out.eqc HD.out HV.out HV2.out)⟩, by simp [intOf]; omega⟩
       | true =>
         have HV2 := Hj hv2
         clear hv2
         have hol2 : out.length ≤ i := by
          rcases HI.out with ⟨-, e, -⟩ | ⟨e, -⟩
          ·rw [e, List.length_take]; omega
          ·cases e
         go_wp2_with (first
          | (at_builtin; have hz := hbv; refine wpList_appV rfl _ _ rfl B _ (out ++ [r]) rfl (ho'.keep (Bl.alloc Br _)) wv.heap.size 1 (.slice Ak xl ck) (lt_ ls i) 47 rfl (BlkS.new _ _ _) (hEx.keep (Bl.alloc hbv _)) (by rw [List.length_append]; simp; omega) (Nat.le_trans hBw (Bl.alloc hbv _).size) ?_; intro v2 wz ho2 hg2 hat2)
          | (at_builtin; have hz := hb3; refine wpList_appV rfl _ _ rfl B _ out rfl (ho.keep (Bl.alloc hb23 _)) w3.heap.size 1 (.slice Au rl cu) r 47 rfl (BlkS.new _ _ _) (hu.keep (Bl.alloc (Bl.call hb hb23) _)) (by omega) (Nat.le_trans hBw (Bl.alloc (Bl.call hb hb23) _).size) ?_; intro v' wv ho' hg' hat'; have hX := Bl.alloc (Bl.call hb hb23) (.cells #[.slice Au rl cu] 47); have hbv : Below w.heap.size w wv := Below.grown hX hg' hX.size hown; have k4 := Xa hbv hcell; have hown' := ownGo hat' hown (by have := hX.size; simp at this ⊢; omega))
          | (go_at_call 177; have hz := hb2; refine (rlessL_any _ _ _ _ _ _ r (lt_ ls i) _ hr1 hXl (hSu.keep (Bl.call hb hb2)) (hEx.keep (Bl.call hb hb2)).sp).mono ?_; rintro e w3 ⟨rfl, hb3⟩; rw [HV2.out]; have k3 := Xa hb3 k2; have hb23 := Bl.call hb2 hb3)
          | (go_at_call 177; refine (rlessL_any _ _ _ _ _ _ (lt_ ls i) r _ hXl hr1 (hEx.keep hb).sp (hSu.keep hb)).mono ?_; rintro e w2 ⟨rfl, hb2⟩; rw [HV.out]; have k2 := Xa hb2 k1))
         have hY := Bl.alloc hbv (.cells #[.slice Ak xl ck] 47)
         have hbz : Below w.heap.size w wz := Below.grown hY hg2 hY.size hown'
         exact ⟨⟨i + 1, true, out ++ [r] ++ [lt_ ls i], by omega, by go_num, rfl, ho2, ownGo hat2 hown' (by have := hY.size; simp at this ⊢; omega), hbz, by rw [List.length_append, List.length_append]; simp; omega, Hj (HI.out.gtc HD.out HV.out HV2.out)⟩, by simp [intOf]; omega⟩
  ·obtain rfl : n = i := by omega
   cases d with
   | true =>
     go_wp2_with fail
     go_ret
     have e1 : insG ltL r ls = out := by have := HI.out; rw [← HN.out] at this; exact this.end1
     exact ⟨_, rfl, by rw [e1]; exact ho, hb⟩
   | false =>
     have e1 : insG ltL r ls = out ++ [r] := by have := HI.out; rw [← HN.out] at this; exact this.end0
     have HE := Hj e1
     clear e1
     go_wp2_with (at_builtin; refine wpList_appV rfl _ _ rfl B _ out rfl (ho.keep (Bl.alloc Br _)) wr.heap.size 1 (.slice Au rl cu) r 47 rfl (BlkS.new _ _ _) (hu.keep (Bl.alloc hb _)) (by omega) (Nat.le_trans hBw (Bl.alloc hb _).size) ?_; intro v' wv ho' hg' hat')
     go_ret
     exact ⟨_, rfl, by rw [HE.out]; exact ho', Below.grown (Bl.alloc hb _) hg' (Bl.alloc hb _).size hown⟩
end
end Go.Proofs.YtmdncaoilegnnaaGreat

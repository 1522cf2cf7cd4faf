/- slices.CompareFunc and Equal at spots; the two closures of Regions; the sort of rows of spots. the order of lists of spots; slices.SortFunc on rows of spots. slices.CompactFunc on rows of spots. nofit.Regions. -/
import Derived.Test.YtmdncaoilegnnaaGreatUG13
import Derived.Test.YtmdncaoilegnnaaGreatUG14
namespace Go.Proofs.YtmdncaoilegnnaaGreat
set_option linter.unusedVariables false
set_option linter.unusedSimpArgs false
set_option linter.unusedVariables false
set_option linter.unusedSimpArgs false
open Go.RowKit Go.Sort

def cmpL : List (Int × Int) → List (Int × Int) → Int
  | [], [] => 0
  | [], _ :: _ => -1
  | _ :: _, [] => 1
  | a :: l, b :: m => if cmpS a b != 0 then cmpS a b else cmpL l m
theorem cmpS_zero (p q : Int × Int) : cmpS p q = 0 ↔ p = q := by
  constructor
  · intro h
    have h1 := (cmpS_lt p q)
    apply totS <;> (rw [ltS]; unfold lessS)
    · have : ¬ cmpS p q < 0 := by omega
      rw [cmpS_lt] at this
      simp; omega
    · unfold cmpS orI orI orI at h
      have a1 := cmpI_zero p.1 q.1
      have a2 := cmpI_zero p.2 q.2
      by_cases e1 : cmpI p.1 q.1 = 0
      · by_cases e2 : cmpI p.2 q.2 = 0
        · have := a1.1 e1; have := a2.1 e2; simp; omega
        · rw [e1] at h; rw [if_neg (by simp), if_pos (by simpa using e2)] at h; omega
      · rw [if_pos (by simpa using e1)] at h; omega
  · rintro rfl
    unfold cmpS orI orI orI cmpI; simp
theorem drop_cons {l : List (Int × Int)} {k : Nat} (h : k < l.length) : l.drop k = gt l k :: l.drop (k + 1) := by
  rw [List.drop_eq_getElem_cons h]; congr 1; unfold gt; simp [h]
theorem GrW.trans {a b c : World} (h : GrW a b) (h2 : GrW b c) : GrW a c := by
  obtain ⟨q, os, rfl⟩ := h
  obtain ⟨q2, os2, rfl⟩ := h2
  exact ⟨q + q2, os ++ os2, by
    show Sort.grow ((Sort.grow (a.drewN q) os).drewN q2) os2 = _
    rw [show (Sort.grow (a.drewN q) os).drewN q2 = Sort.grow ((a.drewN q).drewN q2) os from rfl, Sort.grow_grow]
    congr 1
    simp [World.drewN, Nat.add_assoc]⟩
theorem GrW.drewN {w w' : World} (h : GrW w w') (n : Nat) : GrW w (w'.drewN n) := by
  obtain ⟨q, os, rfl⟩ := h
  exact ⟨q + n, os, by
    show Sort.grow ((w.drewN q).drewN n) os = _
    congr 1
    simp [World.drewN, Nat.add_assoc]⟩
set_option maxHeartbeats 1000000 in
theorem compareF_any (A B : Option Addr) (ca cb na nb : Nat) (a b : List (Int × Int)) (w : World) (hna : na ≤ 1000000) (hnb : nb ≤ 1000000) (hsA : SpS w A na a) (hsB : SpS w B nb b) :
    Calls Tryz.prog 163 #[.slice A na ca, .slice B nb cb, .func (.func 121) #[] #[]] w fun e w' => e = .returned (.int .i64 (cmpL a b)) ∧ GrW w w' := by
  have HNA := Lib.hid hsA.1
  have HNB := Lib.hid hsB.1
  go_enter Tryz.func163, Tryz.ntmps163
  go_wp2_with fail
  go_loopw [13] (fun i wr => ∃ k : Nat, k ≤ na ∧ k ≤ nb ∧ i = .int .i64 k ∧ Hid (cmpL a b = cmpL (a.drop k) (b.drop k)) ∧ GrW w wr) (fun i _ => na - (intOf i).toNat)
  case atStart => exact ⟨0, Nat.zero_le _, Nat.zero_le _, rfl, Lib.hid rfl, GrW.refl _⟩
  case round =>
    obtain ⟨k, hk, hkb, rfl, hp, hG⟩ := hrel
    by_cases hlt : k < na
    · obtain ⟨ba, oa, rfl, hbl, hc⟩ := (hsA.keep hG.below).at_ hlt
      obtain ⟨h1, h2⟩ := hc k hlt
      clear hc
      have ea := Lib.hid (drop_cons (l := a) (k := k) (by rw [HNA.out]; exact hlt))
      by_cases hlb : k < nb
      · obtain ⟨bb, ob, rfl, hbl2, hc⟩ := (hsB.keep hG.below).at_ hlb
        obtain ⟨h3, h4⟩ := hc k hlb
        clear hc
        have eb := Lib.hid (drop_cons (l := b) (k := k) (by rw [HNB.out]; exact hlb))
        by_cases hcz : cmpS ((gt a k).1, (gt a k).2) ((gt b k).1, (gt b k).2) = 0
        · have q : (cmpS ((gt a k).1, (gt a k).2) ((gt b k).1, (gt b k).2) != 0) = false := by rw [hcz]; rfl
          have e9 := Lib.hid (show cmpL (a.drop k) (b.drop k) = cmpL (a.drop (k + 1)) (b.drop (k + 1)) by rw [ea.out, eb.out, cmpL, if_neg (by rw [show (cmpS (gt a k) (gt b k) != 0) = false from q]; simp)])
          clear hcz
          go_wp2_with (go_at_call 121; refine (ncmp_any _ _ _ _ _).mono ?_; rintro e w1 ⟨rfl, hG1⟩)
          exact ⟨⟨k + 1, by omega, by omega, by go_num, Lib.hid (by rw [hp.out, e9.out]), ((hG.alloc _).alloc _).trans hG1⟩, by simp [intOf]; omega⟩
        · have q : (cmpS ((gt a k).1, (gt a k).2) ((gt b k).1, (gt b k).2) != 0) = true := by simpa using hcz
          have e9 := Lib.hid (show cmpL (a.drop k) (b.drop k) = cmpS (gt a k) (gt b k) by rw [ea.out, eb.out, cmpL, if_pos (show (cmpS (gt a k) (gt b k) != 0) = true from q)])
          clear hcz
          go_wp2_with (go_at_call 121; refine (ncmp_any _ _ _ _ _).mono ?_; rintro e w1 ⟨rfl, hG1⟩)
          go_ret
          exact ⟨ret_int (by rw [hp.out, e9.out]), ((hG.alloc _).alloc _).trans hG1⟩
      · go_wp2_with fail
        go_ret
        have e9 : cmpL (a.drop k) (b.drop k) = 1 := by rw [ea.out, List.drop_of_length_le (l := b) (by rw [HNB.out]; omega)]; rfl
        exact ⟨ret_int (by rw [hp.out, e9]), hG.alloc _⟩
    · obtain rfl : na = k := by omega
      have ea := Lib.hid (show a.drop na = [] from List.drop_of_length_le (by rw [HNA.out]; exact Nat.le_refl _))
      by_cases hlb : na < nb
      · have eb := Lib.hid (drop_cons (l := b) (k := na) (by rw [HNB.out]; exact hlb))
        go_wp2_with fail
        go_ret
        exact ⟨ret_int (by rw [hp.out, ea.out, eb.out]; rfl), hG⟩
      · go_wp2_with fail
        go_ret
        have e9 : cmpL (a.drop na) (b.drop na) = 0 := by rw [ea.out, List.drop_of_length_le (l := b) (by rw [HNB.out]; omega)]; rfl
        exact ⟨ret_int (by rw [hp.out, e9]), hG⟩
set_option maxHeartbeats 400000 in
theorem regCmp_any (A B : Option Addr) (ca cb na nb : Nat) (a b : List (Int × Int)) (w : World) (hna : na ≤ 1000000) (hnb : nb ≤ 1000000) (hsA : SpS w A na a) (hsB : SpS w B nb b) :
    Calls Tryz.prog 162 #[.slice A na ca, .slice B nb cb] w fun e w' => e = .returned (.int .i64 (cmpL a b)) ∧ GrW w w' := by
  go_enter Tryz.func162, Tryz.ntmps162
  go_wp2_with (go_at_call 163; refine (compareF_any _ _ _ _ _ _ a b _ hna hnb hsA hsB).mono ?_; rintro e w1 ⟨rfl, hG1⟩)
  go_ret
  exact ⟨rfl, hG1⟩
def eqL (a b : List (Int × Int)) : Bool := decide (a = b)
def eqAt (a b : List (Int × Int)) (i : Nat) : Bool := eqS (gt a i) (gt b i)
theorem eqL_ne {a b : List (Int × Int)} (h : a.length ≠ b.length) : eqL a b = false := by
  unfold eqL; simp; intro e; exact h (by rw [e])
theorem eqL_yes {a b : List (Int × Int)} (h : a.length = b.length) (h2 : AllB (eqAt a b) a.length = true) : eqL a b = true := by
  unfold eqL; simp
  exact list_ext h fun k hk => (eqS_iff _ _).1 (AllB.iff.1 h2 k hk)
theorem eqL_no {a b : List (Int × Int)} {k : Nat} (h2 : eqAt a b k = false) : eqL a b = false := by
  unfold eqL; simp
  rintro rfl
  unfold eqAt at h2
  rw [(eqS_iff _ _).2 rfl] at h2; cases h2
set_option maxHeartbeats 1000000 in
theorem equal_any (A B : Option Addr) (ca cb na nb : Nat) (a b : List (Int × Int)) (w : World) (hna : na ≤ 1000000) (hnb : nb ≤ 1000000) (hsA : SpS w A na a) (hsB : SpS w B nb b) :
    Calls Tryz.prog 166 #[.slice A na ca, .slice B nb cb] w fun e w' => e = .returned (.bool (eqL a b)) ∧ GrW w w' := by
  have HNA := Lib.hid hsA.1
  have HNB := Lib.hid hsB.1
  by_cases hne : na = nb
  · subst hne
    have heq := eqInSpot
    go_enter Tryz.func166, Tryz.ntmps166
    go_wp2_with fail
    go_loopw [13] (fun i wr => ∃ k : Nat, k ≤ na ∧ i = .int .i64 k ∧ Hid (AllB (eqAt a b) k = true) ∧ GrW w wr) (fun i _ => na - (intOf i).toNat)
    case atStart => exact ⟨0, Nat.zero_le _, rfl, Lib.hid (AllB.zero _), GrW.refl _⟩
    case round =>
      obtain ⟨k, hk, rfl, hp, hG⟩ := hrel
      by_cases hlt : k < na
      · obtain ⟨ba, oa, rfl, hbl, hc⟩ := (hsA.keep hG.below).at_ hlt
        obtain ⟨h1, h2⟩ := hc k hlt
        clear hc
        obtain ⟨bb, ob, rfl, hbl2, hc⟩ := (hsB.keep hG.below).at_ hlt
        obtain ⟨h3, h4⟩ := hc k hlt
        clear hc
        have hk' : (k : Int) < (na : Int) := by omega
        have hn0 : ¬ na = 0 := by omega
        by_cases hq : eqS ((gt a k).1, (gt a k).2) ((gt b k).1, (gt b k).2) = true
        · have HQ := Lib.hid hq
          go_wp2_with fail
          go_quiet (fail)
          clear h1 h2 h3 h4
          go_wp2_with fail
          exact ⟨⟨k + 1, by omega, by go_num, Lib.hid (AllB.succ hp.out HQ.out), hG.drewN _⟩, by simp [intOf]; omega⟩
        · have hq' : eqS ((gt a k).1, (gt a k).2) ((gt b k).1, (gt b k).2) = false := by simpa using hq
          clear hq
          have HQ := Lib.hid hq'
          go_wp2_with fail
          go_quiet (fail)
          clear h1 h2 h3 h4
          go_wp2_with fail
          go_ret
          exact ⟨ret_bool (eqL_no (k := k) HQ.out).symm, hG.drewN _⟩
      · obtain rfl : na = k := by omega
        go_wp2_with fail
        go_ret
        exact ⟨ret_bool (eqL_yes (by rw [HNA.out, HNB.out]) (by rw [HNA.out]; exact hp.out)).symm, hG⟩
  · have q : ((na : Int) != (nb : Int)) = true := by rw [bne_iff_ne]; omega
    have HE := Lib.hid (eqL_ne (a := a) (b := b) (by rw [HNA.out, HNB.out]; exact hne))
    go_enter Tryz.func166, Tryz.ntmps166
    go_wp2_with fail
    go_ret
    exact ⟨ret_bool HE.out.symm, GrW.refl _⟩
set_option maxHeartbeats 400000 in
theorem regEq_any (A B : Option Addr) (ca cb na nb : Nat) (a b : List (Int × Int)) (w : World) (hna : na ≤ 1000000) (hnb : nb ≤ 1000000) (hsA : SpS w A na a) (hsB : SpS w B nb b) :
    Calls Tryz.prog 165 #[.slice A na ca, .slice B nb cb] w fun e w' => e = .returned (.bool (eqL a b)) ∧ GrW w w' := by
  go_enter Tryz.func165, Tryz.ntmps165
  go_wp2_with (go_at_call 166; refine (equal_any _ _ _ _ _ _ a b _ hna hnb hsA hsB).mono ?_; rintro e w1 ⟨rfl, hG1⟩)
  go_ret
  exact ⟨rfl, hG1⟩
end Go.Proofs.YtmdncaoilegnnaaGreat

namespace Go.Proofs.YtmdncaoilegnnaaGreat
set_option linter.unusedVariables false
set_option linter.unusedSimpArgs false
set_option linter.unusedVariables false
set_option linter.unusedSimpArgs false
open Go.RowKit Go.Sort

theorem cmpI_anti (x y : Int) : cmpI y x = - cmpI x y := by
  unfold cmpI; (repeat split) <;> omega
theorem cmpS_val (p q : Int × Int) : cmpS p q = if cmpI p.1 q.1 ≠ 0 then cmpI p.1 q.1 else cmpI p.2 q.2 := by
  show (if cmpI p.1 q.1 != 0 then cmpI p.1 q.1 else if cmpI p.2 q.2 != 0 then cmpI p.2 q.2 else 0) = _
  by_cases h : cmpI p.1 q.1 = 0
  · simp [h]
    intro h2; exact h2.symm
  · simp [h]
theorem cmpS_anti (p q : Int × Int) : cmpS q p = - cmpS p q := by
  rw [cmpS_val, cmpS_val, cmpI_anti p.1 q.1, cmpI_anti p.2 q.2]
  by_cases h : cmpI p.1 q.1 = 0
  · rw [if_neg (by simpa using h), if_neg (by simpa using h)]
  · rw [if_pos (by omega), if_pos h]
theorem cmpL_anti : ∀ a b : List (Int × Int), cmpL b a = - cmpL a b
  | [], [] => rfl
  | [], _ :: _ => rfl
  | _ :: _, [] => rfl
  | x :: l, y :: m => by
    rw [cmpL, cmpL, cmpS_anti x y, cmpL_anti l m]
    by_cases h : cmpS x y = 0
    · rw [if_neg (by simpa using h), if_neg (by simpa using h)]
    · rw [if_pos (by simpa using h), if_pos (by simpa using h)]
theorem cmpL_zero : ∀ a b : List (Int × Int), cmpL a b = 0 → a = b
  | [], [], _ => rfl
  | [], _ :: _, h => by simp [cmpL] at h
  | _ :: _, [], h => by simp [cmpL] at h
  | x :: l, y :: m, h => by
    rw [cmpL] at h
    by_cases h1 : cmpS x y = 0
    · rw [if_neg (by simpa using h1)] at h
      rw [(cmpS_zero x y).1 h1, cmpL_zero l m h]
    · rw [if_pos (by simpa using h1)] at h; exact absurd h h1
theorem cmpL_self (a : List (Int × Int)) : cmpL a a = 0 := by have := cmpL_anti a a; omega
theorem cmpS_trans (p q r : Int × Int) (h1 : cmpS p q < 0) (h2 : cmpS q r < 0) : cmpS p r < 0 := by
  rw [cmpS_lt] at *; omega
theorem cmpL_trans : ∀ a b c : List (Int × Int), cmpL a b < 0 → cmpL b c < 0 → cmpL a c < 0
  | [], [], _, h, _ => by simp [cmpL] at h
  | [], _ :: _, [], _, h => by simp [cmpL] at h
  | [], _ :: _, _ :: _, _, _ => by simp [cmpL]
  | _ :: _, [], _, h, _ => by simp [cmpL] at h
  | _ :: _, _ :: _, [], _, h => by simp [cmpL] at h
  | x :: l, y :: m, z :: n, h1, h2 => by
    rw [cmpL] at h1 h2 ⊢
    by_cases e1 : cmpS x y = 0
    · have := (cmpS_zero x y).1 e1
      subst this
      rw [if_neg (by simpa using e1)] at h1
      by_cases e2 : cmpS x z = 0
      · rw [if_neg (by simpa using e2)] at h2 ⊢
        exact cmpL_trans l m n h1 h2
      · rw [if_pos (by simpa using e2)] at h2 ⊢; exact h2
    · rw [if_pos (by simpa using e1)] at h1
      by_cases e2 : cmpS y z = 0
      · have := (cmpS_zero y z).1 e2
        subst this
        rw [if_pos (by simpa using e1)]; exact h1
      · rw [if_pos (by simpa using e2)] at h2
        have h3 := cmpS_trans x y z h1 h2
        rw [if_pos (by simp; omega)]; exact h3
theorem swoOf {α : Type} (f : α → List (Int × Int)) : Sort.SWO (ltOf fun x y => cmpL (f x) (f y)) where
  irrefl x := by unfold ltOf; simp [cmpL_self]
  trans x y z h1 h2 := by unfold ltOf at *; simp only [decide_eq_true_eq] at *; exact cmpL_trans _ _ _ h1 h2
  ntrans x y z h1 h2 := by
    unfold ltOf at *
    simp only [decide_eq_false_iff_not] at *
    intro h3
    have a1 := cmpL_anti (f x) (f y)
    have a2 := cmpL_anti (f y) (f z)
    by_cases e : cmpL (f x) (f y) = 0
    · rw [cmpL_zero _ _ e] at h3; exact h2 h3
    · have h4 : cmpL (f y) (f x) < 0 := by omega
      exact h2 (cmpL_trans _ _ _ h4 h3)
theorem totL (x y : List (Int × Int)) (h1 : ltOf cmpL x y = false) (h2 : ltOf cmpL y x = false) : x = y := by
  unfold ltOf at *
  simp only [decide_eq_false_iff_not] at *
  have := cmpL_anti x y
  exact cmpL_zero _ _ (by omega)
/-- The rows sorted. -/
def sortLW (ls : List (List (Int × Int))) : List (List (Int × Int)) := ls.mergeSort fun x y => !ltOf cmpL y x
theorem sortLW_len (ls : List (List (Int × Int))) : (sortLW ls).length = ls.length := List.length_mergeSort _
theorem sortLW_mem {ls : List (List (Int × Int))} {t : List (Int × Int)} : t ∈ sortLW ls ↔ t ∈ ls := List.mem_mergeSort
theorem sortLW_of_perm {ls ls' : List (List (Int × Int))} (hp : ls'.Perm ls) (hs : ∀ i j, i < j → j < ls'.length → ltOf cmpL (lt_ ls' j) (lt_ ls' i) = false) : ls' = sortLW ls := by
  have hsw : SWO (ltOf cmpL) := swoOf id
  refine List.Perm.eq_of_pairwise (le := fun x y => (!ltOf cmpL y x) = true) ?_ ?_ ?_ (hp.trans (List.mergeSort_perm _ _).symm)
  · intro a b _ _ h1 h2
    exact totL a b (by simpa using h2) (by simpa using h1)
  · rw [List.pairwise_iff_getElem]
    intro i j hi hj hij
    have := hs i j hij hj
    unfold lt_ at this
    simp [hi, hj] at this ⊢
    exact this
  · exact List.pairwise_mergeSort (fun a b c h1 h2 => by
      have := hsw.ntrans c b a (by simpa using h2) (by simpa using h1)
      simpa using this) (fun a b => by
      unfold ltOf
      have := cmpL_anti a b
      simp; omega) _
theorem entReg1 : ∀ args w, (callFunc 162 args).run Tryz.prog w = .ok (.enter 162 args) w := by
  intro args w
  kernel_rfl
theorem flatV (vs : List Value) : vs.flatMap enV = vs := by
  induction vs with
  | nil => rfl
  | cons a l ih => rw [List.flatMap_cons, ih]; rfl
theorem sortW_grown {α : Type} [Inhabited α] (enc : α → Value) (w : World) (g m : Nat) (dk : Array α) (os : Array Obj) : w.grownBy (sortWorld enc w g 0 m dk os) (some g) := by
  refine ⟨rfl, rfl, rfl, ?_, ?_⟩
  · show w.heap.size ≤ ((w.heap.modify g _) ++ os).size
    simp
  · intro k hk hne
    show ((w.heap.modify g _) ++ os)[k]? = _
    rw [Array.getElem?_append_left (by simpa using hk), Array.getElem?_modify, if_neg (fun e => hne (by rw [e]))]
theorem extract_all {α : Type} (d : Array α) (n : Nat) (h : d.size = n) : d.extract 0 n = d := by subst h; exact Array.extract_size
theorem owV_row {w : World} {base g cap : Nat} {vs : List Value} (h : OwG 47 1 enV w base (.slice (some ⟨g, 0, none⟩) vs.length cap) vs) : ∃ cur, w.heap[g]? = some (.cells cur 47 (0, 0)) ∧ base ≤ g ∧ vs.length ≤ cap ∧ cap ≤ maxLen ∧ cur.size = cap * 1 ∧ cur.toList.take (vs.length * 1) = vs := by
  obtain ⟨h1, h2⟩ := h
  rcases h2 with ⟨e0, _⟩ | ⟨g', cap', cur, e0, hb, hg, hnc, hcm, hcs, htake⟩
  · cases e0
  · injection e0 with e1 e2 e3
    injection e1 with e1
    injection e1 with e1
    subst e1 e3
    exact ⟨cur, hg, hb, hnc, hcm, hcs, by rw [htake, flatV]⟩
theorem ElS.rowsort {w w' : World} {base g : Nat} {cur : Array Value} {u : Value} {l : List (Int × Int)} (h : ElS w base u l) (hg : w.heap[g]? = some (.cells cur 47 (0, 0))) (hgr : w.grownBy w' (some g)) : ElS w' base u l :=
  h.grown hgr (by
    intro k cs fr _ hh e
    injection e with e
    subst e
    rw [hg] at hh
    injection hh with hh
    injection hh with _ ht
    exact absurd ht (by decide))
set_option maxHeartbeats 1000000 in
theorem sortL_some (g cap base : Nat) (ls : List (List (Int × Int))) (vs : List Value) (w : World) (h0 : 0 < vs.length) (hl : vs.length ≤ 1000000) (hll : ∀ t ∈ ls, t.length ≤ 1000000)
    (h1 : OwG 47 1 enV w base (.slice (some ⟨g, 0, none⟩) vs.length cap) vs) (h2 : vs.length = ls.length) (h3 : ∀ u ∈ vs, u.oneCell' = true) (h4 : ∀ (i : Nat) (u : Value) (l : List (Int × Int)), vs[i]? = some u → ls[i]? = some l → ElS w base u l) :
    Calls Tryz.prog 161 #[.slice (some ⟨g, 0, none⟩) vs.length cap, .func (.func 162) #[] #[]] w fun e w' => e = .returned (.tuple #[]) ∧ OwSS w' base (.slice (some ⟨g, 0, none⟩) vs.length cap) (sortLW ls) ∧ w.grownBy w' (some g) := by
  obtain ⟨cur, hg, hbg, hnc, hcm, hcs, htake⟩ := owV_row h1
  have inst : Inhabited (Fin vs.length) := ⟨⟨0, h0⟩⟩
  have hel : ∀ i : Fin vs.length, ElS w base vs[i] (lt_ ls i) := fun i => h4 i vs[i] (lt_ ls i) (List.getElem?_eq_getElem i.2) (lt_some (by rw [← h2]; exact i.2))
  have hlen : ∀ i : Fin vs.length, (lt_ ls i).length ≤ 1000000 := fun i => hll _ (lt_mem (by rw [← h2]; exact i.2))
  have hds : (Array.ofFn (fun i : Fin vs.length => i)).size = vs.length := by simp
  have hdg : ∀ j (hj : j < vs.length), (Array.ofFn (fun i : Fin vs.length => i))[j]! = ⟨j, hj⟩ := fun j hj => by
    rw [getElem!_pos _ j (by simpa using hj)]; simp
  have hcmp : CmpLays1 Tryz.prog 162 #[] (fun i : Fin vs.length => vs[i]) (fun x y => cmpL (lt_ ls x) (lt_ ls y)) g 0 (Array.ofFn (fun i : Fin vs.length => i)).size w := by
    intro m os dk hdk x y
    obtain ⟨A1, c1, e1, e2, e3, _⟩ := (hel x).rowsort hg (sortW_grown (fun i : Fin vs.length => vs[i]) w g m dk os)
    obtain ⟨A2, c2, f1, f2, f3, _⟩ := (hel y).rowsort hg (sortW_grown (fun i : Fin vs.length => vs[i]) w g m dk os)
    show Calls Tryz.prog 162 #[vs[x], vs[y]] _ _
    rw [e1, f1]
    exact regCmp_any A1 A2 c1 c2 _ _ (lt_ ls x) (lt_ ls y) _ (hlen x) (hlen y) e3 f3
  have hH : Holds (fun i : Fin vs.length => vs[i]) w g 0 (Array.ofFn (fun i : Fin vs.length => i)) := by
    intro j hj
    rw [hds] at hj
    rw [hdg j hj, Nat.zero_add]
    have c0 := OwG.cells h1 j (by omega)
    rw [flatV, List.getElem?_eq_getElem hj] at c0
    exact ⟨c0, OwG.frozen h1 j⟩
  have hcon := Any.slices_SortFunc Tryz.laysSS (fun i : Fin vs.length => vs[i]) (fun i => h3 _ (List.getElem_mem i.2)) (fun x y => cmpL (lt_ ls x) (lt_ ls y)) (swoOf fun i : Fin vs.length => lt_ ls i) 162 #[] g 0 cap _ w entReg1 hcmp hH (lt_of_heap hg) (by rw [hds]; omega)
  rw [hds] at hcon
  refine hcon.mono ?_
  rintro e w' ⟨rfl, d', n', os, hp, hs, rfl⟩
  obtain ⟨hp1, _, hp3⟩ := hp
  rw [hds] at hp1
  have hpl : d'.toList.Perm (List.ofFn fun i : Fin vs.length => i) := by
    rw [extract_all d' _ hp1, extract_all _ _ hds] at hp3
    simpa using hp3
  have hgr := sortW_grown (fun i : Fin vs.length => vs[i]) w g n' d' os
  have hls : d'.toList.map (fun i : Fin vs.length => lt_ ls i.1) = sortLW ls := by
    refine sortLW_of_perm ?_ ?_
    · have h5 := hpl.map (fun i : Fin vs.length => lt_ ls i)
      rw [List.map_ofFn] at h5
      refine h5.trans (List.Perm.of_eq ?_)
      apply List.ext_getElem?
      intro j
      rcases Nat.lt_or_ge j vs.length with hj | hj
      · rw [List.getElem?_ofFn, dif_pos hj, lt_some (by rw [← h2]; exact hj)]; rfl
      · rw [List.getElem?_eq_none (by simpa using hj), List.getElem?_eq_none (by rw [← h2]; exact hj)]
    · intro i j hij hj
      have hj' : j < d'.size := by simpa using hj
      have hi' : i < d'.size := by omega
      have h6 := hs i j (Nat.zero_le _) hij (by rw [← hp1]; exact hj')
      rw [getElem!_pos _ j hj', getElem!_pos _ i hi'] at h6
      unfold lt_
      simp [hi', hj']
      exact h6
  have hgh : (sortWorld (fun i : Fin vs.length => vs[i]) w g 0 n' d' os).heap[g]? = some (.cells (Sort.putCells (fun i : Fin vs.length => vs[i]) 0 d' cur) 47 (0, 0)) := by
    show ((w.heap.modify g (Sort.onCells (Sort.putCells (fun i : Fin vs.length => vs[i]) 0 d'))) ++ os)[g]? = _
    rw [Array.getElem?_append_left (by simpa using lt_of_heap hg), Array.getElem?_modify, if_pos rfl, hg]
    rfl
  refine ⟨rfl, ⟨d'.toList.map fun i : Fin vs.length => vs[i], ?_, ?_, ?_, ?_⟩, hgr⟩
  · have hln : (d'.toList.map fun i : Fin vs.length => vs[i]).length = vs.length := by simp [hp1]
    refine ⟨?_, .inr ⟨g, cap, _, by rw [hln], hbg, hgh, by rw [hln]; exact hnc, hcm, ?_, ?_⟩⟩
    · rw [flat_len enV_len]
    · simp only [Sort.putCells, Array.size_mapIdx]; exact hcs
    · rw [flatV, hln]
      apply List.ext_getElem?
      intro j
      rcases Nat.lt_or_ge j vs.length with hj | hj
      · have hjd : j < d'.size := by omega
        have hjc : j < cur.size := by omega
        rw [List.getElem?_take_of_lt (by omega), Array.getElem?_toList]
        simp only [Sort.putCells, Array.getElem?_mapIdx]
        rw [Array.getElem?_eq_getElem hjc, Option.map_some, if_pos (by omega), Nat.sub_zero, getElem!_pos _ j hjd]
        simp [hjd]
      · rw [List.getElem?_eq_none (by rw [List.length_take]; omega), List.getElem?_eq_none (by rw [hln]; exact hj)]
  · rw [sortLW_len, ← h2]; simp [hp1]
  · intro u hu
    obtain ⟨i, _, rfl⟩ := List.mem_map.1 hu
    exact h3 _ (List.getElem_mem i.2)
  · intro i u l hu hl'
    rw [← hls] at hl'
    rw [List.getElem?_map] at hu hl'
    cases hd : d'.toList[i]? with
    | none => rw [hd] at hu; cases hu
    | some k =>
      rw [hd] at hu hl'
      injection hu with hu
      injection hl' with hl'
      subst hu hl'
      exact (hel k).rowsort hg hgr
theorem sortL_any (v : Value) (base : Nat) (ls : List (List (Int × Int))) (w : World) (hl : ls.length ≤ 1000000) (hll : ∀ t ∈ ls, t.length ≤ 1000000) (hs : OwSS w base v ls) :
    Calls Tryz.prog 161 #[v, .func (.func 162) #[] #[]] w fun e w' => e = .returned (.tuple #[]) ∧ OwSS w' base v (sortLW ls) ∧ w.grownBy w' v.ownBlock := by
  obtain ⟨vs, h1, h2, h3, h4⟩ := hs
  rcases OwG.form h1 with ⟨rfl, rfl⟩ | ⟨g, cap, rfl, g1, g2, g3, g4⟩
  · have : ls = [] := List.eq_nil_of_length_eq_zero (by rw [← h2]; rfl)
    subst this
    refine (AnyF.slices_SortFunc_none (P := Tryz.prog) (ρ := Tryz.laysSS_ren) { Tryz.laysSS with } none 0 _ w).mono ?_
    rintro e w' ⟨rfl, rfl⟩
    exact ⟨rfl, by rw [show sortLW [] = [] by simp [sortLW]]; exact OwSS.nil, World.grownBy.refl _ _⟩
  · rcases Nat.eq_zero_or_pos vs.length with h0 | h0
    · have hv : vs = [] := List.eq_nil_of_length_eq_zero h0
      subst hv
      have : ls = [] := List.eq_nil_of_length_eq_zero (by rw [← h2]; rfl)
      subst this
      refine (AnyF.slices_SortFunc_none (P := Tryz.prog) (ρ := Tryz.laysSS_ren) { Tryz.laysSS with } _ cap _ w).mono ?_
      rintro e w' ⟨rfl, rfl⟩
      exact ⟨rfl, by rw [show sortLW [] = [] by simp [sortLW]]; exact ⟨[], h1, rfl, h3, by simp⟩, World.grownBy.refl _ _⟩
    · exact sortL_some g cap base ls vs w h0 (by rw [h2]; exact hl) hll h1 h2 h3 h4
end Go.Proofs.YtmdncaoilegnnaaGreat

namespace Go.Proofs.YtmdncaoilegnnaaGreat
set_option linter.unusedVariables false
set_option linter.unusedSimpArgs false
set_option linter.unusedVariables false
set_option linter.unusedSimpArgs false
open Go.RowKit Go.BigFrame

theorem Gb.below {a w w' : World} {row : Option Nat} (h : a.grownBy w row) (hb : Below w.heap.size w w') : a.grownBy w' row :=
  h.trans ⟨hb.os, hb.tape, hb.output, hb.size, fun k hk _ => hb.block k hk⟩
theorem OwSS.at_ {w : World} {base g n cap : Nat} {ls : List (List (Int × Int))} (h : OwSS w base (.slice (some ⟨g, 0, none⟩) n cap) ls) (hn : ls.length = n) {k : Nat} (hk : k < n) :
    ∃ A c, w.cell? ⟨g, k, none⟩ = some (.slice A (lt_ ls k).length c) ∧ SpS w A (lt_ ls k).length (lt_ ls k) ∧ w.frozen? ⟨g, k, none⟩ = false ∧ g < w.heap.size ∧ ElS w base (.slice A (lt_ ls k).length c) (lt_ ls k) := by
  obtain ⟨vs, h1, h2, h3, h4⟩ := h
  have hvn : vs.length = n := by rw [h2, hn]
  subst hvn
  have hkv : k < vs.length := hk
  have c0 := OwG.cells h1 k (by omega)
  rw [flatV, List.getElem?_eq_getElem hkv] at c0
  have he := h4 k vs[k] (lt_ ls k) (List.getElem?_eq_getElem hkv) (lt_some (by rw [← h2]; exact hk))
  obtain ⟨A, c, e1, e2, e3, e4⟩ := he
  rw [e1] at c0
  exact ⟨A, c, c0, e3, OwG.frozen h1 k, lt_of_cell c0, ⟨A, c, rfl, e2, e3, e4⟩⟩
theorem OwSS.store {w : World} {base g n cap : Nat} {ls : List (List (Int × Int))} (h : OwSS w base (.slice (some ⟨g, 0, none⟩) n cap) ls) (hn : ls.length = n) {k : Nat} (hk : k < n) {u : Value} {l : List (Int × Int)} (hu : ElS w base u l) :
    OwSS (w.setCell ⟨g, k, none⟩ u) base (.slice (some ⟨g, 0, none⟩) n cap) (ls.set k l) ∧ w.grownBy (w.setCell ⟨g, k, none⟩ u) (some g) := by
  obtain ⟨vs, h1, h2, h3, h4⟩ := h
  have hvn : vs.length = n := by rw [h2, hn]
  subst hvn
  obtain ⟨cur, hg, hbg, hnc, hcm, hcs, htake⟩ := owV_row h1
  have hgr : w.grownBy (w.setCell ⟨g, k, none⟩ u) (some g) := ⟨rfl, rfl, rfl, by simp [World.setCell], fun j _ hne => Below.heap_setCell w _ u j (fun e => hne (by rw [e]))⟩
  have hone : u.oneCell' = true := by obtain ⟨A, c, rfl, _⟩ := hu; rfl
  refine ⟨⟨vs.set k u, ?_, by simpa using h2, ?_, ?_⟩, hgr⟩
  · have hln : (vs.set k u).length = vs.length := by simp
    have hgh : (w.setCell ⟨g, k, none⟩ u).heap[g]? = some (.cells (cur.setIfInBounds k u) 47 (0, 0)) := by
      simp [World.setCell, Array.getElem?_modify, hg]
    refine ⟨by rw [flat_len enV_len], .inr ⟨g, cap, _, by rw [hln], hbg, hgh, by rw [hln]; exact hnc, hcm, by simpa using hcs, ?_⟩⟩
    rw [flatV, hln]
    rw [Array.toList_setIfInBounds, List.take_set, htake]
  · intro x hx
    rcases List.mem_or_eq_of_mem_set hx with hx | rfl
    · exact h3 x hx
    · exact hone
  · intro i x m hx hm
    by_cases hik : k = i
    · subst hik
      rw [List.getElem?_set_self (by omega)] at hx
      rw [List.getElem?_set_self (by omega)] at hm
      injection hx with hx
      injection hm with hm
      subst hx hm
      exact hu.rowsort hg hgr
    · rw [List.getElem?_set_ne hik] at hx hm
      exact (h4 i x m hx hm).rowsort hg hgr
theorem OwSS.clear_ {w : World} {base g n cap i : Nat} {ls : List (List (Int × Int))} (h : OwSS w base (.slice (some ⟨g, 0, none⟩) n cap) ls) (hn : ls.length = n) (hi : i < n) :
    ∃ W, (∀ ty, (Builtin.clear_ #[64] ty #[.slice (some ⟨g, i, none⟩) (n - i) (cap - i)]).run Tryz.prog w = .ok (.tuple #[]) W) ∧ OwSS W base (.slice (some ⟨g, 0, none⟩) i cap) (ls.take i) ∧ w.grownBy W (some g) := by
  obtain ⟨vs, h1, h2, h3, h4⟩ := h
  have hvn : vs.length = n := by rw [h2, hn]
  subst hvn
  obtain ⟨cur, hg, hbg, hnc, hcm, hcs, htake⟩ := owV_row h1
  obtain ⟨W, hr, ho, hgr⟩ := OwG.clear (P := Tryz.prog) (t := 64) (i := i) (z := .slice none 0 0) enV_len Tryz.underlying64 (fun _ => by kernel_rfl) rfl (by intro u hu; simp [Value.cells] at hu; subst hu; rfl) (by omega) h1 rfl hi
  rw [Nat.mul_one] at hr
  refine ⟨W, hr, ⟨vs.take i, ho, by rw [List.length_take, List.length_take, h2], fun u hu => h3 u (List.mem_of_mem_take hu), fun j u l hu hl => ?_⟩, hgr⟩
  have hji : j < i := by
    rcases Nat.lt_or_ge j i with h | h
    · exact h
    · rw [List.getElem?_eq_none (by rw [List.length_take]; omega)] at hu; cases hu
  rw [List.getElem?_take_of_lt hji] at hu hl
  exact (h4 j u l hu hl).rowsort hg hgr
theorem OwSS.take {w : World} {base g n cap : Nat} {ls : List (List (Int × Int))} (h : OwSS w base (.slice (some ⟨g, 0, none⟩) n cap) ls) (hn : ls.length = n) : n ≤ cap := by
  obtain ⟨vs, h1, h2, _⟩ := h
  have hvn : vs.length = n := by rw [h2, hn]
  subst hvn
  exact (owV_row h1).choose_spec.2.2.1
theorem regEqB (A B : Option Addr) (ca cb na nb : Nat) (a b : List (Int × Int)) (w : World) (hna : na ≤ 1000000) (hnb : nb ≤ 1000000) (hsA : SpS w A na a) (hsB : SpS w B nb b) :
    Calls Tryz.prog 165 #[.slice A na ca, .slice B nb cb] w fun e w' => e = .returned (.bool (eqL a b)) ∧ Below w.heap.size w w' :=
  (regEq_any A B ca cb na nb a b w hna hnb hsA hsB).mono fun _ _ ⟨h1, h2⟩ => ⟨h1, h2.below⟩
theorem takeL_set {l : List (List (Int × Int))} {c : Nat} {x : List (Int × Int)} (h : c < l.length) : (l.set c x).take (c + 1) = l.take c ++ [x] := by
  rw [List.take_succ_eq_append_getElem (by simpa using h)]
  simp [List.take_set_of_le]
theorem lt_set {l : List (List (Int × Int))} {k j : Nat} {x : List (Int × Int)} (hk : k < l.length) : lt_ (l.set k x) j = if k = j then x else lt_ l j := by
  unfold lt_
  by_cases h : k = j
  · subst h; simp [hk]
  · rw [if_neg h, List.getD, List.getD, List.getElem?_set_ne h]
set_option maxHeartbeats 2000000 in
set_option maxRecDepth 100000 in
theorem compactF_some (g cap n : Nat) (base : Nat) (l : List (List (Int × Int))) (w : World) (hl : n ≤ 1000000) (hll : ∀ t ∈ l, t.length ≤ 1000000) (hn : l.length = n) (hs : OwSS w base (.slice (some ⟨g, 0, none⟩) n cap) l) :
    Calls Tryz.prog 164 #[.slice (some ⟨g, 0, none⟩) n cap, .func (.func 165) #[] #[]] w fun e w' => ∃ m, e = .returned (.slice (some ⟨g, 0, none⟩) m cap) ∧ m = (compW eqL [] l).length ∧ OwSS w' base (.slice (some ⟨g, 0, none⟩) m cap) (compW eqL [] l) ∧ w.grownBy w' (some g) := by
  have hcap : n ≤ cap := hs.take hn
  have HN := Lib.hid hn
  have hcw := Lib.hid (show compW eqL [] l = cpTo eqL l [] n by unfold compW; rw [hn])
  have HLL := Lib.hid (show ∀ k, k < n → (lt_ l k).length ≤ 1000000 from fun k hk => hll _ (lt_mem (by rw [hn]; exact hk)))
  clear hn hll
  by_cases h2 : n < 2
  · go_enter Tryz.func164, Tryz.ntmps164
    go_wp2_with fail
    go_ret
    have e : compW eqL [] l = l := by
      rw [hcw.out]
      have hn := HN.out
      rcases Nat.lt_or_ge n 1 with h | h
      · have h0 : n = 0 := by omega
        subst h0
        rw [List.eq_nil_of_length_eq_zero hn]; rfl
      · have h0 : n = 1 := by omega
        subst h0
        rw [cpTo_one, ← take_one (by omega), List.take_of_length_le (by omega)]
    exact ⟨n, rfl, by rw [e, HN.out], by rw [e]; exact hs, World.grownBy.refl _ _⟩
  · go_enter Tryz.func164, Tryz.ntmps164
    go_wp2_with fail
    go_loopw [5] (fun i wr => ∃ k : Nat, 1 ≤ k ∧ k ≤ n ∧ i = .int .i64 k ∧ Hid (cpTo eqL l [] k = l.take k) ∧ OwSS wr base (.slice (some ⟨g, 0, none⟩) n cap) l ∧ w.grownBy wr (some g)) (fun i _ => n - (intOf i).toNat)
    case atStart => exact ⟨1, Nat.le_refl _, by omega, rfl, by rw [cpTo_one, ← take_one (by rw [HN.out]; omega)]; exact Lib.hid rfl, hs, World.grownBy.refl _ _⟩
    case round =>
      clear hs
      obtain ⟨k, hk1, hk, rfl, hp, ho, hg⟩ := hrel
      by_cases hlt : k < n
      · obtain ⟨j, hj⟩ : ∃ j, k - 1 = j := ⟨_, rfl⟩
        have hjlt : j < n := by omega
        obtain ⟨A1, c1, d1, s1, _, hgl, -⟩ := ho.at_ HN.out hlt
        obtain ⟨A2, c2, d2, s2, _, _, -⟩ := ho.at_ HN.out hjlt
        have l1 := HLL.out k hlt
        have l2 := HLL.out j hjlt
        obtain ⟨n1, hn1⟩ : ∃ n1, (lt_ l k).length = n1 := ⟨_, rfl⟩
        obtain ⟨n2, hn2⟩ : ∃ n2, (lt_ l j).length = n2 := ⟨_, rfl⟩
        rw [hn1] at d1 s1 l1
        rw [hn2] at d2 s2 l2
        clear hn1 hn2
        have e1 : IntKind.i64.wrap ((k : Int) - 1) = (j : Int) := (wrap_in _ (by omega) (by omega)).trans (by omega)
        have hjn : (j : Int) < (n : Int) := by omega
        have hkn : (k : Int) < (n : Int) := by omega
        by_cases hdup : eqL (lt_ l k) (lt_ l j) = true
        · go_wp2_with fail
          refine wp_region_cls wr [(⟨g, k, none⟩, .slice A1 n1 c1), (⟨g, j, none⟩, .slice A2 n2 c2)] (by kernel_rfl) (by kernel_rfl) ⟨Below.refl _ _, by simp only [List.mem_cons, List.not_mem_nil, forall_eq_or_imp, or_false, forall_eq]; go_simp⟩ ?_
          repeat
            apply wq_plain
            · rfl
            · intro w1 hw1
              have hx := hw1.2
              simp only [List.mem_cons, List.not_mem_nil, forall_eq_or_imp, or_false, forall_eq] at hx
              go_simp
              first | rfl | exact calls_cls hw1 (regEqB _ _ _ _ _ _ (lt_ l k) (lt_ l j) _ l1 l2 (s1.keep hw1.1) (s2.keep hw1.1))
            go_simp
          refine wpQuiet_nil ?_
          intro w1 hCw1
          have hbq := hCw1.1
          clear hCw1 d1 d2 e1 s1 s2
          have hkc : ¬ k = cap := by omega
          have hst := Lib.hid (cpTo_yes (eq := eqL) (l := l) (d := []) (k := k) (by omega) (by rw [hj]; exact hdup))
          have hklt : (k : Int) ≤ (n : Int) := by omega
          go_wp2_with fail
          obtain ⟨M, hM⟩ : ∃ M, n - k = M := ⟨_, rfl⟩
          obtain ⟨C, hC⟩ : ∃ C, cap - k = C := ⟨_, rfl⟩
          rw [hM, hC]
          have hM1 : n ≤ k + M := by omega
          have hM2 : k + M ≤ n := by omega
          have HM' := Lib.hid (show n = k + M by omega)
          have hC' : M ≤ C := by omega
          clear hM hC
          have HD := Lib.hid hdup
          have hlen0 : (cpTo eqL l [] k).length = k := by rw [hp.out, List.length_take, HN.out]; omega
          have HL0 := Lib.hid hlen0
          have HO := Lib.hid (ho.keep hbq)
          have HG := Lib.hid (Gb.below hg hbq)
          clear hdup hlen0 ho hg hklt hbq hgl
          go_loopw [5, 7] (fun c i wx => ∃ (p c' : Nat) (z : List (List (Int × Int))), 1 ≤ p ∧ p ≤ M ∧ i = .int .i64 p ∧ c = .int .i64 c' ∧ Hid (c' = (cpTo eqL l [] (k + p)).length) ∧ c' + 1 ≤ k + p ∧ Hid (z.length = n) ∧ Hid (z.take c' = cpTo eqL l [] (k + p)) ∧ Hid (∀ x, k + p ≤ x + 1 → x < n → lt_ z x = lt_ l x) ∧ OwSS wx base (.slice (some ⟨g, 0, none⟩) n cap) z ∧ w.grownBy wx (some g)) (fun _ i _ => M - (intOf i).toNat)
          case atStart => exact ⟨1, k, l, Nat.le_refl _, by omega, rfl, rfl, Lib.hid (by rw [hst.out, HL0.out]), Nat.le_refl _, HN, Lib.hid (by rw [hst.out, hp.out]), Lib.hid (fun x _ _ => rfl), HO.out, HG.out⟩
          case round =>
            clear HO HG
            obtain ⟨p, c, z, hp1, hpM, rfl, rfl, hc, hcl, hz, hzt, hzx, ho, hg⟩ := hrel
            by_cases hpl : p < M
            · obtain ⟨r, hr⟩ : ∃ r, p - 1 = r := ⟨_, rfl⟩
              have hkp : k + p < n := by omega
              have hkr : k + r < n := by omega
              have hcn' : c < n := by omega
              obtain ⟨A1, c1, d1, s1, _, hgl, el1⟩ := ho.at_ hz.out hkp
              obtain ⟨A2, c2, d2, s2, _, _, -⟩ := ho.at_ hz.out hkr
              obtain ⟨A3, c3, d3, _, f3, _, -⟩ := ho.at_ hz.out hcn'
              rw [hzx.out _ (by omega) hkp] at d1 s1 el1
              rw [hzx.out _ (by omega) hkr] at d2 s2
              have l1 := HLL.out _ hkp
              have l2 := HLL.out _ hkr
              obtain ⟨n1, hn1⟩ : ∃ n1, (lt_ l (k + p)).length = n1 := ⟨_, rfl⟩
              obtain ⟨n2, hn2⟩ : ∃ n2, (lt_ l (k + r)).length = n2 := ⟨_, rfl⟩
              rw [hn1] at d1 s1 l1 el1
              rw [hn2] at d2 s2 l2
              clear hn1 hn2
              have e1 : IntKind.i64.wrap ((p : Int) - 1) = (r : Int) := (wrap_in _ (by omega) (by omega)).trans (by omega)
              have hrM : (r : Int) < (M : Int) := by omega
              have hpM' : (p : Int) < (M : Int) := by omega
              have hcn : (c : Int) < (n : Int) := by omega
              by_cases hdup : eqL (lt_ l (k + p)) (lt_ l (k + r)) = true
              · have hs2 := Lib.hid (cpTo_yes (eq := eqL) (l := l) (d := []) (k := k + p) (by omega) (by rw [show k + p - 1 = k + r by omega]; exact hdup))
                go_wp2_with fail
                refine wp_region_cls wr [(⟨g, k + p, none⟩, .slice A1 n1 c1), (⟨g, k + r, none⟩, .slice A2 n2 c2)] (by kernel_rfl) (by kernel_rfl) ⟨Below.refl _ _, by simp only [List.mem_cons, List.not_mem_nil, forall_eq_or_imp, or_false, forall_eq]; go_simp⟩ ?_
                repeat
                  apply wq_plain
                  · rfl
                  · intro w1 hw1
                    have hx := hw1.2
                    simp only [List.mem_cons, List.not_mem_nil, forall_eq_or_imp, or_false, forall_eq] at hx
                    go_simp
                    first | rfl | exact calls_cls hw1 (regEqB _ _ _ _ _ _ (lt_ l (k + p)) (lt_ l (k + r)) _ l1 l2 (s1.keep hw1.1) (s2.keep hw1.1))
                  go_simp
                refine wpQuiet_nil ?_
                intro w1 hCw1
                have hbq := hCw1.1
                clear hCw1 d1 d2 d3 e1 s1 s2
                go_wp2_with fail
                exact ⟨⟨p + 1, c, z, by omega, by omega, by go_num, rfl, Lib.hid (by rw [← Nat.add_assoc, hs2.out]; exact hc.out), by omega, hz, Lib.hid (by rw [← Nat.add_assoc, hs2.out]; exact hzt.out), Lib.hid (fun x h1 h2 => hzx.out x (by omega) h2), ho.keep hbq, Gb.below hg hbq⟩, by simp [intOf]; omega⟩
              · have hdup' : eqL (lt_ l (k + p)) (lt_ l (k + r)) = false := by simpa using hdup
                clear hdup
                have hs2 := Lib.hid (cpTo_no (eq := eqL) (l := l) (d := []) (k := k + p) (by rw [show k + p - 1 = k + r by omega]; exact hdup'))
                go_wp2_with fail
                refine wp_region_cls wr [(⟨g, k + p, none⟩, .slice A1 n1 c1), (⟨g, k + r, none⟩, .slice A2 n2 c2)] (by kernel_rfl) (by kernel_rfl) ⟨Below.refl _ _, by simp only [List.mem_cons, List.not_mem_nil, forall_eq_or_imp, or_false, forall_eq]; go_simp⟩ ?_
                repeat
                  apply wq_plain
                  · rfl
                  · intro w1 hw1
                    have hx := hw1.2
                    simp only [List.mem_cons, List.not_mem_nil, forall_eq_or_imp, or_false, forall_eq] at hx
                    go_simp
                    first | rfl | exact calls_cls hw1 (regEqB _ _ _ _ _ _ (lt_ l (k + p)) (lt_ l (k + r)) _ l1 l2 (s1.keep hw1.1) (s2.keep hw1.1))
                  go_simp
                refine wpQuiet_nil ?_
                intro w1 hCw1
                have hbq := hCw1.1
                have d1' := cell_keep hbq d1
                have d3' := cell_keep hbq d3
                have f3' := (hbq.frozen (p := ⟨g, c, none⟩) hgl).trans f3
                have hgl' : g < w1.heap.size := Nat.lt_of_lt_of_le hgl hbq.size
                obtain ⟨hoS, hgS⟩ := OwSS.store (ho.keep hbq) hz.out hcn' (el1.keep hbq)
                clear hCw1 d1 d2 d3 e1 s1 s2
                go_wp2_with fail
                refine ⟨⟨p + 1, c + 1, z.set c (lt_ l (k + p)), by omega, by omega, by go_num, by go_num, Lib.hid (by rw [← Nat.add_assoc, hs2.out, List.length_append, ← hc.out]; rfl), by omega, Lib.hid (by rw [List.length_set]; exact hz.out), Lib.hid ?_, Lib.hid (fun x h1 h2 => ?_), hoS, (Gb.below hg hbq).trans hgS⟩, by simp [intOf]; omega⟩
                · rw [← Nat.add_assoc, hs2.out, ← hzt.out]
                  exact takeL_set (by rw [hz.out]; omega)
                · rw [lt_set (by rw [hz.out]; omega), if_neg (by omega)]; exact hzx.out x (by omega) h2
            · obtain rfl : M = p := by omega
              obtain ⟨W, hrun, hoW, hgW⟩ := OwSS.clear_ (i := c) ho hz.out (by omega)
              have hcc : ¬ c = cap := by omega
              have hcn : (c : Int) ≤ (n : Int) := by omega
              go_wp2_with fail
              go_ret
              have e : compW eqL [] l = z.take c := by rw [hcw.out, hzt.out, ← HM'.out]
              exact ⟨c, rfl, by rw [e, hzt.out]; exact hc.out, by rw [e]; exact hoW, hg.trans hgW⟩
        · have hdup' : eqL (lt_ l k) (lt_ l j) = false := by simpa using hdup
          clear hdup
          go_wp2_with fail
          refine wp_region_cls wr [(⟨g, k, none⟩, .slice A1 n1 c1), (⟨g, j, none⟩, .slice A2 n2 c2)] (by kernel_rfl) (by kernel_rfl) ⟨Below.refl _ _, by simp only [List.mem_cons, List.not_mem_nil, forall_eq_or_imp, or_false, forall_eq]; go_simp⟩ ?_
          repeat
            apply wq_plain
            · rfl
            · intro w1 hw1
              have hx := hw1.2
              simp only [List.mem_cons, List.not_mem_nil, forall_eq_or_imp, or_false, forall_eq] at hx
              go_simp
              first | rfl | exact calls_cls hw1 (regEqB _ _ _ _ _ _ (lt_ l k) (lt_ l j) _ l1 l2 (s1.keep hw1.1) (s2.keep hw1.1))
            go_simp
          refine wpQuiet_nil ?_
          intro w1 hCw1
          have hbq := hCw1.1
          clear hCw1 d1 d2 e1 s1 s2
          go_wp2_with fail
          have hst := cpTo_take (eq := eqL) (d := []) (k := k) (by rw [HN.out]; exact hlt) hp.out (by rw [hj]; exact hdup')
          exact ⟨⟨k + 1, by omega, by omega, by go_num, hst, ho.keep hbq, Gb.below hg hbq⟩, by simp [intOf]; omega⟩
      · obtain rfl : n = k := by omega
        go_wp2_with fail
        go_ret
        have e : compW eqL [] l = l := by rw [hcw.out, hp.out, List.take_of_length_le (by rw [HN.out]; exact Nat.le_refl _)]
        exact ⟨n, rfl, by rw [e, HN.out], by rw [e]; exact ho, hg⟩
end Go.Proofs.YtmdncaoilegnnaaGreat

namespace Go.Proofs.YtmdncaoilegnnaaGreat
set_option linter.unusedVariables false
set_option linter.unusedSimpArgs false
set_option linter.unusedVariables false
set_option linter.unusedSimpArgs false
open Go.RowKit

def regIn (s : List (Int × Int)) (ts acc : List (List (Int × Int))) : Nat → Int × List (List (Int × Int))
  | 0 => (0, acc)
  | j + 1 => if (regIn s ts acc j).1 ≠ 0 then regIn s ts acc j else if (SumW s (negW (lt_ ts j))).1 ≠ 0 then ((SumW s (negW (lt_ ts j))).1, []) else (0, (regIn s ts acc j).2 ++ [(SumW s (negW (lt_ ts j))).2])
def regTo (ss ts : List (List (Int × Int))) : Nat → Int × List (List (Int × Int))
  | 0 => (0, [])
  | k + 1 => if (regTo ss ts k).1 ≠ 0 then regTo ss ts k else regIn (lt_ ss k) ts (regTo ss ts k).2 ts.length
def regionsW (a b : List (Int × Int)) : Int × List (List (Int × Int)) :=
  if (splitAllW a).1 ≠ 0 then ((splitAllW a).1, []) else if (splitAllW b).1 ≠ 0 then ((splitAllW b).1, [])
  else if (regTo (splitAllW a).2 (splitAllW b).2 (splitAllW a).2.length).1 ≠ 0 then ((regTo (splitAllW a).2 (splitAllW b).2 (splitAllW a).2.length).1, [])
  else (0, compW eqL [] (sortLW (regTo (splitAllW a).2 (splitAllW b).2 (splitAllW a).2.length).2))
theorem regIn_bad {s : List (Int × Int)} {ts acc : List (List (Int × Int))} {j : Nat} {x : Int} (h : (regIn s ts acc j).1 = x) (hx : x ≠ 0) : ∀ m, (regIn s ts acc (j + m)).1 = x := by
  intro m
  induction m with
  | zero => exact h
  | succ m ih => rw [← Nat.add_assoc, regIn, if_pos (by rw [ih]; exact hx)]; exact ih
theorem regTo_bad {ss ts : List (List (Int × Int))} {k : Nat} {x : Int} (h : (regTo ss ts k).1 = x) (hx : x ≠ 0) : ∀ m, (regTo ss ts (k + m)).1 = x := by
  intro m
  induction m with
  | zero => exact h
  | succ m ih => rw [← Nat.add_assoc, regTo, if_pos (by rw [ih]; exact hx)]; exact ih
theorem SumW_len (a b : List (Int × Int)) : (SumW a b).2.length ≤ 160 := by
  unfold SumW
  split
  · simp
  · split
    · simp
    · split
      · simp
      · split
        · simp
        · rename_i h; exact Nat.le_of_not_lt h
theorem regIn_small {s : List (Int × Int)} {ts acc : List (List (Int × Int))} (h : ∀ t ∈ acc, t.length ≤ 160) : ∀ j, (regIn s ts acc j).2.length ≤ acc.length + j ∧ ∀ t ∈ (regIn s ts acc j).2, t.length ≤ 160 := by
  intro j
  induction j with
  | zero => exact ⟨Nat.le_refl _, h⟩
  | succ j ih =>
    rw [regIn]
    split
    · exact ⟨by omega, ih.2⟩
    · split
      · simp
      · refine ⟨by simp; omega, fun t ht => ?_⟩
        rcases List.mem_append.1 ht with ht | ht
        · exact ih.2 t ht
        · simp at ht; subst ht; exact SumW_len _ _
theorem regTo_small {ss ts : List (List (Int × Int))} : ∀ k, (regTo ss ts k).2.length ≤ k * ts.length ∧ ∀ t ∈ (regTo ss ts k).2, t.length ≤ 160 := by
  intro k
  induction k with
  | zero => simp [regTo]
  | succ k ih =>
    rw [regTo]
    split
    · exact ⟨by rw [Nat.add_mul]; omega, ih.2⟩
    · have := regIn_small (s := lt_ ss k) (ts := ts) ih.2 ts.length
      exact ⟨by rw [Nat.add_mul]; omega, this.2⟩
theorem regionsW_a {a b : List (Int × Int)} (h : ¬ (splitAllW a).1 = 0) : regionsW a b = ((splitAllW a).1, []) := by unfold regionsW; rw [if_pos h]
theorem regionsW_b {a b : List (Int × Int)} (h : (splitAllW a).1 = 0) (h2 : ¬ (splitAllW b).1 = 0) : regionsW a b = ((splitAllW b).1, []) := by unfold regionsW; rw [if_neg (by simpa using h), if_pos h2]
theorem regionsW_c {a b : List (Int × Int)} (h : (splitAllW a).1 = 0) (h2 : (splitAllW b).1 = 0) : regionsW a b = if (regTo (splitAllW a).2 (splitAllW b).2 (splitAllW a).2.length).1 ≠ 0 then ((regTo (splitAllW a).2 (splitAllW b).2 (splitAllW a).2.length).1, []) else (0, compW eqL [] (sortLW (regTo (splitAllW a).2 (splitAllW b).2 (splitAllW a).2.length).2)) := by unfold regionsW; rw [if_neg (by simpa using h), if_neg (by simpa using h2)]
theorem compactF_any (v : Value) (base : Nat) (l : List (List (Int × Int))) (w : World) (hl : l.length ≤ 1000000) (hll : ∀ t ∈ l, t.length ≤ 1000000) (hs : OwSS w base v l) :
    Calls Tryz.prog 164 #[v, .func (.func 165) #[] #[]] w fun e w' => ∃ v', e = .returned v' ∧ OwSS w' base v' (compW eqL [] l) ∧ w.grownBy w' v.ownBlock := by
  obtain ⟨vs, h1, h2, h3, h4⟩ := hs
  rcases OwG.form h1 with ⟨rfl, rfl⟩ | ⟨g, cap, rfl, g1, g2, g3, g4⟩
  · have : l = [] := List.eq_nil_of_length_eq_zero (by rw [← h2]; rfl)
    subst this
    go_enter Tryz.func164, Tryz.ntmps164
    go_wp2_with fail
    go_ret
    exact ⟨_, rfl, OwSS.nil, World.grownBy.refl _ _⟩
  · refine (compactF_some g cap vs.length base l w (by rw [h2]; exact hl) hll h2.symm ⟨vs, h1, h2, h3, h4⟩).mono ?_
    rintro e w' ⟨m, rfl, hm, ho, hg⟩
    exact ⟨_, rfl, ho, hg⟩
theorem below_appSS {w0 w w' : World} {v : Value} {ls : List (List (Int × Int))} (hb : Below w0.heap.size w0 w) (h : OwSS w w0.heap.size v ls) (hg : w.grownBy w' v.ownBlock) : Below w0.heap.size w0 w' := by
  obtain ⟨vs, h1, _⟩ := h
  exact below_app hb h1 hg
theorem OwSS.alloc {w : World} {base : Nat} {v : Value} {ls : List (List (Int × Int))} (h : OwSS w base v ls) (o : Obj) : OwSS (w.alloc o) base v ls := h.keep (Bl.alloc (Below.refl _ _) _)
set_option maxHeartbeats 2000000 in
set_option maxRecDepth 100000 in
theorem regions_any (A B : Option Addr) (ca cb na nb : Nat) (a b : List (Int × Int)) (w : World) (hna : na ≤ 9223372036854775807) (hnb : nb ≤ 9223372036854775807) (hca : na ≤ ca) (hcb : nb ≤ cb) (hsA : SpS w A na a) (hsB : SpS w B nb b) :
    Calls Tryz.prog 119 #[.slice A na ca, .slice B nb cb] w (RetSSE w (regionsW a b)) := by
  by_cases h1 : (splitAllW a).1 = 0
  · by_cases h2 : (splitAllW b).1 = 0
    · have hrel0 := Lib.hid (regionsW_c h1 h2)
      have sA := splitAllW_small a
      have sB := splitAllW_small b
      have HA := Lib.hid sA.2
      have HB := Lib.hid sB.2
      replace sA := sA.1
      replace sB := sB.1
      obtain ⟨ss, hss⟩ : ∃ ss, (splitAllW a).2 = ss := ⟨_, rfl⟩
      obtain ⟨ts, hts⟩ : ∃ ts, (splitAllW b).2 = ts := ⟨_, rfl⟩
      rw [hss] at hrel0 HA sA
      rw [hts] at hrel0 HB sB
      have HSS := Lib.hid hss
      have HTS := Lib.hid hts
      clear hss hts
      go_enter Tryz.func119, Tryz.ntmps119
      go_upto_region 8 with (go_at_call 148; first | (refine (split_all _ _ _ b _ hnb hcb (hsB.keep hb1)).mono ?_; rintro e w2 ⟨v2, rfl, ho2, hb2⟩; rw [HTS.out] at ho2) | (refine (split_all _ _ _ a _ hna hca hsA).mono ?_; rintro e w1 ⟨v1, rfl, ho1, hb1⟩; rw [HSS.out] at ho1))
      obtain ⟨A1, c1, rfl, hc1, hS1, -⟩ := (ho1.keep hb2).spss
      obtain ⟨A2, c2, rfl, hc2, hS2, -⟩ := ho2.spss
      have hb := Bl.call hb1 hb2
      clear ho1 ho2 hb1 hb2
      obtain ⟨ns, hns⟩ : ∃ ns, ss.length = ns := ⟨_, rfl⟩
      obtain ⟨nt, hnt⟩ : ∃ nt, ts.length = nt := ⟨_, rfl⟩
      rw [hns] at hS1 hc1 sA hrel0 ⊢
      rw [hnt] at hS2 hc2 sB ⊢
      have HNS := Lib.hid hns
      have HNT := Lib.hid hnt
      clear hns hnt
      go_wp2_with fail
      go_loopw [9, 34] (fun v i wr => ∃ k : Nat, k ≤ ns ∧ i = .int .i64 k ∧ Hid ((regTo ss ts k).1 = 0) ∧ OwSS wr w2.heap.size v (regTo ss ts k).2 ∧ Below w2.heap.size w2 wr) (fun _ i _ => ns - (intOf i).toNat)
      case atStart => exact ⟨0, Nat.zero_le _, rfl, Lib.hid rfl, OwSS.nil, Below.refl _ _⟩
      case round =>
        obtain ⟨k, hk, rfl, hz, ho, hbr⟩ := hrel
        by_cases hlt : k < ns
        · obtain ⟨b1, o1, Ak, ck, rfl, hbl, e1, e2, e3, e4⟩ := hS1.at_ hlt
          have l1 : (lt_ ss k).length ≤ 3 := HA.out _ (lt_mem (by rw [HNS.out]; exact hlt))
          have hsm := regTo_small (ss := ss) (ts := ts) k
          have hsm1 : (regTo ss ts k).2.length ≤ 1681 := Nat.le_trans hsm.1 (Nat.le_trans (Nat.mul_le_mul (show k ≤ 41 by omega) (show ts.length ≤ 41 by rw [HNT.out]; exact sB)) (by omega))
          have HSM := Lib.hid hsm.2
          clear hsm
          obtain ⟨nk, hnk⟩ : ∃ nk, (lt_ ss k).length = nk := ⟨_, rfl⟩
          rw [hnk] at e1 e2 e3 l1
          clear hnk
          have e1' := cell_keep hbr e1
          clear e1 hbl
          go_wp2_with fail
          clear e1'
          obtain ⟨wo, rfl⟩ : ∃ wo : World, wo = wr := ⟨_, rfl⟩
          go_loopw [9, 40] (fun v i wx => ∃ j : Nat, j ≤ nt ∧ i = .int .i64 j ∧ Hid ((regIn (lt_ ss k) ts (regTo ss ts k).2 j).1 = 0) ∧ OwSS wx w2.heap.size v (regIn (lt_ ss k) ts (regTo ss ts k).2 j).2 ∧ Below w2.heap.size w2 wx) (fun _ i _ => nt - (intOf i).toNat)
          case atStart => exact ⟨0, Nat.zero_le _, rfl, Lib.hid rfl, ho, hbr⟩
          case round =>
            clear ho hbr
            obtain ⟨j, hj, rfl, hzj, ho, hbx⟩ := hrel
            by_cases hjn : j < nt
            · obtain ⟨b2, o2, Aj, cj, rfl, hbl2, g1, g2, g3, g4⟩ := hS2.at_ hjn
              have l2 : (lt_ ts j).length ≤ 3 := HB.out _ (lt_mem (by rw [HNT.out]; exact hjn))
              obtain ⟨nj, hnj⟩ : ∃ nj, (lt_ ts j).length = nj := ⟨_, rfl⟩
              rw [hnj] at g1 g2 g3 l2
              have HNJ := Lib.hid (show (negW (lt_ ts j)).length = nj by rw [negW_len, hnj])
              clear hnj
              have g1' := cell_keep hbx g1
              clear g1 hbl2
              have hsmj := (regIn_small (s := lt_ ss k) (ts := ts) HSM.out j).1
              have hsmj' : (regIn (lt_ ss k) ts (regTo ss ts k).2 j).2.length ≤ 1000000 := by omega
              clear hsmj
              by_cases hsum : (SumW (lt_ ss k) (negW (lt_ ts j))).1 = 0
              · have hstep := Lib.hid (show regIn (lt_ ss k) ts (regTo ss ts k).2 (j + 1) = (0, (regIn (lt_ ss k) ts (regTo ss ts k).2 j).2 ++ [(SumW (lt_ ss k) (negW (lt_ ts j))).2]) by rw [regIn, if_neg (by rw [hzj.out]; simp), if_neg (by rw [hsum]; simp)])
                go_wp2_with (first | (go_at_call 160; refine (negate_any _ _ _ (lt_ ts j) _ (by omega) (g3.keep hbx)).mono ?_; rintro e w5 ⟨v5, rfl, ho5, hb5⟩; obtain ⟨A5, c5, rfl, hc5, hS5, hz5, -⟩ := OwS.els ho5; rw [HNJ.out] at hS5 ⊢) | (go_at_call 159; refine (Sum_any _ _ _ _ _ _ (lt_ ss k) (negW (lt_ ts j)) _ (by omega) (by omega) (e3.keep (Bl.call hbx hb5)) hS5 e4 hz5).mono ?_; rintro e w6 ⟨v6, rfl, ho6, hb6⟩; obtain ⟨A6, c6, rfl, -, -, -, -⟩ := OwS.els ho6) | (at_builtin; refine wpList_appV rfl _ _ rfl w2.heap.size _ (regIn (lt_ ss k) ts (regTo ss ts k).2 j).2 rfl (((ho.keep hb5).keep hb6).alloc _) w6.heap.size 1 _ (SumW (lt_ ss k) (negW (lt_ ts j))).2 47 rfl (BlkS.new _ _ _) ((ElS.lower (OwS.els ho6) (Bl.call hbx hb5).size).keep (Bl.alloc (Below.refl _ _) _)) hsmj' (Bl.alloc (Bl.call (Bl.call hbx hb5) hb6) _).size ?_; intro v7 w7 ho7 hg7 hat7))
                exact ⟨⟨j + 1, by omega, by go_num, Lib.hid (by rw [hstep.out]), by rw [hstep.out]; exact ho7, below_appSS (Bl.alloc (Bl.call (Bl.call hbx hb5) hb6) _) (((ho.keep hb5).keep hb6).alloc _) hg7⟩, by simp [intOf]; omega⟩
              · have q : ((SumW (lt_ ss k) (negW (lt_ ts j))).1 != 0) = true := by simpa using hsum
                have hbad : (regTo ss ts ns).1 = (SumW (lt_ ss k) (negW (lt_ ts j))).1 := by
                  have a1 : (regIn (lt_ ss k) ts (regTo ss ts k).2 (j + 1)).1 = (SumW (lt_ ss k) (negW (lt_ ts j))).1 := by rw [regIn, if_neg (by rw [hzj.out]; simp), if_pos hsum]
                  have a2 := regIn_bad a1 hsum (nt - (j + 1))
                  rw [show j + 1 + (nt - (j + 1)) = nt by omega] at a2
                  have a3 : (regTo ss ts (k + 1)).1 = (SumW (lt_ ss k) (negW (lt_ ts j))).1 := by rw [regTo, if_neg (by rw [hz.out]; simp), HNT.out]; exact a2
                  have a4 := regTo_bad a3 hsum (ns - (k + 1))
                  rwa [show k + 1 + (ns - (k + 1)) = ns by omega] at a4
                have hr : regionsW a b = ((SumW (lt_ ss k) (negW (lt_ ts j))).1, []) := by rw [hrel0.out, if_pos (by rw [hbad]; exact hsum), hbad]
                have HR := Lib.hid hr
                clear hr hbad
                go_wp2_with (first | (go_at_call 160; refine (negate_any _ _ _ (lt_ ts j) _ (by omega) (g3.keep hbx)).mono ?_; rintro e w5 ⟨v5, rfl, ho5, hb5⟩; obtain ⟨A5, c5, rfl, hc5, hS5, hz5, -⟩ := OwS.els ho5; rw [HNJ.out] at hS5 ⊢) | (go_at_call 159; refine (Sum_any _ _ _ _ _ _ (lt_ ss k) (negW (lt_ ts j)) _ (by omega) (by omega) (e3.keep (Bl.call hbx hb5)) hS5 e4 hz5).mono ?_; rintro e w6 ⟨v6, rfl, ho6, hb6⟩))
                go_ret2
                exact ⟨_, by rw [HR.out]; rfl, by rw [HR.out]; exact OwSS.nil, Bl.call hb (Bl.call (Bl.call hbx hb5) hb6)⟩
            · obtain rfl : nt = j := by omega
              have e9 := Lib.hid (show regTo ss ts (k + 1) = regIn (lt_ ss k) ts (regTo ss ts k).2 nt by rw [regTo, if_neg (by rw [hz.out]; simp), HNT.out])
              go_wp2_with fail
              exact ⟨⟨k + 1, by omega, by go_num, Lib.hid (by rw [e9.out]; exact hzj.out), by rw [e9.out]; exact ho, hbx⟩, by simp [intOf]; omega⟩
        · obtain rfl : ns = k := by omega
          have hsm := regTo_small (ss := ss) (ts := ts) ns
          have hsm1 : (regTo ss ts ns).2.length ≤ 1681 := Nat.le_trans hsm.1 (Nat.le_trans (Nat.mul_le_mul sA (show ts.length ≤ 41 by rw [HNT.out]; exact sB)) (by omega))
          have HSM := Lib.hid (show ∀ t ∈ (regTo ss ts ns).2, t.length ≤ 1000000 from fun t ht => Nat.le_trans (hsm.2 t ht) (by omega))
          have HR := Lib.hid (show regionsW a b = (0, compW eqL [] (sortLW (regTo ss ts ns).2)) by rw [hrel0.out, if_neg (by rw [hz.out]; simp)])
          clear hsm
          go_wp2_with (first | (go_at_call 161; refine (sortL_any _ w2.heap.size (regTo ss ts ns).2 _ (by omega) HSM.out ho).mono ?_; rintro e w5 ⟨rfl, ho5, hg5⟩) | (go_at_call 164; refine (compactF_any _ w2.heap.size (sortLW (regTo ss ts ns).2) _ (by rw [sortLW_len]; omega) (fun t ht => HSM.out t (sortLW_mem.1 ht)) ho5).mono ?_; rintro e w6 ⟨v6, rfl, ho6, hg6⟩))
          go_ret2
          exact ⟨v6, by rw [HR.out]; rfl, by rw [HR.out]; exact OwSS.lower ho6 hb.size, Bl.call hb (below_appSS (below_appSS hbr ho hg5) ho5 hg6)⟩
    · have hr := Lib.hid (regionsW_b h1 h2)
      have q2 : ((splitAllW b).1 != 0) = true := by simpa using h2
      go_enter Tryz.func119, Tryz.ntmps119
      go_wp2_with (go_at_call 148; first | (refine (split_all _ _ _ b _ hnb hcb (hsB.keep hb1)).mono ?_; rintro e w2 ⟨v2, rfl, ho2, hb2⟩) | (refine (split_all _ _ _ a _ hna hca hsA).mono ?_; rintro e w1 ⟨v1, rfl, ho1, hb1⟩))
      go_ret2
      exact ⟨_, by rw [hr.out]; rfl, by rw [hr.out]; exact OwSS.nil, Bl.call hb1 hb2⟩
  · have hr := Lib.hid (regionsW_a (b := b) h1)
    have q2 : ((splitAllW a).1 != 0) = true := by simpa using h1
    go_enter Tryz.func119, Tryz.ntmps119
    go_wp2_with (go_at_call 148; refine (split_all _ _ _ a _ hna hca hsA).mono ?_; rintro e w1 ⟨v1, rfl, ho1, hb1⟩)
    go_ret2
    exact ⟨_, by rw [hr.out]; rfl, by rw [hr.out]; exact OwSS.nil, hb1⟩
end Go.Proofs.YtmdncaoilegnnaaGreat

/- Contract of polygon.Normal. garmentref11: Less. -/
import Derived.Test.YtmdncaoilegnnaaGreatUB
import Derived.Deep.RegionHeld3
import Derived.StillTailTactics
namespace Go.Proofs.YtmdncaoilegnnaaGreat
set_option linter.unusedVariables false
set_option linter.unusedSimpArgs false
set_option linter.unusedVariables false
set_option linter.unusedSimpArgs false
open Go.RowKit

def corn (l : List (Int × Int)) (n : Nat) : Nat → List (Int × Int)
  | 0 => []
  | k + 1 => if bendW l n k != 0 then corn l n k ++ [gt l k] else corn l n k
def lessS (p q : Int × Int) : Bool := decide (p.1 < q.1) || (decide (p.1 = q.1) && decide (p.2 < q.2))
def frst (c : List (Int × Int)) : Nat → Nat
  | 0 => 0
  | k + 1 => if lessS (gt c k) (gt c (frst c k)) then k else frst c k
def cornR (l : List (Int × Int)) (n : Nat) : List (Int × Int) := if areaW l n n < 0 then (corn l n n).reverse else corn l n n
def rot (c : List (Int × Int)) (f : Nat) : List (Int × Int) := c.drop f ++ c.take f
def normalW (l : List (Int × Int)) (n : Nat) : List (Int × Int) := rot (cornR l n) (frst (cornR l n) (cornR l n).length)
theorem corn_len (l : List (Int × Int)) (n : Nat) : ∀ k, (corn l n k).length ≤ k
  | 0 => Nat.le_refl _
  | k + 1 => by
    have := corn_len l n k
    unfold corn; split
    · rw [List.length_append]; simp; omega
    · omega
theorem cornR_len (l : List (Int × Int)) (n : Nat) : (cornR l n).length ≤ n := by
  unfold cornR; split
  · rw [List.length_reverse]; exact corn_len l n n
  · exact corn_len l n n
theorem frst_le (c : List (Int × Int)) : ∀ k, frst c k ≤ k
  | 0 => Nat.le_refl _
  | k + 1 => by
    have := frst_le c k
    unfold frst; split <;> omega
theorem frst_lt (c : List (Int × Int)) : ∀ k, 0 < k → frst c k < k
  | 0, h => absurd h (by omega)
  | k + 1, _ => by
    have := frst_le c k
    unfold frst; split <;> omega
theorem corn_yes {l : List (Int × Int)} {n k : Nat} (h : (bendW l n k != 0) = true) : corn l n k ++ [gt l k] = corn l n (k + 1) := by
  rw [show corn l n (k + 1) = if bendW l n k != 0 then corn l n k ++ [gt l k] else corn l n k from rfl, if_pos h]
theorem corn_no {l : List (Int × Int)} {n k : Nat} (h : (bendW l n k != 0) = false) : corn l n k = corn l n (k + 1) := by
  rw [show corn l n (k + 1) = if bendW l n k != 0 then corn l n k ++ [gt l k] else corn l n k from rfl, if_neg (by rw [h]; simp)]
theorem gt_drop {l : List (Int × Int)} {i k : Nat} : gt (l.drop i) k = gt l (i + k) := by
  unfold gt; simp [List.getD, List.getElem?_drop]
theorem SpS.drop {w : World} {b off n : Nat} {l : List (Int × Int)} (h : SpS w (some ⟨b, off, none⟩) n l) {i : Nat} (hi : i ≤ n) : SpS w (some ⟨b, off + i * 2, none⟩) (n - i) (l.drop i) := by
  refine ⟨by rw [List.length_drop, h.1], ?_⟩
  rcases Nat.eq_zero_or_pos (n - i) with h0 | h0
  · exact .inl h0
  · refine .inr ⟨b, off + i * 2, rfl, fun k hk => ?_⟩
    rw [gt_drop]
    have := h.cells (k := i + k) (by omega)
    rw [show off + (i + k) * 2 = off + i * 2 + k * 2 by omega] at this
    exact this
theorem OwS.spsg {w : World} {base g cap n : Nat} {l : List (Int × Int)} (h : OwS w base (.slice (some ⟨g, 0, none⟩) n cap) l) (hn : l.length = n) : SpS w (some ⟨g, 0, none⟩) n l := by
  subst hn
  obtain ⟨A, cap', e, _, hs, _⟩ := h.sps
  injection e with e1 e2 e3
  subst e1
  exact hs
theorem concat_some (bx : Nat) (tb : TypeId) (a1 a2 : Addr) (n1 n2 c1 c2 cap : Nat) (l1 l2 : List (Int × Int)) (w : World) (hB : BlkS w bx tb #[.slice (some a1) n1 c1, .slice (some a2) n2 c2]) (hs1 : SpS w (some a1) n1 l1) (hs2 : SpS w (some a2) n2 l2) (h1 : n1 ≤ 100000) (h2 : n2 ≤ 100000) :
    Calls Tryz.prog 203 #[.slice (some ⟨bx, 0, none⟩) 2 cap] w (RetS w (l1 ++ l2)) :=
  concat_any bx (some a1) (some a2) n1 n2 c1 c2 cap l1 l2 w h1 h2 hs1 hs2 (fun h => by cases h) (fun h => by cases h) (hB.cell 0) (hB.cell 1)
theorem frst_yes {c : List (Int × Int)} {k : Nat} (h : lessS (gt c k) (gt c (frst c k)) = true) : k = frst c (k + 1) := by
  rw [show frst c (k + 1) = if lessS (gt c k) (gt c (frst c k)) then k else frst c k from rfl, if_pos h]
theorem frst_no {c : List (Int × Int)} {k : Nat} (h : lessS (gt c k) (gt c (frst c k)) = false) : frst c k = frst c (k + 1) := by
  rw [show frst c (k + 1) = if lessS (gt c k) (gt c (frst c k)) then k else frst c k from rfl, if_neg (by rw [h]; simp)]
theorem int_eq {a b : Nat} (h : a = b) : Value.int .i64 (a : Int) = .int .i64 (b : Int) := by rw [h]
theorem lessS_t1 {p q : Int × Int} (h : ¬ q.1 ≤ p.1) : lessS p q = true := by unfold lessS; simp; omega
theorem lessS_t2 {p q : Int × Int} (h : p.1 = q.1) (h2 : p.2 < q.2) : lessS p q = true := by unfold lessS; simp; omega
theorem lessS_f1 {p q : Int × Int} (h : q.1 ≤ p.1) (h2 : ¬ p.1 = q.1) : lessS p q = false := by unfold lessS; simp; omega
theorem lessS_f2 {p q : Int × Int} (h : q.1 ≤ p.1) (h2 : q.2 ≤ p.2) : lessS p q = false := by unfold lessS; simp; omega
set_option maxHeartbeats 2000000 in
theorem normal_ok (b off cap n : Nat) (l : List (Int × Int)) (w : World) (hl : n ≤ 1000) (hcap : n ≤ cap) (hs : SpS w (some ⟨b, off, none⟩) n l) (hc : checkW l n = 0) :
    Calls Tryz.prog 182 #[.slice (some ⟨b, off, none⟩) n cap] w fun e w' => ∃ v, e = .returned (.tuple #[v, .int .i64 0]) ∧ OwS w' w.heap.size v (normalW l n) ∧ Below w.heap.size w w' := by
  have HC := Lib.hid hc
  have q : (checkW l n != 0) = false := by rw [hc]; rfl
  clear hc
  go_enter Tryz.func182, Tryz.ntmps182
  go_wp2_with (go_at_call 74; refine (check_any _ _ _ l _ (by omega) hcap hs).mono ?_; rintro e w1 ⟨rfl, hb1⟩)
  go_loopw [5, 19] (fun s i wr => ∃ k : Nat, k ≤ n ∧ i = .int .i64 k ∧ OwS wr w.heap.size s (corn l n k) ∧ Below w.heap.size w wr) (fun _ i _ => n - (intOf i).toNat)
  case atStart => exact ⟨0, Nat.zero_le _, rfl, OwG.nil, hb1⟩
  case round =>
    clear hb1
    obtain ⟨k, hk, rfl, ho, hb⟩ := hrel
    by_cases hlt : k < n
    · obtain ⟨h1, h2⟩ := (hs.keep hb).cells hlt
      have hlen := corn_len l n k
      by_cases hbe : (bendW l n k != 0) = true
      · go_wp2_with (first | (go_at_call 201; refine (bend_any _ _ _ _ k l _ (by omega) hcap (hs.keep (Bl.alloc hb _)) hlt).mono ?_; rintro e w2 ⟨rfl, hb2⟩; have hB := (BlkS.new wr 37 #[.int .i64 (gt l k).1, .int .i64 (gt l k).2]).keep hb2; have c0 := hB.cell 0; have c1 := hB.cell 1; simp only [List.getElem?_toArray, List.getElem?_cons_zero, List.getElem?_cons_succ] at c0 c1) | (at_builtin; refine wpList_appS rfl _ _ rfl w.heap.size _ (corn l n k) rfl (((ho.alloc _).keep hb2).alloc _) w2.heap.size 1 (gt l k) 37 rfl (BlkS.new _ _ _) (by omega) (Nat.le_trans (Bl.alloc (Bl.call (Bl.alloc hb _) hb2) _).size (Nat.le_refl _)) ?_; intro v' w' ho' hg' hat'))
        exact ⟨⟨k + 1, by omega, by go_num, by rw [← corn_yes hbe]; exact ho', below_app (Bl.alloc (Bl.call (Bl.alloc hb _) hb2) _) (((ho.alloc _).keep hb2).alloc _) hg'⟩, by simp [intOf]; omega⟩
      · have hbe' : (bendW l n k != 0) = false := by simpa using hbe
        clear hbe
        go_wp2_with (go_at_call 201; refine (bend_any _ _ _ _ k l _ (by omega) hcap (hs.keep (Bl.alloc hb _)) hlt).mono ?_; rintro e w2 ⟨rfl, hb2⟩)
        exact ⟨⟨k + 1, by omega, by go_num, by rw [← corn_no hbe']; exact (ho.alloc _).keep hb2, Bl.call (Bl.alloc hb _) hb2⟩, by simp [intOf]; omega⟩
    · obtain rfl : n = k := by omega
      by_cases ha : areaW l n n < 0
      · have e1 : cornR l n = (corn l n n).reverse := by unfold cornR; rw [if_pos ha]
        go_upto_region 13 with (first | (go_at_call 86; refine (area_any _ _ _ l _ (by omega) hcap (hs.keep hb)).mono ?_; rintro e w2 ⟨rfl, hb2⟩) | (go_at_call 202; refine (reverse_any _ w.heap.size (corn l n n) _ (by have := corn_len l n n; omega) (ho.keep hb2)).mono ?_; rintro e w3 ⟨rfl, ho3, hg3⟩))
        have hoR : OwS w3 w.heap.size u5 (cornR l n) := by rw [e1]; exact ho3
        have hbR : Below w.heap.size w w3 := below_app (Bl.call hb hb2) (ho.keep hb2) hg3
        clear e1 ho hb hb2 ho3 hg3
        obtain ⟨WW, rfl⟩ : ∃ WW : World, WW = w3 := ⟨_, rfl⟩
        rcases OwG.form hoR with ⟨rfl, hcn⟩ | ⟨g, cp, rfl, -, -, hcp, -⟩
        · have hno : normalW l n = [] := by unfold normalW; rw [hcn]; rfl
          have HNO := Lib.hid hno
          clear hno hcn hoR
          go_wp2_with fail
          go_loopw [8, 40] (fun s i wr => i = .int .i64 0 ∧ s = .int .i64 0 ∧ wr = WW) (fun _ _ _ => 0)
          case atStart => exact ⟨rfl, rfl, rfl⟩
          case round =>
            obtain ⟨rfl, rfl, rfl⟩ := hrel
            go_wp2_with fail
            go_region_with (go_at_call 203; refine (concat_any _ none none 0 0 0 0 _ [] [] _ (by omega) (by omega) ⟨rfl, .inl rfl⟩ ⟨rfl, .inl rfl⟩ (fun _ => rfl) (fun _ => rfl) (by simp) (by simp)).mono ?_; rintro e w4 ⟨v4, rfl, ho4, hb4⟩)
            go_wp2_with fail
            go_ret2
            exact ⟨v4, rfl, by rw [HNO.out]; exact OwG.lower ho4 (Nat.le_trans hbR.size (by simp)), Bl.call (Bl.drew (Bl.alloc hbR _)) hb4⟩
        · have hsp := hoR.spsg rfl
          have hlen := cornR_len l n
          obtain ⟨c, hcdef⟩ : ∃ c, c = cornR l n := ⟨_, rfl⟩
          rw [← hcdef] at hcp hsp hlen ⊢
          have HCD := Lib.hid hcdef
          clear hcdef
          obtain ⟨m, hm⟩ : ∃ m, c.length = m := ⟨_, rfl⟩
          rw [hm] at hcp hsp hlen ⊢
          have HM := Lib.hid hm
          clear hm hoR
          go_wp2_with fail
          go_loopw [8, 40] (fun s i wr => ∃ k : Nat, k ≤ m ∧ i = .int .i64 k ∧ s = .int .i64 (frst c k) ∧ Below WW.heap.size WW wr) (fun _ i _ => m - (intOf i).toNat)
          case atStart => exact ⟨0, Nat.zero_le _, rfl, rfl, Below.refl _ _⟩
          case round =>
            obtain ⟨k, hk, rfl, rfl, hbk⟩ := hrel
            by_cases hlt : k < m
            · have hf : frst c k < m := by have := frst_le c k; omega
              obtain ⟨h1, h2⟩ := (hsp.keep hbk).cells hlt
              obtain ⟨h3, h4⟩ := (hsp.keep hbk).cells hf
              have hbl : g < wr.heap.size := lt_of_cell h1
              simp only [Nat.zero_add] at h1 h2 h3 h4
              go_wp2_with fail
              · exact ⟨⟨k + 1, by omega, by go_num, int_eq (frst_yes (lessS_t2 ‹_› ‹_›)), Bl.alloc (Bl.alloc hbk _) _⟩, by simp [intOf]; omega⟩
              · exact ⟨⟨k + 1, by omega, by go_num, int_eq (frst_no (lessS_f2 ‹(gt c (frst c k)).fst ≤ (gt c k).fst› ‹(gt c (frst c k)).snd ≤ (gt c k).snd›)), Bl.alloc (Bl.alloc hbk _) _⟩, by simp [intOf]; omega⟩
              · exact ⟨⟨k + 1, by omega, by go_num, int_eq (frst_no (lessS_f1 ‹(gt c (frst c k)).fst ≤ (gt c k).fst› ‹¬ (gt c k).fst = (gt c (frst c k)).fst›)), Bl.alloc (Bl.alloc hbk _) _⟩, by simp [intOf]; omega⟩
              · exact ⟨⟨k + 1, by omega, by go_num, int_eq (frst_yes (lessS_t1 ‹_›)), Bl.alloc (Bl.alloc hbk _) _⟩, by simp [intOf]; omega⟩
            · obtain rfl : m = k := by omega
              have hno : normalW l n = rot c (frst c m) := by unfold normalW; rw [← HCD.out, HM.out]
              have HNO := Lib.hid hno
              clear hno
              by_cases hm0 : 0 < m
              · have hf := frst_lt c m hm0
                have hf1 : (frst c m : Int) ≤ (cp : Int) := by omega
                have hf2 : (frst c m : Int) ≤ (m : Int) := by omega
                have hf3 : ¬ cp = frst c m := by omega
                have hf4 : (m : Int) ≤ (cp : Int) := by omega
                have hspd : SpS WW (some ⟨g, frst c m * 2, none⟩) (m - frst c m) (c.drop (frst c m)) := by simpa using hsp.drop (i := frst c m) (by omega)
                have hspt := hsp.take (i := frst c m) (by omega)
                have hq1 : m - frst c m ≤ 100000 := by omega
                have hq2 : frst c m ≤ 100000 := by omega
                go_wp2_with fail
                go_region_with (go_at_call 203; refine (concat_some _ _ _ _ _ _ _ _ _ (c.drop (frst c m)) (c.take (frst c m)) _ (BlkS.drew (BlkS.new _ _ _)) (hspd.keep (Bl.drew (Bl.alloc hbk _))) (hspt.keep (Bl.drew (Bl.alloc hbk _))) hq1 hq2).mono ?_; rintro e w4 ⟨v4, rfl, ho4, hb4⟩)
                go_wp2_with fail
                go_ret2
                exact ⟨v4, rfl, by rw [HNO.out]; exact OwG.lower ho4 (Nat.le_trans (Bl.call hbR hbk).size (by simp)), Bl.call (Bl.drew (Bl.alloc (Bl.call hbR hbk) _)) hb4⟩
              · obtain rfl : m = 0 := by omega
                have hc0 : c = [] := List.eq_nil_of_length_eq_zero HM.out
                have f0 : frst c 0 = 0 := rfl
                have hno2 : normalW l n = [] := by rw [HNO.out, hc0]; rfl
                have HNO2 := Lib.hid hno2
                clear hno2 HNO hc0
                have z1 : SpS WW (some ⟨g, 0, none⟩) 0 [] := ⟨rfl, .inl rfl⟩
                by_cases hcp0 : cp = 0
                · subst hcp0
                  go_wp2_with fail
                  go_region_with (go_at_call 203; refine (concat_some _ _ _ _ _ _ _ _ _ [] [] _ (BlkS.drew (BlkS.new _ _ _)) (z1.keep (Bl.drew (Bl.alloc hbk _))) (z1.keep (Bl.drew (Bl.alloc hbk _))) (Nat.zero_le _) (Nat.zero_le _)).mono ?_; rintro e w4 ⟨v4, rfl, ho4, hb4⟩)
                  go_wp2_with fail
                  go_ret2
                  exact ⟨v4, rfl, by rw [HNO2.out]; exact OwG.lower ho4 (Nat.le_trans (Bl.call hbR hbk).size (by simp)), Bl.call (Bl.drew (Bl.alloc (Bl.call hbR hbk) _)) hb4⟩
                · go_wp2_with fail
                  go_region_with (go_at_call 203; refine (concat_some _ _ _ _ _ _ _ _ _ [] [] _ (BlkS.drew (BlkS.new _ _ _)) (z1.keep (Bl.drew (Bl.alloc hbk _))) (z1.keep (Bl.drew (Bl.alloc hbk _))) (Nat.zero_le _) (Nat.zero_le _)).mono ?_; rintro e w4 ⟨v4, rfl, ho4, hb4⟩)
                  go_wp2_with fail
                  go_ret2
                  exact ⟨v4, rfl, by rw [HNO2.out]; exact OwG.lower ho4 (Nat.le_trans (Bl.call hbR hbk).size (by simp)), Bl.call (Bl.drew (Bl.alloc (Bl.call hbR hbk) _)) hb4⟩
      · have e1 : cornR l n = corn l n n := by unfold cornR; rw [if_neg ha]
        go_upto_region 13 with (go_at_call 86; refine (area_any _ _ _ l _ (by omega) hcap (hs.keep hb)).mono ?_; rintro e w2 ⟨rfl, hb2⟩)
        have hoR : OwS w2 w.heap.size u5 (cornR l n) := by rw [e1]; exact ho.keep hb2
        have hbR : Below w.heap.size w w2 := Bl.call hb hb2
        clear e1 ho hb hb2
        obtain ⟨WW, rfl⟩ : ∃ WW : World, WW = w2 := ⟨_, rfl⟩
        rcases OwG.form hoR with ⟨rfl, hcn⟩ | ⟨g, cp, rfl, -, -, hcp, -⟩
        · have hno : normalW l n = [] := by unfold normalW; rw [hcn]; rfl
          have HNO := Lib.hid hno
          clear hno hcn hoR
          go_wp2_with fail
          go_loopw [8, 40] (fun s i wr => i = .int .i64 0 ∧ s = .int .i64 0 ∧ wr = WW) (fun _ _ _ => 0)
          case atStart => exact ⟨rfl, rfl, rfl⟩
          case round =>
            obtain ⟨rfl, rfl, rfl⟩ := hrel
            go_wp2_with fail
            go_region_with (go_at_call 203; refine (concat_any _ none none 0 0 0 0 _ [] [] _ (by omega) (by omega) ⟨rfl, .inl rfl⟩ ⟨rfl, .inl rfl⟩ (fun _ => rfl) (fun _ => rfl) (by simp) (by simp)).mono ?_; rintro e w4 ⟨v4, rfl, ho4, hb4⟩)
            go_wp2_with fail
            go_ret2
            exact ⟨v4, rfl, by rw [HNO.out]; exact OwG.lower ho4 (Nat.le_trans hbR.size (by simp)), Bl.call (Bl.drew (Bl.alloc hbR _)) hb4⟩
        · have hsp := hoR.spsg rfl
          have hlen := cornR_len l n
          obtain ⟨c, hcdef⟩ : ∃ c, c = cornR l n := ⟨_, rfl⟩
          rw [← hcdef] at hcp hsp hlen ⊢
          have HCD := Lib.hid hcdef
          clear hcdef
          obtain ⟨m, hm⟩ : ∃ m, c.length = m := ⟨_, rfl⟩
          rw [hm] at hcp hsp hlen ⊢
          have HM := Lib.hid hm
          clear hm hoR
          go_wp2_with fail
          go_loopw [8, 40] (fun s i wr => ∃ k : Nat, k ≤ m ∧ i = .int .i64 k ∧ s = .int .i64 (frst c k) ∧ Below WW.heap.size WW wr) (fun _ i _ => m - (intOf i).toNat)
          case atStart => exact ⟨0, Nat.zero_le _, rfl, rfl, Below.refl _ _⟩
          case round =>
            obtain ⟨k, hk, rfl, rfl, hbk⟩ := hrel
            by_cases hlt : k < m
            · have hf : frst c k < m := by have := frst_le c k; omega
              obtain ⟨h1, h2⟩ := (hsp.keep hbk).cells hlt
              obtain ⟨h3, h4⟩ := (hsp.keep hbk).cells hf
              have hbl : g < wr.heap.size := lt_of_cell h1
              simp only [Nat.zero_add] at h1 h2 h3 h4
              go_wp2_with fail
              · exact ⟨⟨k + 1, by omega, by go_num, int_eq (frst_yes (lessS_t2 ‹_› ‹_›)), Bl.alloc (Bl.alloc hbk _) _⟩, by simp [intOf]; omega⟩
              · exact ⟨⟨k + 1, by omega, by go_num, int_eq (frst_no (lessS_f2 ‹(gt c (frst c k)).fst ≤ (gt c k).fst› ‹(gt c (frst c k)).snd ≤ (gt c k).snd›)), Bl.alloc (Bl.alloc hbk _) _⟩, by simp [intOf]; omega⟩
              · exact ⟨⟨k + 1, by omega, by go_num, int_eq (frst_no (lessS_f1 ‹(gt c (frst c k)).fst ≤ (gt c k).fst› ‹¬ (gt c k).fst = (gt c (frst c k)).fst›)), Bl.alloc (Bl.alloc hbk _) _⟩, by simp [intOf]; omega⟩
              · exact ⟨⟨k + 1, by omega, by go_num, int_eq (frst_yes (lessS_t1 ‹_›)), Bl.alloc (Bl.alloc hbk _) _⟩, by simp [intOf]; omega⟩
            · obtain rfl : m = k := by omega
              have hno : normalW l n = rot c (frst c m) := by unfold normalW; rw [← HCD.out, HM.out]
              have HNO := Lib.hid hno
              clear hno
              by_cases hm0 : 0 < m
              · have hf := frst_lt c m hm0
                have hf1 : (frst c m : Int) ≤ (cp : Int) := by omega
                have hf2 : (frst c m : Int) ≤ (m : Int) := by omega
                have hf3 : ¬ cp = frst c m := by omega
                have hf4 : (m : Int) ≤ (cp : Int) := by omega
                have hspd : SpS WW (some ⟨g, frst c m * 2, none⟩) (m - frst c m) (c.drop (frst c m)) := by simpa using hsp.drop (i := frst c m) (by omega)
                have hspt := hsp.take (i := frst c m) (by omega)
                have hq1 : m - frst c m ≤ 100000 := by omega
                have hq2 : frst c m ≤ 100000 := by omega
                go_wp2_with fail
                go_region_with (go_at_call 203; refine (concat_some _ _ _ _ _ _ _ _ _ (c.drop (frst c m)) (c.take (frst c m)) _ (BlkS.drew (BlkS.new _ _ _)) (hspd.keep (Bl.drew (Bl.alloc hbk _))) (hspt.keep (Bl.drew (Bl.alloc hbk _))) hq1 hq2).mono ?_; rintro e w4 ⟨v4, rfl, ho4, hb4⟩)
                go_wp2_with fail
                go_ret2
                exact ⟨v4, rfl, by rw [HNO.out]; exact OwG.lower ho4 (Nat.le_trans (Bl.call hbR hbk).size (by simp)), Bl.call (Bl.drew (Bl.alloc (Bl.call hbR hbk) _)) hb4⟩
              · obtain rfl : m = 0 := by omega
                have hc0 : c = [] := List.eq_nil_of_length_eq_zero HM.out
                have f0 : frst c 0 = 0 := rfl
                have hno2 : normalW l n = [] := by rw [HNO.out, hc0]; rfl
                have HNO2 := Lib.hid hno2
                clear hno2 HNO hc0
                have z1 : SpS WW (some ⟨g, 0, none⟩) 0 [] := ⟨rfl, .inl rfl⟩
                by_cases hcp0 : cp = 0
                · subst hcp0
                  go_wp2_with fail
                  go_region_with (go_at_call 203; refine (concat_some _ _ _ _ _ _ _ _ _ [] [] _ (BlkS.drew (BlkS.new _ _ _)) (z1.keep (Bl.drew (Bl.alloc hbk _))) (z1.keep (Bl.drew (Bl.alloc hbk _))) (Nat.zero_le _) (Nat.zero_le _)).mono ?_; rintro e w4 ⟨v4, rfl, ho4, hb4⟩)
                  go_wp2_with fail
                  go_ret2
                  exact ⟨v4, rfl, by rw [HNO2.out]; exact OwG.lower ho4 (Nat.le_trans (Bl.call hbR hbk).size (by simp)), Bl.call (Bl.drew (Bl.alloc (Bl.call hbR hbk) _)) hb4⟩
                · go_wp2_with fail
                  go_region_with (go_at_call 203; refine (concat_some _ _ _ _ _ _ _ _ _ [] [] _ (BlkS.drew (BlkS.new _ _ _)) (z1.keep (Bl.drew (Bl.alloc hbk _))) (z1.keep (Bl.drew (Bl.alloc hbk _))) (Nat.zero_le _) (Nat.zero_le _)).mono ?_; rintro e w4 ⟨v4, rfl, ho4, hb4⟩)
                  go_wp2_with fail
                  go_ret2
                  exact ⟨v4, rfl, by rw [HNO2.out]; exact OwG.lower ho4 (Nat.le_trans (Bl.call hbR hbk).size (by simp)), Bl.call (Bl.drew (Bl.alloc (Bl.call hbR hbk) _)) hb4⟩
end Go.Proofs.YtmdncaoilegnnaaGreat

namespace Go.Proofs.YtmdncaoilegnnaaGreat
set_option linter.unusedVariables false
set_option linter.unusedSimpArgs false
set_option linter.unusedVariables false
set_option linter.unusedSimpArgs false
open Go.RowKit

end Go.Proofs.YtmdncaoilegnnaaGreat

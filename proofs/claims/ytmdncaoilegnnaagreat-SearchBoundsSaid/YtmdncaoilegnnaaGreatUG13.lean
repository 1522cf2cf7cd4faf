/- overlap.reach, contact, relation, Overlap. nofit.interior, blocked; slices.CompareFunc and Equal at spots; the two closures of Regions. -/
import Derived.Test.YtmdncaoilegnnaaGreatUG11
namespace Go.Proofs.YtmdncaoilegnnaaGreat
set_option linter.unusedVariables false
set_option linter.unusedSimpArgs false
set_option linter.unusedVariables false
set_option linter.unusedSimpArgs false
open Go.RowKit

def mostTo (p q : Int × Int) (b : List (Int × Int)) : Nat → Int
  | 0 => -1
  | k + 1 => max (mostTo p q b k) (cmpI (crossW p q (gt b k)) 0)
def reachTo (a b : List (Int × Int)) (na nb : Nat) : Nat → Int
  | 0 => 1
  | k + 1 => min (reachTo a b na nb k) (mostTo (gt a k) (gt a ((k + 1) % na)) b nb)
def reachW (a b : List (Int × Int)) : Int := reachTo a b a.length b.length a.length
def contactW (a b : List (Int × Int)) : Int := min (reachW a b) (reachW b a)
set_option maxHeartbeats 1000000 in
theorem reach_any (A B : Option Addr) (ca cb na nb : Nat) (a b : List (Int × Int)) (w : World) (hna : na ≤ 1000000) (hnb : nb ≤ 1000000) (hsA : SpS w A na a) (hsB : SpS w B nb b) :
    Calls Tryz.prog 189 #[.slice A na ca, .slice B nb cb] w fun e w' => e = .returned (.int .i64 (reachTo a b na nb na)) ∧ Below w.heap.size w w' := by
  go_enter Tryz.func189, Tryz.ntmps189
  go_wp2_with fail
  go_loopw [5, 15] (fun r i wr => ∃ k : Nat, k ≤ na ∧ i = .int .i64 k ∧ r = .int .i64 (reachTo a b na nb k) ∧ Below w.heap.size w wr) (fun _ i _ => na - (intOf i).toNat)
  case atStart => exact ⟨0, Nat.zero_le _, rfl, rfl, Below.refl _ _⟩
  case round =>
    obtain ⟨k, hk, rfl, rfl, hb⟩ := hrel
    by_cases hlt : k < na
    · obtain ⟨ba, oa, rfl, hbl, hc⟩ := (hsA.keep hb).at_ hlt
      have hm1 : (k + 1) % na < na := Nat.mod_lt _ (by omega)
      obtain ⟨h1, h2⟩ := hc k hlt
      obtain ⟨h3, h4⟩ := hc _ hm1
      clear hc
      have m1 := (modf ((k : Int) + 1) (k + 1) na rfl (by omega)).2
      go_wp2_with fail
      clear h1 h2 h3 h4 m1
      have hC0 : Cls w [(⟨wr.heap.size, 0, none⟩, .int .i64 (gt a k).1), (⟨wr.heap.size, 1, none⟩, .int .i64 (gt a k).2), (⟨wr.heap.size + 1, 0, none⟩, .int .i64 (gt a ((k + 1) % na)).1), (⟨wr.heap.size + 1, 1, none⟩, .int .i64 (gt a ((k + 1) % na)).2)] ((wr.alloc (.cells #[.int .i64 (gt a k).1, .int .i64 (gt a k).2] 37)).alloc (.cells #[.int .i64 (gt a ((k + 1) % na)).1, .int .i64 (gt a ((k + 1) % na)).2] 37)) := ⟨Bl.alloc (Bl.alloc hb _) _, by simp only [List.mem_cons, List.not_mem_nil, forall_eq_or_imp, or_false, forall_eq]; go_simp⟩
      obtain ⟨B0, hB0⟩ : ∃ B0, B0 = wr.heap.size := ⟨_, rfl⟩
      rw [← hB0] at hC0 ⊢
      have HC0 := Lib.hid hC0
      clear hC0
      go_loopw [9, 30] (fun r i wx => ∃ j : Nat, j ≤ nb ∧ i = .int .i64 j ∧ r = .int .i64 (mostTo (gt a k) (gt a ((k + 1) % na)) b j) ∧ Cls w [(⟨B0, 0, none⟩, .int .i64 (gt a k).1), (⟨B0, 1, none⟩, .int .i64 (gt a k).2), (⟨B0 + 1, 0, none⟩, .int .i64 (gt a ((k + 1) % na)).1), (⟨B0 + 1, 1, none⟩, .int .i64 (gt a ((k + 1) % na)).2)] wx) (fun _ i _ => nb - (intOf i).toNat)
      case atStart => exact ⟨0, Nat.zero_le _, rfl, rfl, HC0.out⟩
      case round =>
        clear HC0 hB0 hb hbl
        obtain ⟨j, hj, rfl, rfl, hC⟩ := hrel
        have hx := hC.2
        simp only [List.mem_cons, List.not_mem_nil, forall_eq_or_imp, or_false, forall_eq] at hx
        have hBl0 : B0 < wr.heap.size := lt_of_cell hx.1
        have hBl1 : B0 + 1 < wr.heap.size := lt_of_cell hx.2.2.1
        by_cases hjn : j < nb
        · obtain ⟨bb, ob, rfl, hbb, hc⟩ := (hsB.keep hC.1).at_ hjn
          obtain ⟨h1, h2⟩ := hc j hjn
          clear hc
          go_wp2_with (go_at_call 80; refine (compare_same _ _ _).mono ?_; rintro e w1 ⟨rfl, rfl⟩)
          all_goals exact ⟨⟨j + 1, by omega, by go_num, by simp only [mostTo, crossW]; congr 1; omega, Bl.alloc hC.1 _, fun x hx' => (hC.call (Bl.alloc (Below.refl _ _) _)).2 x hx'⟩, by simp [intOf]; omega⟩
        · obtain rfl : nb = j := by omega
          go_wp2_with fail
          all_goals exact ⟨⟨k + 1, by omega, by go_num, by simp only [reachTo]; congr 1; omega, hC.1⟩, by simp [intOf]; omega⟩
    · obtain rfl : na = k := by omega
      go_wp2_with fail
      go_ret
      exact ⟨rfl, hb⟩
set_option maxHeartbeats 400000 in
theorem contact_any (A B : Option Addr) (ca cb na nb : Nat) (a b : List (Int × Int)) (w : World) (hna : na ≤ 1000000) (hnb : nb ≤ 1000000) (hsA : SpS w A na a) (hsB : SpS w B nb b) :
    Calls Tryz.prog 149 #[.slice A na ca, .slice B nb cb] w fun e w' => e = .returned (.int .i64 (contactW a b)) ∧ Below w.heap.size w w' := by
  have e1 := Lib.hid (show contactW a b = min (reachTo a b na nb na) (reachTo b a nb na nb) by unfold contactW reachW; rw [hsA.1, hsB.1])
  go_enter Tryz.func149, Tryz.ntmps149
  go_wp2_with (go_at_call 189; first | (refine (reach_any _ _ _ _ _ _ b a _ hnb hna (hsB.keep hb1) (hsA.keep hb1)).mono ?_; rintro e w2 ⟨rfl, hb2⟩) | (refine (reach_any _ _ _ _ _ _ a b _ hna hnb hsA hsB).mono ?_; rintro e w1 ⟨rfl, hb1⟩))
  all_goals go_ret
  all_goals exact ⟨ret_int (by rw [e1.out]; omega), Bl.call hb1 hb2⟩
def lt_ (ls : List (List (Int × Int))) (k : Nat) : List (Int × Int) := ls.getD k []
theorem lt_some {ls : List (List (Int × Int))} {k : Nat} (h : k < ls.length) : ls[k]? = some (lt_ ls k) := by
  unfold lt_; rw [List.getD, List.getElem?_eq_getElem h]; rfl
/-- The slice header A with n elements reads, in w, as the list ls of lists of spots. -/
def SpSS (w : World) (A : Option Addr) (n : Nat) (ls : List (List (Int × Int))) : Prop :=
  ls.length = n ∧ (n = 0 ∨ ∃ b off, A = some ⟨b, off, none⟩ ∧ ∀ k, k < n → ∃ Ak ck, w.cell? ⟨b, off + k, none⟩ = some (.slice Ak (lt_ ls k).length ck) ∧ (lt_ ls k).length ≤ ck ∧ SpS w Ak (lt_ ls k).length (lt_ ls k) ∧ (Ak = none → ck = 0))
theorem SpSS.at_ {w : World} {A : Option Addr} {n : Nat} {ls : List (List (Int × Int))} (h : SpSS w A n ls) {k : Nat} (hk : k < n) : ∃ b off Ak ck, A = some ⟨b, off, none⟩ ∧ b < w.heap.size ∧ w.cell? ⟨b, off + k, none⟩ = some (.slice Ak (lt_ ls k).length ck) ∧ (lt_ ls k).length ≤ ck ∧ SpS w Ak (lt_ ls k).length (lt_ ls k) ∧ (Ak = none → ck = 0) := by
  obtain ⟨h1, h⟩ := h; rcases h with rfl | ⟨b, off, rfl, h⟩
  · omega
  · obtain ⟨Ak, ck, e1, e2, e3, e4⟩ := h k hk
    exact ⟨b, off, Ak, ck, rfl, lt_of_cell e1, e1, e2, e3, e4⟩
theorem SpSS.keep {w w' : World} {A : Option Addr} {n : Nat} {ls : List (List (Int × Int))} (h : SpSS w A n ls) (hb : Below w.heap.size w w') : SpSS w' A n ls := by
  refine ⟨h.1, ?_⟩
  obtain ⟨h1, h⟩ := h; rcases h with rfl | ⟨b, off, rfl, h⟩
  · exact .inl rfl
  · refine .inr ⟨b, off, rfl, fun k hk => ?_⟩
    obtain ⟨Ak, ck, e1, e2, e3, e4⟩ := h k hk
    exact ⟨Ak, ck, cell_keep hb e1, e2, e3.keep hb, e4⟩
theorem OwSS.spss {w : World} {base : Nat} {v : Value} {ls : List (List (Int × Int))} (h : OwSS w base v ls) : ∃ A c, v = .slice A ls.length c ∧ ls.length ≤ c ∧ SpSS w A ls.length ls ∧ (A = none → c = 0) := by
  obtain ⟨vs, h1, h2, h3, h4⟩ := h
  rcases OwG.form h1 with ⟨rfl, rfl⟩ | ⟨g, cap, rfl, g1, g2, g3, g4⟩
  · have : ls = [] := List.eq_nil_of_length_eq_zero (by rw [← h2]; rfl)
    subst this
    exact ⟨none, 0, rfl, Nat.le_refl _, ⟨rfl, .inl rfl⟩, fun _ => rfl⟩
  · refine ⟨_, cap, by rw [← h2], by rw [← h2]; exact g3, ⟨rfl, .inr ⟨g, 0, rfl, fun k hk => ?_⟩⟩, fun h => by cases h⟩
    have hkv : k < vs.length := by rw [h2]; exact hk
    obtain ⟨u, hu⟩ : ∃ u, vs[k]? = some u := ⟨_, List.getElem?_eq_getElem hkv⟩
    have c0 := OwG.cells h1 k (by omega)
    have f0 := flat_at enV_len vs k 0 u hu (by omega)
    rw [Nat.mul_one, Nat.add_zero] at f0
    rw [f0] at c0
    obtain ⟨Ak, ck, rfl, e2, e3, e4, _⟩ := h4 k u (lt_ ls k) hu (lt_some hk)
    exact ⟨Ak, ck, by rw [Nat.zero_add]; exact c0, e2, e3, e4⟩
def closIn (s : List (Int × Int)) (ts : List (List (Int × Int))) (c0 : Int) : Nat → Int
  | 0 => c0
  | k + 1 => max (closIn s ts c0 k) (contactW s (lt_ ts k))
def closTo (ss ts : List (List (Int × Int))) : Nat → Int
  | 0 => -1
  | k + 1 => closIn (lt_ ss k) ts (closTo ss ts k) ts.length
/-- What Split gives: the error's number, or 0 and the triangles. -/
def splitAllW (l : List (Int × Int)) : Int × List (List (Int × Int)) :=
  if checkW l l.length = 0 then (match splitW (normalW l l.length).length (normalW l l.length) [] with | none => (11, []) | some ts => (0, ts)) else (checkW l l.length, [])
/-- A result of rows and an error number. -/
def RetSSE (w : World) (r : Int × List (List (Int × Int))) (e : Ending) (w' : World) : Prop :=
  ∃ v, e = .returned (.tuple #[v, .int .i64 r.1]) ∧ OwSS w' w.heap.size v r.2 ∧ Below w.heap.size w w'
theorem split_all (A : Option Addr) (cap n : Nat) (l : List (Int × Int)) (w : World) (hl : n ≤ 9223372036854775807) (hcap : n ≤ cap) (hs : SpS w A n l) :
    Calls Tryz.prog 148 #[.slice A n cap] w (RetSSE w (splitAllW l)) := by
  refine (split_any A cap n l w hl hcap hs).mono ?_
  rintro e w' ⟨hb, ⟨h1, rfl⟩ | ⟨h1, h2, rfl⟩ | ⟨h1, ts, v, h2, rfl, h3⟩⟩
  · refine ⟨.slice none 0 0, ?_, ?_, hb⟩
    · unfold splitAllW; rw [hs.1, if_neg h1]
    · unfold splitAllW; rw [hs.1, if_neg h1]; exact OwSS.nil
  · refine ⟨.slice none 0 0, ?_, ?_, hb⟩
    · unfold splitAllW; rw [hs.1, if_pos h1, h2]
    · unfold splitAllW; rw [hs.1, if_pos h1, h2]; exact OwSS.nil
  · refine ⟨v, ?_, ?_, hb⟩
    · unfold splitAllW; rw [hs.1, if_pos h1, h2]
    · unfold splitAllW; rw [hs.1, if_pos h1, h2]; exact h3
theorem splitW_small : ∀ (f : Nat) (cur : List (Int × Int)) (ts r : List (List (Int × Int))), cur.length ≤ f + 3 → (∀ t ∈ ts, t.length ≤ 3) → splitW f cur ts = some r → r.length ≤ ts.length + f + 1 ∧ ∀ t ∈ r, t.length ≤ 3 := by
  intro f
  induction f with
  | zero =>
    intro cur ts r hc ht h
    rw [show splitW 0 cur ts = some (ts ++ [cur]) from rfl] at h
    injection h with h; subst h
    refine ⟨by simp, fun t h => ?_⟩
    rcases List.mem_append.1 h with h | h
    · exact ht t h
    · simp at h; subst h; omega
  | succ f ih =>
    intro cur ts r hc ht h
    by_cases h3 : cur.length ≤ 3
    · rw [splitW_end h3] at h
      injection h with h; subst h
      refine ⟨by simp, fun t h => ?_⟩
      rcases List.mem_append.1 h with h | h
      · exact ht t h
      · simp at h; subst h; omega
    · rcases idxOf_cases (strW cur cur.length) cur.length with h1 | ⟨i, hi, h1⟩
      · rcases idxOf_cases (freeW cur cur.length) cur.length with h2 | ⟨i, hi, h2⟩
        · rw [splitW_none rfl h3 (by rw [h1]; omega) (by rw [h2]; omega)] at h; cases h
        · rw [splitW_ear rfl h3 (by rw [h1]; omega) h2] at h
          obtain ⟨g1, g2⟩ := ih _ _ _ (by rw [List.length_eraseIdx_of_lt hi]; omega) (fun t h => by
            rcases List.mem_append.1 h with h | h
            · exact ht t h
            · simp at h; subst h; simp [triW]) h
          refine ⟨by rw [List.length_append] at g1; simp at g1; omega, g2⟩
      · rw [splitW_str rfl h3 h1] at h
        obtain ⟨g1, g2⟩ := ih _ _ _ (by rw [List.length_eraseIdx_of_lt hi]; omega) ht h
        exact ⟨by omega, g2⟩
theorem splitAllW_small (l : List (Int × Int)) : (splitAllW l).2.length ≤ 41 ∧ ∀ t ∈ (splitAllW l).2, t.length ≤ 3 := by
  unfold splitAllW
  by_cases hc : checkW l l.length = 0
  · rw [if_pos hc]
    cases h : splitW (normalW l l.length).length (normalW l l.length) [] with
    | none => simp
    | some ts =>
      have h1 := splitW_small _ _ _ _ (by omega) (by simp) h
      have h2 := lenNorm l l.length
      have h3 := check_len hc
      refine ⟨?_, h1.2⟩
      have := h1.1
      simp at this
      show ts.length ≤ 41
      omega
  · rw [if_neg hc]; simp
theorem lt_mem {ls : List (List (Int × Int))} {k : Nat} (h : k < ls.length) : lt_ ls k ∈ ls := List.mem_of_getElem? (lt_some h)
def relW (a b : List (Int × Int)) : Int × Int :=
  if (splitAllW a).1 ≠ 0 then (0, (splitAllW a).1) else if (splitAllW b).1 ≠ 0 then (0, (splitAllW b).1) else (closTo (splitAllW a).2 (splitAllW b).2 (splitAllW a).2.length, 0)
def overW (a b : List (Int × Int)) : Bool × Int := ((relW a b).2 == 0 && (relW a b).1 == 1, (relW a b).2)
theorem relW_a {a b : List (Int × Int)} (h : ¬ (splitAllW a).1 = 0) : relW a b = (0, (splitAllW a).1) := by unfold relW; rw [if_pos h]
theorem relW_b {a b : List (Int × Int)} (h : (splitAllW a).1 = 0) (h2 : ¬ (splitAllW b).1 = 0) : relW a b = (0, (splitAllW b).1) := by unfold relW; rw [if_neg (by simpa using h), if_pos h2]
theorem relW_c {a b : List (Int × Int)} (h : (splitAllW a).1 = 0) (h2 : (splitAllW b).1 = 0) : relW a b = (closTo (splitAllW a).2 (splitAllW b).2 (splitAllW a).2.length, 0) := by unfold relW; rw [if_neg (by simpa using h), if_neg (by simpa using h2)]
set_option maxHeartbeats 1000000 in
set_option maxRecDepth 100000 in
theorem relation_any (A B : Option Addr) (ca cb na nb : Nat) (a b : List (Int × Int)) (w : World) (hna : na ≤ 9223372036854775807) (hnb : nb ≤ 9223372036854775807) (hca : na ≤ ca) (hcb : nb ≤ cb) (hsA : SpS w A na a) (hsB : SpS w B nb b) :
    Calls Tryz.prog 110 #[.slice A na ca, .slice B nb cb] w fun e w' => e = .returned (.tuple #[.int .i64 (relW a b).1, .int .i64 (relW a b).2]) ∧ Below w.heap.size w w' := by
  by_cases h1 : (splitAllW a).1 = 0
  · by_cases h2 : (splitAllW b).1 = 0
    · have hrel0 := Lib.hid (relW_c h1 h2)
      have sA := splitAllW_small a
      have sB := splitAllW_small b
      have HA := Lib.hid sA.2
      have HB := Lib.hid sB.2
      replace sA := sA.1
      replace sB := sB.1
      obtain ⟨ss, hss⟩ : ∃ ss, (splitAllW a).2 = ss := ⟨_, rfl⟩
      obtain ⟨ts, hts⟩ : ∃ ts, (splitAllW b).2 = ts := ⟨_, rfl⟩
      rw [hss] at hrel0 HA sA
      rw [hts] at hrel0 HB sB
      have HSS := Lib.hid hss
      have HTS := Lib.hid hts
      clear hss hts
      go_enter Tryz.func110, Tryz.ntmps110
      go_upto_region 8 with (go_at_call 148; first | (refine (split_all _ _ _ b _ hnb hcb (hsB.keep hb1)).mono ?_; rintro e w2 ⟨v2, rfl, ho2, hb2⟩; rw [HTS.out] at ho2) | (refine (split_all _ _ _ a _ hna hca hsA).mono ?_; rintro e w1 ⟨v1, rfl, ho1, hb1⟩; rw [HSS.out] at ho1))
      obtain ⟨A1, c1, rfl, hc1, hS1, -⟩ := (ho1.keep hb2).spss
      obtain ⟨A2, c2, rfl, hc2, hS2, -⟩ := ho2.spss
      have hb := Bl.call hb1 hb2
      clear ho1 ho2 hb1 hb2
      obtain ⟨ns, hns⟩ : ∃ ns, ss.length = ns := ⟨_, rfl⟩
      obtain ⟨nt, hnt⟩ : ∃ nt, ts.length = nt := ⟨_, rfl⟩
      rw [hns] at hS1 hc1 sA ⊢
      rw [hnt] at hS2 hc2 sB ⊢
      have HNS := Lib.hid hns
      have HNT := Lib.hid hnt
      clear hns hnt
      go_wp2_with fail
      go_loopw [9, 32] (fun r i wr => ∃ k : Nat, k ≤ ns ∧ i = .int .i64 k ∧ r = .int .i64 (closTo ss ts k) ∧ Below w2.heap.size w2 wr) (fun _ i _ => ns - (intOf i).toNat)
      case atStart => exact ⟨0, Nat.zero_le _, rfl, rfl, Below.refl _ _⟩
      case round =>
        obtain ⟨k, hk, rfl, rfl, hbr⟩ := hrel
        by_cases hlt : k < ns
        · obtain ⟨b1, o1, Ak, ck, rfl, hbl, e1, e2, e3, e4⟩ := (hS1.keep hbr).at_ hlt
          have l1 : (lt_ ss k).length ≤ 3 := HA.out _ (lt_mem (by rw [HNS.out]; exact hlt))
          obtain ⟨nk, hnk⟩ : ∃ nk, (lt_ ss k).length = nk := ⟨_, rfl⟩
          rw [hnk] at e1 e2 e3 l1
          clear hnk
          go_wp2_with fail
          clear e1
          obtain ⟨wo, rfl⟩ : ∃ wo : World, wo = wr := ⟨_, rfl⟩
          go_loopw [9, 38] (fun r i wx => ∃ j : Nat, j ≤ nt ∧ i = .int .i64 j ∧ r = .int .i64 (closIn (lt_ ss k) ts (closTo ss ts k) j) ∧ Below wo.heap.size wo wx) (fun _ i _ => nt - (intOf i).toNat)
          case atStart => exact ⟨0, Nat.zero_le _, rfl, rfl, Below.refl _ _⟩
          case round =>
            obtain ⟨j, hj, rfl, rfl, hbx⟩ := hrel
            by_cases hjn : j < nt
            · obtain ⟨b2, o2, Aj, cj, rfl, hbl2, g1, g2, g3, g4⟩ := (hS2.keep (Bl.call hbr hbx)).at_ hjn
              have l2 : (lt_ ts j).length ≤ 3 := HB.out _ (lt_mem (by rw [HNT.out]; exact hjn))
              obtain ⟨nj, hnj⟩ : ∃ nj, (lt_ ts j).length = nj := ⟨_, rfl⟩
              rw [hnj] at g1 g2 g3 l2
              clear hnj
              go_wp2_with (go_at_call 149; refine (contact_any _ _ _ _ _ _ (lt_ ss k) (lt_ ts j) _ (by omega) (by omega) (e3.keep hbx) g3).mono ?_; rintro e w5 ⟨rfl, hb5⟩)
              all_goals exact ⟨⟨j + 1, by omega, by go_num, by simp only [closIn]; congr 1; omega, Bl.call hbx hb5⟩, by simp [intOf]; omega⟩
            · obtain rfl : nt = j := by omega
              have e9 := Lib.hid (show closTo ss ts (k + 1) = closIn (lt_ ss k) ts (closTo ss ts k) nt by simp only [closTo]; rw [HNT.out])
              go_wp2_with fail
              exact ⟨⟨k + 1, by omega, by go_num, by rw [e9.out], Bl.call hbr hbx⟩, by simp [intOf]; omega⟩
        · obtain rfl : ns = k := by omega
          go_wp2_with fail
          go_ret2
          exact ⟨by rw [hrel0.out, HNS.out]; rfl, Bl.call hb hbr⟩
    · have hr := Lib.hid (relW_b h1 h2)
      have q2 : ((splitAllW b).1 != 0) = true := by simpa using h2
      go_enter Tryz.func110, Tryz.ntmps110
      go_wp2_with (go_at_call 148; first | (refine (split_all _ _ _ b _ hnb hcb (hsB.keep hb1)).mono ?_; rintro e w2 ⟨v2, rfl, ho2, hb2⟩) | (refine (split_all _ _ _ a _ hna hca hsA).mono ?_; rintro e w1 ⟨v1, rfl, ho1, hb1⟩))
      go_ret2
      exact ⟨by rw [hr.out]; rfl, Bl.call hb1 hb2⟩
  · have hr := Lib.hid (relW_a (b := b) h1)
    have q2 : ((splitAllW a).1 != 0) = true := by simpa using h1
    go_enter Tryz.func110, Tryz.ntmps110
    go_wp2_with (go_at_call 148; refine (split_all _ _ _ a _ hna hca hsA).mono ?_; rintro e w1 ⟨v1, rfl, ho1, hb1⟩)
    go_ret2
    exact ⟨by rw [hr.out]; rfl, hb1⟩
set_option maxHeartbeats 1000000 in
set_option maxRecDepth 100000 in
theorem overlap_any (A B : Option Addr) (ca cb na nb : Nat) (a b : List (Int × Int)) (w : World) (hna : na ≤ 9223372036854775807) (hnb : nb ≤ 9223372036854775807) (hca : na ≤ ca) (hcb : nb ≤ cb) (hsA : SpS w A na a) (hsB : SpS w B nb b) :
    Calls Tryz.prog 78 #[.slice A na ca, .slice B nb cb] w fun e w' => e = .returned (.tuple #[.bool (overW a b).1, .int .i64 (overW a b).2]) ∧ Below w.heap.size w w' := by
  by_cases h : (relW a b).2 = 0
  · have q : ((relW a b).2 == 0) = true := by simpa using h
    have e1 := Lib.hid (show overW a b = ((relW a b).1 == 1, (relW a b).2) by unfold overW; rw [q, Bool.true_and])
    clear h
    go_enter Tryz.func78, Tryz.ntmps78
    go_wp2_with (go_at_call 110; refine (relation_any _ _ _ _ _ _ a b _ hna hnb hca hcb hsA hsB).mono ?_; rintro e w1 ⟨rfl, hb1⟩)
    all_goals go_ret2
    all_goals exact ⟨by rw [e1.out]; rfl, hb1⟩
  · have q : ((relW a b).2 == 0) = false := by simpa using h
    have e1 := Lib.hid (show overW a b = (false, (relW a b).2) by unfold overW; rw [q, Bool.false_and])
    clear h
    go_enter Tryz.func78, Tryz.ntmps78
    go_wp2_with (go_at_call 110; refine (relation_any _ _ _ _ _ _ a b _ hna hnb hca hcb hsA hsB).mono ?_; rintro e w1 ⟨rfl, hb1⟩)
    all_goals go_ret2
    all_goals exact ⟨by rw [e1.out]; rfl, hb1⟩
end Go.Proofs.YtmdncaoilegnnaaGreat

namespace Go.Proofs.YtmdncaoilegnnaaGreat
set_option linter.unusedVariables false
set_option linter.unusedSimpArgs false
set_option linter.unusedVariables false
set_option linter.unusedSimpArgs false
open Go.RowKit

def intW (r : List (Int × Int)) (n : Nat) (d : Int × Int) (i : Nat) : Bool := decide (0 < crossW (gt r i) (gt r ((i + 1) % n)) d)
def interiorW (r : List (Int × Int)) (d : Int × Int) : Bool := AllB (intW r r.length d) r.length && decide (0 < r.length)
set_option maxHeartbeats 1000000 in
theorem interior_any (A : Option Addr) (cap n : Nat) (l : List (Int × Int)) (x y : Int) (w : World) (hn : n ≤ 1000000) (hs : SpS w A n l) :
    Calls Tryz.prog 167 #[.slice A n cap, .agg #[.int .i64 x, .int .i64 y]] w fun e w' => e = .returned (.bool (interiorW l (x, y))) ∧ Below w.heap.size w w' := by
  have hI := Lib.hid (show interiorW l (x, y) = (AllB (intW l n (x, y)) n && decide (0 < n)) by unfold interiorW; rw [hs.1])
  go_enter Tryz.func167, Tryz.ntmps167
  go_wp2_with fail
  go_loopw [10] (fun i wr => ∃ k : Nat, k ≤ n ∧ i = .int .i64 k ∧ Hid (AllB (intW l n (x, y)) k = true) ∧ Cls w [(⟨w.heap.size, 0, none⟩, .int .i64 x), (⟨w.heap.size, 1, none⟩, .int .i64 y)] wr) (fun i _ => n - (intOf i).toNat)
  case atStart => exact ⟨0, Nat.zero_le _, rfl, AllB.zero _, (Bl.alloc (Below.refl _ _) _), by simp only [List.mem_cons, List.not_mem_nil, forall_eq_or_imp, or_false, forall_eq]; go_simp⟩
  case round =>
    obtain ⟨k, hk, rfl, hp, hC⟩ := hrel
    by_cases hlt : k < n
    · obtain ⟨ba, oa, rfl, hbl, hc⟩ := (hs.keep hC.1).at_ hlt
      have hm1 : (k + 1) % n < n := Nat.mod_lt _ (by omega)
      obtain ⟨h1, h2⟩ := hc k hlt
      obtain ⟨h3, h4⟩ := hc _ hm1
      clear hc
      have hx := hC.2
      simp only [List.mem_cons, List.not_mem_nil, forall_eq_or_imp, or_false, forall_eq] at hx
      have hwl : w.heap.size < wr.heap.size := lt_of_cell hx.1
      have m1 := (modf ((k : Int) + 1) (k + 1) n rfl (by omega)).2
      by_cases hcr : crossW ((gt l k).1, (gt l k).2) ((gt l ((k + 1) % n)).1, (gt l ((k + 1) % n)).2) (x, y) ≤ 0
      · have HC := Lib.hid hcr
        clear hcr
        have hq := HC.out
        unfold crossW at hq
        go_wp2_with fail
        go_ret
        have e : intW l n (x, y) k = false := by unfold intW; have := HC.out; simp at this ⊢; omega
        exact ⟨ret_bool (by rw [hI.out, AllB.no hlt e]; rfl), Bl.alloc (Bl.alloc hC.1 _) _⟩
      · have HC := Lib.hid hcr
        clear hcr
        have hq := HC.out
        unfold crossW at hq
        go_wp2_with fail
        have e : intW l n (x, y) k = true := by unfold intW; have := HC.out; simp at this ⊢; omega
        exact ⟨⟨k + 1, by omega, by go_num, AllB.succ hp.out e, hC.call (Bl.alloc (Bl.alloc (Below.refl _ _) _) _)⟩, by simp [intOf]; omega⟩
    · obtain rfl : n = k := by omega
      go_wp2_with fail
      go_ret
      exact ⟨ret_bool (by rw [hI.out, hp.out]; simp), hC.1⟩
def blockedW (rs : List (List (Int × Int))) (d : Int × Int) : Bool := !outB 2097152 d && AnyB (fun i => interiorW (lt_ rs i) d) rs.length
set_option maxHeartbeats 1000000 in
theorem blocked_any (A : Option Addr) (cap n : Nat) (ls : List (List (Int × Int))) (x y : Int) (w : World) (hn : n ≤ 1000000) (hl : ∀ t ∈ ls, t.length ≤ 1000000) (hs : SpSS w A n ls) :
    Calls Tryz.prog 120 #[.slice A n cap, .agg #[.int .i64 x, .int .i64 y]] w fun e w' => e = .returned (.bool (blockedW ls (x, y))) ∧ Below w.heap.size w w' := by
  have hB := Lib.hid (show blockedW ls (x, y) = (!outB 2097152 (x, y) && AnyB (fun i => interiorW (lt_ ls i) (x, y)) n) by unfold blockedW; rw [hs.1])
  have HL := Lib.hid hl
  have HN := Lib.hid hs.1
  clear hl
  by_cases ho : outB 2097152 (x, y) = true
  · have hq := ho
    unfold outB at hq
    simp only [Bool.or_eq_true, decide_eq_true_eq] at hq
    have HO := Lib.hid ho
    clear ho
    go_enter Tryz.func120, Tryz.ntmps120
    go_upto_region 3 with fail
    all_goals first
      | (go_ret; exact ⟨ret_bool (by rw [hB.out, HO.out]; rfl), Bl.alloc (Below.refl _ _) _⟩)
      | (exfalso; omega)
  · have hq := ho
    unfold outB at hq
    simp only [Bool.or_eq_true, decide_eq_true_eq, not_or] at hq
    have HO := Lib.hid (show outB 2097152 (x, y) = false by simpa using ho)
    clear ho
    go_enter Tryz.func120, Tryz.ntmps120
    go_wp2_with fail
    go_loopw [27] (fun i wr => ∃ k : Nat, k ≤ n ∧ i = .int .i64 k ∧ Hid (AnyB (fun i => interiorW (lt_ ls i) (x, y)) k = false) ∧ Cls w [(⟨w.heap.size, 0, none⟩, .int .i64 x), (⟨w.heap.size, 1, none⟩, .int .i64 y)] wr) (fun i _ => n - (intOf i).toNat)
    case atStart => exact ⟨0, Nat.zero_le _, rfl, AnyB.zero _, (Bl.alloc (Below.refl _ _) _), by simp only [List.mem_cons, List.not_mem_nil, forall_eq_or_imp, or_false, forall_eq]; go_simp⟩
    case round =>
      obtain ⟨k, hk, rfl, hp, hC⟩ := hrel
      by_cases hlt : k < n
      · obtain ⟨b1, o1, Ak, ck, rfl, hbl, e1, e2, e3, e4⟩ := (hs.keep hC.1).at_ hlt
        have l1 : (lt_ ls k).length ≤ 1000000 := HL.out _ (lt_mem (by rw [HN.out]; exact hlt))
        obtain ⟨nk, hnk⟩ : ∃ nk, (lt_ ls k).length = nk := ⟨_, rfl⟩
        rw [hnk] at e1 e2 e3 l1
        clear hnk
        have hx := hC.2
        simp only [List.mem_cons, List.not_mem_nil, forall_eq_or_imp, or_false, forall_eq] at hx
        go_wp2_with (go_at_call 167; refine (interior_any _ _ _ (lt_ ls k) _ _ _ (by omega) e3).mono ?_; rintro e w1 ⟨rfl, hb1⟩)
        · go_ret
          exact ⟨ret_bool (by rw [hB.out, HO.out, AnyB.yes hlt (by assumption)]; rfl), Bl.call hC.1 hb1⟩
        · exact ⟨⟨k + 1, by omega, by go_num, AnyB.succ hp.out (by simpa using ‹_›), hC.call hb1⟩, by simp [intOf]; omega⟩
      · obtain rfl : n = k := by omega
        go_wp2_with fail
        go_ret
        exact ⟨ret_bool (by rw [hB.out, hp.out]; simp), hC.1⟩
end Go.Proofs.YtmdncaoilegnnaaGreat

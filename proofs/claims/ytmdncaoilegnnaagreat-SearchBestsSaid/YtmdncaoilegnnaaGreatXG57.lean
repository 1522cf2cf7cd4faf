/- Lean texts of the claim. -/
import Derived.Test.YtmdncaoilegnnaaGreatXG56
namespace Go.Proofs.YtmdncaoilegnnaaGreat
set_option linter.unusedVariables false
set_option linter.unusedSimpArgs false
section
set_option maxRecDepth 100000
open Go.RowKit
def ptIn (rs : List (List (Int × Int))) (r acc : List (Int × Int)) : Nat → List (Int × Int)
 | 0 => acc
 | j + 1 => if blockedW rs (gt r j) then ptIn rs r acc j else insG lessS (gt r j) (ptIn rs r acc j)
def ptTo (rs : List (List (Int × Int))) : Nat → List (Int × Int)
 | 0 => []
 | i + 1 => ptIn rs (lt_ rs i) (ptTo rs i) (lt_ rs i).length
theorem ptIn_yes {rs : List (List (Int × Int))} {r acc : List (Int × Int)} {j : Nat} (h : blockedW rs (gt r j) = true) : ptIn rs r acc (j + 1) = ptIn rs r acc j := by rw [ptIn, if_pos h]
theorem ptIn_no {rs : List (List (Int × Int))} {r acc : List (Int × Int)} {j : Nat} (h : blockedW rs (gt r j) = false) : ptIn rs r acc (j + 1) = insG lessS (gt r j) (ptIn rs r acc j) := by rw [ptIn, if_neg (by rw [h]; simp)]
namespace Ears
theorem wth_blocked {a b : List P} (ha : checkW a a.length = 0) (hb : checkW b b.length = 0) (d : P) : AnyB (wthW (regionsW a b).2 d) (regionsW a b).2.length = blockedW (regionsW a b).2 d := by
 obtain ⟨_, hr⟩ := regions_ok ha hb
 have ta := tris ha
 have tb := tris hb
 rw [Bool.eq_iff_iff]
 constructor
 ·intro h
  obtain ⟨i, hi, h⟩ := AnyB.iff.1 h
  unfold wthW at h
  rw [Bool.and_eq_true, Bool.not_eq_true'] at h
  obtain ⟨s, hs, t, ht, e⟩ := (hr _).1 (lt_in hi)
  obtain ⟨L, x, y, _, reg⟩ := Sum_tri (ta s hs) (tb t ht)
  rw [e] at h
  have h3 := reg.cvx.len
  have hI : interiorW (SumW s (negW t)).2 d = true := by
   unfold interiorW
   rw [h.2, Bool.true_and]
   exact decide_eq_true (by omega)
  exact (blocked_iff ha hb d).2 ⟨s, hs, t, ht, (reg.inside (near_of_out h.1)).1 hI⟩
 ·intro h
  unfold blockedW at h
  rw [Bool.and_eq_true, Bool.not_eq_true', AnyB.iff] at h
  obtain ⟨ho, i, hi, h⟩ := h
  unfold interiorW at h
  rw [Bool.and_eq_true] at h
  refine AnyB.iff.2 ⟨i, hi, ?_⟩
  unfold wthW
  rw [h.1, out_near (near_mono (near_of_out ho) (by omega))]
  rfl
theorem lessS_tot (x y : P) (h1 : lessS x y = false) (h2 : lessS y x = false) : x = y := by
 rcases less_tri x y with e | e | e
 ·exact e
 ·rw [h1] at e; cases e
 ·rw [h2] at e; cases e
theorem lessS_tr (x y z : P) (h1 : lessS x y = true) (h2 : lessS y z = true) : lessS x z = true := less_trans h1 h2
theorem ptIn_len {rs : List (List P)} {r acc : List P} : ∀ j, (ptIn rs r acc j).length ≤ acc.length + j
 | 0 => Nat.le_refl _
 | j + 1 => by
   have ih := ptIn_len (rs := rs) (r := r) (acc := acc) j
   rw [ptIn]; split
   ·omega
   ·have := insG_len (lt := lessS) (gt r j) (ptIn rs r acc j); omega
theorem ptTo_len {rs : List (List P)} {c : Nat} (h : ∀ t ∈ rs, t.length ≤ c) : ∀ i, i ≤ rs.length → (ptTo rs i).length ≤ i * c
 | 0, _ => by simp [ptTo]
 | i + 1, hi => by
   have ih := ptTo_len h i (by omega)
   have h1 := ptIn_len (rs := rs) (r := lt_ rs i) (acc := ptTo rs i) (lt_ rs i).length
   have h2 := h _ (lt_in (ls := rs) (i := i) (by omega))
   rw [ptTo, Nat.add_mul]; omega
theorem ptIn_mem {rs : List (List P)} {r acc : List P} : ∀ j q, q ∈ ptIn rs r acc j ↔ q ∈ acc ∨ ∃ i, i < j ∧ q = gt r i ∧ blockedW rs q = false
 | 0, q => by simp [ptIn]
 | j + 1, q => by
   cases h : blockedW rs (gt r j) with
   | true =>
     rw [ptIn_yes h, ptIn_mem j q]
     constructor
     ·rintro (h1 | ⟨i, hi, h1⟩)
      ·exact .inl h1
      ·exact .inr ⟨i, by omega, h1⟩
     ·rintro (h1 | ⟨i, hi, h1, h2⟩)
      ·exact .inl h1
      ·by_cases c : i = j
       ·subst c; rw [h1, h] at h2; cases h2
       ·exact .inr ⟨i, by omega, h1, h2⟩
   | false =>
     rw [ptIn_no h, insG_mem lessS_tot, ptIn_mem j q]
     constructor
     ·rintro ((h1 | ⟨i, hi, h1⟩) | h1)
      ·exact .inl h1
      ·exact .inr ⟨i, by omega, h1⟩
      ·exact .inr ⟨j, by omega, h1, by rw [h1]; exact h⟩
     ·rintro (h1 | ⟨i, hi, h1, h2⟩)
      ·exact .inl (.inl h1)
      ·by_cases c : i = j
       ·subst c; exact .inr h1
       ·exact .inl (.inr ⟨i, by omega, h1, h2⟩)
theorem ptTo_mem {rs : List (List P)} : ∀ k, k ≤ rs.length → ∀ q, q ∈ ptTo rs k ↔ ∃ i, i < k ∧ q ∈ lt_ rs i ∧ blockedW rs q = false
 | 0, _, q => by simp [ptTo]
 | k + 1, hk, q => by
   rw [ptTo, ptIn_mem, ptTo_mem k (by omega) q]
   constructor
   ·rintro (⟨i, hi, h⟩ | ⟨j, hj, h1, h2⟩)
    ·exact ⟨i, by omega, h⟩
    ·exact ⟨k, by omega, by rw [h1]; exact gt_in hj, h2⟩
   ·rintro ⟨i, hi, h1, h2⟩
    by_cases c : i = k
    ·subst c
     obtain ⟨j, hj, e⟩ := mem_gt h1
     exact .inr ⟨j, hj, e.symm, h2⟩
    ·exact .inl ⟨i, by omega, h1, h2⟩
theorem ptIn_pw {rs : List (List P)} {r acc : List P} (h : acc.Pairwise (fun x y => lessS x y = true)) : ∀ j, (ptIn rs r acc j).Pairwise (fun x y => lessS x y = true)
 | 0 => h
 | j + 1 => by
   rw [ptIn]; split
   ·exact ptIn_pw h j
   ·exact insG_pw lessS_tr lessS_tot _ (ptIn_pw h j)
theorem ptTo_pw {rs : List (List P)} : ∀ k, (ptTo rs k).Pairwise (fun x y => lessS x y = true)
 | 0 => by simp [ptTo]
 | k + 1 => by rw [ptTo]; exact ptIn_pw (ptTo_pw k) _
theorem asc_of_nodup {l : List P} (h : l.Pairwise (fun x y => lessS y x = false)) (nd : l.Nodup) : l.Pairwise (fun x y => lessS x y = true) := by
 refine List.pairwise_iff_getElem.2 fun i j hi hj hij => ?_
 have h1 := List.pairwise_iff_getElem.1 h i j hi hj hij
 rcases less_tri l[i] l[j] with e | e | e
 ·exact absurd e (List.pairwise_iff_getElem.1 nd i j hi hj hij)
 ·exact e
 ·rw [h1] at e; cases e
theorem ptTo_spots (rs : List (List P)) : ptTo rs rs.length = spotsOf rs := by
 refine asc_ext less_irr lessS_tr _ _ (ptTo_pw _) ?_ fun q => ?_
 ·unfold spotsOf
  refine asc_of_nodup (sort_pw _) ?_
  unfold sortW
  exact (List.mergeSort_perm _ _).nodup_iff.2 ((nodup_uniq _).filter _)
 ·rw [ptTo_mem _ (Nat.le_refl _)]
  unfold spotsOf
  rw [sort_mem, List.mem_filter, mem_uniq, List.mem_flatten, Bool.not_eq_true']
  constructor
  ·rintro ⟨i, hi, h1, h2⟩; exact ⟨⟨_, lt_in hi, h1⟩, h2⟩
  ·rintro ⟨⟨t, ht, h1⟩, h2⟩
   obtain ⟨i, hi, rfl⟩ := mem_lt ht
   exact ⟨i, hi, h1, h2⟩
theorem reg_check {a b : List P} (h : (regionsW a b).1 = 0) : checkW a a.length = 0 ∧ checkW b b.length = 0 := by
 by_cases ha : checkW a a.length = 0
 ·by_cases hb : checkW b b.length = 0
  ·exact ⟨ha, hb⟩
  ·rw [regions_bad2 ha hb] at h; exact absurd h hb
 ·rw [regions_bad1 ha] at h; exact absurd h ha
end Ears
set_option maxHeartbeats 2000000 in
theorem rspots_any (A B : Option Addr) (ca cb na nb : Nat) (a b : List (Int × Int)) (w : World) (hna : na ≤ 9223372036854775807) (hnb : nb ≤ 9223372036854775807) (hca : na ≤ ca) (hcb : nb ≤ cb) (hsA : SpS w A na a) (hsB : SpS w B nb b) :
 Calls Tryz.prog 68 #[.slice A na ca, .slice B nb cb] w (RetSE w (spotsW a b)) := by
 have hin := regionsW_in a b
 have HEQ := Hj (fun (h : (regionsW a b).1 = 0) d => Ears.wth_blocked (Ears.reg_check h).1 (Ears.reg_check h).2 d)
 have H1 := Hj (rregions_any A B ca cb na nb a b w hna hnb hca hcb hsA hsB)
 have HSP := Hj (show spotsW a b = if (regionsW a b).1 ≠ 0 then ((regionsW a b).1, []) else (0, spotsOf (regionsW a b).2) from rfl)
 obtain ⟨r, hr⟩ : ∃ r, regionsW a b = r := ⟨_, rfl⟩
 rw [hr] at H1 hin HEQ HSP
 clear hr
 by_cases h0 : r.1 = 0
 ·have q : (r.1 != 0) = false := by rw [h0]; rfl
  have HR := Hj (show spotsW a b = (0, ptTo r.2 r.2.length) by rw [HSP.out, if_neg (by rw [h0]; simp), Ears.ptTo_spots])
  have HEQ2 := Hj (HEQ.out h0)
  have HPL := Hj (Ears.ptTo_len (rs := r.2) (c := 160) (fun t ht => (hin.2 t ht).1))
  obtain ⟨rs, hrs⟩ : ∃ rs, r.2 = rs := ⟨_, rfl⟩
  have hr2 : r = (r.1, rs) := by rw [← hrs]
  rw [hrs] at HR HEQ2 HPL hin
  rw [hr2] at H1
  obtain ⟨n, hn⟩ : ∃ n, rs.length = n := ⟨_, rfl⟩
  rw [hn] at HR HEQ2 HPL hin
  have hnl := hin.1
  have HN := Hj hn
  have HLL := Hj (show ∀ t ∈ rs, t.length ≤ 1000000 from fun t ht => Nat.le_trans (hin.2 t ht).1 (by omega))
  have HLK := Hj (show ∀ k, k < n → (lt_ rs k).length ≤ 160 from fun k hk => (hin.2 _ (Ears.lt_in (by rw [hn]; exact hk))).1)
  clear hn hin hr2 hrs HEQ HSP h0
  go_enter Tryz.func68, Tryz.ntmps68
  go_wp2_with (go_at_call 99; refine H1.out.mono ?_; rintro e w1 ⟨v1, rfl, ho1, hb1⟩)
  obtain ⟨A1, c1, rfl, hc1, hS1, -⟩ := ho1.spss
  rw [HN.out] at hc1 hS1 ⊢
  clear ho1 H1
  go_loopw [8, 9] (fun s8 s9 wr => ∃ i : Nat, i ≤ n ∧ s9 = .int .i64 i ∧ OwS wr w1.heap.size s8 (ptTo rs i) ∧ Below w1.heap.size w1 wr) (fun _ i _ => n - (intOf i).toNat)
  case atStart => exact ⟨0, Nat.zero_le _, rfl, OwG.nil, Below.refl _ _⟩
  case round =>
   obtain ⟨i, hi, rfl, ho, hb⟩ := hrel
   by_cases hlt : i < n
   ·obtain ⟨b1, o1, Ak, ck, hA1, -, x1, x2, x3, -⟩ := hS1.at_ hlt
    have hXl := HLK.out i hlt
    have HPI := Hj (show (ptTo rs i).length ≤ i * 160 from HPL.out i (by omega))
    have HE := Hj (show ptTo rs (i + 1) = ptIn rs (lt_ rs i) (ptTo rs i) (lt_ rs i).length from rfl)
    obtain ⟨t, ht⟩ : ∃ t, lt_ rs i = t := ⟨_, rfl⟩
    rw [ht] at hXl x1 x2 x3 HE
    clear ht
    obtain ⟨xl, hxl⟩ : ∃ xl, t.length = xl := ⟨_, rfl⟩
    rw [hxl] at hXl x1 x2 x3 HE
    clear hxl
    have z1 : (i : Int) < (n : Int) := by omega
    subst hA1
    go_wp2_with fail
    obtain ⟨wo, rfl⟩ : ∃ wo : World, wo = wr := ⟨_, rfl⟩
    go_loopw [8, 10] (fun s8 s10 wr => ∃ j : Nat, j ≤ xl ∧ s10 = .int .i64 j ∧ OwS wr w1.heap.size s8 (ptIn rs t (ptTo rs i) j) ∧ Below w1.heap.size w1 wr) (fun _ i _ => xl - (intOf i).toNat)
    case atStart => exact ⟨0, Nat.zero_le _, rfl, ho, hb⟩
    case round =>
     clear ho hb
     obtain ⟨j, hj, rfl, ho, hb⟩ := hrel
     have d1 := Xa hb x1
     by_cases hjn : j < xl
     ·obtain ⟨b2, o2, rfl, -, hcc⟩ := (x3.keep hb).at_ hjn
      obtain ⟨y1, y2⟩ := hcc j hjn
      clear hcc
      have z2 : (j : Int) < (xl : Int) := by omega
      have hsz : (ptIn rs t (ptTo rs i) j).length ≤ 900000 := by
       have := Ears.ptIn_len (rs := rs) (r := t) (acc := ptTo rs i) j
       have := HPI.out
       omega
      have HV := Hj (HEQ2.out (gt t j))
      cases hv : blockedW rs (gt t j) with
      | true =>
        have HPN := Hj (ptIn_yes (acc := ptTo rs i) hv)
        rw [hv] at HV
        clear hv
        go_wp2_with (go_at_call 100; refine (rwthin_any _ _ _ rs (gt t j).1 (gt t j).2 _ (by omega) HLL.out (hS1.keep hb)).mono ?_; rintro e w3 ⟨rfl, hb3⟩; rw [show AnyB (wthW rs ((gt t j).1, (gt t j).2)) n = true from HV.out])
        exact ⟨⟨j + 1, by omega, by go_num, by rw [HPN.out]; exact OwG.keep ho hb3, Bl.call hb hb3⟩, by simp [intOf]; omega⟩
      | false =>
        have HPN := Hj (ptIn_no (acc := ptTo rs i) hv)
        rw [hv] at HV
        clear hv
        obtain ⟨A8, c8, hu8, -, hS8, -⟩ := ho.sps
        rw [hu8] at ho ⊢
        clear hu8
        go_wp2_with (first
         | (go_at_call 101; have hz := hb3; refine (rput_any _ _ _ (ptIn rs t (ptTo rs i) j) (gt t j).1 (gt t j).2 _ hsz (hS8.keep hb3)).mono ?_; rintro e w4 ⟨v4, rfl, ho4, hb4⟩)
         | (go_at_call 100; refine (rwthin_any _ _ _ rs (gt t j).1 (gt t j).2 _ (by omega) HLL.out (hS1.keep hb)).mono ?_; rintro e w3 ⟨rfl, hb3⟩; rw [show AnyB (wthW rs ((gt t j).1, (gt t j).2)) n = false from HV.out]; have e1 := Xa hb3 d1; have e2 := Xa hb3 y1; have e3 := Xa hb3 y2))
        exact ⟨⟨j + 1, by omega, by go_num, by rw [HPN.out]; exact OwG.lower ho4 (Bl.call hb hb3).size, Bl.call (Bl.call hb hb3) hb4⟩, by simp [intOf]; omega⟩
     ·obtain rfl : xl = j := by omega
      go_wp2_with fail
      exact ⟨⟨i + 1, by omega, by go_num, by rw [HE.out]; exact ho, hb⟩, by simp [intOf]; omega⟩
   ·obtain rfl : n = i := by omega
    go_wp2_with fail
    go_ret2
    exact ⟨_, by rw [HR.out]; rfl, by rw [HR.out]; exact OwG.lower ho hb1.size, Bl.call hb1 hb⟩
 ·have q : (r.1 != 0) = true := by rw [bne_iff_ne]; exact h0
  have HR := Hj (show spotsW a b = (r.1, []) by rw [HSP.out, if_pos h0])
  clear h0 HEQ hin HSP
  go_enter Tryz.func68, Tryz.ntmps68
  go_wp2_with (go_at_call 99; refine H1.out.mono ?_; rintro e w1 ⟨v1, rfl, ho1, hb1⟩)
  go_ret2
  exact ⟨_, by rw [HR.out]; rfl, by rw [HR.out]; exact OwG.nil, hb1⟩
end
end Go.Proofs.YtmdncaoilegnnaaGreat

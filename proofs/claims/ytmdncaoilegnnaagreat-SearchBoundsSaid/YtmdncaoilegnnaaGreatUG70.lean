/- garmentref11.Area2, garmentref32: shortest, Light, Bound. garmentref32: Bound. -/
import Derived.Test.YtmdncaoilegnnaaGreatUG79
import Derived.Test.YtmdncaoilegnnaaGreatUG59
import Derived.Test.YtmdncaoilegnnaaGreatUG67
import Derived.Test.YtmdncaoilegnnaaGreatUG25
import Derived.Test.YtmdncaoilegnnaaGreatUG28
namespace Go.Proofs.YtmdncaoilegnnaaGreat
set_option linter.unusedVariables false
set_option linter.unusedSimpArgs false
set_option linter.unusedVariables false
set_option linter.unusedSimpArgs false
open Go.RowKit

def shoTo (l : List (Int × Int)) (ts : List Trn) : Nat → Int
  | 0 => -1
  | k + 1 => if shoTo l ts k < 0 ∨ widW (tpolW (tr ts k).1 (tr ts k).2 l) l.length < shoTo l ts k then widW (tpolW (tr ts k).1 (tr ts k).2 l) l.length else shoTo l ts k
theorem wid_pos {l : List (Int × Int)} (h : checkW l l.length = 0) : 0 ≤ widW l l.length := by
  have hn := check_near h
  have h3 := (check_len h).1
  obtain ⟨i, hi, e1⟩ := hiX_at (l := l) (n := l.length) (by omega)
  obtain ⟨j, hj, e2⟩ := loX_at (l := l) (n := l.length) (by omega)
  have h4 := hiX_ge (l := l) (n := l.length) (i := j) hj
  have n1 := hn (gt l i) (List.mem_of_getElem? (gt_some hi))
  have n2 := hn (gt l j) (List.mem_of_getElem? (gt_some hj))
  unfold nearB at n1 n2
  unfold widW wrap64
  omega
theorem sho_nar {l : List (Int × Int)} {ts : List Trn} (hc : checkW l l.length = 0) (hf : ∀ k, k < ts.length → (tr ts k).1 = false) : ∀ k, k < ts.length → narTo l ts (k + 1) = (0, shoTo l ts (k + 1)) ∧ 0 ≤ shoTo l ts (k + 1) := by
  intro k
  have hk : ∀ k, k < ts.length → checkW (tpolW (tr ts k).1 (tr ts k).2 l) l.length = 0 := fun k h => by rw [hf k h]; exact check_turn hc _
  have hw : ∀ k, k < ts.length → 0 ≤ widW (tpolW (tr ts k).1 (tr ts k).2 l) l.length := fun k h => by
    have := wid_pos (l := tpolW (tr ts k).1 (tr ts k).2 l) (by rw [tpolW_len]; exact hk k h)
    rwa [tpolW_len] at this
  induction k with
  | zero =>
    intro h
    have h1 := hk 0 h
    refine ⟨?_, ?_⟩
    · rw [narTo, if_neg (by simp [narTo]), if_neg (by rw [h1]; simp), if_pos (.inl rfl), shoTo, if_pos (.inl (by simp [shoTo]))]
    · rw [shoTo, if_pos (.inl (by simp [shoTo]))]; exact hw 0 h
  | succ k ih =>
    intro h
    have h1 := hk (k + 1) h
    have h2 := hw (k + 1) h
    obtain ⟨e, p⟩ := ih (by omega)
    refine ⟨?_, ?_⟩
    · rw [narTo, e, if_neg (by simp), if_neg (by rw [h1]; simp)]
      show _ = (0, if shoTo l ts (k + 1) < 0 ∨ widW (tpolW (tr ts (k + 1)).1 (tr ts (k + 1)).2 l) l.length < shoTo l ts (k + 1) then widW (tpolW (tr ts (k + 1)).1 (tr ts (k + 1)).2 l) l.length else shoTo l ts (k + 1))
      have e2 : (k + 1 = 0 ∨ widW (tpolW (tr ts (k + 1)).1 (tr ts (k + 1)).2 l) l.length < shoTo l ts (k + 1)) ↔ (shoTo l ts (k + 1) < 0 ∨ widW (tpolW (tr ts (k + 1)).1 (tr ts (k + 1)).2 l) l.length < shoTo l ts (k + 1)) := by
        constructor
        · rintro (h | h)
          · omega
          · exact .inr h
        · rintro (h | h)
          · omega
          · exact .inr h
      simp only [e2]
    · rw [shoTo]; split <;> assumption
theorem nar_ref {l : List (Int × Int)} {g : Int} (hc : checkW l l.length = 0) (h0 : ¬ (allW g false).length = 0) : narW l g = (0, shoTo l (allW g false) (allW g false).length) := by
  unfold narW
  rw [if_neg (by rw [hc]; simp), if_neg h0]
  obtain ⟨m, hm⟩ : ∃ m, (allW g false).length = m + 1 := ⟨(allW g false).length - 1, by omega⟩
  rw [hm]
  exact (sho_nar hc (fun k hk => allW_in hk) m (by omega)).1
set_option maxHeartbeats 1000000 in
theorem rarea2_any (A : Option Addr) (cap n : Nat) (l : List (Int × Int)) (w : World) (hl : n ≤ 9223372036854775807) (hcap : n ≤ cap) (hs : SpS w A n l) :
    Calls Tryz.prog 53 #[.slice A n cap] w fun e w' => e = .returned (.int .i64 (if checkW l n = 0 then areaW l n n else 0)) ∧ Below w.heap.size w w' := by
  by_cases hc : checkW l n = 0
  · rw [if_pos hc]
    have hln := check_len hc
    have q : (checkW l n != 0) = false := by rw [hc]; rfl
    clear hc
    obtain ⟨b, off, rfl, -, -⟩ := hs.at_ (show 0 < n by omega)
    go_enter Tryz.func53, Tryz.ntmps53
    go_wp2_with (first | (go_at_call 52; refine (rcheck_any _ _ _ l _ (by omega) hcap hs).mono ?_; rintro e w1 ⟨rfl, hb1⟩) | (go_at_call 89; refine (rtwice_any _ _ _ _ l _ (by omega) (by omega) hcap (hs.keep hb1)).mono ?_; rintro e w2 ⟨rfl, hb2⟩))
    go_ret
    exact ⟨rfl, Bl.call hb1 hb2⟩
  · rw [if_neg hc]
    have q : (checkW l n != 0) = true := by simpa using hc
    clear hc
    go_enter Tryz.func53, Tryz.ntmps53
    go_wp2_with (go_at_call 52; refine (rcheck_any _ _ _ l _ (by omega) hcap hs).mono ?_; rintro e w1 ⟨rfl, hb1⟩)
    go_ret
    exact ⟨rfl, hb1⟩
set_option maxHeartbeats 2000000 in
set_option maxRecDepth 100000 in
theorem rsho_any (A At : Option Addr) (cap n nt ct : Nat) (l : List (Int × Int)) (ts : List Trn) (w : World) (hnt : nt ≤ 8) (hcap : n ≤ cap) (hs : SpS w A n l) (hT : TrS w At nt ts) (hc : checkW l n = 0) (hf : ∀ k, k < nt → (tr ts k).1 = false) :
    Calls Tryz.prog 54 #[.slice A n cap, .slice At nt ct] w fun e w' => e = .returned (.int .i64 (shoTo l ts nt)) ∧ Below w.heap.size w w' := by
  have hln := check_len hc
  have HC := Lib.hid hc
  have HL := Lib.hid hs.1
  have HF := Lib.hid hf
  clear hc hf
  go_enter Tryz.func54, Tryz.ntmps54
  go_wp2_with fail
  go_loopw [5, 6] (fun v i wr => ∃ k : Nat, k ≤ nt ∧ i = .int .i64 k ∧ v = .int .i64 (shoTo l ts k) ∧ Below w.heap.size w wr) (fun _ i _ => nt - (intOf i).toNat)
  case atStart => exact ⟨0, Nat.zero_le _, rfl, rfl, Below.refl _ _⟩
  case round =>
    obtain ⟨k, hk, rfl, rfl, hb⟩ := hrel
    by_cases hlt : k < nt
    · obtain ⟨-, hT2⟩ := hT.keep hb
      rcases hT2 with h | ⟨sb, rfl, hT2⟩
      · omega
      obtain ⟨d1, d2⟩ := hT2 k hlt
      have hfk := HF.out k hlt
      clear hT2
      have hstep := Lib.hid (show shoTo l ts (k + 1) = _ by rw [shoTo])
      rw [HL.out] at hstep
      obtain ⟨t, ht⟩ : ∃ t, tr ts k = t := ⟨_, rfl⟩
      rw [ht] at d1 d2 hstep hfk
      clear ht
      obtain ⟨tf, tq⟩ := t
      dsimp only at d1 d2 hstep hfk
      subst hfk
      obtain ⟨ee, hee⟩ : ∃ ee, shoTo l ts k = ee := ⟨_, rfl⟩
      rw [hee] at hstep ⊢
      clear hee
      have hcr := check_turn (l := l) (by rw [HL.out]; exact HC.out) tq
      have hr5 := tpolW_len false tq l
      rw [HL.out] at hr5 hcr
      obtain ⟨r, hr⟩ : ∃ r, tpolW false tq l = r := ⟨_, rfl⟩
      rw [hr] at hstep hr5 hcr
      have HTP := Lib.hid hr
      have HR5 := Lib.hid hr5
      have HCR := Lib.hid hcr
      clear hr hr5 hcr
      have hsT := hs.keep hb
      unfold widW at hstep
      by_cases h1 : ee < 0
      · rw [if_pos (.inl h1)] at hstep
        go_wp2_with (first | (go_at_call 66; refine (rtpoly_any _ _ _ _ _ l _ (by omega) hsT).mono ?_; rintro e w5 ⟨v5, rfl, ho5, hb5⟩; rw [HTP.out] at ho5; obtain ⟨A5, c5, rfl, hc5, hS5, hA5⟩ := OwS.sps ho5; rw [HR5.out] at hS5 hc5 hA5 ⊢; obtain ⟨gb, rfl, hgb1, hgb2⟩ := hA5 (by omega)) | (go_at_call 67; refine (rbox_ok _ _ _ _ r _ (by omega) hc5 hS5 HCR.out (by omega)).mono ?_; rintro e w6 ⟨rfl, hb6⟩))
        exact ⟨⟨k + 1, by omega, by go_num, by rw [hstep.out], Bl.alloc (Bl.call (Bl.call hb hb5) hb6) _⟩, by simp [intOf]; omega⟩
      · have h1' := Int.not_lt.1 h1
        by_cases h2 : wrap64 (hiX r n - loX r n) < ee
        · rw [if_pos (.inr h2)] at hstep
          clear h1
          go_wp2_with (first | (go_at_call 66; refine (rtpoly_any _ _ _ _ _ l _ (by omega) hsT).mono ?_; rintro e w5 ⟨v5, rfl, ho5, hb5⟩; rw [HTP.out] at ho5; obtain ⟨A5, c5, rfl, hc5, hS5, hA5⟩ := OwS.sps ho5; rw [HR5.out] at hS5 hc5 hA5 ⊢; obtain ⟨gb, rfl, hgb1, hgb2⟩ := hA5 (by omega)) | (go_at_call 67; refine (rbox_ok _ _ _ _ r _ (by omega) hc5 hS5 HCR.out (by omega)).mono ?_; rintro e w6 ⟨rfl, hb6⟩))
          exact ⟨⟨k + 1, by omega, by go_num, by rw [hstep.out], Bl.alloc (Bl.call (Bl.call hb hb5) hb6) _⟩, by simp [intOf]; omega⟩
        · rw [if_neg (by intro h; exact h.elim h1 h2)] at hstep
          have h2' := Int.not_lt.1 h2
          clear h1 h2
          go_wp2_with (first | (go_at_call 66; refine (rtpoly_any _ _ _ _ _ l _ (by omega) hsT).mono ?_; rintro e w5 ⟨v5, rfl, ho5, hb5⟩; rw [HTP.out] at ho5; obtain ⟨A5, c5, rfl, hc5, hS5, hA5⟩ := OwS.sps ho5; rw [HR5.out] at hS5 hc5 hA5 ⊢; obtain ⟨gb, rfl, hgb1, hgb2⟩ := hA5 (by omega)) | (go_at_call 67; refine (rbox_ok _ _ _ _ r _ (by omega) hc5 hS5 HCR.out (by omega)).mono ?_; rintro e w6 ⟨rfl, hb6⟩))
          exact ⟨⟨k + 1, by omega, by go_num, by rw [hstep.out], Bl.alloc (Bl.call (Bl.call hb hb5) hb6) _⟩, by simp [intOf]; omega⟩
    · obtain rfl : nt = k := by omega
      go_wp2_with fail
      go_ret
      exact ⟨rfl, hb⟩
def lghtW (S : List Shp) : Bool := decide (S.length ≤ 70) && AllB (fun i => decide ((shp S i).poly.length ≤ 60)) S.length
theorem lghtW_len {S : List Shp} (h : lghtW S = true) : S.length ≤ 70 := by
  unfold lghtW at h
  simp at h
  exact h.1
set_option maxHeartbeats 1000000 in
set_option maxRecDepth 100000 in
theorem lght_any (A : Option Addr) (c n : Nat) (S : List Shp) (w : World) (hS : ShW w A n S) :
    Calls Tryz.prog 22 #[.slice A n c] w fun e w' => e = .returned (.bool (lghtW S)) ∧ Below w.heap.size w w' := by
  have hn := hS.2.1
  have HL := Lib.hid hS.1
  go_enter Tryz.func22, Tryz.ntmps22
  go_wp2_with fail
  go_loopw [3] (fun i wr => ∃ k : Nat, k ≤ n ∧ k ≤ 70 ∧ i = .int .i64 k ∧ Hid (AllB (fun i => decide ((shp S i).poly.length ≤ 60)) k = true) ∧ Below w.heap.size w wr) (fun i _ => 70 - (intOf i).toNat)
  case atStart => exact ⟨0, Nat.zero_le _, by omega, rfl, AllB.zero _, Below.refl _ _⟩
  case round =>
    obtain ⟨k, hk, hk3, rfl, hp, hb⟩ := hrel
    by_cases hlt : k < n ∧ k < 70
    · obtain ⟨hlt, hlt3⟩ := hlt
      obtain ⟨ba, oa, rfl, hbl, hsh⟩ := (hS.keep hb).at_ hlt
      obtain ⟨Ak, ck, g1, g2, g3, -⟩ := hsh
      obtain ⟨nk, hnk⟩ : ∃ nk, (shp S k).poly.length = nk := ⟨_, rfl⟩
      rw [hnk] at g1 g2
      by_cases h6 : 60 < nk
      · have HF := Lib.hid (show lghtW S = false by
          unfold lghtW
          rw [HL.out]
          by_cases h3 : n ≤ 70
          · rw [show AllB (fun i => decide ((shp S i).poly.length ≤ 60)) n = false from AllB.no hlt (by simp [hnk]; omega)]; simp
          · simp [h3])
        clear hnk
        go_wp2_with fail
        go_ret
        exact ⟨ret_bool HF.out.symm, hb⟩
      · have HS := Lib.hid (AllB.succ hp.out (show decide ((shp S k).poly.length ≤ 60) = true by simp [hnk]; omega))
        clear hnk
        go_wp2_with fail
        exact ⟨⟨k + 1, by omega, by omega, by go_num, HS, hb⟩, by simp [intOf]; omega⟩
    · have HF := Lib.hid (show lghtW S = decide ((n : Int) ≤ 70) by
        unfold lghtW
        rw [HL.out]
        by_cases h3 : n ≤ 70
        · have e : n = k := by omega
          rw [e, hp.out]
          simp; omega
        · simp [h3]; omega)
      by_cases hlt1 : k < n
      · have h3 : ¬ k < 70 := fun h => hlt ⟨hlt1, h⟩
        clear hlt
        go_wp2_with fail
        go_ret
        exact ⟨ret_bool HF.out.symm, hb⟩
      · clear hlt
        go_wp2_with fail
        go_ret
        exact ⟨ret_bool HF.out.symm, hb⟩
end Go.Proofs.YtmdncaoilegnnaaGreat

namespace Go.Proofs.YtmdncaoilegnnaaGreat
set_option linter.unusedVariables false
set_option linter.unusedSimpArgs false
set_option linter.unusedVariables false
set_option linter.unusedSimpArgs false
open Go.RowKit

set_option maxHeartbeats 1000000 in
set_option maxRecDepth 100000 in
theorem rbound_1 (A1 : Option Addr) (c1 n1 : Nat) (b : Bed4) (w : World) (hb : bedBad b = true) :
    Calls Tryz.prog 25 #[bedV b, .slice A1 n1 c1] w (BndRet w (3, 0)) := by
  obtain ⟨len, wid, rx, ry⟩ := b
  have HB := Lib.hid hb
  clear hb
  unfold bedV
  dsimp only
  go_enter Tryz.func25, Tryz.ntmps25
  go_wp2_with (go_at_call 34; refine (rsound_any ⟨len, wid, rx, ry⟩ _).mono ?_; rintro e w1 ⟨rfl, hb1⟩; rw [HB.out]; simp only [Bool.not_true])
  exact bodyPost_ret (v := .tuple #[.int .i64 0, .int .i64 3]) (by simp [results, Tryz.results25, go_sem]) rfl ⟨rfl, Bl.call (Bl.alloc (Below.refl _ _) _) hb1⟩
set_option maxHeartbeats 2000000 in
set_option maxRecDepth 100000 in
theorem rbound_2 (A1 : Option Addr) (c1 n1 : Nat) (b : Bed4) (S : List Shp) (w : World) (hS : ShS w A1 n1 S) (hb : bedBad b = false) :
    Calls Tryz.prog 25 #[bedV b, .slice A1 n1 c1] w (BndRet w (bndW b S)) := by
  have HB := Lib.hid hb
  obtain ⟨len, wid, rx, ry⟩ := b
  unfold bedV
  unfold bedBad at hb
  simp only [Bool.or_eq_false_iff, decide_eq_false_iff_not] at hb
  dsimp only at hb ⊢
  obtain ⟨⟨⟨b1, b2⟩, b3⟩, b4⟩ := hb
  have hn1 := hS.2.1
  have hl := hS.1
  have hbw := Lib.hid (show Below w.heap.size w (w.alloc (.cells #[.int .i64 len, .int .i64 wid, .int .i64 rx, .int .i64 ry] 25)) from (Bl.alloc (Below.refl _ _) _))
  have H0 := Lib.hid (BlkS.new w 25 #[.int .i64 len, .int .i64 wid, .int .i64 rx, .int .i64 ry])
  by_cases h60 : 60 < n1
  · have HR := Lib.hid (show bndW ⟨len, wid, rx, ry⟩ S = (5, 0) by unfold bndW; rw [if_neg (by rw [HB.out]; simp), hl, if_pos h60])
    clear hl
    go_enter Tryz.func25, Tryz.ntmps25
    go_wp2_with (go_at_call 34; refine (rsound_any ⟨len, wid, rx, ry⟩ _).mono ?_; rintro e w1 ⟨rfl, hb1⟩; rw [HB.out]; simp only [Bool.not_false])
    exact bodyPost_ret (v := .tuple #[.int .i64 0, .int .i64 5]) (by simp [results, Tryz.results25, go_sem]) rfl ⟨by rw [HR.out], Bl.call hbw.out hb1⟩
  · have HR := Lib.hid (show bndW ⟨len, wid, rx, ry⟩ S = if (bndTo S n1).1 ≠ 0 then ((bndTo S n1).1, 0) else (0, max (wrap64 (Int.tdiv (wrap64 (wrap64 ((bndTo S n1).2.1 + 2 * wid) - 1)) (2 * wid))) (bndTo S n1).2.2) by unfold bndW; rw [if_neg (by rw [HB.out]; simp), hl, if_neg h60])
    clear hl
    have hw2 : wrap64 (2 * wid) = 2 * wid := by unfold wrap64; omega
    go_enter Tryz.func25, Tryz.ntmps25
    go_upto_region 3 with (go_at_call 34; refine (rsound_any ⟨len, wid, rx, ry⟩ _).mono ?_; rintro e w1 ⟨rfl, hb1⟩; rw [HB.out]; simp only [Bool.not_false])
    go_wp2_with fail
    refine wp_world (fun X => Below w.heap.size w X ∧ BlkS X w.heap.size 25 #[.int .i64 len, .int .i64 wid, .int .i64 rx, .int .i64 ry]) ⟨Bl.call hbw.out hb1, H0.out.keep hb1⟩ ?_
    clear hbw H0 hb1
    rintro X ⟨hbw, hB⟩
    have hSX := hS.keep hbw
    have HX := Lib.hid hB
    clear hS hB
    go_loopw [6, 7, 8] (fun v u i wr => ∃ k : Nat, k ≤ n1 ∧ i = .int .i64 k ∧ Hid ((bndTo S k).1 = 0) ∧ v = .int .i64 (bndTo S k).2.1 ∧ u = .int .i64 (bndTo S k).2.2 ∧ Below X.heap.size X wr) (fun _ _ i _ => n1 - (intOf i).toNat)
    case atStart => exact ⟨0, Nat.zero_le _, rfl, Lib.hid rfl, rfl, rfl, Below.refl _ _⟩
    case round =>
      obtain ⟨k, hk, rfl, hz, rfl, rfl, hb⟩ := hrel
      by_cases hlt : k < n1
      · have hstep := Lib.hid (show bndTo S (k + 1) = _ by rw [bndTo, if_neg (by rw [hz.out]; simp)])
        obtain ⟨ba, oa, rfl, hbl, hsh⟩ := (hSX.keep hb).at_ hlt
        obtain ⟨s, hs⟩ : ∃ s, shp S k = s := ⟨_, rfl⟩
        rw [hs] at hsh hstep
        clear hs
        obtain ⟨spl, gr, mt, ⟨ax, ay⟩⟩ := s
        obtain ⟨Ak, ck, g1, g2, g3, g4, g5, g6, g7, g8, g9⟩ := hsh
        dsimp only at g1 g2 g4 g6 g7 g8 g9 hstep
        obtain ⟨nk, hnk⟩ : ∃ nk, spl.length = nk := ⟨_, rfl⟩
        rw [hnk] at g1 g2 g4
        have HNK := Lib.hid hnk
        obtain ⟨e1, he1⟩ : ∃ e1, (bndTo S k).2.1 = e1 := ⟨_, rfl⟩
        obtain ⟨e2, he2⟩ : ∃ e2, (bndTo S k).2.2 = e2 := ⟨_, rfl⟩
        rw [he1, he2] at hstep ⊢
        clear he1 he2 g7 g8 g9
        have hA := Lib.hid (show a2W spl = if checkW spl nk = 0 then areaW spl nk nk else 0 by unfold a2W; rw [HNK.out])
        have z1 : (k : Int) < (n1 : Int) := by omega
        by_cases hck : checkW spl nk = 0
        · obtain ⟨ts, hts⟩ : ∃ ts, allW gr false = ts := ⟨_, rfl⟩
          have htsl : ts.length ≤ 4 := by rw [← hts]; exact allTo_len _ _ 4
          have HTS := Lib.hid hts
          obtain ⟨nt, hnt⟩ : ∃ nt, ts.length = nt := ⟨_, rfl⟩
          have HNT := Lib.hid hnt
          rw [hnt] at htsl
          have HCK := Lib.hid hck
          by_cases h0 : nt = 0
          · have HN := Lib.hid (show narW spl gr = (12, 0) by unfold narW; rw [hnk, if_neg (by rw [hck]; simp), hts, hnt, if_pos h0])
            rw [HN.out, if_pos (by simp)] at hstep
            have hbad := bndTo_bad hstep.out (by simp) (n1 - (k + 1))
            rw [show k + 1 + (n1 - (k + 1)) = n1 by omega] at hbad
            rw [hbad, if_pos (by simp)] at HR
            have q0 : ((nt : Int) == 0) = true := by simp [h0]
            clear hbad h0 hts hnt hnk hck HN hstep
            go_wp2_with (first | (go_at_call 46; have _t := hb5; refine (rall_any _ _ _).mono ?_; rintro e w6 ⟨v6, rfl, ho6, hb6⟩; rw [HTS.out] at ho6; obtain ⟨At, ct, rfl, hTt, -⟩ := OwT.trs ho6; rw [HNT.out] at hTt ⊢; have g1' := cell_keep (Bl.call hb5 hb6) g1) | (go_at_call 52; refine (rcheck_any _ _ _ spl _ (by omega) g2 g4).mono ?_; rintro e w5 ⟨rfl, hb5⟩; rw [HCK.out]; have g6' := cell_keep hb5 g6))
            exact bodyPost_ret (v := .tuple #[.int .i64 0, .int .i64 12]) (by simp [results, Tryz.results25, go_sem]) rfl ⟨by rw [HR.out], Bl.call hbw (Bl.call (Bl.call hb hb5) hb6)⟩
          · have HN := Lib.hid (show narW spl gr = (0, shoTo spl ts nt) by have := nar_ref (l := spl) (g := gr) (by rw [hnk]; exact hck) (by rw [hts, hnt]; exact h0); rw [hts, hnt] at this; exact this)
            have HFL := Lib.hid (show ∀ k, k < nt → (tr ts k).1 = false from fun k hk => by rw [← hts]; exact allW_in (by rw [hts, hnt]; exact hk))
            rw [HN.out, if_neg (by simp)] at hstep
            have q0 : ((nt : Int) == 0) = false := by simp; omega
            rw [hck, if_pos rfl] at hA
            clear h0 hts hnt hnk hck HN
            dsimp only at hstep
            rw [hA.out] at hstep
            have HA2 := Lib.hid (fun w' h => rarea2_any Ak ck nk spl w' (by omega) g2 h)
            rw [HCK.out, if_pos rfl] at HA2
            have HSH := Lib.hid (fun w' At ct h1 h2 => rsho_any Ak At ck nk nt ct spl ts w' (by omega) g2 h1 h2 HCK.out HFL.out)
            obtain ⟨a2, ha2⟩ : ∃ a2, areaW spl nk nk = a2 := ⟨_, rfl⟩
            obtain ⟨so, hso⟩ : ∃ so, shoTo spl ts nt = so := ⟨_, rfl⟩
            rw [ha2] at hstep HA2
            rw [hso] at hstep HSH
            clear ha2 hso hA
            go_wp2_with (first
              | (go_at_call 54; refine (HSH.out _ _ _ (g4.keep (Bl.call (Bl.call hb5 hb6) hb7)) (hTt.keep hb7)).mono ?_; rintro e w8 ⟨rfl, hb8⟩)
              | (go_at_call 53; refine (HA2.out _ (g4.keep (Bl.call hb5 hb6))).mono ?_; rintro e w7 ⟨rfl, hb7⟩; have g1'' := cell_keep hb7 g1')
              | (go_at_call 46; have _t := hb5; refine (rall_any _ _ _).mono ?_; rintro e w6 ⟨v6, rfl, ho6, hb6⟩; rw [HTS.out] at ho6; obtain ⟨At, ct, rfl, hTt, -⟩ := OwT.trs ho6; rw [HNT.out] at hTt ⊢; have g1' := cell_keep (Bl.call hb5 hb6) g1) | (go_at_call 52; refine (rcheck_any _ _ _ spl _ (by omega) g2 g4).mono ?_; rintro e w5 ⟨rfl, hb5⟩; rw [HCK.out]; have g6' := cell_keep hb5 g6))
            exact ⟨⟨k + 1, by omega, by go_num, Lib.hid (by rw [hstep.out]), by rw [hstep.out], by rw [hstep.out], Bl.call (Bl.call (Bl.call (Bl.call hb hb5) hb6) hb7) hb8⟩, by simp [intOf]; omega⟩
        · obtain ⟨ce, hce⟩ : ∃ ce, checkW spl nk = ce := ⟨_, rfl⟩
          rw [hce] at hck
          have HCK := Lib.hid hce
          have HN := Lib.hid (show narW spl gr = (ce, 0) by unfold narW; rw [hnk, hce, if_pos hck])
          rw [HN.out, if_pos hck] at hstep
          have qo : (ce != 0) = true := by simpa using hck
          have hbad := bndTo_bad hstep.out hck (n1 - (k + 1))
          rw [show k + 1 + (n1 - (k + 1)) = n1 by omega] at hbad
          rw [hbad, if_pos hck] at HR
          clear hbad hck hce hnk HN hstep
          go_wp2_with (go_at_call 52; refine (rcheck_any _ _ _ spl _ (by omega) g2 g4).mono ?_; rintro e w5 ⟨rfl, hb5⟩; rw [HCK.out]; have g6' := cell_keep hb5 g6)
          exact bodyPost_ret (v := .tuple #[.int .i64 0, .int .i64 ce]) (by simp [results, Tryz.results25, go_sem]) rfl ⟨by rw [HR.out], Bl.call hbw (Bl.call hb hb5)⟩
      · obtain rfl : n1 = k := by omega
        rw [if_neg (by rw [hz.out]; simp)] at HR
        obtain ⟨a1, a2, a3, a4, a5⟩ := (HX.out.keep hb).cells4
        go_wp2_with fail
        exact bodyPost_ret (v := .tuple #[.int .i64 (max (bndTo S n1).2.2 (wrap64 (Int.tdiv (wrap64 (wrap64 ((bndTo S n1).2.1 + 2 * wid) - 1)) (2 * wid)))), .int .i64 0]) (by simp [results, Tryz.results25, go_sem]) rfl ⟨by rw [HR.out, Int.max_comm], Bl.call hbw hb⟩
theorem rbound_any (A1 : Option Addr) (c1 n1 : Nat) (b : Bed4) (S : List Shp) (w : World) (hS : ShS w A1 n1 S) :
    Calls Tryz.prog 25 #[bedV b, .slice A1 n1 c1] w (BndRet w (bndW b S)) := by
  by_cases hb : bedBad b = true
  · rw [show bndW b S = (3, 0) by unfold bndW; rw [if_pos hb]]
    exact rbound_1 A1 c1 n1 b w hb
  · exact rbound_2 A1 c1 n1 b S w hS (by simpa using hb)
end Go.Proofs.YtmdncaoilegnnaaGreat

/- Contract of triangle.Split. polygon.Normal and triangle.Split at lists that are no valid polygon. -/
import Derived.Test.YtjnllehnplenaaaGreatG09
import Derived.Shelf.Abstract
import Derived.Laws.EntriesVeiled
namespace Go.Proofs.YtjnllehnplenaaaGreat
set_option linter.unusedVariables false
set_option linter.unusedSimpArgs false
open Go.RowKit

def triW (l : List (Int × Int)) (n k : Nat) : List (Int × Int) := [gt l ((k + n - 1) % n), gt l k, gt l ((k + 1) % n)]
/-- The triangles cut off from cur, one after the other; none: no ear was found. -/
def splitW : Nat → List (Int × Int) → List (List (Int × Int)) → Option (List (List (Int × Int)))
  | 0, cur, ts => some (ts ++ [cur])
  | f + 1, cur, ts =>
    if cur.length ≤ 3 then some (ts ++ [cur])
    else if 0 ≤ idxOf (strW cur cur.length) cur.length then splitW f (cur.eraseIdx (idxOf (strW cur cur.length) cur.length).toNat) ts
    else if idxOf (freeW cur cur.length) cur.length < 0 then none
    else splitW f (cur.eraseIdx (idxOf (freeW cur cur.length) cur.length).toNat) (ts ++ [triW cur cur.length (idxOf (freeW cur cur.length) cur.length).toNat])

theorem splitW_end {f : Nat} {cur : List (Int × Int)} {ts : List (List (Int × Int))} (h : cur.length ≤ 3) : splitW f cur ts = some (ts ++ [cur]) := by
  cases f with
  | zero => rfl
  | succ f => unfold splitW; rw [if_pos h]
theorem splitW_str {f m : Nat} {cur : List (Int × Int)} {ts : List (List (Int × Int))} {i : Nat} (hm : cur.length = m) (h : ¬ m ≤ 3) (h1 : idxOf (strW cur m) m = (i : Int)) : splitW (f + 1) cur ts = splitW f (cur.eraseIdx i) ts := by
  subst hm
  rw [show splitW (f + 1) cur ts = if cur.length ≤ 3 then some (ts ++ [cur]) else if 0 ≤ idxOf (strW cur cur.length) cur.length then splitW f (cur.eraseIdx (idxOf (strW cur cur.length) cur.length).toNat) ts else if idxOf (freeW cur cur.length) cur.length < 0 then none else splitW f (cur.eraseIdx (idxOf (freeW cur cur.length) cur.length).toNat) (ts ++ [triW cur cur.length (idxOf (freeW cur cur.length) cur.length).toNat]) from rfl, if_neg h, if_pos (by rw [h1]; omega), h1, Int.toNat_natCast]
theorem splitW_none {f m : Nat} {cur : List (Int × Int)} {ts : List (List (Int × Int))} (hm : cur.length = m) (h : ¬ m ≤ 3) (h1 : ¬ 0 ≤ idxOf (strW cur m) m) (h2 : idxOf (freeW cur m) m < 0) : splitW (f + 1) cur ts = none := by
  subst hm
  rw [show splitW (f + 1) cur ts = if cur.length ≤ 3 then some (ts ++ [cur]) else if 0 ≤ idxOf (strW cur cur.length) cur.length then splitW f (cur.eraseIdx (idxOf (strW cur cur.length) cur.length).toNat) ts else if idxOf (freeW cur cur.length) cur.length < 0 then none else splitW f (cur.eraseIdx (idxOf (freeW cur cur.length) cur.length).toNat) (ts ++ [triW cur cur.length (idxOf (freeW cur cur.length) cur.length).toNat]) from rfl, if_neg h, if_neg h1, if_pos h2]
theorem splitW_ear {f m : Nat} {cur : List (Int × Int)} {ts : List (List (Int × Int))} {i : Nat} (hm : cur.length = m) (h : ¬ m ≤ 3) (h1 : ¬ 0 ≤ idxOf (strW cur m) m) (h2 : idxOf (freeW cur m) m = (i : Int)) : splitW (f + 1) cur ts = splitW f (cur.eraseIdx i) (ts ++ [triW cur m i]) := by
  subst hm
  rw [show splitW (f + 1) cur ts = if cur.length ≤ 3 then some (ts ++ [cur]) else if 0 ≤ idxOf (strW cur cur.length) cur.length then splitW f (cur.eraseIdx (idxOf (strW cur cur.length) cur.length).toNat) ts else if idxOf (freeW cur cur.length) cur.length < 0 then none else splitW f (cur.eraseIdx (idxOf (freeW cur cur.length) cur.length).toNat) (ts ++ [triW cur cur.length (idxOf (freeW cur cur.length) cur.length).toNat]) from rfl, if_neg h, if_neg h1, if_neg (by rw [h2]; omega), h2, Int.toNat_natCast]
theorem idxOf_cases (f : Nat → Bool) (n : Nat) : idxOf f n = -1 ∨ ∃ k : Nat, k < n ∧ idxOf f n = (k : Int) := by
  unfold idxOf
  cases h : (List.range n).find? f with
  | none => exact .inl rfl
  | some i => exact .inr ⟨i, by simpa using List.mem_of_find?_eq_some h, rfl⟩

theorem lenNorm (l : List (Int × Int)) (n : Nat) : (normalW l n).length ≤ n := by
  unfold normalW rot
  have h1 := cornR_len l n
  have h2 := frst_le (cornR l n) (cornR l n).length
  rw [List.length_append, List.length_drop, List.length_take]; omega

def lenAt (w : World) (a : Addr) : Nat := match w.cell? a with | some (.slice _ m _) => m | _ => 0
theorem lenAt_of {w : World} {a : Addr} {A : Option Addr} {m c : Nat} (h : w.cell? a = some (.slice A m c)) : lenAt w a = m := by unfold lenAt; rw [h]

/-- What the call of Split ends in, if the polygon is valid. -/
def SplitPost (w : World) (r : Option (List (List (Int × Int)))) (e : Ending) (w' : World) : Prop :=
  Below w.heap.size w w' ∧ match r with
    | none => e = .returned (.tuple #[.slice none 0 0, .int .i64 11])
    | some ts => ∃ v, e = .returned (.tuple #[v, .int .i64 0]) ∧ OwSS w' w.heap.size v ts

theorem OwS.els {w : World} {base : Nat} {v : Value} {l : List (Int × Int)} (h : OwS w base v l) : ElS w base v l := by
  obtain ⟨A, c, rfl, h1, h2, h3⟩ := h.sps
  rcases h.2 with ⟨e, e2⟩ | ⟨g, cap, cur, e, hg, hh, _⟩
  · injection e with e1 e2 e3
    exact ⟨A, c, rfl, h1, h2, fun _ => e3, fun a ha => by rw [e1] at ha; cases ha⟩
  · injection e with e1 e2 e3
    refine ⟨A, c, rfl, h1, h2, fun h0 => ?_, fun a ha => ?_⟩
    · rw [e1] at h0; cases h0
    · rw [e1] at ha; injection ha with ha; subst ha; exact ⟨hg, cur, (0, 0), hh⟩

theorem enter109 : ∀ args w, (callFunc 36 args).run Tryz.prog w = .ok (.enter 36 args) w := by
  exact enters_of Tryz.func36 (by kernel_rfl) rfl
theorem enter111 : ∀ args w, (callFunc 38 args).run Tryz.prog w = .ok (.enter 38 args) w := by
  exact enters_of Tryz.func38 (by kernel_rfl) rfl

theorem copy_init (w1 : World) (gf cp m : Nat) (Z : Array Value) (form : List (Int × Int)) (hZ : Z.size = m * 2) (hm : form.length = m) (hsp : SpS w1 (some ⟨gf, 0, none⟩) m form) (hml : m ≤ 1000) :
    ∃ W, (∀ ty, (Builtin.copy_ #[22, 22] ty #[.slice (some ⟨w1.heap.size, 0, none⟩) m m, .slice (some ⟨gf, 0, none⟩) m cp]).run Tryz.prog ((w1.alloc (.cells Z 30)).alloc (.cells #[.slice (some ⟨w1.heap.size, 0, none⟩) m m] 22)) = .ok (.int .i64 (m : Int)) W) ∧
      OwS W w1.heap.size (.slice (some ⟨w1.heap.size, 0, none⟩) m m) form ∧ BlkS W (w1.heap.size + 1) 22 #[.slice (some ⟨w1.heap.size, 0, none⟩) m m] ∧ Below w1.heap.size w1 W := by
  subst hm
  have hb0 : Below w1.heap.size w1 ((w1.alloc (.cells Z 30)).alloc (.cells #[.slice (some ⟨w1.heap.size, 0, none⟩) form.length form.length] 22)) := Bl.alloc (Bl.alloc (Below.refl _ _) _) _
  have hg : BlkS ((w1.alloc (.cells Z 30)).alloc (.cells #[.slice (some ⟨w1.heap.size, 0, none⟩) form.length form.length] 22)) w1.heap.size 30 Z := (BlkS.new _ _ _).alloc _
  have hl : BlkS ((w1.alloc (.cells Z 30)).alloc (.cells #[.slice (some ⟨w1.heap.size, 0, none⟩) form.length form.length] 22)) (w1.heap.size + 1) 22 #[.slice (some ⟨w1.heap.size, 0, none⟩) form.length form.length] := BlkS.new2 _ _ _ _
  generalize ((w1.alloc (.cells Z 30)).alloc (.cells #[.slice (some ⟨w1.heap.size, 0, none⟩) form.length form.length] 22)) = W0 at *
  have hlen := flat_len enS_len form
  have hmin : Nat.min form.length form.length = form.length := Nat.min_self _
  have hr := fun ty => run_copyN (P := Tryz.prog) W0 22 22 ty 30 2 w1.heap.size 0 form.length form.length ⟨gf, 0, none⟩ form.length cp Z 30 (form.flatMap enS) Tryz.underlying22 sizeS hg (by rw [hlen, hmin]) (news_of_sps (hsp.keep hb0)) (by rw [hlen, hZ]; omega) (enS_all _)
  rw [hmin] at hr
  refine ⟨_, hr, ⟨hlen, .inr ⟨_, form.length, _, rfl, Nat.le_refl _, setRow_heap W0 _ Z _ _ _ hg, Nat.le_refl _, by unfold maxLen; omega, ?_, ?_⟩⟩, ?_, ?_⟩
  · rw [List.size_toArray, List.length_append, List.length_append, List.length_take, List.length_drop, hlen, Array.length_toList, hZ]; omega
  · simp only [List.take_zero, List.nil_append, Nat.zero_add]
    rw [List.take_append_of_le_length (by rw [hlen]; omega), List.take_of_length_le (by rw [hlen]; omega)]
  · exact (setRow_other W0 w1.heap.size (w1.heap.size + 1) _ (by omega)).trans hl
  · exact hb0.trans ⟨rfl, rfl, rfl, by simp [World.setRow], fun k hk => setRow_other W0 w1.heap.size k _ (by omega)⟩

theorem OwSS.own {w : World} {base : Nat} {v : Value} {ls : List (List (Int × Int))} (h : OwSS w base v ls) : OwG 22 1 enV w base v (Classical.choose h) := (Classical.choose_spec h).1

theorem ownB {g k m j : Nat} (h : (Value.slice (some ⟨g, 0, none⟩) k m).ownBlock = some j) : g = j := by simpa [Value.ownBlock] using h
theorem wp_world {P : Program} {c : Code} {Q : Exit → Act → World → Prop} {a : Act} {w : World} (F : World → Prop) (hF : F w) (h : ∀ X, F X → c.wp P Q a X) : c.wp P Q a w := h w hF
theorem OwG.below {α : Type} {e : TypeId} {size : Nat} {enc : α → List Value} {w w' : World} {base B : Nat} {v : Value} {l : List α} (h : OwG e size enc w base v l) (hb : Below B w w') (hv : ∀ k, v.ownBlock = some k → k < B) : OwG e size enc w' base v l := by
  obtain ⟨h1, h2⟩ := h
  refine ⟨h1, ?_⟩
  rcases h2 with h2 | ⟨g, cap, cur, hv', hg, hh, r⟩
  · exact Or.inl h2
  · refine Or.inr ⟨g, cap, cur, hv', hg, ?_, r⟩
    rw [hb.block g (hv g (by rw [hv']; rfl))]; exact hh
theorem ElS.tri {w : World} {base B : Nat} {a b c : Int × Int} (h : BlkS w B 30 #[.int .i64 a.1, .int .i64 a.2, .int .i64 b.1, .int .i64 b.2, .int .i64 c.1, .int .i64 c.2]) (hB : base ≤ B) : ElS w base (.slice (some ⟨B, 0, none⟩) 3 3) [a, b, c] := by
  refine ⟨some ⟨B, 0, none⟩, 3, rfl, Nat.le_refl _, SpS.of3 h, (fun e => by cases e), fun x hx => ?_⟩
  injection hx with hx
  subst hx
  exact ⟨hB, _, _, h⟩

set_option maxHeartbeats 4000000 in
set_option maxRecDepth 100000 in
theorem split_ok (b off cap n : Nat) (l : List (Int × Int)) (w : World) (hl : n ≤ 1000) (hcap : n ≤ cap) (hs : SpS w (some ⟨b, off, none⟩) n l) (hc : checkW l n = 0) :
    Calls Tryz.prog 16 #[.slice (some ⟨b, off, none⟩) n cap] w (SplitPost w (splitW (normalW l n).length (normalW l n) [])) := by
  have hln := lenNorm l n
  obtain ⟨form, hform⟩ : ∃ form, form = normalW l n := ⟨_, rfl⟩
  have hno := normal_ok b off cap n l w hl hcap hs hc
  rw [← hform] at hno hln ⊢
  have HNO := Lib.hid hno
  clear hno hform hc
  obtain ⟨m, hm⟩ : ∃ m, form.length = m := ⟨_, rfl⟩
  rw [hm] at hln ⊢
  have HM := Lib.hid hm
  clear hm
  obtain ⟨i, hi, hz0, hz1, hz2⟩ := info_parts infoS
  obtain ⟨Z, hZ, hmk⟩ : ∃ Z : Array Value, Z.size = m * 2 ∧ ∀ w, (Instr.makeSlice 22 (.int .i64 (m : Int)) (.int .i64 (m : Int))).run Tryz.prog w = .ok (.slice (some ⟨w.heap.size, 0, none⟩) m m) (w.alloc (.cells Z 30)) := by
    refine ⟨madeCells (Value.agg #[Value.int IntKind.i64 0, Value.int IntKind.i64 0]).cells (m * 2), size_madeCells _ _, fun w => ?_⟩
    have hr := run_make (P := Tryz.prog) w 22 30 i (.agg #[.int .i64 0, .int .i64 0]) Tryz.underlying22 hi hz0 .i64 .i64 m m (by omega) (by omega) (by rw [hz2]; omega) (by omega)
    rw [hz1] at hr
    simpa using hr
  clear hi hz0 hz1 hz2 i
  go_enter Tryz.func16, Tryz.ntmps16
  go_upto_region 4 with (go_at_call 34; refine HNO.out.mono ?_; rintro e w1 ⟨v1, rfl, ho1, hb1⟩)
  rcases OwG.form ho1 with ⟨rfl, hcn⟩ | ⟨gf, cp, rfl, -, -, hcp, -⟩
  · have hm0 : m = 0 := by rw [← HM.out, hcn]; rfl
    subst hm0
    subst hcn
    have hcpy : ∀ ty (W : World), (Builtin.copy_ #[22, 22] ty #[.slice (some ⟨w1.heap.size, 0, none⟩) 0 0, .slice none 0 0]).run Tryz.prog W = .ok (goInt 0) W := fun ty W => run_copy_nil Tryz.prog W 22 22 ty 30 ⟨w1.heap.size, 0, none⟩ 0 0 Tryz.underlying22 (by rw [sizeS]; rfl)
    have hmk0 : ∀ w, (Instr.makeSlice 22 (.int .i64 0) (.int .i64 0)).run Tryz.prog w = .ok (.slice (some ⟨w.heap.size, 0, none⟩) 0 0) (w.alloc (.cells Z 30)) := hmk
    clear hmk
    go_wp2_with fail
    go_loopw [10] (fun s10 wr => s10 = .slice none 0 0 ∧ BlkS wr w1.heap.size 30 Z ∧ BlkS wr (w1.heap.size + 1) 22 #[.slice (some ⟨w1.heap.size, 0, none⟩) 0 0] ∧ Below w.heap.size w wr) (fun _ _ => 0)
    case atStart => exact ⟨rfl, ((BlkS.new _ _ _).alloc _).alloc _, (BlkS.new2 _ _ _ _).alloc _, Bl.alloc (Bl.alloc (Bl.alloc hb1 _) _) _⟩
    case round =>
      obtain ⟨rfl, hBg, hBl, hb⟩ := hrel
      have cl := hBl.cell 0
      simp only [List.getElem?_toArray, List.getElem?_cons_zero] at cl
      have hel : ElS wr w.heap.size (.slice (some ⟨w1.heap.size, 0, none⟩) 0 0) [] := ⟨some ⟨w1.heap.size, 0, none⟩, 0, rfl, Nat.le_refl _, ⟨rfl, .inl rfl⟩, (fun h => by cases h), fun a ha => by injection ha with ha; subst ha; exact ⟨hb1.size, Z, (0, 0), hBg⟩⟩
      go_wp2_with (at_builtin; refine wpList_appV rfl _ _ rfl w.heap.size _ [] rfl OwSS.nil wr.heap.size 1 (.slice (some ⟨w1.heap.size, 0, none⟩) 0 0) [] 22 rfl (BlkS.new _ _ _) (hel.keep (Bl.alloc (Below.refl _ _) _)) (by simp) (Bl.alloc hb _).size ?_; intro v' w' ho' hg' hat')
      go_ret2
      exact ⟨below_app (Bl.alloc hb _) (OwSS.own (OwSS.nil (w := wr.alloc _))) hg', v', rfl, ho'⟩
  · rw [HM.out] at hcp ho1 ⊢
    have hsp1 := ho1.spsg HM.out
    obtain ⟨W, hrun, hoW, hBW, hbW⟩ := copy_init w1 gf cp m Z form hZ HM.out hsp1 (by omega)
    clear ho1 hcp
    have hbwW : Below w.heap.size w W := Bl.call hb1 hbW
    go_wp2_with fail
    clear hrun hmk
    have hB7 : BlkS (W.alloc (.cells #[.func (.func 35) #[] #[.pointer (some ⟨w1.heap.size + 1, 0, none⟩)]] 50)) W.heap.size 50 #[.func (.func 35) #[] #[.pointer (some ⟨w1.heap.size + 1, 0, none⟩)]] := BlkS.new _ _ _
    have hBl := hBW.alloc (.cells #[.func (.func 35) #[] #[.pointer (some ⟨w1.heap.size + 1, 0, none⟩)]] 50)
    have hoL : OwS (W.alloc (.cells #[.func (.func 35) #[] #[.pointer (some ⟨w1.heap.size + 1, 0, none⟩)]] 50)) w.heap.size (.slice (some ⟨w1.heap.size, 0, none⟩) m m) form := (OwG.lower hoW hb1.size).alloc _
    have hbL := Bl.alloc hbwW (.cells #[.func (.func 35) #[] #[.pointer (some ⟨w1.heap.size + 1, 0, none⟩)]] 50)
    have hlb : w1.heap.size + 1 < W.heap.size := hBW.lt
    have hgw : w.heap.size ≤ w1.heap.size := hb1.size
    obtain ⟨g, hg⟩ : ∃ g, g = w1.heap.size := ⟨_, rfl⟩
    obtain ⟨b7, hb7⟩ : ∃ b7, b7 = W.heap.size := ⟨_, rfl⟩
    rw [← hg] at hB7 hBl hoL hbL hlb hgw ⊢
    rw [← hb7] at hB7 hlb ⊢
    have hsz : (W.alloc (.cells #[.func (.func 35) #[] #[.pointer (some ⟨g + 1, 0, none⟩)]] 50)).heap.size = b7 + 1 := by rw [hb7]; simp
    generalize W.alloc (.cells #[.func (.func 35) #[] #[.pointer (some ⟨g + 1, 0, none⟩)]] 50) = WL at *
    clear hg hb7 hbwW hbW hBW hoW hb1 hsp1
    have hszL : b7 + 1 ≤ WL.heap.size := by omega
    clear hsz
    go_loopw [10] (fun s10 wr => ∃ (cur : List (Int × Int)) (k f : Nat) (ts : List (List (Int × Int))), Hid (cur.length = k) ∧ k ≤ m ∧ ts.length + k ≤ m ∧ OwS wr w.heap.size (.slice (some ⟨g, 0, none⟩) k m) cur ∧ BlkS wr (g + 1) 22 #[.slice (some ⟨g, 0, none⟩) k m] ∧ BlkS wr b7 50 #[.func (.func 35) #[] #[.pointer (some ⟨g + 1, 0, none⟩)]] ∧ OwSS wr (b7 + 1) s10 ts ∧ Below w.heap.size w wr ∧ k ≤ f ∧ Hid (splitW f cur ts = splitW m form [])) (fun _ wr => lenAt wr ⟨g + 1, 0, none⟩)
    case atStart => exact ⟨form, m, m, [], HM, Nat.le_refl _, by simp, hoL, hBl, hB7, OwSS.nil, hbL, Nat.le_refl _, rfl⟩
    case round =>
      clear hoL hBl hB7 hbL hszL
      obtain ⟨cur, k, f, ts, HK, hkm, htk, ho, hBl, hB7, hoS, hb, hkf, hsp⟩ := hrel
      have cl := hBl.cell 0
      have c7 := hB7.cell 0
      simp only [List.getElem?_toArray, List.getElem?_cons_zero] at cl c7
      have hsc := ho.spsg HK.out
      have HL0 := Lib.hid (lenAt_of cl)
      by_cases hk3 : 3 < k
      · rcases idxOf_cases (strW cur k) k with hn1 | ⟨i, hik, hii⟩
        · have hn1' : ¬ 0 ≤ idxOf (strW cur k) k := by rw [hn1]; omega
          have hfi := first_any 36 #[.pointer (some ⟨b7, 0, none⟩)] k (strW cur k) wr (by omega) enter109 (fun j w' hj hbj => straight_any b7 (g + 1) g k m j cur w' (by omega) hkm (cell_keep hbj c7) (cell_keep hbj cl) (hsc.keep hbj) hj)
          rw [hn1] at hfi
          have HFI := Lib.hid hfi
          clear hfi hn1
          have hfr := fun (w2 : World) (hb2 : Below wr.heap.size wr w2) => first_any 38 #[.pointer (some ⟨b7, 0, none⟩), .pointer (some ⟨g + 1, 0, none⟩)] k (freeW cur k) w2 (by omega) enter111 (fun j w' hj hbj => free_any b7 (g + 1) g k m j cur w' (by omega) hkm (cell_keep hbj (cell_keep hb2 c7)) (cell_keep hbj (cell_keep hb2 cl)) ((hsc.keep hb2).keep hbj) hj)
          rcases idxOf_cases (freeW cur k) k with hn2 | ⟨i, hik, hii⟩
          · have hst := splitW_none (f := f - 1) (ts := ts) HK.out (by omega) hn1' (by rw [hn2]; omega)
            rw [show f - 1 + 1 = f by omega] at hst
            have HST := Lib.hid (hsp.out.symm.trans hst)
            rw [hn2] at hfr
            have HFR := Lib.hid hfr
            clear hfr hst hsp hn2 hn1'
            go_wp2_with fail
            refine HFI.out.mono ?_
            rintro e w2 ⟨rfl, hb2⟩
            have cl2 := cell_keep hb2 cl
            go_wp2_with fail
            refine (HFR.out w2 hb2).mono ?_
            rintro e w3 ⟨rfl, hb3⟩
            go_wp2_with fail
            go_ret2
            refine ⟨Bl.call (Bl.call hb hb2) hb3, ?_⟩
            rw [HST.out]
            rfl
          · have hst := splitW_ear (f := f - 1) (ts := ts) HK.out (by omega) hn1' hii
            rw [show f - 1 + 1 = f by omega] at hst
            have HST := Lib.hid (hst.symm.trans hsp.out)
            rw [hii] at hfr
            have HFR := Lib.hid hfr
            clear hfr hst hsp hn1' hii
            go_wp2_with fail
            refine HFI.out.mono ?_
            rintro e wa ⟨rfl, hba⟩
            have cla := cell_keep hba cl
            go_wp2_with fail
            refine (HFR.out wa hba).mono ?_
            rintro e wb ⟨rfl, hbb⟩
            have clb := cell_keep hbb cla
            have c7b := cell_keep hbb (cell_keep hba c7)
            go_upto_region 17 with (go_at_call 35; refine (corner_any (g + 1) g k m i cur _ (by omega) hkm clb ((hsc.keep hba).keep hbb) hik).mono ?_; rintro e wd ⟨rfl, hbd⟩)
            have hbrd : Below wr.heap.size wr wd := Bl.call (Bl.call hba hbb) hbd
            generalize hA1 : gt cur ((i + k - 1) % k) = p1
            generalize hA2 : gt cur i = p2
            generalize hA3 : gt cur ((i + 1) % k) = p3
            have HTRI : Hid (triW cur k i = [p1, p2, p3]) := by
              show _ = _
              unfold triW; rw [hA1, hA2, hA3]
            clear hA1 hA2 hA3
            refine wp_world (Cls wd [(⟨wd.heap.size, 0, none⟩, .int .i64 p1.1), (⟨wd.heap.size, 1, none⟩, .int .i64 p1.2), (⟨wd.heap.size + 1, 0, none⟩, .int .i64 p2.1), (⟨wd.heap.size + 1, 1, none⟩, .int .i64 p2.2), (⟨wd.heap.size + 1 + 1, 0, none⟩, .int .i64 p3.1), (⟨wd.heap.size + 1 + 1, 1, none⟩, .int .i64 p3.2)]) ⟨(Bl.alloc (Bl.alloc (Bl.alloc (Below.refl _ _) _) _) _), by simp only [List.mem_cons, List.not_mem_nil, forall_eq_or_imp, or_false, forall_eq]; go_simp⟩ ?_
            intro X hX
            have hx := hX.2
            simp only [List.mem_cons, List.not_mem_nil, forall_eq_or_imp, or_false, forall_eq] at hx
            have hbrX : Below wr.heap.size wr X := Bl.call hbrd hX.1
            have hb7l : b7 + 1 ≤ wr.heap.size := hB7.lt
            have hb7X : b7 + 1 ≤ X.heap.size := Nat.le_trans hb7l hbrX.size
            clear hX hbrd clb c7b cla
            go_upto_region 18 with (at_builtin; refine wpList_appV rfl _ _ rfl (b7 + 1) _ ts rfl (hoS.keep (Bl.alloc (Bl.alloc hbrX _) _)) (X.heap.size + 1) 1 (.slice (some ⟨X.heap.size, 0, none⟩) 3 3) [p1, p2, p3] 22 rfl (BlkS.new2 _ _ _ _) (ElS.tri ((BlkS.new _ _ _).alloc _) hb7X) (by omega) (Nat.le_trans hb7l (Bl.alloc (Bl.alloc hbrX _) _).size) ?_; intro v' w2 hoS2 hg' hat')
            have hlow : Below (b7 + 1) wr w2 := Below.grown ((Bl.alloc (Bl.alloc hbrX _) _).mono hb7l) hg' (Nat.le_trans hb7l (Bl.alloc (Bl.alloc hbrX _) _).size) (fun j hj => (OwG.lt (OwSS.own hoS) j hj).1)
            have ho2 : OwS w2 w.heap.size (.slice (some ⟨g, 0, none⟩) k m) cur := OwG.below ho hlow (fun j hj => by have := ownB hj; omega)
            have hBl2 : BlkS w2 (g + 1) 22 #[.slice (some ⟨g, 0, none⟩) k m] := (hlow.block (g + 1) (by omega)).trans hBl
            have hB72 : BlkS w2 b7 50 #[.func (.func 35) #[] #[.pointer (some ⟨g + 1, 0, none⟩)]] := (hlow.block b7 (by omega)).trans hB7
            have hbw2 : Below w.heap.size w w2 := hb.trans (hlow.mono (by omega))
            have cl2 := hBl2.cell 0
            simp only [List.getElem?_toArray, List.getElem?_cons_zero] at cl2
            rw [HTRI.out] at HST
            clear ho hBl hB7 hoS hb cl c7 hsc hx hat' hg' hlow
            have z1 : (i : Int) ≤ (k : Int) := by omega
            have z2 : (i : Int) + 1 ≤ (k : Int) := by omega
            have z3 : (k : Int) ≤ (m : Int) := by omega
            have z4 : (i : Int) ≤ (m : Int) := by omega
            have z5 : (i : Int) + 1 ≤ (m : Int) := by omega
            have z6 : (0 : Int) ≤ (i : Int) + 1 := by omega
            have z7 : ((i : Int) + 1).toNat = i + 1 := by omega
            have z8 : ¬ m = i := by omega
            by_cases hlast : i + 1 = m
            · obtain rfl : m = k := by omega
              have q1 : IntKind.i64.wrap ((i : Int) + 1) = (i : Int) + 1 := wrap_add i 1 (by omega)
              obtain ⟨W2, hrun, hoW, hgW⟩ := OwS.erase (w := w2.drew) (OwS.drew ho2) HK.out hik ⟨g, 0, none⟩ (fun h => by omega)
              rw [show m - (i + 1) = 0 by omega] at hrun
              go_region
              clear hrun q1
              have hBlW : BlkS W2 (g + 1) 22 #[.slice (some ⟨g, 0, none⟩) m m] := (hgW.block (g + 1) hBl2.lt (by simp)).trans hBl2
              have hB7W : BlkS W2 b7 50 #[.func (.func 35) #[] #[.pointer (some ⟨g + 1, 0, none⟩)]] := (hgW.block b7 hB72.lt (by simp; omega)).trans hB72
              have hoSW := hoS2.keepAbove (w' := W2) (fun j hj hlt => hgW.block j hlt (by simp; omega))
              have hbW : Below w.heap.size w W2 := Below.grown (Bl.drew hbw2) hgW hbw2.size (fun j hj => by injection hj with hj; omega)
              have clW := hBlW.cell 0
              have fW := hBlW.frozen 0
              simp only [List.getElem?_toArray, List.getElem?_cons_zero] at clW
              have y1 : (0 : Int) ≤ (m : Int) - 1 := by omega
              have y2 : (m : Int) - 1 ≤ (m : Int) := by omega
              have y3 : ((m : Int) - 1).toNat = m - 1 := by omega
              go_wp2_with fail
              have hBlN := hBlW.set_ 0 (.slice (some ⟨g, 0, none⟩) (m - 1) m)
              refine ⟨⟨cur.eraseIdx i, m - 1, f - 1, (ts ++ [[p1, p2, p3]]), ?_, by omega, ?_, OwG.far hoW (p := ⟨g + 1, 0, none⟩) (by simp [Value.ownBlock]) _, hBlN, hB7W.far (p := ⟨g + 1, 0, none⟩) (by simp; omega) _, hoSW.keepAbove (fun j hj hlt => Below.heap_setCell W2 ⟨g + 1, 0, none⟩ _ j (by simp; omega)), Bl.set hbW (p := ⟨g + 1, 0, none⟩) (by simp; omega) _, by omega, HST⟩, ?_⟩
              · show _ = _
                rw [List.length_eraseIdx_of_lt (by rw [HK.out]; exact hik), HK.out]
              · rw [List.length_append]; simp; omega
              · rw [HL0.out, lenAt_of (hBlN.cell 0)]; omega
            · have z9 : ¬ m = i + 1 := by omega
              have q1 : IntKind.i64.wrap ((i : Int) + 1) = (i : Int) + 1 := wrap_add i 1 (by omega)
              obtain ⟨W2, hrun, hoW, hgW⟩ := OwS.erase (w := w2.drew) (OwS.drew ho2) HK.out hik ⟨g, (i + 1) * 2, none⟩ (fun _ => rfl)
              go_region
              clear hrun q1
              have hBlW : BlkS W2 (g + 1) 22 #[.slice (some ⟨g, 0, none⟩) k m] := (hgW.block (g + 1) hBl2.lt (by simp)).trans hBl2
              have hB7W : BlkS W2 b7 50 #[.func (.func 35) #[] #[.pointer (some ⟨g + 1, 0, none⟩)]] := (hgW.block b7 hB72.lt (by simp; omega)).trans hB72
              have hoSW := hoS2.keepAbove (w' := W2) (fun j hj hlt => hgW.block j hlt (by simp; omega))
              have hbW : Below w.heap.size w W2 := Below.grown (Bl.drew hbw2) hgW hbw2.size (fun j hj => by injection hj with hj; omega)
              have clW := hBlW.cell 0
              have fW := hBlW.frozen 0
              simp only [List.getElem?_toArray, List.getElem?_cons_zero] at clW
              have y1 : (0 : Int) ≤ (k : Int) - 1 := by omega
              have y2 : (k : Int) - 1 ≤ (m : Int) := by omega
              have y3 : ((k : Int) - 1).toNat = k - 1 := by omega
              go_wp2_with fail
              have hBlN := hBlW.set_ 0 (.slice (some ⟨g, 0, none⟩) (k - 1) m)
              refine ⟨⟨cur.eraseIdx i, k - 1, f - 1, (ts ++ [[p1, p2, p3]]), ?_, by omega, ?_, OwG.far hoW (p := ⟨g + 1, 0, none⟩) (by simp [Value.ownBlock]) _, hBlN, hB7W.far (p := ⟨g + 1, 0, none⟩) (by simp; omega) _, hoSW.keepAbove (fun j hj hlt => Below.heap_setCell W2 ⟨g + 1, 0, none⟩ _ j (by simp; omega)), Bl.set hbW (p := ⟨g + 1, 0, none⟩) (by simp; omega) _, by omega, HST⟩, ?_⟩
              · show _ = _
                rw [List.length_eraseIdx_of_lt (by rw [HK.out]; exact hik), HK.out]
              · rw [List.length_append]; simp; omega
              · rw [HL0.out, lenAt_of (hBlN.cell 0)]; omega
        · have hst := splitW_str (f := f - 1) (ts := ts) HK.out (by omega) hii
          rw [show f - 1 + 1 = f by omega] at hst
          have HST := Lib.hid (hst.symm.trans hsp.out)
          clear hst hsp
          have hfi := first_any 36 #[.pointer (some ⟨b7, 0, none⟩)] k (strW cur k) wr (by omega) enter109 (fun j w' hj hbj => straight_any b7 (g + 1) g k m j cur w' (by omega) hkm (cell_keep hbj c7) (cell_keep hbj cl) (hsc.keep hbj) hj)
          rw [hii] at hfi
          have HFI := Lib.hid hfi
          clear hfi hii
          go_upto_region 18 with (go_at_call 40; refine HFI.out.mono ?_; rintro e w2 ⟨rfl, hb2⟩)
          have ho2 : OwS w2 _ _ _ := OwG.keep ho hb2
          have hBl2 := hBl.keep hb2
          have hB72 := hB7.keep hb2
          have hoS2 := hoS.keep hb2
          have hbw2 := Bl.call hb hb2
          have cl2 := cell_keep hb2 cl
          clear ho hBl hB7 hoS hb cl c7 hsc hb2
          have z1 : (i : Int) ≤ (k : Int) := by omega
          have z2 : (i : Int) + 1 ≤ (k : Int) := by omega
          have z3 : (k : Int) ≤ (m : Int) := by omega
          have z4 : (i : Int) ≤ (m : Int) := by omega
          have z5 : (i : Int) + 1 ≤ (m : Int) := by omega
          have z6 : (0 : Int) ≤ (i : Int) + 1 := by omega
          have z7 : ((i : Int) + 1).toNat = i + 1 := by omega
          have z8 : ¬ m = i := by omega
          by_cases hlast : i + 1 = m
          · obtain rfl : m = k := by omega
            have q1 : IntKind.i64.wrap ((i : Int) + 1) = (i : Int) + 1 := wrap_add i 1 (by omega)
            obtain ⟨W2, hrun, hoW, hgW⟩ := OwS.erase (w := w2.drew) (OwS.drew ho2) HK.out hik ⟨g, 0, none⟩ (fun h => by omega)
            rw [show m - (i + 1) = 0 by omega] at hrun
            go_region
            clear hrun q1
            have hBlW : BlkS W2 (g + 1) 22 #[.slice (some ⟨g, 0, none⟩) m m] := (hgW.block (g + 1) hBl2.lt (by simp)).trans hBl2
            have hB7W : BlkS W2 b7 50 #[.func (.func 35) #[] #[.pointer (some ⟨g + 1, 0, none⟩)]] := (hgW.block b7 hB72.lt (by simp; omega)).trans hB72
            have hoSW := hoS2.keepAbove (w' := W2) (fun j hj hlt => hgW.block j hlt (by simp; omega))
            have hbW : Below w.heap.size w W2 := Below.grown (Bl.drew hbw2) hgW hbw2.size (fun j hj => by injection hj with hj; omega)
            have clW := hBlW.cell 0
            have fW := hBlW.frozen 0
            simp only [List.getElem?_toArray, List.getElem?_cons_zero] at clW
            have y1 : (0 : Int) ≤ (m : Int) - 1 := by omega
            have y2 : (m : Int) - 1 ≤ (m : Int) := by omega
            have y3 : ((m : Int) - 1).toNat = m - 1 := by omega
            go_wp2_with fail
            have hBlN := hBlW.set_ 0 (.slice (some ⟨g, 0, none⟩) (m - 1) m)
            refine ⟨⟨cur.eraseIdx i, m - 1, f - 1, ts, ?_, by omega, ?_, OwG.far hoW (p := ⟨g + 1, 0, none⟩) (by simp [Value.ownBlock]) _, hBlN, hB7W.far (p := ⟨g + 1, 0, none⟩) (by simp; omega) _, hoSW.keepAbove (fun j hj hlt => Below.heap_setCell W2 ⟨g + 1, 0, none⟩ _ j (by simp; omega)), Bl.set hbW (p := ⟨g + 1, 0, none⟩) (by simp; omega) _, by omega, HST⟩, ?_⟩
            · show _ = _
              rw [List.length_eraseIdx_of_lt (by rw [HK.out]; exact hik), HK.out]
            · omega
            · rw [HL0.out, lenAt_of (hBlN.cell 0)]; omega
          · have z9 : ¬ m = i + 1 := by omega
            have q1 : IntKind.i64.wrap ((i : Int) + 1) = (i : Int) + 1 := wrap_add i 1 (by omega)
            obtain ⟨W2, hrun, hoW, hgW⟩ := OwS.erase (w := w2.drew) (OwS.drew ho2) HK.out hik ⟨g, (i + 1) * 2, none⟩ (fun _ => rfl)
            go_region
            clear hrun q1
            have hBlW : BlkS W2 (g + 1) 22 #[.slice (some ⟨g, 0, none⟩) k m] := (hgW.block (g + 1) hBl2.lt (by simp)).trans hBl2
            have hB7W : BlkS W2 b7 50 #[.func (.func 35) #[] #[.pointer (some ⟨g + 1, 0, none⟩)]] := (hgW.block b7 hB72.lt (by simp; omega)).trans hB72
            have hoSW := hoS2.keepAbove (w' := W2) (fun j hj hlt => hgW.block j hlt (by simp; omega))
            have hbW : Below w.heap.size w W2 := Below.grown (Bl.drew hbw2) hgW hbw2.size (fun j hj => by injection hj with hj; omega)
            have clW := hBlW.cell 0
            have fW := hBlW.frozen 0
            simp only [List.getElem?_toArray, List.getElem?_cons_zero] at clW
            have y1 : (0 : Int) ≤ (k : Int) - 1 := by omega
            have y2 : (k : Int) - 1 ≤ (m : Int) := by omega
            have y3 : ((k : Int) - 1).toNat = k - 1 := by omega
            go_wp2_with fail
            have hBlN := hBlW.set_ 0 (.slice (some ⟨g, 0, none⟩) (k - 1) m)
            refine ⟨⟨cur.eraseIdx i, k - 1, f - 1, ts, ?_, by omega, ?_, OwG.far hoW (p := ⟨g + 1, 0, none⟩) (by simp [Value.ownBlock]) _, hBlN, hB7W.far (p := ⟨g + 1, 0, none⟩) (by simp; omega) _, hoSW.keepAbove (fun j hj hlt => Below.heap_setCell W2 ⟨g + 1, 0, none⟩ _ j (by simp; omega)), Bl.set hbW (p := ⟨g + 1, 0, none⟩) (by simp; omega) _, by omega, HST⟩, ?_⟩
            · show _ = _
              rw [List.length_eraseIdx_of_lt (by rw [HK.out]; exact hik), HK.out]
            · omega
            · rw [HL0.out, lenAt_of (hBlN.cell 0)]; omega
      · have hend := splitW_end (f := f) (cur := cur) (ts := ts) (by rw [HK.out]; omega)
        have HEND := Lib.hid (hsp.out.symm.trans hend)
        clear hend hsp
        have hoS2 := hoS.lower (base' := w.heap.size) (by omega)
        go_wp2_with (at_builtin; refine wpList_appV rfl _ _ rfl w.heap.size _ ts rfl (hoS2.keep (Bl.alloc (Below.refl _ _) _)) wr.heap.size 1 (.slice (some ⟨g, 0, none⟩) k m) cur 22 rfl (BlkS.new _ _ _) ((OwS.els ho).keep (Bl.alloc (Below.refl _ _) _)) (by omega) (Bl.alloc hb _).size ?_; intro v' w' ho' hg' hat')
        go_ret2
        refine ⟨below_app (Bl.alloc hb _) (OwSS.own (hoS2.keep (Bl.alloc (Below.refl _ _) _))) hg', ?_⟩
        rw [HEND.out]
        exact ⟨v', rfl, ho'⟩

end Go.Proofs.YtjnllehnplenaaaGreat

namespace Go.Proofs.YtjnllehnplenaaaGreat
set_option linter.unusedVariables false
set_option linter.unusedSimpArgs false
open Go.RowKit

set_option maxHeartbeats 1000000 in
theorem normal_bad (A : Option Addr) (cap n : Nat) (l : List (Int × Int)) (w : World) (hl : n ≤ 9223372036854775807) (hcap : n ≤ cap) (hs : SpS w A n l) (hc : ¬ checkW l n = 0) :
    Calls Tryz.prog 34 #[.slice A n cap] w fun e w' => e = .returned (.tuple #[.slice none 0 0, .int .i64 (checkW l n)]) ∧ Below w.heap.size w w' := by
  have q : (checkW l n != 0) = true := by rw [bne_iff_ne]; exact hc
  clear hc
  go_enter Tryz.func34, Tryz.ntmps34
  go_wp2_with (go_at_call 63; refine (check_any _ _ _ l _ hl hcap hs).mono ?_; rintro e w1 ⟨rfl, hb1⟩)
  go_ret2
  exact ⟨rfl, hb1⟩

set_option maxHeartbeats 1000000 in
theorem split_bad (A : Option Addr) (cap n : Nat) (l : List (Int × Int)) (w : World) (hl : n ≤ 9223372036854775807) (hcap : n ≤ cap) (hs : SpS w A n l) (hc : ¬ checkW l n = 0) :
    Calls Tryz.prog 16 #[.slice A n cap] w fun e w' => e = .returned (.tuple #[.slice none 0 0, .int .i64 (checkW l n)]) ∧ Below w.heap.size w w' := by
  have q : (checkW l n != 0) = true := by rw [bne_iff_ne]; exact hc
  have hno := normal_bad A cap n l w hl hcap hs hc
  have HNO := Lib.hid hno
  clear hno hc
  go_enter Tryz.func16, Tryz.ntmps16
  go_wp2_with (go_at_call 34; refine HNO.out.mono ?_; rintro e w1 ⟨rfl, hb1⟩)
  go_ret2
  exact ⟨rfl, hb1⟩

theorem check_len {l : List (Int × Int)} {n : Nat} (h : checkW l n = 0) : 3 ≤ n ∧ n ≤ 40 := by
  refine ⟨?_, ?_⟩
  · rcases Nat.lt_or_ge n 3 with h1 | h1
    · rw [checkW_short h1] at h; omega
    · exact h1
  · rcases Nat.lt_or_ge 40 n with h1 | h1
    · rw [checkW_long h1] at h; omega
    · exact h1

/-- What Split computes: the error, or the triangles. -/
def SplitAll (w : World) (l : List (Int × Int)) (n : Nat) (e : Ending) (w' : World) : Prop :=
  Below w.heap.size w w' ∧ ((¬ checkW l n = 0 ∧ e = .returned (.tuple #[.slice none 0 0, .int .i64 (checkW l n)])) ∨
    (checkW l n = 0 ∧ splitW (normalW l n).length (normalW l n) [] = none ∧ e = .returned (.tuple #[.slice none 0 0, .int .i64 11])) ∨
    (checkW l n = 0 ∧ ∃ ts v, splitW (normalW l n).length (normalW l n) [] = some ts ∧ e = .returned (.tuple #[v, .int .i64 0]) ∧ OwSS w' w.heap.size v ts))

theorem split_any (A : Option Addr) (cap n : Nat) (l : List (Int × Int)) (w : World) (hl : n ≤ 9223372036854775807) (hcap : n ≤ cap) (hs : SpS w A n l) :
    Calls Tryz.prog 16 #[.slice A n cap] w (SplitAll w l n) := by
  by_cases hc : checkW l n = 0
  · have hn := check_len hc
    obtain ⟨b, off, rfl, -, -⟩ := hs.at_ (k := 0) (by omega)
    refine (split_ok b off cap n l w (by omega) hcap hs hc).mono ?_
    intro e w' h
    obtain ⟨h1, h2⟩ := h
    refine ⟨h1, .inr ?_⟩
    cases hsp : splitW (normalW l n).length (normalW l n) [] with
    | none => rw [hsp] at h2; exact .inl ⟨hc, rfl, h2⟩
    | some ts =>
      rw [hsp] at h2
      obtain ⟨v, h3, h4⟩ := h2
      exact .inr ⟨hc, ts, v, rfl, h3, h4⟩
  · exact (split_bad A cap n l w hl hcap hs hc).mono fun e w' ⟨he, hb⟩ => ⟨hb, .inl ⟨hc, he⟩⟩

end Go.Proofs.YtjnllehnplenaaaGreat

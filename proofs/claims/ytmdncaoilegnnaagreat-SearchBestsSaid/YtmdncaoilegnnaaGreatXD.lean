/- Lean texts of the claim. -/
import Derived.Test.YtmdncaoilegnnaaGreatXG08
import Derived.Laws.CopyRow
import Derived.Laws.MakeOwn
import Derived.Deep.RegionLaw
import Derived.Shelf.Abstract
import Derived.Laws.EntriesVeiled
namespace Go.Proofs.YtmdncaoilegnnaaGreat
set_option linter.unusedVariables false
set_option linter.unusedSimpArgs false
section
open Go.RowKit
theorem run_copyN {P : Program} (w : World) (dT sT ty elem : TypeId) (size : Nat) (g o dLen dCap : Nat) (a : Addr) (sLen sCap : Nat) (cur : Array Value) (t : TypeId) (cs : List Value)
 (hu : P.underlying dT = some (.slice elem)) (hs : (P.info? elem).map (·.size) = some size)
 (hg : w.heap[g]? = some (.cells cur t (0, 0))) (hn : cs.length = Nat.min sLen dLen * size)
 (hsrc : ∀ j v, cs[j]? = some v → w.cell? (a.add j) = some v) (hfit : o + cs.length ≤ cur.size) (h1 : ∀ v ∈ cs, v.oneCell' = true) :
 (Builtin.copy_ #[dT, sT] ty #[.slice (some ⟨g, o, none⟩) dLen dCap, .slice (some a) sLen sCap]).run P w =
  .ok (goInt (Nat.min sLen dLen)) (w.setRow g (cur.toList.take o ++ cs ++ cur.toList.drop (o + cs.length)).toArray) := by
 have hl := run_loadCells_list (P := P) w a cs hsrc
 have hst := run_storeCells_at P g o t cs 0 cur w hg (by simpa using hfit) h1
 cases hq : P.info? elem with
 | none => simp [hq] at hs
 | some i =>
   have hi : i.size = size := by simpa [hq] using hs
   simp [Builtin.copy_, run_underlying hu, Builtin.lenOf, Builtin.firstCells, sizeOf, typeInfo, hq, hi, ← hn, hl, hst]
theorem sizeS : (Tryz.prog.info? 37).map (·.size) = some 2 := by kernel_rfl
theorem enS_all (l : List (Int × Int)) : ∀ u ∈ l.flatMap enS, u.oneCell' = true := by
 intro u hu
 obtain ⟨p, _, hp⟩ := List.mem_flatMap.1 hu
 exact enS_one p u hp
theorem flat_take (l : List (Int × Int)) (i : Nat) : (l.flatMap enS).take (i * 2) = (l.take i).flatMap enS := by
 induction l generalizing i with
 | nil => simp
 | cons a l ih =>
   cases i with
   | zero => simp
   | succ i =>
     rw [List.take_succ_cons, List.flatMap_cons, List.flatMap_cons, ← ih, show (i + 1) * 2 = i * 2 + 1 + 1 by omega]
     simp [enS]
theorem erase_row {A : List Value} {cur : List (Int × Int)} {m i : Nat} (hm : cur.length = m) (hA : A.take (m * 2) = cur.flatMap enS) (hi : i < m) :
 (A.take (i * 2) ++ (cur.drop (i + 1)).flatMap enS ++ A.drop (i * 2 + ((cur.drop (i + 1)).flatMap enS).length)).take ((m - 1) * 2) = (cur.eraseIdx i).flatMap enS := by
 have h1 : A.take (i * 2) = (cur.take i).flatMap enS := by
  rw [← flat_take, ← hA, List.take_take]; congr 1; omega
 have hl1 : ((cur.take i).flatMap enS).length = i * 2 := by rw [flat_len enS_len, List.length_take]; omega
 have hl2 : ((cur.drop (i + 1)).flatMap enS).length = (m - 1 - i) * 2 := by rw [flat_len enS_len, List.length_drop]; omega
 rw [h1, List.take_append_of_le_length (by rw [List.length_append, hl1, hl2]; omega), List.take_of_length_le (by rw [List.length_append, hl1, hl2]; omega), ← List.flatMap_append, ← List.eraseIdx_eq_take_drop_succ]
theorem OwS.erase {w : World} {base g m cap i : Nat} {cur : List (Int × Int)} (h : OwS w base (.slice (some ⟨g, 0, none⟩) m cap) cur) (hm : cur.length = m) (hi : i < m) (sa : Addr) (hsa : i + 1 < m → sa = ⟨g, (i + 1) * 2, none⟩) :
 ∃ W, (∀ ty, (Builtin.copy_ #[47, 47] ty #[.slice (some ⟨g, i * 2, none⟩) (m - i) (cap - i), .slice (some sa) (m - (i + 1)) (cap - (i + 1))]).run Tryz.prog w = .ok (.int .i64 ((m - (i + 1) : Nat) : Int)) W) ∧
  OwS W base (.slice (some ⟨g, 0, none⟩) (m - 1) cap) (cur.eraseIdx i) ∧ w.grownBy W (some g) := by
 subst hm
 have hsp : SpS w (some sa) (cur.length - (i + 1)) (cur.drop (i + 1)) := by
  rcases Nat.lt_or_ge (i + 1) cur.length with h0 | h0
  ·rw [hsa h0]; simpa using (h.spsg rfl).drop (i := i + 1) (by omega)
  ·exact ⟨by rw [List.length_drop], .inl (by omega)⟩
 obtain ⟨h1, h2⟩ := h
 rcases h2 with ⟨e, _⟩ | ⟨g', cap', A, e, hb, hg, hnc, hcm, hcs, htake⟩
 ·cases e
 ·injection e with e1 e2 e3
  injection e1 with e1
  injection e1 with e1
  subst e1 e3
  have hlen := flat_len enS_len (cur.drop (i + 1))
  rw [List.length_drop] at hlen
  have hmin : Nat.min (cur.length - (i + 1)) (cur.length - i) = cur.length - (i + 1) := Nat.min_eq_left (by omega)
  have hr := fun ty => run_copyN (P := Tryz.prog) w 47 47 ty 37 2 g (i * 2) (cur.length - i) (cap - i) sa (cur.length - (i + 1)) (cap - (i + 1)) A 37 ((cur.drop (i + 1)).flatMap enS) Tryz.underlying47 sizeS hg (by rw [hlen, hmin]) (news_of_sps hsp) (by rw [hlen, hcs]; omega) (enS_all _)
  rw [hmin] at hr
  refine ⟨_, hr, ⟨?_, .inr ⟨g, cap, _, ?_, hb, setRow_heap w g A _ _ _ hg, by rw [List.length_eraseIdx_of_lt hi]; omega, hcm, ?_, ?_⟩⟩, ⟨rfl, rfl, rfl, by simp [World.setRow], fun k _ hne => setRow_other w g k _ (fun e => hne (by rw [e]))⟩⟩
  ·rw [flat_len enS_len]
  ·rw [List.length_eraseIdx_of_lt hi]
  ·rw [List.size_toArray, List.length_append, List.length_append, List.length_take, List.length_drop, hlen, Array.length_toList, hcs]; omega
  ·rw [List.length_eraseIdx_of_lt hi]
   exact erase_row rfl htake hi
/-! ### rows of slices of spots -/
def ElS (w : World) (base : Nat) (v : Value) (l : List (Int × Int)) : Prop := ∃ A c, v = .slice A l.length c ∧ l.length ≤ c ∧ SpS w A l.length l ∧ (A = none → c = 0) ∧ (∀ a, A = some a → base ≤ a.block ∧ ∃ cs fr, w.heap[a.block]? = some (.cells cs 37 fr))
def enV (v : Value) : List Value := [v]
def OwSS (w : World) (base : Nat) (v : Value) (ls : List (List (Int × Int))) : Prop :=
 ∃ vs : List Value, OwG 47 1 enV w base v vs ∧ vs.length = ls.length ∧ (∀ u ∈ vs, u.oneCell' = true) ∧ ∀ (i : Nat) (u : Value) (l : List (Int × Int)), vs[i]? = some u → ls[i]? = some l → ElS w base u l
theorem lt_of_heap {w : World} {k : Nat} {o : Obj} (h : w.heap[k]? = some o) : k < w.heap.size := (Array.getElem?_eq_some_iff.1 h).1
theorem ElS.keepAbove {w w' : World} {base : Nat} {v : Value} {l : List (Int × Int)} (h : ElS w base v l) (hk : ∀ k cs fr, base ≤ k → w.heap[k]? = some (.cells cs 37 fr) → w'.heap[k]? = w.heap[k]?) : ElS w' base v l := by
 obtain ⟨A, c, rfl, h1, h2, h3, h4⟩ := h
 refine ⟨A, c, rfl, h1, ⟨h2.1, ?_⟩, h3, fun a ha => ?_⟩
 ·obtain ⟨_, h2⟩ := h2
  rcases h2 with h2 | ⟨b, off, rfl, h2⟩
  ·exact .inl h2
  ·obtain ⟨g1, cs, fr, g2⟩ := h4 _ rfl
   have hh := hk b cs fr g1 g2
   exact .inr ⟨b, off, rfl, fun k hk' => ⟨(World.cell?_of_block (w := w) (a := ⟨b, off + k * 2, none⟩) hh).trans (h2 k hk').1, (World.cell?_of_block (w := w) (a := ⟨b, off + k * 2 + 1, none⟩) hh).trans (h2 k hk').2⟩⟩
 ·obtain ⟨g1, cs, fr, g2⟩ := h4 _ ha
  exact ⟨g1, cs, fr, (hk _ cs fr g1 g2).trans g2⟩
theorem ElS.keep {w w' : World} {base : Nat} {v : Value} {l : List (Int × Int)} (h : ElS w base v l) (hb : Below w.heap.size w w') : ElS w' base v l :=
 h.keepAbove fun k _ _ _ hg => hb.block k (lt_of_heap hg)
theorem ElS.grown {w w' : World} {base : Nat} {v : Value} {l : List (Int × Int)} {row : Option Nat} (h : ElS w base v l) (hg : w.grownBy w' row) (hr : ∀ k cs fr, base ≤ k → w.heap[k]? = some (.cells cs 37 fr) → some k ≠ row) : ElS w' base v l :=
 h.keepAbove fun k cs fr hk hh => hg.block k (lt_of_heap hh) (hr k cs fr hk hh)
theorem OwSS.nil {w : World} {base : Nat} : OwSS w base (.slice none 0 0) [] := ⟨[], OwG.nil, rfl, by simp, by simp⟩
theorem OwSS.keep {w w' : World} {base : Nat} {v : Value} {ls : List (List (Int × Int))} (h : OwSS w base v ls) (hb : Below w.heap.size w w') : OwSS w' base v ls := by
 obtain ⟨vs, h1, h2, h3, h4⟩ := h
 exact ⟨vs, h1.keep hb, h2, h3, fun i u l hu hl => (h4 i u l hu hl).keep hb⟩
theorem OwG.keepAbove {α : Type} {e : TypeId} {size : Nat} {enc : α → List Value} {w w' : World} {base : Nat} {v : Value} {l : List α} (h : OwG e size enc w base v l) (hb : ∀ k, base ≤ k → k < w.heap.size → w'.heap[k]? = w.heap[k]?) : OwG e size enc w' base v l := by
 have hlt := h.lt
 obtain ⟨h1, h2⟩ := h
 refine ⟨h1, ?_⟩
 rcases h2 with h2 | ⟨g, cap, cur, hv, hg, hh, r⟩
 ·exact Or.inl h2
 ·refine Or.inr ⟨g, cap, cur, hv, hg, ?_, r⟩
  rw [hb g hg (hlt g (by rw [hv]; rfl)).2]; exact hh
theorem OwSS.keepAbove {w w' : World} {base : Nat} {v : Value} {ls : List (List (Int × Int))} (h : OwSS w base v ls) (hb : ∀ k, base ≤ k → k < w.heap.size → w'.heap[k]? = w.heap[k]?) : OwSS w' base v ls := by
 obtain ⟨vs, h1, h2, h3, h4⟩ := h
 exact ⟨vs, h1.keepAbove hb, h2, h3, fun i u l hu hl => (h4 i u l hu hl).keepAbove fun k _ _ hk hh => hb k hk (lt_of_heap hh)⟩
theorem OwSS.lower {w : World} {base base' : Nat} {v : Value} {ls : List (List (Int × Int))} (h : OwSS w base v ls) (hb : base' ≤ base) : OwSS w base' v ls := by
 obtain ⟨vs, h1, h2, h3, h4⟩ := h
 exact ⟨vs, h1.lower hb, h2, h3, fun i u l hu hl => by
  obtain ⟨A, c, e, e1, e2, e3, e4⟩ := h4 i u l hu hl
  exact ⟨A, c, e, e1, e2, e3, fun a ha => ⟨Nat.le_trans hb (e4 a ha).1, (e4 a ha).2⟩⟩⟩
theorem ElS.lower {w : World} {base base' : Nat} {v : Value} {l : List (Int × Int)} (h : ElS w base v l) (hb : base' ≤ base) : ElS w base' v l := by
 obtain ⟨A, c, e, e1, e2, e3, e4⟩ := h
 exact ⟨A, c, e, e1, e2, e3, fun a ha => ⟨Nat.le_trans hb (e4 a ha).1, (e4 a ha).2⟩⟩
theorem infoSS : (Tryz.prog.info? 47).map (fun i => (i.zero, i.size, i.bytes)) = some (some (.slice none 0 0), 1, 24) := by kernel_rfl
theorem enV_len (v : Value) : (enV v).length = 1 := rfl
theorem wpList_appV {w : World} {ops : Array Oper} {rest : List Oper} {o : Oper} {a : Act} {Q : Exit → Act → World → Prop} (hgd : o.guard = none) (s x : Operand)
 (ho : o.op = .call { callee := .builtin .append, args := #[s, x], argTypes := #[64, 64] })
 (base : Nat) (v : Value) (ls : List (List (Int × Int))) (hs : a.eval s = v) (hown : OwSS w base v ls)
 (bx c : Nat) (u : Value) (l : List (Int × Int)) (tb : TypeId) (hx : a.eval x = .slice (some ⟨bx, 0, none⟩) 1 c) (hnew : BlkS w bx tb #[u]) (hu : ElS w base u l)
 (hlen : ls.length ≤ 1000000) (hbase : base ≤ w.heap.size)
 (h : ∀ v' w', OwSS w' base v' (ls ++ [l]) → w.grownBy w' v.ownBlock → (v'.ownBlock = v.ownBlock ∨ v'.ownBlock = some w.heap.size) → wpList Tryz.prog ops Q rest (a.put o.dst v') w') :
 wpList Tryz.prog ops Q (o :: rest) a w := by
 obtain ⟨i, hi, hz0, hz1, hz2⟩ := info_parts infoSS
 obtain ⟨vs, h1, h2, h3, h4⟩ := hown
 have hone : u.oneCell' = true := by obtain ⟨A, c, rfl, _⟩ := hu; rfl
 have hrow : ∀ k cs fr, base ≤ k → w.heap[k]? = some (.cells cs 37 fr) → some k ≠ v.ownBlock := by
  intro k cs fr _ hh he
  rcases h1.2 with ⟨rfl, _⟩ | ⟨g, cap, cur, rfl, _, hg, _⟩
  ·cases he
  ·have : k = g := by simpa [Value.ownBlock] using he
   subst this
   rw [hg] at hh
   injection hh with hh
   injection hh with _ ht
   exact absurd ht (by decide)
 have hflat : vs.flatMap enV = vs := by
  clear h1 h2 h3 h4 hrow
  induction vs with
  | nil => rfl
  | cons a l ih => rw [List.flatMap_cons, ih]; rfl
 refine wpList_append_own_at (P := Tryz.prog) w hgd s x 64 ho base 47 i (.slice none 0 0) 1 24 Tryz.underlying64 hi hz0 hz1 hz2 rfl (by omega) v vs.length (vs.flatMap enV) hs h1 ⟨bx, 0, none⟩ 1 c [u] hx rfl ?_ (by simpa using hone) (by rw [h2]; unfold maxLen; omega) (by rw [h2]; omega) hbase ?_
 ·intro j y hj
  exact World.news_of_block (w := w) (B := bx) (cs := #[u]) (t := tb) (fr := (0, 0)) hnew j y (by simpa using hj)
 ·intro v' w' ho' hg _ hat
  refine h v' w' ⟨vs ++ [u], ?_, by rw [List.length_append, List.length_append, h2]; rfl, ?_, ?_⟩ hg hat
  ·unfold OwG
   rw [List.length_append, List.flatMap_append]
   exact ho'
  ·intro y hy
   rcases List.mem_append.1 hy with hy | hy
   ·exact h3 y hy
   ·rw [List.mem_singleton.1 hy]; exact hone
  ·intro k y l' hy hl'
   rcases Nat.lt_or_ge k vs.length with hk | hk
   ·rw [List.getElem?_append_left hk] at hy
    rw [List.getElem?_append_left (by omega)] at hl'
    exact (h4 k y l' hy hl').grown hg hrow
   ·rw [List.getElem?_append_right hk] at hy
    rw [List.getElem?_append_right (by omega)] at hl'
    rcases Nat.eq_zero_or_pos (k - vs.length) with h0 | h0
    ·rw [h0] at hy
     rw [show k - ls.length = 0 by omega] at hl'
     simp at hy hl'
     subst hy hl'
     exact hu.grown hg hrow
    ·rw [List.getElem?_eq_none (by simp; omega)] at hy; cases hy
end
section
set_option maxRecDepth 100000
open Go.RowKit
def triW (l : List (Int × Int)) (n k : Nat) : List (Int × Int) := [gt l ((k + n - 1) % n), gt l k, gt l ((k + 1) % n)]
def splitW : Nat → List (Int × Int) → List (List (Int × Int)) → Option (List (List (Int × Int)))
 | 0, cur, ts => some (ts ++ [cur])
 | f + 1, cur, ts =>
   if cur.length ≤ 3 then some (ts ++ [cur])
   else if 0 ≤ idxOf (strW cur cur.length) cur.length then splitW f (cur.eraseIdx (idxOf (strW cur cur.length) cur.length).toNat) ts
   else if idxOf (freeW cur cur.length) cur.length < 0 then none
   else splitW f (cur.eraseIdx (idxOf (freeW cur cur.length) cur.length).toNat) (ts ++ [triW cur cur.length (idxOf (freeW cur cur.length) cur.length).toNat])
theorem splitW_end {f : Nat} {cur : List (Int × Int)} {ts : List (List (Int × Int))} (h : cur.length ≤ 3) : splitW f cur ts = some (ts ++ [cur]) := by
 cases f with
 | zero => rfl
 | succ f => unfold splitW; rw [if_pos h]
theorem splitW_str {f m : Nat} {cur : List (Int × Int)} {ts : List (List (Int × Int))} {i : Nat} (hm : cur.length = m) (h : ¬ m ≤ 3) (h1 : idxOf (strW cur m) m = (i : Int)) : splitW (f + 1) cur ts = splitW f (cur.eraseIdx i) ts := by
 subst hm
 rw [show splitW (f + 1) cur ts = if cur.length ≤ 3 then some (ts ++ [cur]) else if 0 ≤ idxOf (strW cur cur.length) cur.length then splitW f (cur.eraseIdx (idxOf (strW cur cur.length) cur.length).toNat) ts else if idxOf (freeW cur cur.length) cur.length < 0 then none else splitW f (cur.eraseIdx (idxOf (freeW cur cur.length) cur.length).toNat) (ts ++ [triW cur cur.length (idxOf (freeW cur cur.length) cur.length).toNat]) from rfl, if_neg h, if_pos (by rw [h1]; omega), h1, Int.toNat_natCast]
theorem splitW_none {f m : Nat} {cur : List (Int × Int)} {ts : List (List (Int × Int))} (hm : cur.length = m) (h : ¬ m ≤ 3) (h1 : ¬ 0 ≤ idxOf (strW cur m) m) (h2 : idxOf (freeW cur m) m < 0) : splitW (f + 1) cur ts = none := by
 subst hm
 rw [show splitW (f + 1) cur ts = if cur.length ≤ 3 then some (ts ++ [cur]) else if 0 ≤ idxOf (strW cur cur.length) cur.length then splitW f (cur.eraseIdx (idxOf (strW cur cur.length) cur.length).toNat) ts else if idxOf (freeW cur cur.length) cur.length < 0 then none else splitW f (cur.eraseIdx (idxOf (freeW cur cur.length) cur.length).toNat) (ts ++ [triW cur cur.length (idxOf (freeW cur cur.length) cur.length).toNat]) from rfl, if_neg h, if_neg h1, if_pos h2]
theorem splitW_ear {f m : Nat} {cur : List (Int × Int)} {ts : List (List (Int × Int))} {i : Nat} (hm : cur.length = m) (h : ¬ m ≤ 3) (h1 : ¬ 0 ≤ idxOf (strW cur m) m) (h2 : idxOf (freeW cur m) m = (i : Int)) : splitW (f + 1) cur ts = splitW f (cur.eraseIdx i) (ts ++ [triW cur m i]) := by
 subst hm
 rw [show splitW (f + 1) cur ts = if cur.length ≤ 3 then some (ts ++ [cur]) else if 0 ≤ idxOf (strW cur cur.length) cur.length then splitW f (cur.eraseIdx (idxOf (strW cur cur.length) cur.length).toNat) ts else if idxOf (freeW cur cur.length) cur.length < 0 then none else splitW f (cur.eraseIdx (idxOf (freeW cur cur.length) cur.length).toNat) (ts ++ [triW cur cur.length (idxOf (freeW cur cur.length) cur.length).toNat]) from rfl, if_neg h, if_neg h1, if_neg (by rw [h2]; omega), h2, Int.toNat_natCast]
theorem idxOf_cases (f : Nat → Bool) (n : Nat) : idxOf f n = -1 ∨ ∃ k : Nat, k < n ∧ idxOf f n = (k : Int) := by
 unfold idxOf
 cases h : (List.range n).find? f with
 | none => exact .inl rfl
 | some i => exact .inr ⟨i, by simpa using List.mem_of_find?_eq_some h, rfl⟩
theorem lenNorm (l : List (Int × Int)) (n : Nat) : (normalW l n).length ≤ n := by
 unfold normalW rot
 have h1 := cornR_len l n
 have h2 := frst_le (cornR l n) (cornR l n).length
 rw [List.length_append, List.length_drop, List.length_take]; omega
def lenAt (w : World) (a : Addr) : Nat := match w.cell? a with | some (.slice _ m _) => m | _ => 0
theorem lenAt_of {w : World} {a : Addr} {A : Option Addr} {m c : Nat} (h : w.cell? a = some (.slice A m c)) : lenAt w a = m := by unfold lenAt; rw [h]
def SplitPost (w : World) (r : Option (List (List (Int × Int)))) (e : Ending) (w' : World) : Prop :=
 Below w.heap.size w w' ∧ match r with
  | none => e = .returned (.tuple #[.slice none 0 0, .int .i64 11])
  | some ts => ∃ v, e = .returned (.tuple #[v, .int .i64 0]) ∧ OwSS w' w.heap.size v ts
theorem OwS.els {w : World} {base : Nat} {v : Value} {l : List (Int × Int)} (h : OwS w base v l) : ElS w base v l := by
 obtain ⟨A, c, rfl, h1, h2, h3⟩ := h.sps
 rcases h.2 with ⟨e, e2⟩ | ⟨g, cap, cur, e, hg, hh, _⟩
 ·injection e with e1 e2 e3
  exact ⟨A, c, rfl, h1, h2, fun _ => e3, fun a ha => by rw [e1] at ha; cases ha⟩
 ·injection e with e1 e2 e3
  refine ⟨A, c, rfl, h1, h2, fun h0 => ?_, fun a ha => ?_⟩
  ·rw [e1] at h0; cases h0
  ·rw [e1] at ha; injection ha with ha; subst ha; exact ⟨hg, cur, (0, 0), hh⟩
theorem enter109 : ∀ args w, (callFunc 184 args).run Tryz.prog w = .ok (.enter 184 args) w := by
 exact enters_of Tryz.func184 (by kernel_rfl) rfl
theorem enter111 : ∀ args w, (callFunc 186 args).run Tryz.prog w = .ok (.enter 186 args) w := by
 exact enters_of Tryz.func186 (by kernel_rfl) rfl
theorem copy_init (w1 : World) (gf cp m : Nat) (Z : Array Value) (form : List (Int × Int)) (hZ : Z.size = m * 2) (hm : form.length = m) (hsp : SpS w1 (some ⟨gf, 0, none⟩) m form) (hml : m ≤ 1000) :
 ∃ W, (∀ ty, (Builtin.copy_ #[47, 47] ty #[.slice (some ⟨w1.heap.size, 0, none⟩) m m, .slice (some ⟨gf, 0, none⟩) m cp]).run Tryz.prog ((w1.alloc (.cells Z 37)).alloc (.cells #[.slice (some ⟨w1.heap.size, 0, none⟩) m m] 47)) = .ok (.int .i64 (m : Int)) W) ∧
  OwS W w1.heap.size (.slice (some ⟨w1.heap.size, 0, none⟩) m m) form ∧ BlkS W (w1.heap.size + 1) 47 #[.slice (some ⟨w1.heap.size, 0, none⟩) m m] ∧ Below w1.heap.size w1 W := by
 subst hm
 have hb0 : Below w1.heap.size w1 ((w1.alloc (.cells Z 37)).alloc (.cells #[.slice (some ⟨w1.heap.size, 0, none⟩) form.length form.length] 47)) := Bl.alloc (Bl.alloc Br _) _
 have hg : BlkS ((w1.alloc (.cells Z 37)).alloc (.cells #[.slice (some ⟨w1.heap.size, 0, none⟩) form.length form.length] 47)) w1.heap.size 37 Z := (BlkS.new _ _ _).alloc _
 have hl : BlkS ((w1.alloc (.cells Z 37)).alloc (.cells #[.slice (some ⟨w1.heap.size, 0, none⟩) form.length form.length] 47)) (w1.heap.size + 1) 47 #[.slice (some ⟨w1.heap.size, 0, none⟩) form.length form.length] := BlkS.new2 _ _ _ _
 generalize ((w1.alloc (.cells Z 37)).alloc (.cells #[.slice (some ⟨w1.heap.size, 0, none⟩) form.length form.length] 47)) = W0 at *
 have hlen := flat_len enS_len form
 have hmin : Nat.min form.length form.length = form.length := Nat.min_self _
 have hr := fun ty => run_copyN (P := Tryz.prog) W0 47 47 ty 37 2 w1.heap.size 0 form.length form.length ⟨gf, 0, none⟩ form.length cp Z 37 (form.flatMap enS) Tryz.underlying47 sizeS hg (by rw [hlen, hmin]) (news_of_sps (hsp.keep hb0)) (by rw [hlen, hZ]; omega) (enS_all _)
 rw [hmin] at hr
 refine ⟨_, hr, ⟨hlen, .inr ⟨_, form.length, _, rfl, Nat.le_refl _, setRow_heap W0 _ Z _ _ _ hg, Nat.le_refl _, by unfold maxLen; omega, ?_, ?_⟩⟩, ?_, ?_⟩
 ·rw [List.size_toArray, List.length_append, List.length_append, List.length_take, List.length_drop, hlen, Array.length_toList, hZ]; omega
 ·simp only [List.take_zero, List.nil_append, Nat.zero_add]
  rw [List.take_append_of_le_length (by rw [hlen]; omega), List.take_of_length_le (by rw [hlen]; omega)]
 ·exact (setRow_other W0 w1.heap.size (w1.heap.size + 1) _ (by omega)).trans hl
 ·exact hb0.trans ⟨rfl, rfl, rfl, by simp [World.setRow], fun k hk => setRow_other W0 w1.heap.size k _ (by omega)⟩
theorem OwSS.own {w : World} {base : Nat} {v : Value} {ls : List (List (Int × Int))} (h : OwSS w base v ls) : OwG 47 1 enV w base v (Classical.choose h) := (Classical.choose_spec h).1
theorem ownB {g k m j : Nat} (h : (Value.slice (some ⟨g, 0, none⟩) k m).ownBlock = some j) : g = j := by simpa [Value.ownBlock] using h
theorem wp_world {P : Program} {c : Code} {Q : Exit → Act → World → Prop} {a : Act} {w : World} (F : World → Prop) (hF : F w) (h : ∀ X, F X → c.wp P Q a X) : c.wp P Q a w := h w hF
theorem OwG.below {α : Type} {e : TypeId} {size : Nat} {enc : α → List Value} {w w' : World} {base B : Nat} {v : Value} {l : List α} (h : OwG e size enc w base v l) (hb : Below B w w') (hv : ∀ k, v.ownBlock = some k → k < B) : OwG e size enc w' base v l := by
 obtain ⟨h1, h2⟩ := h
 refine ⟨h1, ?_⟩
 rcases h2 with h2 | ⟨g, cap, cur, hv', hg, hh, r⟩
 ·exact Or.inl h2
 ·refine Or.inr ⟨g, cap, cur, hv', hg, ?_, r⟩
  rw [hb.block g (hv g (by rw [hv']; rfl))]; exact hh
theorem ElS.tri {w : World} {base B : Nat} {a b c : Int × Int} (h : BlkS w B 37 #[.int .i64 a.1, .int .i64 a.2, .int .i64 b.1, .int .i64 b.2, .int .i64 c.1, .int .i64 c.2]) (hB : base ≤ B) : ElS w base (.slice (some ⟨B, 0, none⟩) 3 3) [a, b, c] := by
 refine ⟨some ⟨B, 0, none⟩, 3, rfl, Nat.le_refl _, SpS.of3 h, (fun e => by cases e), fun x hx => ?_⟩
 injection hx with hx
 subst hx
 exact ⟨hB, _, _, h⟩
set_option maxHeartbeats 4000000 in
theorem split_ok (b off cap n : Nat) (l : List (Int × Int)) (w : World) (hl : n ≤ 1000) (hcap : n ≤ cap) (hs : SpS w (some ⟨b, off, none⟩) n l) (hc : checkW l n = 0) :
 Calls Tryz.prog 148 #[.slice (some ⟨b, off, none⟩) n cap] w (SplitPost w (splitW (normalW l n).length (normalW l n) [])) := by
 have hln := lenNorm l n
 obtain ⟨form, hform⟩ : ∃ form, form = normalW l n := ⟨_, rfl⟩
 have hno := normal_ok b off cap n l w hl hcap hs hc
 rw [← hform] at hno hln ⊢
 have HNO := Hj hno
 clear hno hform hc
 obtain ⟨m, hm⟩ : ∃ m, form.length = m := ⟨_, rfl⟩
 rw [hm] at hln ⊢
 have HM := Hj hm
 clear hm
 obtain ⟨i, hi, hz0, hz1, hz2⟩ := info_parts infoS
 obtain ⟨Z, hZ, hmk⟩ : ∃ Z : Array Value, Z.size = m * 2 ∧ ∀ w, (Instr.makeSlice 47 (.int .i64 (m : Int)) (.int .i64 (m : Int))).run Tryz.prog w = .ok (.slice (some ⟨w.heap.size, 0, none⟩) m m) (w.alloc (.cells Z 37)) := by
  refine ⟨madeCells (Value.agg #[Value.int IntKind.i64 0, Value.int IntKind.i64 0]).cells (m * 2), size_madeCells _ _, fun w => ?_⟩
  have hr := run_make (P := Tryz.prog) w 47 37 i (.agg #[.int .i64 0, .int .i64 0]) Tryz.underlying47 hi hz0 .i64 .i64 m m (by omega) (by omega) (by rw [hz2]; omega) (by omega)
  rw [hz1] at hr
  simpa using hr
 clear hi hz0 hz1 hz2 i
 go_enter Tryz.func148, Tryz.ntmps148
 go_upto_region 4 with (go_at_call 182; refine HNO.out.mono ?_; rintro e w1 ⟨v1, rfl, ho1, hb1⟩)
 rcases OwG.form ho1 with ⟨rfl, hcn⟩ | ⟨gf, cp, rfl, -, -, hcp, -⟩
 ·have hm0 : m = 0 := by rw [← HM.out, hcn]; rfl
  subst hm0
  subst hcn
  have hcpy : ∀ ty (W : World), (Builtin.copy_ #[47, 47] ty #[.slice (some ⟨w1.heap.size, 0, none⟩) 0 0, .slice none 0 0]).run Tryz.prog W = .ok (goInt 0) W := fun ty W => run_copy_nil Tryz.prog W 47 47 ty 37 ⟨w1.heap.size, 0, none⟩ 0 0 Tryz.underlying47 (by rw [sizeS]; rfl)
  have hmk0 : ∀ w, (Instr.makeSlice 47 (.int .i64 0) (.int .i64 0)).run Tryz.prog w = .ok (.slice (some ⟨w.heap.size, 0, none⟩) 0 0) (w.alloc (.cells Z 37)) := hmk
  clear hmk
  go_wp2_with fail
  go_loopw [10] (fun s10 wr => s10 = .slice none 0 0 ∧ BlkS wr w1.heap.size 37 Z ∧ BlkS wr (w1.heap.size + 1) 47 #[.slice (some ⟨w1.heap.size, 0, none⟩) 0 0] ∧ Below w.heap.size w wr) (fun _ _ => 0)
  case atStart => exact ⟨rfl, ((BlkS.new _ _ _).alloc _).alloc _, (BlkS.new2 _ _ _ _).alloc _, Bl.alloc (Bl.alloc (Bl.alloc hb1 _) _) _⟩
  case round =>
   obtain ⟨rfl, hBg, hBl, hb⟩ := hrel
   have cl := hBl.cell 0
   simp only [List.getElem?_toArray, List.getElem?_cons_zero] at cl
   have hel : ElS wr w.heap.size (.slice (some ⟨w1.heap.size, 0, none⟩) 0 0) [] := ⟨some ⟨w1.heap.size, 0, none⟩, 0, rfl, Nat.le_refl _, ⟨rfl, .inl rfl⟩, (fun h => by cases h), fun a ha => by injection ha with ha; subst ha; exact ⟨hb1.size, Z, (0, 0), hBg⟩⟩
   go_wp2_with (at_builtin; refine wpList_appV rfl _ _ rfl w.heap.size _ [] rfl OwSS.nil wr.heap.size 1 (.slice (some ⟨w1.heap.size, 0, none⟩) 0 0) [] 47 rfl (BlkS.new _ _ _) (hel.keep (Bl.alloc Br _)) (by simp) (Bl.alloc hb _).size ?_; intro v' w' ho' hg' hat')
   go_ret2
   exact ⟨below_app (Bl.alloc hb _) (OwSS.own (OwSS.nil (w := wr.alloc _))) hg', v', rfl, ho'⟩
 ·rw [HM.out] at hcp ho1 ⊢
  have hsp1 := ho1.spsg HM.out
  obtain ⟨W, hrun, hoW, hBW, hbW⟩ := copy_init w1 gf cp m Z form hZ HM.out hsp1 (by omega)
  clear ho1 hcp
  have hbwW : Below w.heap.size w W := Bl.call hb1 hbW
  go_wp2_with fail
  clear hrun hmk
  have hB7 : BlkS (W.alloc (.cells #[.func (.func 183) #[] #[.pointer (some ⟨w1.heap.size + 1, 0, none⟩)]] 180)) W.heap.size 180 #[.func (.func 183) #[] #[.pointer (some ⟨w1.heap.size + 1, 0, none⟩)]] := BlkS.new _ _ _
  have hBl := hBW.alloc (.cells #[.func (.func 183) #[] #[.pointer (some ⟨w1.heap.size + 1, 0, none⟩)]] 180)
  have hoL : OwS (W.alloc (.cells #[.func (.func 183) #[] #[.pointer (some ⟨w1.heap.size + 1, 0, none⟩)]] 180)) w.heap.size (.slice (some ⟨w1.heap.size, 0, none⟩) m m) form := (OwG.lower hoW hb1.size).alloc _
  have hbL := Bl.alloc hbwW (.cells #[.func (.func 183) #[] #[.pointer (some ⟨w1.heap.size + 1, 0, none⟩)]] 180)
  have hlb : w1.heap.size + 1 < W.heap.size := hBW.lt
  have hgw : w.heap.size ≤ w1.heap.size := hb1.size
  obtain ⟨g, hg⟩ : ∃ g, g = w1.heap.size := ⟨_, rfl⟩
  obtain ⟨b7, hb7⟩ : ∃ b7, b7 = W.heap.size := ⟨_, rfl⟩
  rw [← hg] at hB7 hBl hoL hbL hlb hgw ⊢
  rw [← hb7] at hB7 hlb ⊢
  have hsz : (W.alloc (.cells #[.func (.func 183) #[] #[.pointer (some ⟨g + 1, 0, none⟩)]] 180)).heap.size = b7 + 1 := by rw [hb7]; simp
  generalize W.alloc (.cells #[.func (.func 183) #[] #[.pointer (some ⟨g + 1, 0, none⟩)]] 180) = WL at *
  clear hg hb7 hbwW hbW hBW hoW hb1 hsp1
  have hszL : b7 + 1 ≤ WL.heap.size := by omega
  clear hsz
  go_loopw [10] (fun s10 wr => ∃ (cur : List (Int × Int)) (k f : Nat) (ts : List (List (Int × Int))), Hid (cur.length = k) ∧ k ≤ m ∧ ts.length + k ≤ m ∧ OwS wr w.heap.size (.slice (some ⟨g, 0, none⟩) k m) cur ∧ BlkS wr (g + 1) 47 #[.slice (some ⟨g, 0, none⟩) k m] ∧ BlkS wr b7 180 #[.func (.func 183) #[] #[.pointer (some ⟨g + 1, 0, none⟩)]] ∧ OwSS wr (b7 + 1) s10 ts ∧ Below w.heap.size w wr ∧ k ≤ f ∧ Hid (splitW f cur ts = splitW m form [])) (fun _ wr => lenAt wr ⟨g + 1, 0, none⟩)
  case atStart => exact ⟨form, m, m, [], HM, Nat.le_refl _, by simp, hoL, hBl, hB7, OwSS.nil, hbL, Nat.le_refl _, rfl⟩
  case round =>
   clear hoL hBl hB7 hbL hszL
   obtain ⟨cur, k, f, ts, HK, hkm, htk, ho, hBl, hB7, hoS, hb, hkf, hsp⟩ := hrel
   have cl := hBl.cell 0
   have c7 := hB7.cell 0
   simp only [List.getElem?_toArray, List.getElem?_cons_zero] at cl c7
   have hsc := ho.spsg HK.out
   have HL0 := Hj (lenAt_of cl)
   by_cases hk3 : 3 < k
   ·rcases idxOf_cases (strW cur k) k with hn1 | ⟨i, hik, hii⟩
    ·have hn1' : ¬ 0 ≤ idxOf (strW cur k) k := by rw [hn1]; omega
     have hfi := first_any 184 #[.pointer (some ⟨b7, 0, none⟩)] k (strW cur k) wr (by omega) enter109 (fun j w' hj hbj => straight_any b7 (g + 1) g k m j cur w' (by omega) hkm (Xa hbj c7) (Xa hbj cl) (hsc.keep hbj) hj)
     rw [hn1] at hfi
     have HFI := Hj hfi
     clear hfi hn1
     have hfr := fun (w2 : World) (hb2 : Below wr.heap.size wr w2) => first_any 186 #[.pointer (some ⟨b7, 0, none⟩), .pointer (some ⟨g + 1, 0, none⟩)] k (freeW cur k) w2 (by omega) enter111 (fun j w' hj hbj => free_any b7 (g + 1) g k m j cur w' (by omega) hkm (Xa hbj (Xa hb2 c7)) (Xa hbj (Xa hb2 cl)) ((hsc.keep hb2).keep hbj) hj)
     rcases idxOf_cases (freeW cur k) k with hn2 | ⟨i, hik, hii⟩
     ·have hst := splitW_none (f := f - 1) (ts := ts) HK.out (by omega) hn1' (by rw [hn2]; omega)
      rw [show f - 1 + 1 = f by omega] at hst
      have HST := Hj (hsp.out.symm.trans hst)
      rw [hn2] at hfr
      have HFR := Hj hfr
      clear hfr hst hsp hn2 hn1'
      go_wp2_with fail
      refine HFI.out.mono ?_
      rintro e w2 ⟨rfl, hb2⟩
      have cl2 := Xa hb2 cl
      go_wp2_with fail
      refine (HFR.out w2 hb2).mono ?_
      rintro e w3 ⟨rfl, hb3⟩
      go_wp2_with fail
      go_ret2
      refine ⟨Bl.call (Bl.call hb hb2) hb3, ?_⟩
      rw [HST.out]
      rfl
     ·have hst := splitW_ear (f := f - 1) (ts := ts) HK.out (by omega) hn1' hii
      rw [show f - 1 + 1 = f by omega] at hst
      have HST := Hj (hst.symm.trans hsp.out)
      rw [hii] at hfr
      have HFR := Hj hfr
      clear hfr hst hsp hn1' hii
      go_wp2_with fail
      refine HFI.out.mono ?_
      rintro e wa ⟨rfl, hba⟩
      have cla := Xa hba cl
      go_wp2_with fail
      refine (HFR.out wa hba).mono ?_
      rintro e wb ⟨rfl, hbb⟩
      have clb := Xa hbb cla
      have c7b := Xa hbb (Xa hba c7)
      go_upto_region 17 with (go_at_call 183; refine (corner_any (g + 1) g k m i cur _ (by omega) hkm clb ((hsc.keep hba).keep hbb) hik).mono ?_; rintro e wd ⟨rfl, hbd⟩)
      have hbrd : Below wr.heap.size wr wd := Bl.call (Bl.call hba hbb) hbd
      generalize hA1 : gt cur ((i + k - 1) % k) = p1
      generalize hA2 : gt cur i = p2
      generalize hA3 : gt cur ((i + 1) % k) = p3
      have HTRI : Hid (triW cur k i = [p1, p2, p3]) := by
       show _ = _
       unfold triW; rw [hA1, hA2, hA3]
      clear hA1 hA2 hA3
      refine wp_world (Cls wd [(⟨wd.heap.size, 0, none⟩, .int .i64 p1.1), (⟨wd.heap.size, 1, none⟩, .int .i64 p1.2), (⟨wd.heap.size + 1, 0, none⟩, .int .i64 p2.1), (⟨wd.heap.size + 1, 1, none⟩, .int .i64 p2.2), (⟨wd.heap.size + 1 + 1, 0, none⟩, .int .i64 p3.1), (⟨wd.heap.size + 1 + 1, 1, none⟩, .int .i64 p3.2)]) ⟨(Bl.alloc (Bl.alloc (Bl.alloc Br _) _) _), by simp only [List.mem_cons, List.not_mem_nil, forall_eq_or_imp, or_false, forall_eq]; go_simp⟩ ?_
      intro X hX
      have hx := hX.2
      simp only [List.mem_cons, List.not_mem_nil, forall_eq_or_imp, or_false, forall_eq] at hx
      have hbrX : Below wr.heap.size wr X := Bl.call hbrd hX.1
      have hb7l : b7 + 1 ≤ wr.heap.size := hB7.lt
      have hb7X : b7 + 1 ≤ X.heap.size := Nat.le_trans hb7l hbrX.size
      clear hX hbrd clb c7b cla
      go_upto_region 18 with (at_builtin; refine wpList_appV rfl _ _ rfl (b7 + 1) _ ts rfl (hoS.keep (Bl.alloc (Bl.alloc hbrX _) _)) (X.heap.size + 1) 1 (.slice (some ⟨X.heap.size, 0, none⟩) 3 3) [p1, p2, p3] 47 rfl (BlkS.new2 _ _ _ _) (ElS.tri ((BlkS.new _ _ _).alloc _) hb7X) (by omega) (Nat.le_trans hb7l (Bl.alloc (Bl.alloc hbrX _) _).size) ?_; intro v' w2 hoS2 hg' hat')
      have hlow : Below (b7 + 1) wr w2 := Below.grown ((Bl.alloc (Bl.alloc hbrX _) _).mono hb7l) hg' (Nat.le_trans hb7l (Bl.alloc (Bl.alloc hbrX _) _).size) (fun j hj => (OwG.lt (OwSS.own hoS) j hj).1)
      have ho2 : OwS w2 w.heap.size (.slice (some ⟨g, 0, none⟩) k m) cur := OwG.below ho hlow (fun j hj => by have := ownB hj; omega)
      have hBl2 : BlkS w2 (g + 1) 47 #[.slice (some ⟨g, 0, none⟩) k m] := (hlow.block (g + 1) (by omega)).trans hBl
      have hB72 : BlkS w2 b7 180 #[.func (.func 183) #[] #[.pointer (some ⟨g + 1, 0, none⟩)]] := (hlow.block b7 (by omega)).trans hB7
      have hbw2 : Below w.heap.size w w2 := hb.trans (hlow.mono (by omega))
      have cl2 := hBl2.cell 0
      simp only [List.getElem?_toArray, List.getElem?_cons_zero] at cl2
      rw [HTRI.out] at HST
      clear ho hBl hB7 hoS hb cl c7 hsc hx hat' hg' hlow
      have z1 : (i : Int) ≤ (k : Int) := by omega
      have z2 : (i : Int) + 1 ≤ (k : Int) := by omega
      have z3 : (k : Int) ≤ (m : Int) := by omega
      have z4 : (i : Int) ≤ (m : Int) := by omega
      have z5 : (i : Int) + 1 ≤ (m : Int) := by omega
      have z6 : (0 : Int) ≤ (i : Int) + 1 := by omega
      have z7 : ((i : Int) + 1).toNat = i + 1 := by omega
      have z8 : ¬ m = i := by omega
      by_cases hlast : i + 1 = m
      ·obtain rfl : m = k := by omega
       have q1 : IntKind.i64.wrap ((i : Int) + 1) = (i : Int) + 1 := wrap_add i 1 (by omega)
       obtain ⟨W2, hrun, hoW, hgW⟩ := OwS.erase (w := w2.drew) (OwS.drew ho2) HK.out hik ⟨g, 0, none⟩ (fun h => by omega)
       rw [show m - (i + 1) = 0 by omega] at hrun
       go_region
       clear hrun q1
       have hBlW : BlkS W2 (g + 1) 47 #[.slice (some ⟨g, 0, none⟩) m m] := (hgW.block (g + 1) hBl2.lt (by simp)).trans hBl2
       have hB7W : BlkS W2 b7 180 #[.func (.func 183) #[] #[.pointer (some ⟨g + 1, 0, none⟩)]] := (hgW.block b7 hB72.lt (by simp; omega)).trans hB72
       have hoSW := hoS2.keepAbove (w' := W2) (fun j hj hlt => hgW.block j hlt (by simp; omega))
       have hbW : Below w.heap.size w W2 := Below.grown (Bl.drew hbw2) hgW hbw2.size (fun j hj => by injection hj with hj; omega)
       have clW := hBlW.cell 0
       have fW := hBlW.frozen 0
       simp only [List.getElem?_toArray, List.getElem?_cons_zero] at clW
       have y1 : (0 : Int) ≤ (m : Int) - 1 := by omega
       have y2 : (m : Int) - 1 ≤ (m : Int) := by omega
       have y3 : ((m : Int) - 1).toNat = m - 1 := by omega
       go_wp2_with fail
       have hBlN := hBlW.set_ 0 (.slice (some ⟨g, 0, none⟩) (m - 1) m)
       refine ⟨⟨cur.eraseIdx i, m - 1, f - 1, (ts ++ [[p1, p2, p3]]), ?_, by omega, ?_, OwG.far hoW (p := ⟨g + 1, 0, none⟩) (by simp [Value.ownBlock]) _, hBlN, hB7W.far (p := ⟨g + 1, 0, none⟩) (by simp; omega) _, hoSW.keepAbove (fun j hj hlt => Below.heap_setCell W2 ⟨g + 1, 0, none⟩ _ j (by simp; omega)), Bl.set hbW (p := ⟨g + 1, 0, none⟩) (by simp; omega) _, by omega, HST⟩, ?_⟩
       ·show _ = _
        rw [List.length_eraseIdx_of_lt (by rw [HK.out]; exact hik), HK.out]
       ·rw [List.length_append]; simp; omega
       ·rw [HL0.out, lenAt_of (hBlN.cell 0)]; omega
      ·have z9 : ¬ m = i + 1 := by omega
       have q1 : IntKind.i64.wrap ((i : Int) + 1) = (i : Int) + 1 := wrap_add i 1 (by omega)
       obtain ⟨W2, hrun, hoW, hgW⟩ := OwS.erase (w := w2.drew) (OwS.drew ho2) HK.out hik ⟨g, (i + 1) * 2, none⟩ (fun _ => rfl)
       go_region
       clear hrun q1
       have hBlW : BlkS W2 (g + 1) 47 #[.slice (some ⟨g, 0, none⟩) k m] := (hgW.block (g + 1) hBl2.lt (by simp)).trans hBl2
       have hB7W : BlkS W2 b7 180 #[.func (.func 183) #[] #[.pointer (some ⟨g + 1, 0, none⟩)]] := (hgW.block b7 hB72.lt (by simp; omega)).trans hB72
       have hoSW := hoS2.keepAbove (w' := W2) (fun j hj hlt => hgW.block j hlt (by simp; omega))
       have hbW : Below w.heap.size w W2 := Below.grown (Bl.drew hbw2) hgW hbw2.size (fun j hj => by injection hj with hj; omega)
       have clW := hBlW.cell 0
       have fW := hBlW.frozen 0
       simp only [List.getElem?_toArray, List.getElem?_cons_zero] at clW
       have y1 : (0 : Int) ≤ (k : Int) - 1 := by omega
       have y2 : (k : Int) - 1 ≤ (m : Int) := by omega
       have y3 : ((k : Int) - 1).toNat = k - 1 := by omega
       go_wp2_with fail
       have hBlN := hBlW.set_ 0 (.slice (some ⟨g, 0, none⟩) (k - 1) m)
       refine ⟨⟨cur.eraseIdx i, k - 1, f - 1, (ts ++ [[p1, p2, p3]]), ?_, by omega, ?_, OwG.far hoW (p := ⟨g + 1, 0, none⟩) (by simp [Value.ownBlock]) _, hBlN, hB7W.far (p := ⟨g + 1, 0, none⟩) (by simp; omega) _, hoSW.keepAbove (fun j hj hlt => Below.heap_setCell W2 ⟨g + 1, 0, none⟩ _ j (by simp; omega)), Bl.set hbW (p := ⟨g + 1, 0, none⟩) (by simp; omega) _, by omega, HST⟩, ?_⟩
       ·show _ = _
        rw [List.length_eraseIdx_of_lt (by rw [HK.out]; exact hik), HK.out]
       ·rw [List.length_append]; simp; omega
       ·rw [HL0.out, lenAt_of (hBlN.cell 0)]; omega
    ·have hst := splitW_str (f := f - 1) (ts := ts) HK.out (by omega) hii
     rw [show f - 1 + 1 = f by omega] at hst
     have HST := Hj (hst.symm.trans hsp.out)
     clear hst hsp
     have hfi := first_any 184 #[.pointer (some ⟨b7, 0, none⟩)] k (strW cur k) wr (by omega) enter109 (fun j w' hj hbj => straight_any b7 (g + 1) g k m j cur w' (by omega) hkm (Xa hbj c7) (Xa hbj cl) (hsc.keep hbj) hj)
     rw [hii] at hfi
     have HFI := Hj hfi
     clear hfi hii
     go_upto_region 18 with (go_at_call 188; refine HFI.out.mono ?_; rintro e w2 ⟨rfl, hb2⟩)
     have ho2 : OwS w2 _ _ _ := OwG.keep ho hb2
     have hBl2 := hBl.keep hb2
     have hB72 := hB7.keep hb2
     have hoS2 := hoS.keep hb2
     have hbw2 := Bl.call hb hb2
     have cl2 := Xa hb2 cl
     clear ho hBl hB7 hoS hb cl c7 hsc hb2
     have z1 : (i : Int) ≤ (k : Int) := by omega
     have z2 : (i : Int) + 1 ≤ (k : Int) := by omega
     have z3 : (k : Int) ≤ (m : Int) := by omega
     have z4 : (i : Int) ≤ (m : Int) := by omega
     have z5 : (i : Int) + 1 ≤ (m : Int) := by omega
     have z6 : (0 : Int) ≤ (i : Int) + 1 := by omega
     have z7 : ((i : Int) + 1).toNat = i + 1 := by omega
     have z8 : ¬ m = i := by omega
     by_cases hlast : i + 1 = m
     ·obtain rfl : m = k := by omega
      have q1 : IntKind.i64.wrap ((i : Int) + 1) = (i : Int) + 1 := wrap_add i 1 (by omega)
      obtain ⟨W2, hrun, hoW, hgW⟩ := OwS.erase (w := w2.drew) (OwS.drew ho2) HK.out hik ⟨g, 0, none⟩ (fun h => by omega)
      rw [show m - (i + 1) = 0 by omega] at hrun
      go_region
      clear hrun q1
      have hBlW : BlkS W2 (g + 1) 47 #[.slice (some ⟨g, 0, none⟩) m m] := (hgW.block (g + 1) hBl2.lt (by simp)).trans hBl2
      have hB7W : BlkS W2 b7 180 #[.func (.func 183) #[] #[.pointer (some ⟨g + 1, 0, none⟩)]] := (hgW.block b7 hB72.lt (by simp; omega)).trans hB72
      have hoSW := hoS2.keepAbove (w' := W2) (fun j hj hlt => hgW.block j hlt (by simp; omega))
      have hbW : Below w.heap.size w W2 := Below.grown (Bl.drew hbw2) hgW hbw2.size (fun j hj => by injection hj with hj; omega)
      have clW := hBlW.cell 0
      have fW := hBlW.frozen 0
      simp only [List.getElem?_toArray, List.getElem?_cons_zero] at clW
      have y1 : (0 : Int) ≤ (m : Int) - 1 := by omega
      have y2 : (m : Int) - 1 ≤ (m : Int) := by omega
      have y3 : ((m : Int) - 1).toNat = m - 1 := by omega
      go_wp2_with fail
      have hBlN := hBlW.set_ 0 (.slice (some ⟨g, 0, none⟩) (m - 1) m)
      refine ⟨⟨cur.eraseIdx i, m - 1, f - 1, ts, ?_, by omega, ?_, OwG.far hoW (p := ⟨g + 1, 0, none⟩) (by simp [Value.ownBlock]) _, hBlN, hB7W.far (p := ⟨g + 1, 0, none⟩) (by simp; omega) _, hoSW.keepAbove (fun j hj hlt => Below.heap_setCell W2 ⟨g + 1, 0, none⟩ _ j (by simp; omega)), Bl.set hbW (p := ⟨g + 1, 0, none⟩) (by simp; omega) _, by omega, HST⟩, ?_⟩
      ·show _ = _
       rw [List.length_eraseIdx_of_lt (by rw [HK.out]; exact hik), HK.out]
      ·omega
      ·rw [HL0.out, lenAt_of (hBlN.cell 0)]; omega
     ·have z9 : ¬ m = i + 1 := by omega
      have q1 : IntKind.i64.wrap ((i : Int) + 1) = (i : Int) + 1 := wrap_add i 1 (by omega)
      obtain ⟨W2, hrun, hoW, hgW⟩ := OwS.erase (w := w2.drew) (OwS.drew ho2) HK.out hik ⟨g, (i + 1) * 2, none⟩ (fun _ => rfl)
      go_region
      clear hrun q1
      have hBlW : BlkS W2 (g + 1) 47 #[.slice (some ⟨g, 0, none⟩) k m] := (hgW.block (g + 1) hBl2.lt (by simp)).trans hBl2
      have hB7W : BlkS W2 b7 180 #[.func (.func 183) #[] #[.pointer (some ⟨g + 1, 0, none⟩)]] := (hgW.block b7 hB72.lt (by simp; omega)).trans hB72
      have hoSW := hoS2.keepAbove (w' := W2) (fun j hj hlt => hgW.block j hlt (by simp; omega))
      have hbW : Below w.heap.size w W2 := Below.grown (Bl.drew hbw2) hgW hbw2.size (fun j hj => by injection hj with hj; omega)
      have clW := hBlW.cell 0
      have fW := hBlW.frozen 0
      simp only [List.getElem?_toArray, List.getElem?_cons_zero] at clW
      have y1 : (0 : Int) ≤ (k : Int) - 1 := by omega
      have y2 : (k : Int) - 1 ≤ (m : Int) := by omega
      have y3 : ((k : Int) - 1).toNat = k - 1 := by omega
      go_wp2_with fail
      have hBlN := hBlW.set_ 0 (.slice (some ⟨g, 0, none⟩) (k - 1) m)
      refine ⟨⟨cur.eraseIdx i, k - 1, f - 1, ts, ?_, by omega, ?_, OwG.far hoW (p := ⟨g + 1, 0, none⟩) (by simp [Value.ownBlock]) _, hBlN, hB7W.far (p := ⟨g + 1, 0, none⟩) (by simp; omega) _, hoSW.keepAbove (fun j hj hlt => Below.heap_setCell W2 ⟨g + 1, 0, none⟩ _ j (by simp; omega)), Bl.set hbW (p := ⟨g + 1, 0, none⟩) (by simp; omega) _, by omega, HST⟩, ?_⟩
      ·show _ = _
       rw [List.length_eraseIdx_of_lt (by rw [HK.out]; exact hik), HK.out]
      ·omega
      ·rw [HL0.out, lenAt_of (hBlN.cell 0)]; omega
   ·have hend := splitW_end (f := f) (cur := cur) (ts := ts) (by rw [HK.out]; omega)
    have HEND := Hj (hsp.out.symm.trans hend)
    clear hend hsp
    have hoS2 := hoS.lower (base' := w.heap.size) (by omega)
    go_wp2_with (at_builtin; refine wpList_appV rfl _ _ rfl w.heap.size _ ts rfl (hoS2.keep (Bl.alloc Br _)) wr.heap.size 1 (.slice (some ⟨g, 0, none⟩) k m) cur 47 rfl (BlkS.new _ _ _) ((OwS.els ho).keep (Bl.alloc Br _)) (by omega) (Bl.alloc hb _).size ?_; intro v' w' ho' hg' hat')
    go_ret2
    refine ⟨below_app (Bl.alloc hb _) (OwSS.own (hoS2.keep (Bl.alloc Br _))) hg', ?_⟩
    rw [HEND.out]
    exact ⟨v', rfl, ho'⟩
end
section
open Go.RowKit
set_option maxHeartbeats 1000000 in
theorem normal_bad (A : Option Addr) (cap n : Nat) (l : List (Int × Int)) (w : World) (hl : n ≤ 9223372036854775807) (hcap : n ≤ cap) (hs : SpS w A n l) (hc : ¬ checkW l n = 0) :
 Calls Tryz.prog 182 #[.slice A n cap] w fun e w' => e = .returned (.tuple #[.slice none 0 0, .int .i64 (checkW l n)]) ∧ Below w.heap.size w w' := by
 have q : (checkW l n != 0) = true := by rw [bne_iff_ne]; exact hc
 clear hc
 go_enter Tryz.func182, Tryz.ntmps182
 go_wp2_with (go_at_call 74; refine (check_any _ _ _ l _ hl hcap hs).mono ?_; rintro e w1 ⟨rfl, hb1⟩)
 go_ret2
 exact ⟨rfl, hb1⟩
set_option maxHeartbeats 1000000 in
theorem split_bad (A : Option Addr) (cap n : Nat) (l : List (Int × Int)) (w : World) (hl : n ≤ 9223372036854775807) (hcap : n ≤ cap) (hs : SpS w A n l) (hc : ¬ checkW l n = 0) :
 Calls Tryz.prog 148 #[.slice A n cap] w fun e w' => e = .returned (.tuple #[.slice none 0 0, .int .i64 (checkW l n)]) ∧ Below w.heap.size w w' := by
 have q : (checkW l n != 0) = true := by rw [bne_iff_ne]; exact hc
 have hno := normal_bad A cap n l w hl hcap hs hc
 have HNO := Hj hno
 clear hno hc
 go_enter Tryz.func148, Tryz.ntmps148
 go_wp2_with (go_at_call 182; refine HNO.out.mono ?_; rintro e w1 ⟨rfl, hb1⟩)
 go_ret2
 exact ⟨rfl, hb1⟩
theorem check_len {l : List (Int × Int)} {n : Nat} (h : checkW l n = 0) : 3 ≤ n ∧ n ≤ 40 := by
 refine ⟨?_, ?_⟩
 ·rcases Nat.lt_or_ge n 3 with h1 | h1
  ·rw [checkW_short h1] at h; omega
  ·exact h1
 ·rcases Nat.lt_or_ge 40 n with h1 | h1
  ·rw [checkW_long h1] at h; omega
  ·exact h1
def SplitAll (w : World) (l : List (Int × Int)) (n : Nat) (e : Ending) (w' : World) : Prop :=
 Below w.heap.size w w' ∧ ((¬ checkW l n = 0 ∧ e = .returned (.tuple #[.slice none 0 0, .int .i64 (checkW l n)])) ∨
  (checkW l n = 0 ∧ splitW (normalW l n).length (normalW l n) [] = none ∧ e = .returned (.tuple #[.slice none 0 0, .int .i64 11])) ∨
  (checkW l n = 0 ∧ ∃ ts v, splitW (normalW l n).length (normalW l n) [] = some ts ∧ e = .returned (.tuple #[v, .int .i64 0]) ∧ OwSS w' w.heap.size v ts))
theorem split_any (A : Option Addr) (cap n : Nat) (l : List (Int × Int)) (w : World) (hl : n ≤ 9223372036854775807) (hcap : n ≤ cap) (hs : SpS w A n l) :
 Calls Tryz.prog 148 #[.slice A n cap] w (SplitAll w l n) := by
 by_cases hc : checkW l n = 0
 ·have hn := check_len hc
  obtain ⟨b, off, rfl, -, -⟩ := hs.at_ (k := 0) (by omega)
  refine (split_ok b off cap n l w (by omega) hcap hs hc).mono ?_
  intro e w' h
  obtain ⟨h1, h2⟩ := h
  refine ⟨h1, .inr ?_⟩
  cases hsp : splitW (normalW l n).length (normalW l n) [] with
  | none => rw [hsp] at h2; exact .inl ⟨hc, rfl, h2⟩
  | some ts =>
    rw [hsp] at h2
    obtain ⟨v, h3, h4⟩ := h2
    exact .inr ⟨hc, ts, v, rfl, h3, h4⟩
 ·exact (split_bad A cap n l w hl hcap hs hc).mono fun e w' ⟨he, hb⟩ => ⟨hb, .inl ⟨hc, he⟩⟩
end
section
open Go.RowKit
theorem gt_map {l : List (Int × Int)} {g : Int × Int → Int × Int} {p : Nat} (hp : p < l.length) : gt (l.map g) p = g (gt l p) := by
 unfold gt; rw [List.getD, List.getElem?_map, List.getD, List.getElem?_eq_getElem hp]; rfl
theorem gt_mem {l : List (Int × Int)} {p : Int × Int} (h : p ∈ l) : ∃ i, i < l.length ∧ gt l i = p := by
 obtain ⟨i, hi, rfl⟩ := List.getElem_of_mem h
 exact ⟨i, hi, by unfold gt; simp [hi]⟩
def nearB (M : Int) (q : Int × Int) : Prop := -M ≤ q.1 ∧ q.1 ≤ M ∧ -M ≤ q.2 ∧ q.2 ≤ M
theorem near_of_out {M : Int} {q : Int × Int} (h : outB M q = false) : nearB M q := by
 unfold outB at h; simp at h; unfold nearB; omega
theorem mem_gt {l : List (Int × Int)} {q : Int × Int} (h : q ∈ l) : ∃ i, i < l.length ∧ gt l i = q := gt_mem h
theorem gt_in {l : List (Int × Int)} {i : Nat} (h : i < l.length) : gt l i ∈ l := by
 unfold gt; rw [List.getD, List.getElem?_eq_getElem h]; exact List.getElem_mem h
theorem check_near {l : List (Int × Int)} (h : checkW l l.length = 0) : ∀ q ∈ l, nearB 1048576 q := by
 intro q hq
 obtain ⟨i, hi, rfl⟩ := mem_gt hq
 unfold checkW at h
 split at h
 ·cases h
 ·split at h
  ·cases h
  ·split at h
   ·cases h
   ·rename_i h3
    have h3' : AnyB (fun i => outB 1048576 (gt l i)) l.length = false := by simpa using h3
    apply near_of_out
    cases ho : outB 1048576 (gt l i) with
    | false => rfl
    | true => rw [AnyB.yes hi ho] at h3'; cases h3'
theorem wrap_near {z : Int} (h1 : -100000000 ≤ z) (h2 : z ≤ 100000000) : wrap64 z = z := by unfold wrap64; omega
theorem mul_bd {x y : Int} (h1 : -2097152 ≤ x) (h2 : x ≤ 2097152) (h3 : -2097152 ≤ y) (h4 : y ≤ 2097152) : -4398046511104 ≤ x * y ∧ x * y ≤ 4398046511104 := by
 have h := Nat.mul_le_mul (show x.natAbs ≤ 2097152 by omega) (show y.natAbs ≤ 2097152 by omega)
 rw [← Int.natAbs_mul] at h
 generalize x * y = z at h ⊢
 omega
theorem wrap_mid {z : Int} (h1 : -100000000000000 ≤ z) (h2 : z ≤ 100000000000000) : wrap64 z = z := by unfold wrap64; omega
def crP (a b c : Int × Int) : Int := (b.1 - a.1) * (c.2 - a.2) - (b.2 - a.2) * (c.1 - a.1)
theorem cross_near {a b c : Int × Int} (ha : nearB 1048576 a) (hb : nearB 1048576 b) (hc : nearB 1048576 c) : crossW a b c = crP a b c := by
 unfold nearB at ha hb hc
 unfold crossW crP
 rw [wrap_near (z := b.1 - a.1) (by omega) (by omega), wrap_near (z := c.2 - a.2) (by omega) (by omega), wrap_near (z := b.2 - a.2) (by omega) (by omega), wrap_near (z := c.1 - a.1) (by omega) (by omega)]
 have m1 := mul_bd (x := b.1 - a.1) (y := c.2 - a.2) (by omega) (by omega) (by omega) (by omega)
 have m2 := mul_bd (x := b.2 - a.2) (y := c.1 - a.1) (by omega) (by omega) (by omega) (by omega)
 generalize (b.1 - a.1) * (c.2 - a.2) = u at m1 ⊢
 generalize (b.2 - a.2) * (c.1 - a.1) = v at m2 ⊢
 rw [wrap_mid (z := u) (by omega) (by omega), wrap_mid (z := v) (by omega) (by omega), wrap_mid (by omega) (by omega)]
def dtP (a b c : Int × Int) : Int := (a.1 - b.1) * (c.1 - b.1) + (a.2 - b.2) * (c.2 - b.2)
theorem folded_near {a b c : Int × Int} (ha : nearB 1048576 a) (hb : nearB 1048576 b) (hc : nearB 1048576 c) : foldedW a b c = ((crP a b c == 0) && decide (dtP a b c > 0)) := by
 unfold foldedW
 rw [cross_near ha hb hc]
 unfold nearB at ha hb hc
 unfold dtP
 rw [wrap_near (z := a.1 - b.1) (by omega) (by omega), wrap_near (z := c.1 - b.1) (by omega) (by omega), wrap_near (z := a.2 - b.2) (by omega) (by omega), wrap_near (z := c.2 - b.2) (by omega) (by omega)]
 have m1 := mul_bd (x := a.1 - b.1) (y := c.1 - b.1) (by omega) (by omega) (by omega) (by omega)
 have m2 := mul_bd (x := a.2 - b.2) (y := c.2 - b.2) (by omega) (by omega) (by omega) (by omega)
 generalize (a.1 - b.1) * (c.1 - b.1) = u at m1 ⊢
 generalize (a.2 - b.2) * (c.2 - b.2) = v at m2 ⊢
 rw [wrap_mid (z := u) (by omega) (by omega), wrap_mid (z := v) (by omega) (by omega), wrap_mid (by omega) (by omega)]
def rsidW (l : List (Int × Int)) (n i : Nat) : Bool := !(eqS (gt l i) (gt l ((i + 1) % n)) || onW (gt l i) (gt l ((i + 1) % n)) (gt l ((i + 2) % n)) || onW (gt l ((i + 1) % n)) (gt l ((i + 2) % n)) (gt l i)) && AllB (innW l n i) n
def rsimW (l : List (Int × Int)) (n : Nat) : Bool := AllB (rsidW l n) n
theorem on_near {a b c : Int × Int} (ha : nearB 1048576 a) (hb : nearB 1048576 b) (hc : nearB 1048576 c) : onW a b c = true ↔ crP a b c = 0 ∧ min a.1 b.1 ≤ c.1 ∧ c.1 ≤ max a.1 b.1 ∧ min a.2 b.2 ≤ c.2 ∧ c.2 ≤ max a.2 b.2 := by
 unfold onW
 rw [cross_near ha hb hc]
 simp [and_assoc]
theorem mul_same {x y : Int} (h : (0 ≤ x ∧ 0 ≤ y) ∨ (x ≤ 0 ∧ y ≤ 0)) : 0 ≤ x * y := by
 rcases h with ⟨h1, h2⟩ | ⟨h1, h2⟩
 ·exact Int.mul_nonneg h1 h2
 ·have := Int.mul_nonneg (a := -x) (b := -y) (by omega) (by omega)
  rw [Int.neg_mul_neg] at this
  exact this
theorem mul_ne {x y : Int} (h : x * y = 0) : x = 0 ∨ y = 0 := Int.mul_eq_zero.1 h
theorem fold_of_on {a b c : Int × Int} (hcr : crP a b c = 0) (h1 : min a.1 b.1 ≤ c.1 ∧ c.1 ≤ max a.1 b.1) (h2 : min a.2 b.2 ≤ c.2 ∧ c.2 ≤ max a.2 b.2) (hne : ¬ (c.1 = b.1 ∧ c.2 = b.2)) : dtP a b c > 0 := by
 unfold dtP
 have p1 : 0 ≤ (a.1 - b.1) * (c.1 - b.1) := mul_same (by omega)
 have p2 : 0 ≤ (a.2 - b.2) * (c.2 - b.2) := mul_same (by omega)
 rcases Int.lt_or_le 0 ((a.1 - b.1) * (c.1 - b.1) + (a.2 - b.2) * (c.2 - b.2)) with h | h
 ·exact h
 ·exfalso
  have e1 : (a.1 - b.1) * (c.1 - b.1) = 0 := by omega
  have e2 : (a.2 - b.2) * (c.2 - b.2) = 0 := by omega
  have f1 := mul_ne e1
  have f2 := mul_ne e2
  omega
theorem crP_turn {a b c : Int × Int} : crP b c a = crP a b c := by unfold crP; grind
theorem dtP_swap {a b c : Int × Int} : dtP c b a = dtP a b c := by unfold dtP; grind
theorem abs_mix {u1 u2 v1 v2 : Int} (h : u1 * v2 = u2 * v1) (h1 : u1.natAbs > v1.natAbs) (h2 : v2.natAbs > u2.natAbs) : False := by
 have e : u1.natAbs * v2.natAbs = u2.natAbs * v1.natAbs := by rw [← Int.natAbs_mul, ← Int.natAbs_mul, h]
 have g1 : (v1.natAbs + 1) * (u2.natAbs + 1) ≤ u1.natAbs * v2.natAbs := Nat.mul_le_mul h1 h2
 rw [e] at g1
 have : u2.natAbs * v1.natAbs = v1.natAbs * u2.natAbs := Nat.mul_comm _ _
 rw [this, Nat.add_mul, Nat.mul_add] at g1
 omega
theorem on_of_fold {a b c : Int × Int} (hcr : crP a b c = 0) (hd : dtP a b c > 0) : ((min a.1 b.1 ≤ c.1 ∧ c.1 ≤ max a.1 b.1) ∧ (min a.2 b.2 ≤ c.2 ∧ c.2 ≤ max a.2 b.2)) ∨ ((min b.1 c.1 ≤ a.1 ∧ a.1 ≤ max b.1 c.1) ∧ (min b.2 c.2 ≤ a.2 ∧ a.2 ≤ max b.2 c.2)) := by
 obtain ⟨u1, hu1⟩ : ∃ u1, a.1 - b.1 = u1 := ⟨_, rfl⟩
 obtain ⟨u2, hu2⟩ : ∃ u2, a.2 - b.2 = u2 := ⟨_, rfl⟩
 obtain ⟨v1, hv1⟩ : ∃ v1, c.1 - b.1 = v1 := ⟨_, rfl⟩
 obtain ⟨v2, hv2⟩ : ∃ v2, c.2 - b.2 = v2 := ⟨_, rfl⟩
 have hx : u1 * v2 = u2 * v1 := by
  have : crP a b c = u2 * v1 - u1 * v2 := by rw [← hu1, ← hu2, ← hv1, ← hv2]; unfold crP; grind
  omega
 have hdd : 0 < u1 * v1 + u2 * v2 := by
  have : dtP a b c = u1 * v1 + u2 * v2 := by rw [← hu1, ← hu2, ← hv1, ← hv2]; rfl
  omega
 have hpq : 0 ≤ (u1 * v1) * (u2 * v2) := by
  have e : (u1 * v1) * (u2 * v2) = (u1 * v2) * (u1 * v2) := by rw [show (u1 * v1) * (u2 * v2) = (u1 * v2) * (u2 * v1) by grind, ← hx]
  rw [e]
  exact mul_same (by omega)
 have hs : ∀ {x y : Int}, 0 ≤ x * y → 0 < x + y → 0 ≤ x := fun {x y} h1 h2 => by
  rcases Int.lt_or_le x 0 with h | h
  ·exfalso
   have : 0 < -x * y := Int.mul_pos (by omega) (by omega)
   rw [Int.neg_mul] at this
   omega
  ·exact h
 have hP : 0 ≤ u1 * v1 := hs hpq hdd
 have hQ : 0 ≤ u2 * v2 := hs (x := u2 * v2) (y := u1 * v1) (by rw [Int.mul_comm]; exact hpq) (by omega)
 have hsg : ∀ {x y : Int}, 0 ≤ x * y → (0 ≤ x ∧ 0 ≤ y) ∨ (x ≤ 0 ∧ y ≤ 0) := fun {x y} h => by
  rcases Int.lt_or_le x 0 with h1 | h1
  ·rcases Int.lt_or_le 0 y with h2 | h2
   ·exfalso
    have : 0 < -x * y := Int.mul_pos (by omega) h2
    rw [Int.neg_mul] at this
    omega
   ·exact .inr ⟨by omega, h2⟩
  ·rcases Int.lt_or_le y 0 with h2 | h2
   ·rcases Int.lt_or_le 0 x with h3 | h3
    ·exfalso
     have : 0 < x * -y := Int.mul_pos h3 (by omega)
     rw [Int.mul_neg] at this
     omega
    ·exact .inr ⟨h3, by omega⟩
   ·exact .inl ⟨h1, h2⟩
 have s1 := hsg hP
 have s2 := hsg hQ
 by_cases k1 : u1.natAbs > v1.natAbs
 ·have : ¬ v2.natAbs > u2.natAbs := fun h => abs_mix hx k1 h
  left; omega
 ·by_cases k2 : u2.natAbs > v2.natAbs
  ·by_cases k3 : v1.natAbs > u1.natAbs
   ·exact (abs_mix (u1 := u2) (u2 := u1) (v1 := v2) (v2 := v1) hx.symm k2 k3).elim
   ·left; omega
  ·right; omega
theorem rsim_eq {l : List (Int × Int)} (hl : ∀ q ∈ l, nearB 1048576 q) (h3 : 3 ≤ l.length) : rsimW l l.length = simpleW l l.length := by
 obtain ⟨n, hn⟩ : ∃ n, l.length = n := ⟨_, rfl⟩
 have hN : ∀ i, i < n → nearB 1048576 (gt l i) := fun i hi => hl _ (gt_in (by omega))
 rw [hn] at h3 ⊢
 have hm : ∀ i, i % n < n := fun i => Nat.mod_lt _ (by omega)
 have hfo : ∀ i, i < n → (foldedW (gt l i) (gt l ((i + 1) % n)) (gt l ((i + 2) % n)) = true ↔ crP (gt l i) (gt l ((i + 1) % n)) (gt l ((i + 2) % n)) = 0 ∧ dtP (gt l i) (gt l ((i + 1) % n)) (gt l ((i + 2) % n)) > 0) := fun i hi => by
  rw [folded_near (hN i hi) (hN _ (hm _)) (hN _ (hm _))]; simp
 have hself : ∀ a b : Int × Int, nearB 1048576 a → nearB 1048576 b → onW a b a = true := fun a b ha hb => by
  rw [on_near ha hb ha]
  refine ⟨by unfold crP; grind, by omega, by omega, by omega, by omega⟩
 rw [Bool.eq_iff_iff]
 unfold rsimW simpleW
 rw [Bool.and_eq_true, AllB.iff, AllB.iff, AllB.iff]
 constructor
 ·intro h
  have hr : ∀ i, i < n → eqS (gt l i) (gt l ((i + 1) % n)) = false ∧ onW (gt l i) (gt l ((i + 1) % n)) (gt l ((i + 2) % n)) = false ∧ onW (gt l ((i + 1) % n)) (gt l ((i + 2) % n)) (gt l i) = false ∧ AllB (innW l n i) n = true := fun i hi => by
   have := h i hi
   unfold rsidW at this
   simp only [Bool.and_eq_true, Bool.not_eq_true', Bool.or_eq_false_iff] at this
   exact ⟨this.1.1.1, this.1.1.2, this.1.2, this.2⟩
  refine ⟨fun i hi => ?_, fun i hi => ?_⟩
  ·-- no vertex twice
   rw [Bool.not_eq_true']
   cases hd : dupW l i with
   | false => rfl
   | true =>
     exfalso
     unfold dupW at hd
     obtain ⟨j, hj, he⟩ := AnyB.iff.1 hd
     have heq := (eqS_iff _ _).1 he
     by_cases k1 : i = j + 1
     ·have := (hr j (by omega)).1
      rw [show (j + 1) % n = i by rw [← k1]; exact Nat.mod_eq_of_lt hi, heq, (eqS_iff _ _).2 rfl] at this
      cases this
     ·by_cases k2 : (i + 1) % n = j
      ·have := (hr i hi).1
       rw [k2, heq, (eqS_iff _ _).2 rfl] at this
       cases this
      ·have := AllB.iff.1 (hr j (by omega)).2.2.2 i hi
       unfold innW at this
       have hme : meetW (gt l j) (gt l ((j + 1) % n)) (gt l i) (gt l ((i + 1) % n)) = true := by
        unfold meetW
        rw [heq, hself _ _ (hN j (by omega)) (hN _ (hm _))]
        rfl
       rw [hme] at this
       simp at this
       omega
  ·unfold sidW
   rw [Bool.and_eq_true, Bool.not_eq_true']
   refine ⟨?_, (hr i hi).2.2.2⟩
   cases hf : foldedW (gt l i) (gt l ((i + 1) % n)) (gt l ((i + 2) % n)) with
   | false => rfl
   | true =>
     exfalso
     obtain ⟨c1, c2⟩ := (hfo i hi).1 hf
     rcases on_of_fold c1 c2 with ⟨g1, g2⟩ | ⟨g1, g2⟩
     ·have := (on_near (hN i hi) (hN _ (hm (i + 1))) (hN _ (hm (i + 2)))).2 ⟨c1, g1.1, g1.2, g2.1, g2.2⟩
      rw [(hr i hi).2.1] at this; cases this
     ·have := (on_near (hN _ (hm (i + 1))) (hN _ (hm (i + 2))) (hN i hi)).2 ⟨by rw [crP_turn]; exact c1, g1.1, g1.2, g2.1, g2.2⟩
      rw [(hr i hi).2.2.1] at this; cases this
 ·rintro ⟨h1, h2⟩ i hi
  have hd : ∀ i j, i < n → j < i → ¬ gt l i = gt l j := fun i j hi hj e => by
   have := h1 i hi
   rw [Bool.not_eq_true'] at this
   unfold dupW at this
   rw [AnyB.yes hj ((eqS_iff _ _).2 e)] at this
   cases this
  have hd2 : ∀ i j, i < n → j < n → i ≠ j → ¬ gt l i = gt l j := fun i j hi hj hij e => by
   rcases Nat.lt_or_gt_of_ne hij with h | h
   ·exact hd j i hj h e.symm
   ·exact hd i j hi h e
  have hs := h2 i hi
  unfold sidW at hs
  rw [Bool.and_eq_true, Bool.not_eq_true'] at hs
  have m1 : (i + 1) % n ≠ i := fun e => by
   rcases Nat.lt_or_ge (i + 1) n with h | h
   ·rw [Nat.mod_eq_of_lt h] at e; omega
   ·rw [show i + 1 = n by omega, Nat.mod_self] at e; omega
  have m2 : (i + 2) % n ≠ (i + 1) % n := fun e => by
   rcases Nat.lt_or_ge (i + 2) n with h | h
   ·rw [Nat.mod_eq_of_lt h, Nat.mod_eq_of_lt (by omega)] at e; omega
   ·rcases Nat.lt_or_ge (i + 1) n with h' | h'
    ·rw [show i + 2 = n by omega, Nat.mod_self, Nat.mod_eq_of_lt h'] at e; omega
    ·rw [show i + 2 = n + 1 by omega, show i + 1 = n by omega, Nat.mod_self, Nat.add_mod_left, Nat.mod_eq_of_lt (by omega)] at e; omega
  have nf : ¬ (crP (gt l i) (gt l ((i + 1) % n)) (gt l ((i + 2) % n)) = 0 ∧ dtP (gt l i) (gt l ((i + 1) % n)) (gt l ((i + 2) % n)) > 0) := fun h => by
   have := (hfo i hi).2 h
   rw [hs.1] at this; cases this
  have ne1 := hd2 _ _ (hm (i + 1)) hi m1
  have ne2 := hd2 _ _ (hm (i + 2)) (hm (i + 1)) m2
  unfold rsidW
  simp only [Bool.and_eq_true, Bool.not_eq_true', Bool.or_eq_false_iff]
  refine ⟨⟨⟨?_, ?_⟩, ?_⟩, hs.2⟩
  ·cases he : eqS (gt l i) (gt l ((i + 1) % n)) with
   | false => rfl
   | true => exact absurd ((eqS_iff _ _).1 he).symm ne1
  ·cases ho : onW (gt l i) (gt l ((i + 1) % n)) (gt l ((i + 2) % n)) with
   | false => rfl
   | true =>
     exfalso
     obtain ⟨q1, q2, q3, q4, q5⟩ := (on_near (hN i hi) (hN _ (hm (i + 1))) (hN _ (hm (i + 2)))).1 ho
     exact nf ⟨q1, fold_of_on q1 ⟨q2, q3⟩ ⟨q4, q5⟩ (fun e => ne2 (Prod.ext e.1 e.2))⟩
  ·cases ho : onW (gt l ((i + 1) % n)) (gt l ((i + 2) % n)) (gt l i) with
   | false => rfl
   | true =>
     exfalso
     obtain ⟨q1, q2, q3, q4, q5⟩ := (on_near (hN _ (hm (i + 1))) (hN _ (hm (i + 2))) (hN i hi)).1 ho
     have c1 : crP (gt l i) (gt l ((i + 1) % n)) (gt l ((i + 2) % n)) = 0 := by rw [← crP_turn]; exact q1
     refine nf ⟨c1, ?_⟩
     rw [← dtP_swap]
     refine fold_of_on (a := gt l ((i + 2) % n)) (b := gt l ((i + 1) % n)) (c := gt l i) ?_ (by omega) (by omega) (fun e => ne1 (Prod.ext e.1.symm e.2.symm))
     unfold crP at c1 ⊢
     grind
end
end Go.Proofs.YtmdncaoilegnnaaGreat

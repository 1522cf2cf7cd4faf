/- copy at elements of several cells; rows of slices of spots. -/
import Derived.Test.YtjnllehnplenaaaGreatG08
import Derived.Laws.CopyRow
import Derived.Laws.MakeOwn
import Derived.Deep.RegionLaw
namespace Go.Proofs.YtjnllehnplenaaaGreat
set_option linter.unusedVariables false
set_option linter.unusedSimpArgs false
open Go.RowKit

theorem run_copyN {P : Program} (w : World) (dT sT ty elem : TypeId) (size : Nat) (g o dLen dCap : Nat) (a : Addr) (sLen sCap : Nat) (cur : Array Value) (t : TypeId) (cs : List Value)
    (hu : P.underlying dT = some (.slice elem)) (hs : (P.info? elem).map (·.size) = some size)
    (hg : w.heap[g]? = some (.cells cur t (0, 0))) (hn : cs.length = Nat.min sLen dLen * size)
    (hsrc : ∀ j v, cs[j]? = some v → w.cell? (a.add j) = some v) (hfit : o + cs.length ≤ cur.size) (h1 : ∀ v ∈ cs, v.oneCell' = true) :
    (Builtin.copy_ #[dT, sT] ty #[.slice (some ⟨g, o, none⟩) dLen dCap, .slice (some a) sLen sCap]).run P w =
      .ok (goInt (Nat.min sLen dLen)) (w.setRow g (cur.toList.take o ++ cs ++ cur.toList.drop (o + cs.length)).toArray) := by
  have hl := run_loadCells_list (P := P) w a cs hsrc
  have hst := run_storeCells_at P g o t cs 0 cur w hg (by simpa using hfit) h1
  cases hq : P.info? elem with
  | none => simp [hq] at hs
  | some i =>
    have hi : i.size = size := by simpa [hq] using hs
    simp [Builtin.copy_, run_underlying hu, Builtin.lenOf, Builtin.firstCells, sizeOf, typeInfo, hq, hi, ← hn, hl, hst]

theorem wp_copy_run {P : Program} {o : Oper} {a : Act} {w w' : World} {K : Act → World → Prop} {Q : Exit → Act → World → Prop} (d s : Operand) (dT sT : TypeId) {v vd vs : Value}
    (ho : o.op = .call { callee := .builtin .copy, args := #[d, s], argTypes := #[dT, sT] }) (hd : a.eval d = vd) (hs : a.eval s = vs)
    (hr : ∀ ty, (Builtin.copy_ #[dT, sT] ty #[vd, vs]).run P w = .ok v w') (h : K (a.put o.dst v) w') : Oper.wp P o a w K Q := by
  unfold Oper.wp execOp
  simp only [ho, resolve, invoke, builtin, Sem.run_bind, Sem.run_pure, Result.andThen_ok, List.map_toArray, List.map_cons, List.map_nil, hd, hs, hr]
  exact h

theorem wpList_copy_run {P : Program} {w w' : World} {ops : Array Oper} {rest : List Oper} {o : Oper} {a : Act} {Q : Exit → Act → World → Prop} (hgd : o.guard = none) (d s : Operand) (dT sT : TypeId) {v vd vs : Value}
    (ho : o.op = .call { callee := .builtin .copy, args := #[d, s], argTypes := #[dT, sT] }) (hd : a.eval d = vd) (hs : a.eval s = vs)
    (hr : ∀ ty, (Builtin.copy_ #[dT, sT] ty #[vd, vs]).run P w = .ok v w') (h : wpList P ops Q rest (a.put o.dst v) w') : wpList P ops Q (o :: rest) a w :=
  wpList_plain hgd fun _ hK => wp_copy_run d s dT sT ho hd hs hr (hK _ _ h)

theorem step_copy_run {P : Program} {ops : Array Oper} {o : Oper} {a : Act} {w w' : World} {K : Act → World → Prop} {Q : Exit → Act → World → Prop} {E : Prop} (hgd : o.guard = none) (d s : Operand) (dT sT : TypeId) {v vd vs : Value}
    (ho : o.op = .call { callee := .builtin .copy, args := #[d, s], argTypes := #[dT, sT] }) (hd : a.eval d = vd) (hs : a.eval s = vs)
    (hr : ∀ ty, (Builtin.copy_ #[dT, sT] ty #[vd, vs]).run P w = .ok v w') (h : K (a.put o.dst v) w') :
    if Region.wanted o (yielded ops a.tmps) = true then Oper.wp P o a w K Q else E := by
  have hw : Region.wanted o (yielded ops a.tmps) = true := by simp [Region.wanted, hgd]
  rw [if_pos hw]
  exact wp_copy_run d s dT sT ho hd hs hr h

theorem sizeS : (Tryz.prog.info? 30).map (·.size) = some 2 := by kernel_rfl

theorem enS_all (l : List (Int × Int)) : ∀ u ∈ l.flatMap enS, u.oneCell' = true := by
  intro u hu
  obtain ⟨p, _, hp⟩ := List.mem_flatMap.1 hu
  exact enS_one p u hp
theorem flat_take (l : List (Int × Int)) (i : Nat) : (l.flatMap enS).take (i * 2) = (l.take i).flatMap enS := by
  induction l generalizing i with
  | nil => simp
  | cons a l ih =>
    cases i with
    | zero => simp
    | succ i =>
      rw [List.take_succ_cons, List.flatMap_cons, List.flatMap_cons, ← ih, show (i + 1) * 2 = i * 2 + 1 + 1 by omega]
      simp [enS]
theorem erase_row {A : List Value} {cur : List (Int × Int)} {m i : Nat} (hm : cur.length = m) (hA : A.take (m * 2) = cur.flatMap enS) (hi : i < m) :
    (A.take (i * 2) ++ (cur.drop (i + 1)).flatMap enS ++ A.drop (i * 2 + ((cur.drop (i + 1)).flatMap enS).length)).take ((m - 1) * 2) = (cur.eraseIdx i).flatMap enS := by
  have h1 : A.take (i * 2) = (cur.take i).flatMap enS := by
    rw [← flat_take, ← hA, List.take_take]; congr 1; omega
  have hl1 : ((cur.take i).flatMap enS).length = i * 2 := by rw [flat_len enS_len, List.length_take]; omega
  have hl2 : ((cur.drop (i + 1)).flatMap enS).length = (m - 1 - i) * 2 := by rw [flat_len enS_len, List.length_drop]; omega
  rw [h1, List.take_append_of_le_length (by rw [List.length_append, hl1, hl2]; omega), List.take_of_length_le (by rw [List.length_append, hl1, hl2]; omega), ← List.flatMap_append, ← List.eraseIdx_eq_take_drop_succ]

/-- left[i:] overwritten by left[i+1:], then cut by one. -/
theorem OwS.erase {w : World} {base g m cap i : Nat} {cur : List (Int × Int)} (h : OwS w base (.slice (some ⟨g, 0, none⟩) m cap) cur) (hm : cur.length = m) (hi : i < m) (sa : Addr) (hsa : i + 1 < m → sa = ⟨g, (i + 1) * 2, none⟩) :
    ∃ W, (∀ ty, (Builtin.copy_ #[22, 22] ty #[.slice (some ⟨g, i * 2, none⟩) (m - i) (cap - i), .slice (some sa) (m - (i + 1)) (cap - (i + 1))]).run Tryz.prog w = .ok (.int .i64 ((m - (i + 1) : Nat) : Int)) W) ∧
      OwS W base (.slice (some ⟨g, 0, none⟩) (m - 1) cap) (cur.eraseIdx i) ∧ w.grownBy W (some g) := by
  subst hm
  have hsp : SpS w (some sa) (cur.length - (i + 1)) (cur.drop (i + 1)) := by
    rcases Nat.lt_or_ge (i + 1) cur.length with h0 | h0
    · rw [hsa h0]; simpa using (h.spsg rfl).drop (i := i + 1) (by omega)
    · exact ⟨by rw [List.length_drop], .inl (by omega)⟩
  obtain ⟨h1, h2⟩ := h
  rcases h2 with ⟨e, _⟩ | ⟨g', cap', A, e, hb, hg, hnc, hcm, hcs, htake⟩
  · cases e
  · injection e with e1 e2 e3
    injection e1 with e1
    injection e1 with e1
    subst e1 e3
    have hlen := flat_len enS_len (cur.drop (i + 1))
    rw [List.length_drop] at hlen
    have hmin : Nat.min (cur.length - (i + 1)) (cur.length - i) = cur.length - (i + 1) := Nat.min_eq_left (by omega)
    have hr := fun ty => run_copyN (P := Tryz.prog) w 22 22 ty 30 2 g (i * 2) (cur.length - i) (cap - i) sa (cur.length - (i + 1)) (cap - (i + 1)) A 30 ((cur.drop (i + 1)).flatMap enS) Tryz.underlying22 sizeS hg (by rw [hlen, hmin]) (news_of_sps hsp) (by rw [hlen, hcs]; omega) (enS_all _)
    rw [hmin] at hr
    refine ⟨_, hr, ⟨?_, .inr ⟨g, cap, _, ?_, hb, setRow_heap w g A _ _ _ hg, by rw [List.length_eraseIdx_of_lt hi]; omega, hcm, ?_, ?_⟩⟩, ⟨rfl, rfl, rfl, by simp [World.setRow], fun k _ hne => setRow_other w g k _ (fun e => hne (by rw [e]))⟩⟩
    · rw [flat_len enS_len]
    · rw [List.length_eraseIdx_of_lt hi]
    · rw [List.size_toArray, List.length_append, List.length_append, List.length_take, List.length_drop, hlen, Array.length_toList, hcs]; omega
    · rw [List.length_eraseIdx_of_lt hi]
      exact erase_row rfl htake hi

/-! ### rows of slices of spots -/

/-- The value is a slice that reads as l; its block, if it has one, is a row of spots and lies from base on. -/
def ElS (w : World) (base : Nat) (v : Value) (l : List (Int × Int)) : Prop := ∃ A c, v = .slice A l.length c ∧ l.length ≤ c ∧ SpS w A l.length l ∧ (A = none → c = 0) ∧ (∀ a, A = some a → base ≤ a.block ∧ ∃ cs fr, w.heap[a.block]? = some (.cells cs 30 fr))

def enV (v : Value) : List Value := [v]

/-- The slice value v owns a row, from block base on, of slices that read as the lists ls. -/
def OwSS (w : World) (base : Nat) (v : Value) (ls : List (List (Int × Int))) : Prop :=
  ∃ vs : List Value, OwG 22 1 enV w base v vs ∧ vs.length = ls.length ∧ (∀ u ∈ vs, u.oneCell' = true) ∧ ∀ (i : Nat) (u : Value) (l : List (Int × Int)), vs[i]? = some u → ls[i]? = some l → ElS w base u l

theorem lt_of_heap {w : World} {k : Nat} {o : Obj} (h : w.heap[k]? = some o) : k < w.heap.size := (Array.getElem?_eq_some_iff.1 h).1

theorem ElS.keepAbove {w w' : World} {base : Nat} {v : Value} {l : List (Int × Int)} (h : ElS w base v l) (hk : ∀ k cs fr, base ≤ k → w.heap[k]? = some (.cells cs 30 fr) → w'.heap[k]? = w.heap[k]?) : ElS w' base v l := by
  obtain ⟨A, c, rfl, h1, h2, h3, h4⟩ := h
  refine ⟨A, c, rfl, h1, ⟨h2.1, ?_⟩, h3, fun a ha => ?_⟩
  · obtain ⟨_, h2⟩ := h2
    rcases h2 with h2 | ⟨b, off, rfl, h2⟩
    · exact .inl h2
    · obtain ⟨g1, cs, fr, g2⟩ := h4 _ rfl
      have hh := hk b cs fr g1 g2
      exact .inr ⟨b, off, rfl, fun k hk' => ⟨(World.cell?_of_block (w := w) (a := ⟨b, off + k * 2, none⟩) hh).trans (h2 k hk').1, (World.cell?_of_block (w := w) (a := ⟨b, off + k * 2 + 1, none⟩) hh).trans (h2 k hk').2⟩⟩
  · obtain ⟨g1, cs, fr, g2⟩ := h4 _ ha
    exact ⟨g1, cs, fr, (hk _ cs fr g1 g2).trans g2⟩

theorem ElS.keep {w w' : World} {base : Nat} {v : Value} {l : List (Int × Int)} (h : ElS w base v l) (hb : Below w.heap.size w w') : ElS w' base v l :=
  h.keepAbove fun k _ _ _ hg => hb.block k (lt_of_heap hg)

theorem ElS.grown {w w' : World} {base : Nat} {v : Value} {l : List (Int × Int)} {row : Option Nat} (h : ElS w base v l) (hg : w.grownBy w' row) (hr : ∀ k cs fr, base ≤ k → w.heap[k]? = some (.cells cs 30 fr) → some k ≠ row) : ElS w' base v l :=
  h.keepAbove fun k cs fr hk hh => hg.block k (lt_of_heap hh) (hr k cs fr hk hh)

theorem OwSS.nil {w : World} {base : Nat} : OwSS w base (.slice none 0 0) [] := ⟨[], OwG.nil, rfl, by simp, by simp⟩
theorem OwSS.keep {w w' : World} {base : Nat} {v : Value} {ls : List (List (Int × Int))} (h : OwSS w base v ls) (hb : Below w.heap.size w w') : OwSS w' base v ls := by
  obtain ⟨vs, h1, h2, h3, h4⟩ := h
  exact ⟨vs, h1.keep hb, h2, h3, fun i u l hu hl => (h4 i u l hu hl).keep hb⟩

theorem OwG.keepAbove {α : Type} {e : TypeId} {size : Nat} {enc : α → List Value} {w w' : World} {base : Nat} {v : Value} {l : List α} (h : OwG e size enc w base v l) (hb : ∀ k, base ≤ k → k < w.heap.size → w'.heap[k]? = w.heap[k]?) : OwG e size enc w' base v l := by
  have hlt := h.lt
  obtain ⟨h1, h2⟩ := h
  refine ⟨h1, ?_⟩
  rcases h2 with h2 | ⟨g, cap, cur, hv, hg, hh, r⟩
  · exact Or.inl h2
  · refine Or.inr ⟨g, cap, cur, hv, hg, ?_, r⟩
    rw [hb g hg (hlt g (by rw [hv]; rfl)).2]; exact hh

/-- A change of blocks below base alone. -/
theorem OwSS.keepAbove {w w' : World} {base : Nat} {v : Value} {ls : List (List (Int × Int))} (h : OwSS w base v ls) (hb : ∀ k, base ≤ k → k < w.heap.size → w'.heap[k]? = w.heap[k]?) : OwSS w' base v ls := by
  obtain ⟨vs, h1, h2, h3, h4⟩ := h
  exact ⟨vs, h1.keepAbove hb, h2, h3, fun i u l hu hl => (h4 i u l hu hl).keepAbove fun k _ _ hk hh => hb k hk (lt_of_heap hh)⟩

theorem OwSS.lower {w : World} {base base' : Nat} {v : Value} {ls : List (List (Int × Int))} (h : OwSS w base v ls) (hb : base' ≤ base) : OwSS w base' v ls := by
  obtain ⟨vs, h1, h2, h3, h4⟩ := h
  exact ⟨vs, h1.lower hb, h2, h3, fun i u l hu hl => by
    obtain ⟨A, c, e, e1, e2, e3, e4⟩ := h4 i u l hu hl
    exact ⟨A, c, e, e1, e2, e3, fun a ha => ⟨Nat.le_trans hb (e4 a ha).1, (e4 a ha).2⟩⟩⟩
theorem ElS.lower {w : World} {base base' : Nat} {v : Value} {l : List (Int × Int)} (h : ElS w base v l) (hb : base' ≤ base) : ElS w base' v l := by
  obtain ⟨A, c, e, e1, e2, e3, e4⟩ := h
  exact ⟨A, c, e, e1, e2, e3, fun a ha => ⟨Nat.le_trans hb (e4 a ha).1, (e4 a ha).2⟩⟩

theorem infoSS : (Tryz.prog.info? 22).map (fun i => (i.zero, i.size, i.bytes)) = some (some (.slice none 0 0), 1, 24) := by kernel_rfl

theorem enV_len (v : Value) : (enV v).length = 1 := rfl

/-- append of one slice of spots. -/
theorem wpList_appV {w : World} {ops : Array Oper} {rest : List Oper} {o : Oper} {a : Act} {Q : Exit → Act → World → Prop} (hgd : o.guard = none) (s x : Operand)
    (ho : o.op = .call { callee := .builtin .append, args := #[s, x], argTypes := #[25, 25] })
    (base : Nat) (v : Value) (ls : List (List (Int × Int))) (hs : a.eval s = v) (hown : OwSS w base v ls)
    (bx c : Nat) (u : Value) (l : List (Int × Int)) (tb : TypeId) (hx : a.eval x = .slice (some ⟨bx, 0, none⟩) 1 c) (hnew : BlkS w bx tb #[u]) (hu : ElS w base u l)
    (hlen : ls.length ≤ 1000000) (hbase : base ≤ w.heap.size)
    (h : ∀ v' w', OwSS w' base v' (ls ++ [l]) → w.grownBy w' v.ownBlock → (v'.ownBlock = v.ownBlock ∨ v'.ownBlock = some w.heap.size) → wpList Tryz.prog ops Q rest (a.put o.dst v') w') :
    wpList Tryz.prog ops Q (o :: rest) a w := by
  obtain ⟨i, hi, hz0, hz1, hz2⟩ := info_parts infoSS
  obtain ⟨vs, h1, h2, h3, h4⟩ := hown
  have hone : u.oneCell' = true := by obtain ⟨A, c, rfl, _⟩ := hu; rfl
  have hrow : ∀ k cs fr, base ≤ k → w.heap[k]? = some (.cells cs 30 fr) → some k ≠ v.ownBlock := by
    intro k cs fr _ hh he
    rcases h1.2 with ⟨rfl, _⟩ | ⟨g, cap, cur, rfl, _, hg, _⟩
    · cases he
    · have : k = g := by simpa [Value.ownBlock] using he
      subst this
      rw [hg] at hh
      injection hh with hh
      injection hh with _ ht
      exact absurd ht (by decide)
  have hflat : vs.flatMap enV = vs := by
    clear h1 h2 h3 h4 hrow
    induction vs with
    | nil => rfl
    | cons a l ih => rw [List.flatMap_cons, ih]; rfl
  refine wpList_append_own_at (P := Tryz.prog) w hgd s x 25 ho base 22 i (.slice none 0 0) 1 24 Tryz.underlying25 hi hz0 hz1 hz2 rfl (by omega) v vs.length (vs.flatMap enV) hs h1 ⟨bx, 0, none⟩ 1 c [u] hx rfl ?_ (by simpa using hone) (by rw [h2]; unfold maxLen; omega) (by rw [h2]; omega) hbase ?_
  · intro j y hj
    exact World.news_of_block (w := w) (B := bx) (cs := #[u]) (t := tb) (fr := (0, 0)) hnew j y (by simpa using hj)
  · intro v' w' ho' hg _ hat
    refine h v' w' ⟨vs ++ [u], ?_, by rw [List.length_append, List.length_append, h2]; rfl, ?_, ?_⟩ hg hat
    · unfold OwG
      rw [List.length_append, List.flatMap_append]
      exact ho'
    · intro y hy
      rcases List.mem_append.1 hy with hy | hy
      · exact h3 y hy
      · rw [List.mem_singleton.1 hy]; exact hone
    · intro k y l' hy hl'
      rcases Nat.lt_or_ge k vs.length with hk | hk
      · rw [List.getElem?_append_left hk] at hy
        rw [List.getElem?_append_left (by omega)] at hl'
        exact (h4 k y l' hy hl').grown hg hrow
      · rw [List.getElem?_append_right hk] at hy
        rw [List.getElem?_append_right (by omega)] at hl'
        rcases Nat.eq_zero_or_pos (k - vs.length) with h0 | h0
        · rw [h0] at hy
          rw [show k - ls.length = 0 by omega] at hl'
          simp at hy hl'
          subst hy hl'
          exact hu.grown hg hrow
        · rw [List.getElem?_eq_none (by simp; omega)] at hy; cases hy

end Go.Proofs.YtjnllehnplenaaaGreat

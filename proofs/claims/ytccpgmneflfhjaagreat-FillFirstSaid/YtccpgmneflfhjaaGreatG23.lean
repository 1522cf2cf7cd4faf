/- Slices of int and rows of them: reading, owning, append; slices.Index, Contains, Clone at int. search.Orders. garmentref32.in, continued, Orders; garmentref21.SameInts; garmentlaw32.before. The laws SearchOrders and SearchAll, given the contract of alive; garmentlaw32.before. -/
import Derived.Test.YtccpgmneflfhjaaGreatG09
import Derived.Test.YtccpgmneflfhjaaGreatG03
import Derived.Laws.AppendOwnNone
namespace Go.Proofs.YtccpgmneflfhjaaGreat
set_option linter.unusedVariables false
set_option linter.unusedSimpArgs false
open Go.RowKit

/-- Slices of int. -/
def gi (l : List Int) (k : Nat) : Int := l.getD k 0
theorem gi_some {l : List Int} {k : Nat} (h : k < l.length) : l[k]? = some (gi l k) := by
  unfold gi; rw [List.getD, List.getElem?_eq_getElem h]; rfl
def InS (w : World) (A : Option Addr) (n : Nat) (l : List Int) : Prop := l.length = n ∧ (n = 0 ∨ ∃ b off, A = some ⟨b, off, none⟩ ∧ ∀ k, k < n → w.cell? ⟨b, off + k, none⟩ = some (.int .i64 (gi l k)))
theorem InS.keep {w w' : World} {A : Option Addr} {n : Nat} {l : List Int} (h : InS w A n l) (hb : Below w.heap.size w w') : InS w' A n l := by
  refine ⟨h.1, ?_⟩
  obtain ⟨_, h2⟩ := h
  rcases h2 with h2 | ⟨b, off, rfl, h2⟩
  · exact .inl h2
  · exact .inr ⟨b, off, rfl, fun k hk => cell_keep hb (h2 k hk)⟩
theorem InS.at_ {w : World} {A : Option Addr} {n : Nat} {l : List Int} (h : InS w A n l) {k : Nat} (hk : k < n) : ∃ b off, A = some ⟨b, off, none⟩ ∧ w.cell? ⟨b, off + k, none⟩ = some (.int .i64 (gi l k)) := by
  obtain ⟨_, h2⟩ := h
  rcases h2 with h2 | ⟨b, off, rfl, h2⟩
  · omega
  · exact ⟨b, off, rfl, h2 k hk⟩

def enI (z : Int) : List Value := [.int .i64 z]
theorem enI_len (z : Int) : (enI z).length = 1 := rfl
theorem enI_one (z : Int) : ∀ u ∈ enI z, u.oneCell' = true := by
  intro u hu; simp [enI] at hu; subst hu; rfl
def OwI (w : World) (base : Nat) (v : Value) (l : List Int) : Prop := OwG 3 1 enI w base v l
theorem infoI : (Tryz.prog.info? 3).map (fun i => (i.zero, i.size, i.bytes)) = some (some (.int .i64 0), 1, 8) := by kernel_rfl
theorem infoII : (Tryz.prog.info? 27).map (fun i => (i.zero, i.size, i.bytes)) = some (some (.slice none 0 0), 1, 24) := by kernel_rfl

theorem OwI.ins {w : World} {base : Nat} {v : Value} {l : List Int} (h : OwI w base v l) : ∃ A cap, v = .slice A l.length cap ∧ l.length ≤ cap ∧ InS w A l.length l ∧ (0 < l.length → ∃ g, A = some ⟨g, 0, none⟩ ∧ base ≤ g ∧ g < w.heap.size) := by
  rcases OwG.form h with ⟨rfl, rfl⟩ | ⟨g, cap, rfl, h1, h2, h3, h4⟩
  · exact ⟨none, 0, rfl, Nat.le_refl _, ⟨rfl, .inl rfl⟩, fun h => absurd h (by simp)⟩
  · refine ⟨_, cap, rfl, h3, ⟨rfl, .inr ⟨g, 0, rfl, fun k hk => ?_⟩⟩, fun _ => ⟨g, rfl, h1, h2⟩⟩
    have c0 := OwG.cells h k (by omega)
    have f0 := flat_at enI_len l k 0 _ (gi_some hk) (by omega)
    rw [Nat.mul_one, Nat.add_zero] at f0
    rw [f0] at c0
    rw [Nat.zero_add]
    exact c0

/-- The value is a slice that reads as l; its block, if it has one, is a row of ints and lies from base on. -/
def ElI (w : World) (base : Nat) (v : Value) (l : List Int) : Prop := ∃ A c, v = .slice A l.length c ∧ l.length ≤ c ∧ InS w A l.length l ∧ (A = none → c = 0) ∧ (∀ a, A = some a → base ≤ a.block ∧ ∃ cs fr, w.heap[a.block]? = some (.cells cs 3 fr))

theorem OwI.eli {w : World} {base : Nat} {v : Value} {l : List Int} (h : OwI w base v l) : ElI w base v l := by
  obtain ⟨A, c, rfl, h1, h2, h3⟩ := h.ins
  rcases h.2 with ⟨e, e2⟩ | ⟨g, cap, cur, e, hg, hh, _⟩
  · injection e with e1 e2 e3
    exact ⟨A, c, rfl, h1, h2, fun _ => e3, fun a ha => by rw [e1] at ha; cases ha⟩
  · injection e with e1 e2 e3
    refine ⟨A, c, rfl, h1, h2, fun h0 => ?_, fun a ha => ?_⟩
    · rw [e1] at h0; cases h0
    · rw [e1] at ha; injection ha with ha; subst ha; exact ⟨hg, cur, (0, 0), hh⟩

/-- The slice value v owns a row, from block base on, of slices that read as the lists ls. -/
def OwII (w : World) (base : Nat) (v : Value) (ls : List (List Int)) : Prop :=
  ∃ vs : List Value, OwG 27 1 enV w base v vs ∧ vs.length = ls.length ∧ (∀ u ∈ vs, u.oneCell' = true) ∧ ∀ (i : Nat) (u : Value) (l : List Int), vs[i]? = some u → ls[i]? = some l → ElI w base u l

theorem ElI.keepAbove {w w' : World} {base : Nat} {v : Value} {l : List Int} (h : ElI w base v l) (hk : ∀ k cs fr, base ≤ k → w.heap[k]? = some (.cells cs 3 fr) → w'.heap[k]? = w.heap[k]?) : ElI w' base v l := by
  obtain ⟨A, c, rfl, h1, h2, h3, h4⟩ := h
  refine ⟨A, c, rfl, h1, ⟨h2.1, ?_⟩, h3, fun a ha => ?_⟩
  · obtain ⟨_, h2⟩ := h2
    rcases h2 with h2 | ⟨b, off, rfl, h2⟩
    · exact .inl h2
    · obtain ⟨g1, cs, fr, g2⟩ := h4 _ rfl
      have hh := hk b cs fr g1 g2
      exact .inr ⟨b, off, rfl, fun k hk' => (World.cell?_of_block (w := w) (a := ⟨b, off + k, none⟩) hh).trans (h2 k hk')⟩
  · obtain ⟨g1, cs, fr, g2⟩ := h4 _ ha
    exact ⟨g1, cs, fr, (hk _ cs fr g1 g2).trans g2⟩

theorem ElI.keep {w w' : World} {base : Nat} {v : Value} {l : List Int} (h : ElI w base v l) (hb : Below w.heap.size w w') : ElI w' base v l :=
  h.keepAbove fun k _ _ _ hg => hb.block k (lt_of_heap hg)
theorem ElI.grown {w w' : World} {base : Nat} {v : Value} {l : List Int} {row : Option Nat} (h : ElI w base v l) (hg : w.grownBy w' row) (hr : ∀ k cs fr, base ≤ k → w.heap[k]? = some (.cells cs 3 fr) → some k ≠ row) : ElI w' base v l :=
  h.keepAbove fun k cs fr hk hh => hg.block k (lt_of_heap hh) (hr k cs fr hk hh)
theorem ElI.lower {w : World} {base base' : Nat} {v : Value} {l : List Int} (h : ElI w base v l) (hb : base' ≤ base) : ElI w base' v l := by
  obtain ⟨A, c, e, e1, e2, e3, e4⟩ := h
  exact ⟨A, c, e, e1, e2, e3, fun a ha => ⟨Nat.le_trans hb (e4 a ha).1, (e4 a ha).2⟩⟩

theorem OwII.nil {w : World} {base : Nat} : OwII w base (.slice none 0 0) [] := ⟨[], OwG.nil, rfl, by simp, by simp⟩
theorem OwII.keep {w w' : World} {base : Nat} {v : Value} {ls : List (List Int)} (h : OwII w base v ls) (hb : Below w.heap.size w w') : OwII w' base v ls := by
  obtain ⟨vs, h1, h2, h3, h4⟩ := h
  exact ⟨vs, h1.keep hb, h2, h3, fun i u l hu hl => (h4 i u l hu hl).keep hb⟩
theorem OwII.alloc {w : World} {base : Nat} {v : Value} {ls : List (List Int)} (h : OwII w base v ls) (o : Obj) : OwII (w.alloc o) base v ls := h.keep (Bl.alloc (Below.refl _ _) _)
theorem OwII.lower {w : World} {base base' : Nat} {v : Value} {ls : List (List Int)} (h : OwII w base v ls) (hb : base' ≤ base) : OwII w base' v ls := by
  obtain ⟨vs, h1, h2, h3, h4⟩ := h
  exact ⟨vs, h1.lower hb, h2, h3, fun i u l hu hl => (h4 i u l hu hl).lower hb⟩
theorem below_appII {w0 w w' : World} {v : Value} {ls : List (List Int)} (hb : Below w0.heap.size w0 w) (h : OwII w w0.heap.size v ls) (hg : w.grownBy w' v.ownBlock) : Below w0.heap.size w0 w' := by
  obtain ⟨vs, h1, _⟩ := h
  exact below_app hb h1 hg

/-- append of one slice of ints. -/
theorem wpList_appVI {w : World} {ops : Array Oper} {rest : List Oper} {o : Oper} {a : Act} {Q : Exit → Act → World → Prop} (hgd : o.guard = none) (s x : Operand)
    (ho : o.op = .call { callee := .builtin .append, args := #[s, x], argTypes := #[68, 68] })
    (base : Nat) (v : Value) (ls : List (List Int)) (hs : a.eval s = v) (hown : OwII w base v ls)
    (bx c : Nat) (u : Value) (l : List Int) (tb : TypeId) (hx : a.eval x = .slice (some ⟨bx, 0, none⟩) 1 c) (hnew : BlkS w bx tb #[u]) (hu : ElI w base u l)
    (hlen : ls.length ≤ 1000000) (hbase : base ≤ w.heap.size)
    (h : ∀ v' w', OwII w' base v' (ls ++ [l]) → w.grownBy w' v.ownBlock → (v'.ownBlock = v.ownBlock ∨ v'.ownBlock = some w.heap.size) → wpList Tryz.prog ops Q rest (a.put o.dst v') w') :
    wpList Tryz.prog ops Q (o :: rest) a w := by
  obtain ⟨i, hi, hz0, hz1, hz2⟩ := info_parts infoII
  obtain ⟨vs, h1, h2, h3, h4⟩ := hown
  have hone : u.oneCell' = true := by obtain ⟨A, c, rfl, _⟩ := hu; rfl
  have hrow : ∀ k cs fr, base ≤ k → w.heap[k]? = some (.cells cs 3 fr) → some k ≠ v.ownBlock := by
    intro k cs fr _ hh he
    rcases h1.2 with ⟨rfl, _⟩ | ⟨g, cap, cur, rfl, _, hg, _⟩
    · cases he
    · have : k = g := by simpa [Value.ownBlock] using he
      subst this
      rw [hg] at hh
      injection hh with hh
      injection hh with _ ht
      exact absurd ht (by decide)
  refine wpList_append_own_at (P := Tryz.prog) w hgd s x 68 ho base 27 i (.slice none 0 0) 1 24 Tryz.underlying68 hi hz0 hz1 hz2 rfl (by omega) v vs.length (vs.flatMap enV) hs h1 ⟨bx, 0, none⟩ 1 c [u] hx rfl ?_ (by simpa using hone) (by rw [h2]; unfold maxLen; omega) (by rw [h2]; omega) hbase ?_
  · intro j y hj
    exact World.news_of_block (w := w) (B := bx) (cs := #[u]) (t := tb) (fr := (0, 0)) hnew j y (by simpa using hj)
  · intro v' w' ho' hg _ hat
    refine h v' w' ⟨vs ++ [u], ?_, by rw [List.length_append, List.length_append, h2]; rfl, ?_, ?_⟩ hg hat
    · unfold OwG
      rw [List.length_append, List.flatMap_append]
      exact ho'
    · intro y hy
      rcases List.mem_append.1 hy with hy | hy
      · exact h3 y hy
      · rw [List.mem_singleton.1 hy]; exact hone
    · intro k y l' hy hl'
      rcases Nat.lt_or_ge k vs.length with hk | hk
      · rw [List.getElem?_append_left hk] at hy
        rw [List.getElem?_append_left (by omega)] at hl'
        exact (h4 k y l' hy hl').grown hg hrow
      · rw [List.getElem?_append_right hk] at hy
        rw [List.getElem?_append_right (by omega)] at hl'
        rcases Nat.eq_zero_or_pos (k - vs.length) with h0 | h0
        · rw [h0] at hy
          rw [show k - ls.length = 0 by omega] at hl'
          simp at hy hl'
          subst hy hl'
          exact hu.grown hg hrow
        · rw [List.getElem?_eq_none (by simp; omega)] at hy; cases hy

/-! ### lists of lists read -/
def li (ls : List (List Int)) (k : Nat) : List Int := ls.getD k []
theorem li_some {ls : List (List Int)} {k : Nat} (h : k < ls.length) : ls[k]? = some (li ls k) := by
  unfold li; rw [List.getD, List.getElem?_eq_getElem h]; rfl
def InSS (w : World) (A : Option Addr) (n : Nat) (ls : List (List Int)) : Prop :=
  ls.length = n ∧ (n = 0 ∨ ∃ b off, A = some ⟨b, off, none⟩ ∧ ∀ k, k < n → ∃ Ak ck, w.cell? ⟨b, off + k, none⟩ = some (.slice Ak (li ls k).length ck) ∧ (li ls k).length ≤ ck ∧ InS w Ak (li ls k).length (li ls k) ∧ (Ak = none → ck = 0))
theorem InSS.at_ {w : World} {A : Option Addr} {n : Nat} {ls : List (List Int)} (h : InSS w A n ls) {k : Nat} (hk : k < n) : ∃ b off Ak ck, A = some ⟨b, off, none⟩ ∧ w.cell? ⟨b, off + k, none⟩ = some (.slice Ak (li ls k).length ck) ∧ (li ls k).length ≤ ck ∧ InS w Ak (li ls k).length (li ls k) ∧ (Ak = none → ck = 0) := by
  obtain ⟨h1, h⟩ := h; rcases h with rfl | ⟨b, off, rfl, h⟩
  · omega
  · obtain ⟨Ak, ck, e1, e2, e3, e4⟩ := h k hk
    exact ⟨b, off, Ak, ck, rfl, e1, e2, e3, e4⟩
theorem InSS.keep {w w' : World} {A : Option Addr} {n : Nat} {ls : List (List Int)} (h : InSS w A n ls) (hb : Below w.heap.size w w') : InSS w' A n ls := by
  refine ⟨h.1, ?_⟩
  obtain ⟨h1, h⟩ := h; rcases h with rfl | ⟨b, off, rfl, h⟩
  · exact .inl rfl
  · refine .inr ⟨b, off, rfl, fun k hk => ?_⟩
    obtain ⟨Ak, ck, e1, e2, e3, e4⟩ := h k hk
    exact ⟨Ak, ck, cell_keep hb e1, e2, e3.keep hb, e4⟩
theorem OwII.inss {w : World} {base : Nat} {v : Value} {ls : List (List Int)} (h : OwII w base v ls) : ∃ A c, v = .slice A ls.length c ∧ ls.length ≤ c ∧ InSS w A ls.length ls ∧ (A = none → c = 0) := by
  obtain ⟨vs, h1, h2, h3, h4⟩ := h
  rcases OwG.form h1 with ⟨rfl, rfl⟩ | ⟨g, cap, rfl, g1, g2, g3, g4⟩
  · have : ls = [] := List.eq_nil_of_length_eq_zero (by rw [← h2]; rfl)
    subst this
    exact ⟨none, 0, rfl, Nat.le_refl _, ⟨rfl, .inl rfl⟩, fun _ => rfl⟩
  · refine ⟨_, cap, by rw [← h2], by rw [← h2]; exact g3, ⟨rfl, .inr ⟨g, 0, rfl, fun k hk => ?_⟩⟩, fun h => by cases h⟩
    have hkv : k < vs.length := by rw [h2]; exact hk
    obtain ⟨u, hu⟩ : ∃ u, vs[k]? = some u := ⟨_, List.getElem?_eq_getElem hkv⟩
    have c0 := OwG.cells h1 k (by omega)
    have f0 := flat_at enV_len vs k 0 u hu (by omega)
    rw [Nat.mul_one, Nat.add_zero] at f0
    rw [f0] at c0
    obtain ⟨Ak, ck, rfl, e2, e3, e4, _⟩ := h4 k u (li ls k) hu (li_some hk)
    exact ⟨Ak, ck, by rw [Nat.zero_add]; exact c0, e2, e3, e4⟩

/-! ### append of ints -/
theorem newsI {w : World} {ad : Addr} {m : Nat} {l : List Int} (h : InS w (some ad) m l) : ∀ j u, (l.flatMap enI)[j]? = some u → w.cell? (ad.add j) = some u := by
  intro j u hj
  have hjl : j < (l.flatMap enI).length := by
    rcases Nat.lt_or_ge j (l.flatMap enI).length with h1 | h1
    · exact h1
    · rw [List.getElem?_eq_none h1] at hj; cases hj
  rw [flat_len enI_len, h.1, Nat.mul_one] at hjl
  obtain ⟨b, off, e, hc⟩ := h.at_ hjl
  injection e with e
  subst e
  have hf0 := flat_at enI_len l j 0 _ (gi_some (by rw [h.1]; exact hjl)) (by omega)
  rw [Nat.mul_one, Nat.add_zero, hj] at hf0
  have ea : (⟨b, off, none⟩ : Addr).add j = ⟨b, off + j, none⟩ := by
    unfold Addr.add; by_cases h0 : j = 0
    · subst h0; simp
    · simp [h0]
  rw [ea, hc, hf0]; rfl

theorem wpList_appI {w : World} {ops : Array Oper} {rest : List Oper} {o : Oper} {a : Act} {Q : Exit → Act → World → Prop} (hgd : o.guard = none) (s x : Operand)
    (ho : o.op = .call { callee := .builtin .append, args := #[s, x], argTypes := #[27, 27] })
    (base : Nat) (v : Value) (l : List Int) (hs : a.eval s = v) (hown : OwI w base v l)
    (A : Option Addr) (m c : Nat) (l2 : List Int) (hx : a.eval x = .slice A m c) (hr : InS w A m l2) (hnil : A = none → c = 0)
    (hlen : l.length + m ≤ 1000000) (hbase : base ≤ w.heap.size)
    (h : ∀ v' w', OwI w' base v' (l ++ l2) → w.grownBy w' v.ownBlock → (v'.ownBlock = v.ownBlock ∨ v'.ownBlock = some w.heap.size) → wpList Tryz.prog ops Q rest (a.put o.dst v') w') :
    wpList Tryz.prog ops Q (o :: rest) a w := by
  obtain ⟨i, hi, hz0, hz1, hz2⟩ := info_parts infoI
  cases A with
  | none =>
    have h0 := hnil rfl
    subst h0
    have hm : m = 0 := by
      rcases Nat.eq_zero_or_pos m with h1 | h1
      · exact h1
      · obtain ⟨_, _, e, _⟩ := hr.at_ h1; cases e
    subst hm
    have hl2 : l2 = [] := List.eq_nil_of_length_eq_zero hr.1
    subst hl2
    refine wpList_append_own_none hgd s x 27 ho base 3 i 1 Tryz.underlying27 hi v l.length (l.flatMap enI) hs hown hx ?_
    exact h v w (by rw [List.append_nil]; exact hown) (World.grownBy.refl _ _) (Or.inl rfl)
  | some ad =>
    refine wpList_append_own_at (P := Tryz.prog) w hgd s x 27 ho base 3 i (.int .i64 0) 1 8 Tryz.underlying27 hi hz0 hz1 hz2 rfl (by omega) v l.length (l.flatMap enI) hs hown ad m c (l2.flatMap enI) hx (by rw [flat_len enI_len, hr.1]) (newsI hr) ?_ (by unfold maxLen; omega) (by omega) hbase ?_
    · intro u hu
      obtain ⟨p, _, hp⟩ := List.mem_flatMap.1 hu
      exact enI_one p u hp
    · intro v' w' ho' hg _ hat
      refine h v' w' ?_ hg hat
      unfold OwI OwG
      rw [List.length_append, List.flatMap_append, hr.1]
      exact ho'
theorem InS.new (w : World) (t : TypeId) (z : Int) : InS (w.alloc (.cells #[.int .i64 z] t)) (some ⟨w.heap.size, 0, none⟩) 1 [z] := by
  refine ⟨rfl, .inr ⟨_, 0, rfl, fun k hk => ?_⟩⟩
  obtain rfl : k = 0 := by omega
  simp [gi]

/-! ### slices.Index, Contains, Clone -/
set_option maxHeartbeats 1000000 in
theorem indexI_any (A : Option Addr) (cap n : Nat) (l : List Int) (x : Int) (w : World) (hl : n ≤ 1000000) (hs : InS w A n l) :
    Calls Tryz.prog 82 #[.slice A n cap, .int .i64 x] w fun e w' => e = .returned (.int .i64 (idxOf (fun i => x == gi l i) n)) ∧ Below w.heap.size w w' := by
  go_enter Tryz.func82, Tryz.ntmps82
  go_wp2_with fail
  go_loopw [8] (fun i wr => ∃ k : Nat, k ≤ n ∧ i = .int .i64 k ∧ Hid (AnyB (fun i => x == gi l i) k = false) ∧ Below w.heap.size w wr) (fun i _ => n - (intOf i).toNat)
  case atStart => exact ⟨0, Nat.zero_le _, rfl, AnyB.zero _, Below.refl _ _⟩
  case round =>
    obtain ⟨k, hk, rfl, hp, hb⟩ := hrel
    by_cases hlt : k < n
    · obtain ⟨b, off, rfl, hc⟩ := (hs.keep hb).at_ hlt
      go_wp2_with fail
      · go_ret
        exact ⟨ret_int (idxOf_at hlt hp.out (by assumption)).symm, hb⟩
      · go_roundw
        case rel => exact ⟨k + 1, by omega, by go_num, AnyB.succ hp.out (by assumption), hb⟩
        case measure => simp [intOf]; omega
    · obtain rfl : n = k := by omega
      go_wp2_with fail
      go_ret
      exact ⟨ret_int (idxOf_none hp.out).symm, hb⟩

set_option maxHeartbeats 1000000 in
theorem containsI_any (A : Option Addr) (cap n : Nat) (l : List Int) (x : Int) (w : World) (hl : n ≤ 1000000) (hs : InS w A n l) :
    Calls Tryz.prog 56 #[.slice A n cap, .int .i64 x] w fun e w' => e = .returned (.bool (AnyB (fun i => x == gi l i) n)) ∧ Below w.heap.size w w' := by
  go_enter Tryz.func56, Tryz.ntmps56
  go_wp2_with (go_at_call 82; refine (indexI_any _ _ _ _ _ _ hl hs).mono ?_; rintro e w1 ⟨rfl, hb1⟩)
  go_ret
  exact ⟨ret_bool (idxOf_any _ _), hb1⟩

def RetI (w : World) (l : List Int) (e : Ending) (w' : World) : Prop := ∃ v, e = .returned v ∧ OwI w' w.heap.size v l ∧ Below w.heap.size w w'

set_option maxHeartbeats 1000000 in
theorem cloneI_some (ad : Addr) (cap n : Nat) (l : List Int) (w : World) (hn : n ≤ 1000000) (hs : InS w (some ad) n l) :
    Calls Tryz.prog 57 #[.slice (some ad) n cap] w (RetI w l) := by
  have heq := fun (w : World) => Lib.run_eql_slice_nil (P := Tryz.prog) w 27 3 (some ad) n cap 0 0 Tryz.underlying27
  have hE : OwI (w.alloc (.cells #[] 3)) w.heap.size (.slice (some ⟨w.heap.size, 0, none⟩) 0 0) [] := World.ownsRow_lit w #[] 0 (Nat.le_refl _) (Nat.zero_le _) rfl
  go_enter Tryz.func57, Tryz.ntmps57
  go_wp2_with (at_builtin; refine wpList_appI rfl _ _ rfl w.heap.size _ [] rfl hE (some ad) n cap l rfl (hs.keep (Bl.alloc (Below.refl _ _) _)) (fun h => by cases h) (by simp; omega) (Bl.alloc (Below.refl _ _) _).size ?_; intro v' w' ho' hg' hat')
  go_ret
  exact ⟨v', rfl, by simpa using ho', below_app (Bl.alloc (Below.refl _ _) _) hE hg'⟩
set_option maxHeartbeats 400000 in
theorem cloneI_none (w : World) : Calls Tryz.prog 57 #[.slice none 0 0] w (RetI w []) := by
  have heq := fun (w : World) => Lib.run_eql_slice_nil (P := Tryz.prog) w 27 3 none 0 0 0 0 Tryz.underlying27
  go_enter Tryz.func57, Tryz.ntmps57
  go_wp2_with fail
  go_ret
  exact ⟨_, rfl, OwG.nil, Below.refl _ _⟩
theorem cloneI_any (A : Option Addr) (cap n : Nat) (l : List Int) (w : World) (hn : n ≤ 1000000) (hs : InS w A n l) (hz : A = none → cap = 0) :
    Calls Tryz.prog 57 #[.slice A n cap] w (RetI w l) := by
  cases A with
  | some ad => exact cloneI_some ad cap n l w hn hs
  | none =>
    have h0 := hz rfl
    have hn0 : n = 0 := by
      rcases Nat.eq_zero_or_pos n with h | h
      · exact h
      · obtain ⟨_, _, e, _⟩ := hs.at_ h; cases e
    subst hn0 h0
    rw [List.eq_nil_of_length_eq_zero hs.1]
    exact cloneI_none w

end Go.Proofs.YtccpgmneflfhjaaGreat

namespace Go.Proofs.YtccpgmneflfhjaaGreat
set_option linter.unusedVariables false
set_option linter.unusedSimpArgs false
open Go.RowKit

def ordIn (o : List Int) (acc : List (List Int)) : Nat → List (List Int)
  | 0 => acc
  | i + 1 => if AnyB (fun j => ((i : Nat) : Int) == gi o j) o.length = true then ordIn o acc i else ordIn o acc i ++ [o ++ [((i : Nat) : Int)]]
def ordMid (n : Nat) (os : List (List Int)) : Nat → List (List Int)
  | 0 => []
  | k + 1 => ordIn (li os k) (ordMid n os k) n
def ordTo (n : Nat) : Nat → List (List Int)
  | 0 => [[]]
  | r + 1 => ordMid n (ordTo n r) (ordTo n r).length
def ordW (z : Int) : List (List Int) := if z < 0 ∨ 5 < z then [] else ordTo z.toNat z.toNat

theorem ordIn_small {o : List Int} {acc : List (List Int)} {m : Nat} (ho : o.length ≤ m) (ha : ∀ t ∈ acc, t.length ≤ m + 1) : ∀ i, (ordIn o acc i).length ≤ acc.length + i ∧ ∀ t ∈ ordIn o acc i, t.length ≤ m + 1 := by
  intro i
  induction i with
  | zero => exact ⟨Nat.le_refl _, ha⟩
  | succ i ih =>
    rw [ordIn]
    split
    · exact ⟨by omega, ih.2⟩
    · refine ⟨by simp; omega, fun t ht => ?_⟩
      rcases List.mem_append.1 ht with ht | ht
      · exact ih.2 t ht
      · simp at ht; subst ht; simp; exact ho
theorem li_mem {ls : List (List Int)} {k : Nat} (h : k < ls.length) : li ls k ∈ ls := by
  unfold li; rw [List.getD, List.getElem?_eq_getElem h]; exact List.getElem_mem h
theorem ordMid_small {n m : Nat} {os : List (List Int)} (ho : ∀ t ∈ os, t.length ≤ m) : ∀ k, k ≤ os.length → (ordMid n os k).length ≤ k * n ∧ ∀ t ∈ ordMid n os k, t.length ≤ m + 1 := by
  intro k
  induction k with
  | zero => intro _; simp [ordMid]
  | succ k ih =>
    intro hk
    have h := ih (by omega)
    have := ordIn_small (ho _ (li_mem (ls := os) (k := k) (by omega))) h.2 n
    rw [ordMid, Nat.add_mul]
    exact ⟨by omega, this.2⟩
theorem ordTo_small {n : Nat} (hn : n ≤ 5) : ∀ r, (ordTo n r).length ≤ 5 ^ r ∧ ∀ t ∈ ordTo n r, t.length ≤ r := by
  intro r
  induction r with
  | zero => simp [ordTo]
  | succ r ih =>
    have h := ordMid_small (n := n) ih.2 _ (Nat.le_refl _)
    rw [ordTo]
    refine ⟨Nat.le_trans h.1 ?_, h.2⟩
    rw [Nat.pow_succ]
    exact Nat.mul_le_mul ih.1 hn
theorem ordTo_len {n r : Nat} (hn : n ≤ 5) (hr : r ≤ 5) : (ordTo n r).length ≤ 3125 ∧ ∀ t ∈ ordTo n r, t.length ≤ 5 := by
  have h := ordTo_small hn r
  refine ⟨Nat.le_trans h.1 ?_, fun t ht => Nat.le_trans (h.2 t ht) hr⟩
  exact Nat.le_trans (Nat.pow_le_pow_right (by omega) hr) (by decide)

def RetII (w : World) (ls : List (List Int)) (e : Ending) (w' : World) : Prop := ∃ v, e = .returned v ∧ OwII w' w.heap.size v ls ∧ Below w.heap.size w w'

theorem ordInit (w : World) : OwII ((w.alloc (.cells #[] 3)).alloc (.cells #[.slice (some ⟨w.heap.size, 0, none⟩) 0 0] 27)) w.heap.size (.slice (some ⟨w.heap.size + 1, 0, none⟩) 1 1) [[]] := by
  refine ⟨[.slice (some ⟨w.heap.size, 0, none⟩) 0 0], ?_, rfl, ?_, ?_⟩
  · have h := World.ownsRow_lit (base := w.heap.size) (e := 27) (size := 1) (w.alloc (.cells #[] 3)) #[.slice (some ⟨w.heap.size, 0, none⟩) 0 0] 1 (by simp) (by unfold maxLen; omega) rfl
    simpa [OwG, enV] using h
  · intro u hu; simp at hu; subst hu; rfl
  · intro i u l hu hl
    rcases i with _ | i
    · simp at hu hl
      subst hu hl
      refine ⟨some ⟨w.heap.size, 0, none⟩, 0, rfl, Nat.le_refl _, ⟨rfl, .inl rfl⟩, (fun h => by cases h), fun a ha => ?_⟩
      injection ha with ha
      subst ha
      exact ⟨Nat.le_refl _, #[], (0, 0), by rw [(Bl.alloc (Below.refl _ _) _ : Below (w.alloc (.cells #[] 3)).heap.size _ _).block w.heap.size (by simp), heap_alloc_new]⟩
    · simp at hu

set_option maxHeartbeats 2000000 in
set_option maxRecDepth 100000 in
theorem orders_any (z : Int) (w : World) (hz1 : -9223372036854775808 ≤ z) (hz2 : z ≤ 9223372036854775807) :
    Calls Tryz.prog 31 #[.int .i64 z] w (RetII w (ordW z)) := by
  by_cases h : z < 0 ∨ 5 < z
  · have HR := Lib.hid (show ordW z = [] by unfold ordW; rw [if_pos h])
    go_enter Tryz.func31, Tryz.ntmps31
    rcases h with h | h
    · go_wp2_with fail
      go_ret
      exact ⟨_, rfl, by rw [HR.out]; exact OwII.nil, Below.refl _ _⟩
    · go_wp2_with fail
      go_ret
      exact ⟨_, rfl, by rw [HR.out]; exact OwII.nil, Below.refl _ _⟩
  · obtain ⟨n, rfl⟩ : ∃ n : Nat, z = n := ⟨z.toNat, by omega⟩
    have hn : n ≤ 5 := by omega
    have HR := Lib.hid (show ordW n = ordTo n n by unfold ordW; rw [if_neg h, Int.toNat_natCast])
    clear h hz1 hz2
    have hI := ordInit w
    have hbI : Below w.heap.size w ((w.alloc (.cells #[] 3)).alloc (.cells #[.slice (some ⟨w.heap.size, 0, none⟩) 0 0] 27)) := (Bl.alloc (Bl.alloc (Below.refl _ _) _) _)
    go_enter Tryz.func31, Tryz.ntmps31
    go_wp2_with fail
    go_loopw [3, 17] (fun v i wr => ∃ r : Nat, r ≤ n ∧ i = .int .i64 r ∧ OwII wr w.heap.size v (ordTo n r) ∧ Below w.heap.size w wr) (fun _ i _ => n - (intOf i).toNat)
    case atStart => exact ⟨0, Nat.zero_le _, rfl, hI, hbI⟩
    case round =>
      clear hI hbI
      obtain ⟨r, hr, rfl, ho, hb⟩ := hrel
      by_cases hlt : r < n
      · have hsm := ordTo_len hn (show r ≤ 5 by omega)
        have HSM := Lib.hid hsm.2
        have hsm1 := hsm.1
        clear hsm
        have hstep := Lib.hid (show ordTo n (r + 1) = ordMid n (ordTo n r) (ordTo n r).length from rfl)
        obtain ⟨os, hos⟩ : ∃ os, ordTo n r = os := ⟨_, rfl⟩
        rw [hos] at hstep hsm1 HSM ho
        clear hos
        obtain ⟨A1, c1, rfl, hc1, hS1, -⟩ := ho.inss
        obtain ⟨m, hm⟩ : ∃ m, os.length = m := ⟨_, rfl⟩
        rw [hm] at hstep hsm1 hc1 hS1
        have HM := Lib.hid hm
        rw [hm]
        clear hm
        go_wp2_with fail
        obtain ⟨wa, rfl⟩ : ∃ wa : World, wa = wr := ⟨_, rfl⟩
        go_loopw [4, 21] (fun v i wx => ∃ k : Nat, k ≤ m ∧ i = .int .i64 k ∧ OwII wx wa.heap.size v (ordMid n os k) ∧ Below wa.heap.size wa wx) (fun _ i _ => m - (intOf i).toNat)
        case atStart => exact ⟨0, Nat.zero_le _, rfl, OwII.nil, Below.refl _ _⟩
        case round =>
          obtain ⟨k, hk, rfl, hok, hbk⟩ := hrel
          by_cases hkm : k < m
          · obtain ⟨b1, o1, Ak, ck, rfl, e1, e2, e3, e4⟩ := hS1.at_ hkm
            have hmid := ordMid_small (n := n) HSM.out k (by rw [HM.out]; omega)
            have hmid1 : (ordMid n os k).length ≤ 15625 := Nat.le_trans hmid.1 (Nat.le_trans (Nat.mul_le_mul (show k ≤ 3125 by omega) hn) (by omega))
            have HMID := Lib.hid hmid.2
            clear hmid
            have hl5 : (li os k).length ≤ 5 := HSM.out _ (li_mem (by rw [HM.out]; exact hkm))
            have hst2 := Lib.hid (show ordMid n os (k + 1) = ordIn (li os k) (ordMid n os k) n from rfl)
            obtain ⟨o, hoo⟩ : ∃ o, li os k = o := ⟨_, rfl⟩
            rw [hoo] at e1 e2 e3 hl5 hst2
            clear hoo
            obtain ⟨no, hno⟩ : ∃ no, o.length = no := ⟨_, rfl⟩
            rw [hno] at e1 e2 e3 hl5
            have HNO := Lib.hid hno
            clear hno
            obtain ⟨acc, hacc⟩ : ∃ acc, ordMid n os k = acc := ⟨_, rfl⟩
            rw [hacc] at hmid1 HMID hst2 hok
            clear hacc
            have e1' := cell_keep hbk e1
            clear e1
            go_wp2_with fail
            clear e1'
            obtain ⟨wx, rfl⟩ : ∃ wx : World, wx = wr := ⟨_, rfl⟩
            go_loopw [4, 26] (fun v i wy => ∃ j : Nat, j ≤ n ∧ i = .int .i64 j ∧ OwII wy wa.heap.size v (ordIn o acc j) ∧ Below wa.heap.size wa wy) (fun _ i _ => n - (intOf i).toNat)
            case atStart => exact ⟨0, Nat.zero_le _, rfl, hok, hbk⟩
            case round =>
              clear hok hbk
              obtain ⟨j, hj, rfl, hoj, hbj⟩ := hrel
              by_cases hjn : j < n
              · have hin := (ordIn_small (o := o) (m := 5) (by rw [HNO.out]; exact hl5) HMID.out j).1
                have hin1 : (ordIn o acc j).length ≤ 1000000 := by omega
                have hst3 : ordIn o acc (j + 1) = if AnyB (fun i => ((j : Nat) : Int) == gi o i) no = true then ordIn o acc j else ordIn o acc j ++ [o ++ [((j : Nat) : Int)]] := by rw [ordIn, HNO.out]
                by_cases hany : AnyB (fun i => ((j : Nat) : Int) == gi o i) no = true
                · rw [if_pos hany] at hst3
                  have H3 := Lib.hid hst3
                  clear hst3
                  go_wp2_with (go_at_call 56; refine (containsI_any _ _ _ o _ _ (by omega) (e3.keep hbj)).mono ?_; rintro e w5 ⟨rfl, hb5⟩; rw [hany])
                  exact ⟨⟨j + 1, by omega, by go_num, by rw [H3.out]; exact hoj.keep hb5, Bl.call hbj hb5⟩, by simp [intOf]; omega⟩
                · rw [if_neg hany] at hst3
                  have H3 := Lib.hid hst3
                  have hany' : AnyB (fun i => ((j : Nat) : Int) == gi o i) no = false := by simpa using hany
                  clear hst3 hany
                  have HL7 := Lib.hid (show (o ++ [(j : Int)]).length = no + 1 by rw [List.length_append, HNO.out]; rfl)
                  go_wp2_with (first | (go_at_call 56; refine (containsI_any _ _ _ o _ _ (by omega) (e3.keep hbj)).mono ?_; rintro e w5 ⟨rfl, hb5⟩; rw [hany']) | (go_at_call 57; refine (cloneI_any _ _ _ o _ (by omega) ((e3.keep hbj).keep hb5) e4).mono ?_; rintro e w6 ⟨v6, rfl, ho6, hb6⟩) | (at_builtin; refine wpList_appI rfl _ _ rfl w5.heap.size v6 o rfl (OwG.alloc ho6 _) _ 1 1 [(j : Int)] rfl (InS.new _ _ _) (fun h => by cases h) (by rw [HNO.out]; omega) (Bl.alloc hb6 _).size ?_; intro v7 w7 ho7 hg7 hat7; have hb7 := below_app (Bl.alloc hb6 _) (OwG.alloc ho6 _) hg7; clear hg7 hat7; obtain ⟨A7, c7, rfl, -, -, -, -⟩ := OwI.eli ho7; rw [HL7.out] at ho7 ⊢) | (at_builtin; refine wpList_appVI rfl _ _ rfl wa.heap.size _ (ordIn o acc j) rfl (((hoj.keep hb5).keep hb7).alloc _) w7.heap.size 1 _ (o ++ [(j : Int)]) 27 rfl (BlkS.new _ _ _) (((OwI.eli ho7).lower (Bl.call hbj hb5).size).keep (Bl.alloc (Below.refl _ _) _)) hin1 (Bl.alloc (Bl.call (Bl.call hbj hb5) hb7) _).size ?_; intro v8 w8 ho8 hg8 hat8))
                  exact ⟨⟨j + 1, by omega, by go_num, by rw [H3.out]; exact ho8, below_appII (Bl.alloc (Bl.call (Bl.call hbj hb5) hb7) _) (((hoj.keep hb5).keep hb7).alloc _) hg8⟩, by simp [intOf]; omega⟩
              · obtain rfl : n = j := by omega
                go_wp2_with fail
                exact ⟨⟨k + 1, by omega, by go_num, by rw [hst2.out]; exact hoj, hbj⟩, by simp [intOf]; omega⟩
          · obtain rfl : m = k := by omega
            go_wp2_with fail
            exact ⟨⟨r + 1, by omega, by go_num, by rw [hstep.out]; exact hok.lower hb.size, Bl.call hb hbk⟩, by simp [intOf]; omega⟩
      · obtain rfl : n = r := by omega
        go_wp2_with fail
        go_ret
        exact ⟨_, rfl, by rw [HR.out]; exact ho, hb⟩

end Go.Proofs.YtccpgmneflfhjaaGreat

namespace Go.Proofs.YtccpgmneflfhjaaGreat
set_option linter.unusedVariables false
set_option linter.unusedSimpArgs false
open Go.RowKit

set_option maxHeartbeats 1000000 in
theorem inI_any (A : Option Addr) (cap n : Nat) (l : List Int) (x : Int) (w : World) (hl : n ≤ 1000000) (hs : InS w A n l) :
    Calls Tryz.prog 83 #[.slice A n cap, .int .i64 x] w fun e w' => e = .returned (.bool (AnyB (fun i => gi l i == x) n)) ∧ Below w.heap.size w w' := by
  go_enter Tryz.func83, Tryz.ntmps83
  go_wp2_with fail
  go_loopw [5] (fun i wr => ∃ k : Nat, k ≤ n ∧ i = .int .i64 k ∧ Hid (AnyB (fun i => gi l i == x) k = false) ∧ Below w.heap.size w wr) (fun i _ => n - (intOf i).toNat)
  case atStart => exact ⟨0, Nat.zero_le _, rfl, AnyB.zero _, Below.refl _ _⟩
  case round =>
    obtain ⟨k, hk, rfl, hp, hb⟩ := hrel
    by_cases hlt : k < n
    · obtain ⟨b, off, rfl, hc⟩ := (hs.keep hb).at_ hlt
      go_wp2_with fail
      · go_ret
        exact ⟨ret_bool (AnyB.yes hlt (by assumption)).symm, hb⟩
      · go_roundw
        case rel => exact ⟨k + 1, by omega, by go_num, AnyB.succ hp.out (by assumption), hb⟩
        case measure => simp [intOf]; omega
    · obtain rfl : n = k := by omega
      go_wp2_with fail
      go_ret
      exact ⟨ret_bool hp.out.symm, hb⟩

def contIn (f : List Int → List (List Int)) (l : List Int) : Nat → List (List Int)
  | 0 => []
  | i + 1 => if AnyB (fun j => gi l j == ((i : Nat) : Int)) l.length = true then contIn f l i else contIn f l i ++ f (l ++ [((i : Nat) : Int)])
def contW (n : Nat) : Nat → List Int → List (List Int)
  | 0, l => [l]
  | d + 1, l => contIn (contW n d) l n
def refOrdW (z : Int) : List (List Int) := if z < 0 ∨ 5 < z then [] else contW z.toNat z.toNat []

theorem contIn_len {f : List Int → List (List Int)} {l : List Int} {m : Nat} (hf : ∀ t, (f t).length ≤ m) : ∀ i, (contIn f l i).length ≤ i * m := by
  intro i
  induction i with
  | zero => simp [contIn]
  | succ i ih =>
    rw [contIn, Nat.add_mul]
    split
    · omega
    · have := hf (l ++ [((i : Nat) : Int)])
      rw [List.length_append]; omega
theorem contW_len {n : Nat} (hn : n ≤ 5) : ∀ d l, (contW n d l).length ≤ 5 ^ d := by
  intro d
  induction d with
  | zero => intro l; simp [contW]
  | succ d ih =>
    intro l
    rw [contW, Nat.pow_succ, Nat.mul_comm]
    exact Nat.le_trans (contIn_len ih n) (Nat.mul_le_mul hn (Nat.le_refl _))

theorem flat_enV (vs : List Value) : vs.flatMap enV = vs := by
  induction vs with
  | nil => rfl
  | cons a l ih => rw [List.flatMap_cons, ih]; rfl

/-- append of a row of slices of ints. -/
theorem wpList_appVVI {w : World} {ops : Array Oper} {rest : List Oper} {o : Oper} {a : Act} {Q : Exit → Act → World → Prop} (hgd : o.guard = none) (s x : Operand)
    (ho : o.op = .call { callee := .builtin .append, args := #[s, x], argTypes := #[68, 68] })
    (base : Nat) (v : Value) (ls : List (List Int)) (hs : a.eval s = v) (hown : OwII w base v ls)
    (x2 : Value) (ls2 : List (List Int)) (hx : a.eval x = x2) (hown2 : OwII w base x2 ls2)
    (hlen : ls.length + ls2.length ≤ 1000000) (hbase : base ≤ w.heap.size)
    (h : ∀ v' w', OwII w' base v' (ls ++ ls2) → w.grownBy w' v.ownBlock → (v'.ownBlock = v.ownBlock ∨ v'.ownBlock = some w.heap.size) → wpList Tryz.prog ops Q rest (a.put o.dst v') w') :
    wpList Tryz.prog ops Q (o :: rest) a w := by
  obtain ⟨i, hi, hz0, hz1, hz2⟩ := info_parts infoII
  have hkeep := hown
  obtain ⟨vs, h1, h2, h3, h4⟩ := hown
  obtain ⟨us, g1, g2, g3, g4⟩ := hown2
  have hrow : ∀ k cs fr, base ≤ k → w.heap[k]? = some (.cells cs 3 fr) → some k ≠ v.ownBlock := by
    intro k cs fr _ hh he
    rcases h1.2 with ⟨rfl, _⟩ | ⟨g, cap, cur, rfl, _, hg, _⟩
    · cases he
    · have : k = g := by simpa [Value.ownBlock] using he
      subst this
      rw [hg] at hh
      injection hh with hh
      injection hh with _ ht
      exact absurd ht (by decide)
  rcases OwG.form g1 with ⟨rfl, rfl⟩ | ⟨g, cap, rfl, f1, f2, f3, f4⟩
  · have e : ls2 = [] := List.eq_nil_of_length_eq_zero (by rw [← g2]; rfl)
    subst e
    refine wpList_append_own_none hgd s x 68 ho base 27 i 1 Tryz.underlying68 hi v vs.length (vs.flatMap enV) hs h1 hx ?_
    exact h v w (by rw [List.append_nil]; exact hkeep) (World.grownBy.refl _ _) (Or.inl rfl)
  · refine wpList_append_own_at (P := Tryz.prog) w hgd s x 68 ho base 27 i (.slice none 0 0) 1 24 Tryz.underlying68 hi hz0 hz1 hz2 rfl (by omega) v vs.length (vs.flatMap enV) hs h1 ⟨g, 0, none⟩ us.length cap us hx (by omega) ?_ g3 (by rw [h2, g2]; unfold maxLen; omega) (by rw [h2, g2]; omega) hbase ?_
    · intro j y hj
      have hjl : j < us.length := by
        rcases Nat.lt_or_ge j us.length with h | h
        · exact h
        · rw [List.getElem?_eq_none h] at hj; cases hj
      have c0 := OwG.cells g1 j (by omega)
      rw [flat_enV, hj] at c0
      have ea : (⟨g, 0, none⟩ : Addr).add j = ⟨g, j, none⟩ := by
        unfold Addr.add; by_cases h0 : j = 0
        · subst h0; simp
        · simp [h0]
      rw [ea]; exact c0
    · intro v' w' ho' hg _ hat
      refine h v' w' ⟨vs ++ us, ?_, by rw [List.length_append, List.length_append, h2, g2], ?_, ?_⟩ hg hat
      · unfold OwG
        rw [List.length_append, List.flatMap_append, flat_enV us]
        exact ho'
      · intro y hy
        rcases List.mem_append.1 hy with hy | hy
        · exact h3 y hy
        · exact g3 y hy
      · intro k y l' hy hl'
        rcases Nat.lt_or_ge k vs.length with hk | hk
        · rw [List.getElem?_append_left hk] at hy
          rw [List.getElem?_append_left (by omega)] at hl'
          exact (h4 k y l' hy hl').grown hg hrow
        · rw [List.getElem?_append_right hk] at hy
          rw [List.getElem?_append_right (by omega)] at hl'
          rw [← h2] at hl'
          exact (g4 _ y l' hy hl').grown hg hrow

theorem contOne (w : World) (base : Nat) (A : Option Addr) (cap : Nat) (l : List Int) (hbase : base ≤ w.heap.size) (he : ElI w base (.slice A l.length cap) l) :
    OwII (w.alloc (.cells #[.slice A l.length cap] 27)) base (.slice (some ⟨w.heap.size, 0, none⟩) 1 1) [l] := by
  refine ⟨[.slice A l.length cap], ?_, rfl, ?_, ?_⟩
  · have h := World.ownsRow_lit (base := base) (e := 27) (size := 1) w #[.slice A l.length cap] 1 hbase (by unfold maxLen; omega) rfl
    simpa [OwG, enV] using h
  · intro u hu; simp at hu; subst hu; rfl
  · intro i u t hu ht
    rcases i with _ | i
    · simp at hu ht
      subst hu ht
      exact he.keep (Bl.alloc (Below.refl _ _) _)
    · simp at hu

set_option maxHeartbeats 2000000 in
set_option maxRecDepth 100000 in
theorem cont_any (n : Nat) (hn : n ≤ 5) : ∀ (d : Nat) (A : Option Addr) (cap m base : Nat) (l : List Int) (w : World), l.length = m → m + d = n → base ≤ w.heap.size → ElI w base (.slice A m cap) l →
    Calls Tryz.prog 58 #[.slice A m cap, .int .i64 n] w fun e w' => ∃ v, e = .returned v ∧ OwII w' base v (contW n d l) ∧ Below w.heap.size w w' := by
  intro d
  induction d with
  | zero =>
    intro A cap m base l w hl hmd hbase he
    obtain rfl : m = n := by omega
    have hw := contOne w base A cap l hbase (by rw [hl]; exact he)
    rw [hl] at hw
    clear he hl
    go_enter Tryz.func58, Tryz.ntmps58
    go_wp2_with fail
    go_ret
    exact ⟨_, rfl, hw, (Bl.alloc (Below.refl _ _) _)⟩
  | succ d ih =>
    intro A cap m base l w hl hmd hbase he
    have q : ((m : Int) == (n : Int)) = false := by simp; omega
    obtain ⟨A', c', ev, e1, hs, ez, -⟩ := he
    injection ev with ev1 ev2 ev3
    subst ev1 ev3
    rw [hl] at hs
    have HL := Lib.hid hl
    clear ev2 hl e1
    have hcl := fun t => Nat.le_trans (contW_len hn d t) (Nat.le_trans (Nat.pow_le_pow_right (by omega) (show d ≤ 4 by omega)) (show 5 ^ 4 ≤ 625 by decide))
    have HC := Lib.hid (show contW n (d + 1) l = contIn (contW n d) l n from rfl)
    have hstepI : ∀ i, contIn (contW n d) l (i + 1) = if AnyB (fun j => gi l j == ((i : Nat) : Int)) m = true then contIn (contW n d) l i else contIn (contW n d) l i ++ contW n d (l ++ [((i : Nat) : Int)]) := fun i => by rw [contIn, HL.out]
    have HI := Lib.hid hstepI
    have HCL := Lib.hid hcl
    clear hstepI hcl
    go_enter Tryz.func58, Tryz.ntmps58
    go_wp2_with fail
    go_loopw [5, 6] (fun v i wr => ∃ k : Nat, k ≤ n ∧ i = .int .i64 k ∧ OwII wr w.heap.size v (contIn (contW n d) l k) ∧ Below w.heap.size w wr) (fun _ i _ => n - (intOf i).toNat)
    case atStart => exact ⟨0, Nat.zero_le _, rfl, OwII.nil, Below.refl _ _⟩
    case round =>
      obtain ⟨k, hk, rfl, ho, hb⟩ := hrel
      by_cases hlt : k < n
      · have hst := HI.out k
        have hsz := contIn_len HCL.out (l := l) k
        have hsz1 : (contIn (contW n d) l k).length ≤ 3125 := by omega
        clear hsz
        by_cases hany : AnyB (fun j => gi l j == ((k : Nat) : Int)) m = true
        · rw [if_pos hany] at hst
          have H3 := Lib.hid hst
          clear hst
          go_wp2_with (go_at_call 83; refine (inI_any _ _ _ l _ _ (by omega) (hs.keep hb)).mono ?_; rintro e w5 ⟨rfl, hb5⟩; rw [hany])
          exact ⟨⟨k + 1, by omega, by go_num, by rw [H3.out]; exact ho.keep hb5, Bl.call hb hb5⟩, by simp [intOf]; omega⟩
        · rw [if_neg hany] at hst
          have H3 := Lib.hid hst
          have hany' : AnyB (fun j => gi l j == ((k : Nat) : Int)) m = false := by simpa using hany
          clear hst hany
          have HL7 := Lib.hid (show (l ++ [(k : Int)]).length = m + 1 by rw [List.length_append, HL.out]; rfl)
          have hN := Lib.hid (show ([] ++ l : List Int) = l from rfl)
          go_wp2_with (first | (go_at_call 83; refine (inI_any _ _ _ l _ _ (by omega) (hs.keep hb)).mono ?_; rintro e w5 ⟨rfl, hb5⟩; rw [hany']) | (at_builtin; refine wpList_appI rfl _ _ rfl w5.heap.size (.slice none 0 0) [] rfl OwG.nil _ m _ l rfl ((hs.keep hb).keep hb5) ez (by simp; omega) (Nat.le_refl _) ?_; intro v6 w6 ho6 hg6 hat6; rw [hN.out] at ho6; have hb6 := below_app (Below.refl _ _) (OwG.nil (w := w5) (base := w5.heap.size) (e := 3) (size := 1) (enc := enI)) hg6; clear hg6 hat6) | (at_builtin; refine wpList_appI rfl _ _ rfl w5.heap.size v6 l rfl (OwG.alloc ho6 _) _ 1 1 [(k : Int)] rfl (InS.new _ _ _) (fun h => by cases h) (by rw [HL.out]; omega) (Bl.alloc hb6 _).size ?_; intro v7 w7 ho7 hg7 hat7; have hb7 := below_app (Bl.alloc hb6 _) (OwG.alloc ho6 _) hg7; clear hg7 hat7; obtain ⟨A7, c7, rfl, -, -, -, -⟩ := OwI.eli ho7; rw [HL7.out] at ho7 ⊢) | (go_at_call 58; refine (ih A7 c7 (m + 1) w.heap.size (l ++ [(k : Int)]) _ HL7.out (by omega) (Bl.call (Bl.call hb hb5) hb7).size ((OwI.eli ho7).lower (Bl.call hb hb5).size)).mono ?_; rintro e w8 ⟨v8, rfl, ho8, hb8⟩) | (at_builtin; refine wpList_appVVI rfl _ _ rfl w.heap.size _ (contIn (contW n d) l k) rfl (((ho.keep hb5).keep hb7).keep hb8) v8 (contW n d (l ++ [(k : Int)])) rfl ho8 (by have := HCL.out (l ++ [(k : Int)]); omega) (Bl.call (Bl.call (Bl.call hb hb5) hb7) hb8).size ?_; intro v9 w9 ho9 hg9 hat9))
          exact ⟨⟨k + 1, by omega, by go_num, by rw [H3.out]; exact ho9, below_appII (Bl.call (Bl.call (Bl.call hb hb5) hb7) hb8) (((ho.keep hb5).keep hb7).keep hb8) hg9⟩, by simp [intOf]; omega⟩
      · obtain rfl : n = k := by omega
        go_wp2_with fail
        go_ret
        exact ⟨_, rfl, by rw [HC.out]; exact ho.lower hbase, hb⟩

set_option maxHeartbeats 1000000 in
theorem refOrders_any (z : Int) (w : World) (hz1 : -9223372036854775808 ≤ z) (hz2 : z ≤ 9223372036854775807) :
    Calls Tryz.prog 32 #[.int .i64 z] w (RetII w (refOrdW z)) := by
  by_cases h : z < 0 ∨ 5 < z
  · have HR := Lib.hid (show refOrdW z = [] by unfold refOrdW; rw [if_pos h])
    go_enter Tryz.func32, Tryz.ntmps32
    rcases h with h | h
    · go_wp2_with fail
      go_ret
      exact ⟨_, rfl, by rw [HR.out]; exact OwII.nil, Below.refl _ _⟩
    · go_wp2_with fail
      go_ret
      exact ⟨_, rfl, by rw [HR.out]; exact OwII.nil, Below.refl _ _⟩
  · obtain ⟨n, rfl⟩ : ∃ n : Nat, z = n := ⟨z.toNat, by omega⟩
    have hn : n ≤ 5 := by omega
    have HR := Lib.hid (show refOrdW n = contW n n [] by unfold refOrdW; rw [if_neg h, Int.toNat_natCast])
    clear h hz1 hz2
    go_enter Tryz.func32, Tryz.ntmps32
    go_wp2_with (go_at_call 58; refine (cont_any n hn n none 0 0 w.heap.size [] _ rfl (by omega) (Nat.le_refl _) ⟨none, 0, rfl, Nat.le_refl _, ⟨rfl, .inl rfl⟩, fun _ => rfl, fun a h => by cases h⟩).mono ?_; rintro e w1 ⟨v1, rfl, ho1, hb1⟩)
    go_ret
    exact ⟨_, rfl, by rw [HR.out]; exact ho1, hb1⟩

/-! ### garmentref21.SameInts -/
def sameI (a b : List Int) : Bool := decide (a = b)
theorem sameI_no {a b : List Int} {k : Nat} (hk : k < a.length) (hl : a.length = b.length) (h : gi a k ≠ gi b k) : sameI a b = false := by
  unfold sameI
  rw [decide_eq_false_iff_not]
  intro e; rw [e] at h; exact h rfl
theorem sameI_yes {a b : List Int} (hl : a.length = b.length) (h : AllB (fun i => gi a i == gi b i) a.length = true) : sameI a b = true := by
  unfold sameI
  rw [decide_eq_true_eq]
  apply List.ext_getElem? 
  intro k
  rcases Nat.lt_or_ge k a.length with hk | hk
  · rw [gi_some hk, gi_some (by omega)]
    have := AllB.iff.1 h k hk
    simp at this
    rw [this]
  · rw [List.getElem?_eq_none hk, List.getElem?_eq_none (by omega)]

set_option maxHeartbeats 1000000 in
theorem sameInts_any (A B : Option Addr) (ca cb na nb : Nat) (a b : List Int) (w : World) (hn : na ≤ 1000000) (hA : InS w A na a) (hB : InS w B nb b) :
    Calls Tryz.prog 33 #[.slice A na ca, .slice B nb cb] w fun e w' => e = .returned (.bool (sameI a b)) ∧ Below w.heap.size w w' := by
  have hla := hA.1
  have hlb := hB.1
  by_cases hne : na = nb
  · subst hne
    have q : ((na : Int) != (na : Int)) = false := by simp
    have HE := Lib.hid (show a.length = b.length by omega)
    have HLA := Lib.hid hla
    clear hla hlb
    go_enter Tryz.func33, Tryz.ntmps33
    go_wp2_with fail
    go_loopw [5] (fun i wr => ∃ k : Nat, k ≤ na ∧ i = .int .i64 k ∧ Hid (AllB (fun i => gi a i == gi b i) k = true) ∧ Below w.heap.size w wr) (fun i _ => na - (intOf i).toNat)
    case atStart => exact ⟨0, Nat.zero_le _, rfl, AllB.zero _, Below.refl _ _⟩
    case round =>
      obtain ⟨k, hk, rfl, hp, hb⟩ := hrel
      by_cases hlt : k < na
      · obtain ⟨b1, o1, rfl, c1⟩ := (hA.keep hb).at_ hlt
        obtain ⟨b2, o2, rfl, c2⟩ := (hB.keep hb).at_ hlt
        go_wp2_with fail
        go_quiet (fail)
        have hb2 := Bl.drewN hb nq
        clear hb
        by_cases he : gi a k = gi b k
        · have q2 : (gi a k != gi b k) = false := by simp [he]
          have HS := Lib.hid (AllB.succ hp.out (show (gi a k == gi b k) = true by simp [he]))
          clear he
          go_wp2_with fail
          exact ⟨⟨k + 1, by omega, by go_num, HS, hb2⟩, by simp [intOf]; omega⟩
        · have q2 : (gi a k != gi b k) = true := by simp [he]
          have HS := Lib.hid (sameI_no (by rw [HLA.out]; exact hlt) HE.out he)
          clear he
          go_wp2_with fail
          go_ret
          exact ⟨ret_bool HS.out.symm, hb2⟩
      · obtain rfl : na = k := by omega
        go_wp2_with fail
        go_ret
        exact ⟨ret_bool (sameI_yes HE.out (by rw [HLA.out]; exact hp.out)).symm, hb⟩
  · have q : ((na : Int) != (nb : Int)) = true := by simp; omega
    have HS := Lib.hid (show sameI a b = false by unfold sameI; rw [decide_eq_false_iff_not]; intro e; rw [e] at hla; omega)
    clear hla hlb hne
    go_enter Tryz.func33, Tryz.ntmps33
    go_wp2_with fail
    go_ret
    exact ⟨ret_bool HS.out.symm, Below.refl _ _⟩

end Go.Proofs.YtccpgmneflfhjaaGreat

namespace Go.Proofs.YtccpgmneflfhjaaGreat
set_option linter.unusedVariables false
set_option linter.unusedSimpArgs false
open Go.RowKit

def AliveOK : Prop := ∀ w : World, Calls Tryz.prog 34 #[] w fun e w' => e = .returned (.bool true) ∧ Below w.heap.size w w'

theorem ord_eq_small : ∀ n : Nat, n ≤ 5 → ordTo n n = contW n n [] := by
  intro n hn
  have : n = 0 ∨ n = 1 ∨ n = 2 ∨ n = 3 ∨ n = 4 ∨ n = 5 := by omega
  rcases this with rfl | rfl | rfl | rfl | rfl | rfl <;> decide +kernel
theorem ord_eq (z : Int) : ordW z = refOrdW z := by
  unfold ordW refOrdW
  split
  · rfl
  · exact ord_eq_small _ (by omega)
theorem ordW_len (z : Int) : (ordW z).length ≤ 3125 ∧ ∀ t ∈ ordW z, t.length ≤ 5 := by
  unfold ordW
  split
  · simp
  · exact ordTo_len (by omega) (by omega)

set_option maxHeartbeats 2000000 in
set_option maxRecDepth 100000 in
theorem lawOrders (hal : AliveOK) (z : Int) (w : World) (hz1 : -9223372036854775808 ≤ z) (hz2 : z ≤ 9223372036854775807) :
    Calls Tryz.prog 8 #[.int .i64 z] w fun e w' => e = .returned (.bool true) ∧ Below w.heap.size w w' := by
  have hsm := ordW_len z
  have HE := Lib.hid (ord_eq z).symm
  obtain ⟨L, hL⟩ : ∃ L, ordW z = L := ⟨_, rfl⟩
  rw [hL] at hsm HE
  have HW := Lib.hid hL
  have HSM := Lib.hid hsm.2
  have hsm1 := hsm.1
  clear hsm hL
  obtain ⟨m, hm⟩ : ∃ m, L.length = m := ⟨_, rfl⟩
  rw [hm] at hsm1
  have HM := Lib.hid hm
  clear hm
  have HA := Lib.hid hal
  clear hal
  go_enter Tryz.func8, Tryz.ntmps8
  go_upto_region 2 with (first | (go_at_call 31; refine (orders_any z _ hz1 hz2).mono ?_; rintro e w1 ⟨v1, rfl, ho1, hb1⟩; rw [HW.out] at ho1) | (go_at_call 32; refine (refOrders_any z _ hz1 hz2).mono ?_; rintro e w2 ⟨v2, rfl, ho2, hb2⟩; rw [HE.out] at ho2))
  obtain ⟨A1, c1, rfl, hc1, hS1, -⟩ := (ho1.keep hb2).inss
  obtain ⟨A2, c2, rfl, hc2, hS2, -⟩ := ho2.inss
  rw [HM.out] at hS1 hS2 hc1 hc2 ⊢
  have hb := Bl.call hb1 hb2
  clear ho1 ho2 hb1 hb2
  have q : ((m : Int) != (m : Int)) = false := by simp
  go_wp2_with fail
  go_loopw [5] (fun i wr => ∃ k : Nat, k ≤ m ∧ i = .int .i64 k ∧ Below w2.heap.size w2 wr) (fun i _ => m - (intOf i).toNat)
  case atStart => exact ⟨0, Nat.zero_le _, rfl, Below.refl _ _⟩
  case round =>
    obtain ⟨k, hk, rfl, hbr⟩ := hrel
    by_cases hlt : k < m
    · obtain ⟨b1, o1, Ak, ck, rfl, e1, e2, e3, e4⟩ := (hS1.keep hbr).at_ hlt
      obtain ⟨b2, o2, Bk, dk, rfl, f1, f2, f3, f4⟩ := (hS2.keep hbr).at_ hlt
      have hl5 : (li L k).length ≤ 5 := HSM.out _ (li_mem (by rw [HM.out]; exact hlt))
      obtain ⟨o, hoo⟩ : ∃ o, li L k = o := ⟨_, rfl⟩
      rw [hoo] at e1 e2 e3 f1 f2 f3 hl5
      clear hoo
      obtain ⟨no, hno⟩ : ∃ no, o.length = no := ⟨_, rfl⟩
      rw [hno] at e1 e2 e3 f1 f2 f3 hl5
      clear hno
      have hsame := Lib.hid (show sameI o o = true by unfold sameI; simp)
      go_wp2_with fail
      refine wp_region_cls wr [(⟨b1, o1 + k, none⟩, .slice Ak no ck), (⟨b2, o2 + k, none⟩, .slice Bk no dk)] (by kernel_rfl) (by kernel_rfl) ⟨Below.refl _ _, by simp only [List.mem_cons, List.not_mem_nil, forall_eq_or_imp, or_false, forall_eq]; go_simp⟩ ?_
      repeat
        apply wq_plain
        · rfl
        · intro w1 hw1
          have hx := hw1.2
          simp only [List.mem_cons, List.not_mem_nil, forall_eq_or_imp, or_false, forall_eq] at hx
          go_simp
          first | rfl | exact calls_cls hw1 (sameInts_any _ _ _ _ _ _ o o _ (by omega) (e3.keep hw1.1) (f3.keep hw1.1))
        go_simp
      refine wpQuiet_nil ?_
      intro w1 hCw1
      rw [hsame.out]
      go_wp2_with fail
      exact ⟨⟨k + 1, by omega, by go_num, Bl.call hbr hCw1.1⟩, by simp [intOf]; omega⟩
    · obtain rfl : m = k := by omega
      go_wp2_with (go_at_call 34; refine (HA.out _).mono ?_; rintro e w3 ⟨rfl, hb3⟩)
      go_ret
      exact ⟨rfl, Bl.call (Bl.call hb hbr) hb3⟩

/-! ### before -/
def befL : List Int → List Int → Bool
  | x :: xs, y :: ys => if x = y then befL xs ys else decide (x < y)
  | _, _ => false
theorem befL_at : ∀ (k : Nat) (a b : List Int), k < a.length → k < b.length → (∀ i, i < k → gi a i = gi b i) → gi a k ≠ gi b k → befL a b = decide (gi a k < gi b k) := by
  intro k
  induction k with
  | zero =>
    intro a b ha hb _ hne
    rcases a with _ | ⟨x, xs⟩
    · simp at ha
    rcases b with _ | ⟨y, ys⟩
    · simp at hb
    have hne' : x ≠ y := hne
    rw [befL, if_neg hne']; rfl
  | succ k ih =>
    intro a b ha hb he hne
    rcases a with _ | ⟨x, xs⟩
    · simp at ha
    rcases b with _ | ⟨y, ys⟩
    · simp at hb
    have h0 : x = y := he 0 (by omega)
    rw [befL, if_pos h0, ih xs ys (by simpa using ha) (by simpa using hb) (fun i hi => he (i + 1) (by omega)) hne]; rfl
theorem befL_no : ∀ (a b : List Int), (∀ i, i < a.length → i < b.length → gi a i = gi b i) → befL a b = false := by
  intro a
  induction a with
  | nil => intro b _; rfl
  | cons x xs ih =>
    intro b h
    rcases b with _ | ⟨y, ys⟩
    · rfl
    have h0 : x = y := h 0 (by simp) (by simp)
    rw [befL, if_pos h0]
    exact ih ys fun i h1 h2 => h (i + 1) (by simpa using h1) (by simpa using h2)

set_option maxHeartbeats 2000000 in
theorem before_any (A B : Option Addr) (ca cb n : Nat) (a b : List Int) (w : World) (hn : n ≤ 1000000) (hA : InS w A n a) (hB : InS w B n b) :
    Calls Tryz.prog 40 #[.slice A n ca, .slice B n cb] w fun e w' => e = .returned (.bool (befL a b)) ∧ Below w.heap.size w w' := by
  have HLA := Lib.hid hA.1
  have HLB := Lib.hid hB.1
  go_enter Tryz.func40, Tryz.ntmps40
  go_wp2_with fail
  go_loopw [5] (fun i wr => ∃ k : Nat, k ≤ n ∧ i = .int .i64 k ∧ Hid (∀ i, i < k → gi a i = gi b i) ∧ Below w.heap.size w wr) (fun i _ => n - (intOf i).toNat)
  case atStart => exact ⟨0, Nat.zero_le _, rfl, Lib.hid (fun i h => absurd h (by omega)), Below.refl _ _⟩
  case round =>
    obtain ⟨k, hk, rfl, hp, hb⟩ := hrel
    by_cases hlt : k < n
    · obtain ⟨b1, o1, rfl, c1⟩ := (hA.keep hb).at_ hlt
      obtain ⟨b2, o2, rfl, c2⟩ := (hB.keep hb).at_ hlt
      by_cases he : gi a k = gi b k
      · have q2 : (gi a k != gi b k) = false := by simp [he]
        have HS := Lib.hid (show ∀ i, i < k + 1 → gi a i = gi b i from fun i hi => by
          rcases Nat.lt_or_ge i k with h | h
          · exact hp.out i h
          · obtain rfl : i = k := by omega
            exact he)
        clear he
        go_wp2_with fail
        go_quiet (fail)
        have hb2 := Bl.drewN hb nq
        clear hb
        go_wp2_with fail
        exact ⟨⟨k + 1, by omega, by go_num, HS, hb2⟩, by simp [intOf]; omega⟩
      · have q2 : (gi a k != gi b k) = true := by simp [he]
        have HS := Lib.hid (befL_at k a b (by rw [HLA.out]; exact hlt) (by rw [HLB.out]; exact hlt) hp.out he)
        clear he
        go_wp2_with fail
        go_quiet (fail)
        have hb2 := Bl.drewN hb nq
        clear hb
        go_wp2_with fail
        go_quiet (fail)
        have hb3 := Bl.drewN hb2 nq
        go_wp2_with fail
        go_ret
        exact ⟨ret_bool HS.out.symm, hb3⟩
    · obtain rfl : n = k := by omega
      go_wp2_with fail
      go_ret
      exact ⟨ret_bool (befL_no a b (fun i h _ => hp.out i (by rw [HLA.out] at h; exact h))).symm, hb⟩

/-! ### SearchAll -/
def facN : Nat → Nat
  | 0 => 1
  | k + 1 => (k + 1) * facN k
def allOK (n : Nat) (L : List (List Int)) : Bool :=
  (L.length == facN n) && AllB (fun i => (li L i).length == n && (decide (L.length ≤ i + 1) || befL (li L i) (li L (i + 1))) && AllB (fun k => decide (0 ≤ gi (li L i) k) && decide (gi (li L i) k < n) && AllB (fun j => gi (li L i) j != gi (li L i) k) k) n) L.length
theorem allOK_ord : ∀ n, n ≤ 5 → allOK n (ordTo n n) = true := by
  intro n hn
  have : n = 0 ∨ n = 1 ∨ n = 2 ∨ n = 3 ∨ n = 4 ∨ n = 5 := by omega
  rcases this with rfl | rfl | rfl | rfl | rfl | rfl <;> decide +kernel


set_option maxHeartbeats 4000000 in
set_option maxRecDepth 100000 in
theorem lawAll (hal : AliveOK) (z : Int) (w : World) (hz1 : -9223372036854775808 ≤ z) (hz2 : z ≤ 9223372036854775807) :
    Calls Tryz.prog 12 #[.int .i64 z] w fun e w' => e = .returned (.bool true) ∧ Below w.heap.size w w' := by
  have HA := Lib.hid hal
  clear hal
  by_cases h : z < 0 ∨ 5 < z
  · have HR := Lib.hid (show ordW z = [] by unfold ordW; rw [if_pos h])
    go_enter Tryz.func12, Tryz.ntmps12
    rcases h with h | h
    all_goals
      go_wp2_with (first | (go_at_call 31; refine (orders_any z _ hz1 hz2).mono ?_; rintro e w1 ⟨v1, rfl, ho1, hb1⟩; rw [HR.out] at ho1; obtain ⟨A1, c1, rfl, hc1, hS1, -⟩ := ho1.inss) | (go_at_call 34; refine (HA.out _).mono ?_; rintro e w3 ⟨rfl, hb3⟩))
      go_ret
      exact ⟨rfl, Bl.call hb1 hb3⟩
  · obtain ⟨n, rfl⟩ : ∃ n : Nat, z = n := ⟨z.toNat, by omega⟩
    have hn : n ≤ 5 := by omega
    have hok := allOK_ord n hn
    obtain ⟨L, hL⟩ : ∃ L, ordTo n n = L := ⟨_, rfl⟩
    have HR := Lib.hid (show ordW n = L by unfold ordW; rw [if_neg h, Int.toNat_natCast, hL])
    rw [hL] at hok
    clear h hL
    unfold allOK at hok
    rw [Bool.and_eq_true] at hok
    obtain ⟨hlen, hall⟩ := hok
    have hlen' : L.length = facN n := by simpa using hlen
    have hm : facN n ≤ 120 := by
      have : n = 0 ∨ n = 1 ∨ n = 2 ∨ n = 3 ∨ n = 4 ∨ n = 5 := by omega
      rcases this with rfl | rfl | rfl | rfl | rfl | rfl <;> decide
    have hall' := AllB.iff.1 hall
    have f1 : ∀ i, i < L.length → (li L i).length = n := fun i hi => by have := hall' i hi; simp at this; exact this.1.1
    have f2 : ∀ i, i + 1 < L.length → befL (li L i) (li L (i + 1)) = true := fun i hi => by
      have := hall' i (by omega); simp at this; rcases this.1.2 with h | h
      · omega
      · exact h
    have f3 : ∀ i, i < L.length → ∀ k, k < n → 0 ≤ gi (li L i) k ∧ gi (li L i) k < n ∧ ∀ j, j < k → gi (li L i) j ≠ gi (li L i) k := fun i hi k hk => by
      have := hall' i hi; rw [Bool.and_eq_true] at this
      have h2 := AllB.iff.1 this.2 k hk
      simp only [Bool.and_eq_true, decide_eq_true_eq] at h2
      exact ⟨h2.1.1, h2.1.2, fun j hj => by have := AllB.iff.1 h2.2 j hj; simpa using this⟩
    have HLEN := Lib.hid hlen'
    rw [hlen'] at f1 f2 f3
    have F1 := Lib.hid f1
    have F2 := Lib.hid f2
    have F3 := Lib.hid f3
    have hfz : ∀ k : Nat, 1 ≤ k → n ≤ k → (k ≤ n ∨ k ≤ 1) → facN k = facN n := by
      intro k h1 h2 h3
      have : k = n ∨ (k = 1 ∧ n = 0) := by omega
      rcases this with rfl | ⟨rfl, rfl⟩ <;> rfl
    have HFZ := Lib.hid hfz
    have hfm : ∀ k : Nat, k ≤ 5 → facN k ≤ 120 := by
      intro k hk
      have : k = 0 ∨ k = 1 ∨ k = 2 ∨ k = 3 ∨ k = 4 ∨ k = 5 := by omega
      rcases this with rfl | rfl | rfl | rfl | rfl | rfl <;> decide
    have HFM := Lib.hid hfm
    clear hfz hfm f1 f2 f3 hall' hall hlen' hlen hz1 hz2
    obtain ⟨m, hmm⟩ : ∃ m, facN n = m := ⟨_, rfl⟩
    rw [hmm] at HLEN hm F1 F2 F3 HFZ
    clear hmm
    go_enter Tryz.func12, Tryz.ntmps12
    go_upto_region 3 with (go_at_call 31; refine (orders_any n _ (by omega) (by omega)).mono ?_; rintro e w1 ⟨v1, rfl, ho1, hb1⟩; rw [HR.out] at ho1)
    obtain ⟨A1, c1, rfl, hc1, hS1, -⟩ := ho1.inss
    rw [HLEN.out] at hS1 hc1 ⊢
    clear ho1
    go_loopw [4, 5] (fun v i wr => ∃ k f : Nat, 2 ≤ k ∧ (k ≤ n + 1 ∨ k ≤ 2) ∧ Hid (f = facN (k - 1)) ∧ i = .int .i64 (k : Int) ∧ v = .int .i64 (f : Int) ∧ Below w1.heap.size w1 wr) (fun _ i _ => 7 - (intOf i).toNat)
    case atStart => exact ⟨2, 1, by omega, .inr (by omega), Lib.hid rfl, rfl, rfl, Below.refl _ _⟩
    case round =>
      obtain ⟨k, f, hk1, hk2, hf, rfl, rfl, hbf⟩ := hrel
      by_cases hlt : k ≤ n
      · have hf1 : f ≤ 120 := by rw [hf.out]; exact HFM.out (k - 1) (by omega)
        have hmul : f * k = facN k := by
          obtain ⟨k', rfl⟩ : ∃ k', k = k' + 1 := ⟨k - 1, by omega⟩
          rw [hf.out, facN, Nat.mul_comm]; rfl
        have hf2 := HFM.out k (by omega)
        have HF := Lib.hid (show facN k = facN (k + 1 - 1) from rfl)
        have HMUL := Lib.hid (show wrap64 ((f : Int) * (k : Int)) = ((facN k : Nat) : Int) by
          rw [← Int.natCast_mul, hmul]; unfold wrap64; omega)
        clear hmul
        go_wp2_with fail
        exact ⟨⟨k + 1, facN k, by omega, .inl (by omega), HF, by go_num, by rw [HMUL.out], hbf⟩, by simp [intOf]; omega⟩
      · have hfk : (f : Int) = (m : Int) := by rw [hf.out, HFZ.out (k - 1) (by omega) (by omega) (by omega)]
        rw [hfk]
        have q : ((m : Int) != (m : Int)) = false := by simp
        clear hfk
        go_wp2_with fail
        obtain ⟨wa, rfl⟩ : ∃ wa : World, wa = wr := ⟨_, rfl⟩
        go_loopw [6] (fun i wr => ∃ i0 : Nat, i0 ≤ m ∧ i = .int .i64 i0 ∧ Below wa.heap.size wa wr) (fun i _ => m - (intOf i).toNat)
        case atStart => exact ⟨0, Nat.zero_le _, rfl, Below.refl _ _⟩
        case round =>
          obtain ⟨i0, hi0, rfl, hbr⟩ := hrel
          by_cases him : i0 < m
          · obtain ⟨b1, o1, Ak, ck, rfl, e1, e2, e3, e4⟩ := (hS1.keep (Bl.call hbf hbr)).at_ him
            have hF3 := Lib.hid (F3.out i0 him)
            rw [F1.out i0 him] at e1 e2 e3
            have qn : ((n : Int) != (n : Int)) = false := by simp
            by_cases h0 : i0 = 0
            · have q0 : (0 < i0) = False := by simp; omega
              clear h0
              go_wp2_with fail
              refine wp_region_cls wr [(⟨b1, o1 + i0, none⟩, .slice Ak n ck)] (by kernel_rfl) (by kernel_rfl) ⟨Below.refl _ _, by simp only [List.mem_cons, List.not_mem_nil, forall_eq_or_imp, or_false, forall_eq]; go_simp⟩ ?_
              repeat
                first
                | go_big_quiet_skip
                | go_big_quiet_want
                  apply Exists.intro
                  refine And.intro ?_ ?_
                  · intro w1 hw1
                    have hx := hw1.2
                    simp only [List.mem_cons, List.not_mem_nil, forall_eq_or_imp, or_false, forall_eq] at hx
                    go_simp
                    first | rfl
                  go_simp
                  go_big_quiet_on
              refine wpQuiet_nil ?_
              intro w1 hCw1
              go_wp2_with fail
              have hbi := Bl.call hbr hCw1.1
              have e1' := hCw1.2 _ (List.mem_cons_self ..)
              dsimp only at e1'
              have e3' := e3.keep hCw1.1
              clear e1 e3 hCw1
              obtain ⟨wi, rfl⟩ : ∃ wi : World, wi = w1 := ⟨_, rfl⟩
              go_loopw [7] (fun i wr => ∃ k0 : Nat, k0 ≤ n ∧ i = .int .i64 k0 ∧ Below wi.heap.size wi wr) (fun i _ => n - (intOf i).toNat)
              case atStart => exact ⟨0, Nat.zero_le _, rfl, Below.refl _ _⟩
              case round =>
                obtain ⟨k0, hk0, rfl, hbk⟩ := hrel
                by_cases hkn : k0 < n
                · obtain ⟨g1, g2, g3⟩ := hF3.out k0 hkn
                  have G3 := Lib.hid g3
                  clear g3
                  have d1 := cell_keep hbk e1'
                  obtain ⟨b2, o2, rfl, d2⟩ := (e3'.keep hbk).at_ hkn
                  go_wp2_with fail
                  clear d1 d2
                  obtain ⟨wk, rfl⟩ : ∃ wk : World, wk = wr := ⟨_, rfl⟩
                  go_loopw [8] (fun i wr => ∃ j0 : Nat, j0 ≤ k0 ∧ i = .int .i64 j0 ∧ Below wk.heap.size wk wr) (fun i _ => k0 - (intOf i).toNat)
                  case atStart => exact ⟨0, Nat.zero_le _, rfl, Below.refl _ _⟩
                  case round =>
                    obtain ⟨j0, hj0, rfl, hbj⟩ := hrel
                    by_cases hjk : j0 < k0
                    · have qj : (gi (li L i0) j0 == gi (li L i0) k0) = false := by have := G3.out j0 hjk; simpa using this
                      have d1 := cell_keep hbj (cell_keep hbk e1')
                      obtain ⟨b3, o3, rq, d2⟩ := (e3'.keep (Bl.call hbk hbj)).at_ hkn
                      injection rq with rq
                      injection rq with rq1 rq2
                      subst rq1 rq2
                      obtain ⟨b3, o3, rq, d3⟩ := (e3'.keep (Bl.call hbk hbj)).at_ (show j0 < n by omega)
                      injection rq with rq
                      injection rq with rq1 rq2
                      subst rq1 rq2
                      go_wp2_with fail
                      go_quiet (fail)
                      have hbq := Bl.drewN hbj nq
                      clear hbj
                      go_wp2_with fail
                      exact ⟨⟨j0 + 1, by omega, by go_num, hbq⟩, by simp [intOf]; omega⟩
                    · obtain rfl : k0 = j0 := by omega
                      go_wp2_with fail
                      go_roundw
                      case rel => exact ⟨k0 + 1, by omega, by go_num, Bl.call hbk hbj⟩
                      case measure => simp [intOf]; omega
                · obtain rfl : n = k0 := by omega
                  go_wp2_with fail
                  go_roundw
                  case rel => exact ⟨i0 + 1, by omega, by go_num, Bl.call hbi hbk⟩
                  case measure => simp [intOf]; omega
            · obtain ⟨p0, hp0⟩ : ∃ p0, i0 - 1 = p0 := ⟨_, rfl⟩
              have q0 : (0 < i0) = True := by simp; omega
              have eq1 : IntKind.i64.wrap ((i0 : Int) - 1) = (p0 : Int) := (wrap_in _ (by omega) (by omega)).trans (by omega)
              obtain ⟨b9, o9, Bk, dk, rq, f1, f2, f3, f4⟩ := (hS1.keep (Bl.call hbf hbr)).at_ (show p0 < m by omega)
              injection rq with rq
              injection rq with rq1 rq2
              subst rq1 rq2
              rw [F1.out p0 (by omega)] at f1 f2 f3
              have hbf2 := Lib.hid (show befL (li L p0) (li L i0) = true by have := F2.out p0 (by omega); rwa [show p0 + 1 = i0 by omega] at this)
              have hp0m : p0 < m := by omega
              clear hp0 h0
              go_wp2_with fail
              refine wp_region_cls wr [(⟨b1, o1 + i0, none⟩, .slice Ak n ck), (⟨b1, o1 + p0, none⟩, .slice Bk n dk)] (by kernel_rfl) (by kernel_rfl) ⟨Below.refl _ _, by simp only [List.mem_cons, List.not_mem_nil, forall_eq_or_imp, or_false, forall_eq]; go_simp⟩ ?_
              repeat
                first
                | go_big_quiet_skip
                | go_big_quiet_want
                  apply Exists.intro
                  refine And.intro ?_ ?_
                  · intro w1 hw1
                    have hx := hw1.2
                    simp only [List.mem_cons, List.not_mem_nil, forall_eq_or_imp, or_false, forall_eq] at hx
                    go_simp
                    first | rfl | exact calls_cls hw1 (before_any _ _ _ _ _ (li L p0) (li L i0) _ (by omega) (f3.keep hw1.1) (e3.keep hw1.1))
                  go_simp
                  go_big_quiet_on
              refine wpQuiet_nil ?_
              intro w1 hCw1
              rw [hbf2.out, Bool.not_true]
              clear eq1 q0 hp0m f1 f2 f3 f4
              go_wp2_with fail
              have hbi := Bl.call hbr hCw1.1
              have e1' := hCw1.2 _ (List.mem_cons_self ..)
              dsimp only at e1'
              have e3' := e3.keep hCw1.1
              clear e1 e3 hCw1
              obtain ⟨wi, rfl⟩ : ∃ wi : World, wi = w1 := ⟨_, rfl⟩
              go_loopw [7] (fun i wr => ∃ k0 : Nat, k0 ≤ n ∧ i = .int .i64 k0 ∧ Below wi.heap.size wi wr) (fun i _ => n - (intOf i).toNat)
              case atStart => exact ⟨0, Nat.zero_le _, rfl, Below.refl _ _⟩
              case round =>
                obtain ⟨k0, hk0, rfl, hbk⟩ := hrel
                by_cases hkn : k0 < n
                · obtain ⟨g1, g2, g3⟩ := hF3.out k0 hkn
                  have G3 := Lib.hid g3
                  clear g3
                  have d1 := cell_keep hbk e1'
                  obtain ⟨b2, o2, rfl, d2⟩ := (e3'.keep hbk).at_ hkn
                  go_wp2_with fail
                  clear d1 d2
                  obtain ⟨wk, rfl⟩ : ∃ wk : World, wk = wr := ⟨_, rfl⟩
                  go_loopw [8] (fun i wr => ∃ j0 : Nat, j0 ≤ k0 ∧ i = .int .i64 j0 ∧ Below wk.heap.size wk wr) (fun i _ => k0 - (intOf i).toNat)
                  case atStart => exact ⟨0, Nat.zero_le _, rfl, Below.refl _ _⟩
                  case round =>
                    obtain ⟨j0, hj0, rfl, hbj⟩ := hrel
                    by_cases hjk : j0 < k0
                    · have qj : (gi (li L i0) j0 == gi (li L i0) k0) = false := by have := G3.out j0 hjk; simpa using this
                      have d1 := cell_keep hbj (cell_keep hbk e1')
                      obtain ⟨b3, o3, rq, d2⟩ := (e3'.keep (Bl.call hbk hbj)).at_ hkn
                      injection rq with rq
                      injection rq with rq1 rq2
                      subst rq1 rq2
                      obtain ⟨b3, o3, rq, d3⟩ := (e3'.keep (Bl.call hbk hbj)).at_ (show j0 < n by omega)
                      injection rq with rq
                      injection rq with rq1 rq2
                      subst rq1 rq2
                      go_wp2_with fail
                      go_quiet (fail)
                      have hbq := Bl.drewN hbj nq
                      clear hbj
                      go_wp2_with fail
                      exact ⟨⟨j0 + 1, by omega, by go_num, hbq⟩, by simp [intOf]; omega⟩
                    · obtain rfl : k0 = j0 := by omega
                      go_wp2_with fail
                      go_roundw
                      case rel => exact ⟨k0 + 1, by omega, by go_num, Bl.call hbk hbj⟩
                      case measure => simp [intOf]; omega
                · obtain rfl : n = k0 := by omega
                  go_wp2_with fail
                  go_roundw
                  case rel => exact ⟨i0 + 1, by omega, by go_num, Bl.call hbi hbk⟩
                  case measure => simp [intOf]; omega
          · obtain rfl : m = i0 := by omega
            go_wp2_with (go_at_call 34; refine (HA.out _).mono ?_; rintro e w3 ⟨rfl, hb3⟩)
            go_ret
            exact ⟨rfl, Bl.call (Bl.call (Bl.call hb1 hbf) hbr) hb3⟩

end Go.Proofs.YtccpgmneflfhjaaGreat

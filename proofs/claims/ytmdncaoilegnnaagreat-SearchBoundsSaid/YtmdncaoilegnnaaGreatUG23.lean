/- Slices of int and rows of them: reading, owning, append; slices.Index, Contains, Clone at int. search.Orders. garmentref32.in, continued, Orders; garmentref21.SameInts; garmentlaw32.before. The laws SearchOrders and SearchAll, given the contract of alive; garmentlaw32.before. -/
import Derived.Test.YtmdncaoilegnnaaGreatUD
import Derived.Test.YtmdncaoilegnnaaGreatUA
import Derived.Laws.AppendOwnNone
namespace Go.Proofs.YtmdncaoilegnnaaGreat
set_option linter.unusedVariables false
set_option linter.unusedSimpArgs false
set_option linter.unusedVariables false
set_option linter.unusedSimpArgs false
open Go.RowKit

/-- Slices of int. -/
def gi (l : List Int) (k : Nat) : Int := l.getD k 0
theorem gi_some {l : List Int} {k : Nat} (h : k < l.length) : l[k]? = some (gi l k) := by
  unfold gi; rw [List.getD, List.getElem?_eq_getElem h]; rfl
def InS (w : World) (A : Option Addr) (n : Nat) (l : List Int) : Prop := l.length = n ∧ (n = 0 ∨ ∃ b off, A = some ⟨b, off, none⟩ ∧ ∀ k, k < n → w.cell? ⟨b, off + k, none⟩ = some (.int .i64 (gi l k)))
theorem InS.keep {w w' : World} {A : Option Addr} {n : Nat} {l : List Int} (h : InS w A n l) (hb : Below w.heap.size w w') : InS w' A n l := by
  refine ⟨h.1, ?_⟩
  obtain ⟨_, h2⟩ := h
  rcases h2 with h2 | ⟨b, off, rfl, h2⟩
  · exact .inl h2
  · exact .inr ⟨b, off, rfl, fun k hk => cell_keep hb (h2 k hk)⟩
theorem InS.at_ {w : World} {A : Option Addr} {n : Nat} {l : List Int} (h : InS w A n l) {k : Nat} (hk : k < n) : ∃ b off, A = some ⟨b, off, none⟩ ∧ w.cell? ⟨b, off + k, none⟩ = some (.int .i64 (gi l k)) := by
  obtain ⟨_, h2⟩ := h
  rcases h2 with h2 | ⟨b, off, rfl, h2⟩
  · omega
  · exact ⟨b, off, rfl, h2 k hk⟩
def enI (z : Int) : List Value := [.int .i64 z]
theorem enI_len (z : Int) : (enI z).length = 1 := rfl
theorem enI_one (z : Int) : ∀ u ∈ enI z, u.oneCell' = true := by
  intro u hu; simp [enI] at hu; subst hu; rfl
def OwI (w : World) (base : Nat) (v : Value) (l : List Int) : Prop := OwG 3 1 enI w base v l
theorem infoI : (Tryz.prog.info? 3).map (fun i => (i.zero, i.size, i.bytes)) = some (some (.int .i64 0), 1, 8) := by kernel_rfl
theorem infoII : (Tryz.prog.info? 43).map (fun i => (i.zero, i.size, i.bytes)) = some (some (.slice none 0 0), 1, 24) := by kernel_rfl
theorem OwI.ins {w : World} {base : Nat} {v : Value} {l : List Int} (h : OwI w base v l) : ∃ A cap, v = .slice A l.length cap ∧ l.length ≤ cap ∧ InS w A l.length l ∧ (0 < l.length → ∃ g, A = some ⟨g, 0, none⟩ ∧ base ≤ g ∧ g < w.heap.size) := by
  rcases OwG.form h with ⟨rfl, rfl⟩ | ⟨g, cap, rfl, h1, h2, h3, h4⟩
  · exact ⟨none, 0, rfl, Nat.le_refl _, ⟨rfl, .inl rfl⟩, fun h => absurd h (by simp)⟩
  · refine ⟨_, cap, rfl, h3, ⟨rfl, .inr ⟨g, 0, rfl, fun k hk => ?_⟩⟩, fun _ => ⟨g, rfl, h1, h2⟩⟩
    have c0 := OwG.cells h k (by omega)
    have f0 := flat_at enI_len l k 0 _ (gi_some hk) (by omega)
    rw [Nat.mul_one, Nat.add_zero] at f0
    rw [f0] at c0
    rw [Nat.zero_add]
    exact c0
/-- The value is a slice that reads as l; its block, if it has one, is a row of ints and lies from base on. -/
def ElI (w : World) (base : Nat) (v : Value) (l : List Int) : Prop := ∃ A c, v = .slice A l.length c ∧ l.length ≤ c ∧ InS w A l.length l ∧ (A = none → c = 0) ∧ (∀ a, A = some a → base ≤ a.block ∧ ∃ cs fr, w.heap[a.block]? = some (.cells cs 3 fr))
theorem OwI.eli {w : World} {base : Nat} {v : Value} {l : List Int} (h : OwI w base v l) : ElI w base v l := by
  obtain ⟨A, c, rfl, h1, h2, h3⟩ := h.ins
  rcases h.2 with ⟨e, e2⟩ | ⟨g, cap, cur, e, hg, hh, _⟩
  · injection e with e1 e2 e3
    exact ⟨A, c, rfl, h1, h2, fun _ => e3, fun a ha => by rw [e1] at ha; cases ha⟩
  · injection e with e1 e2 e3
    refine ⟨A, c, rfl, h1, h2, fun h0 => ?_, fun a ha => ?_⟩
    · rw [e1] at h0; cases h0
    · rw [e1] at ha; injection ha with ha; subst ha; exact ⟨hg, cur, (0, 0), hh⟩
/-- The slice value v owns a row, from block base on, of slices that read as the lists ls. -/
def OwII (w : World) (base : Nat) (v : Value) (ls : List (List Int)) : Prop :=
  ∃ vs : List Value, OwG 43 1 enV w base v vs ∧ vs.length = ls.length ∧ (∀ u ∈ vs, u.oneCell' = true) ∧ ∀ (i : Nat) (u : Value) (l : List Int), vs[i]? = some u → ls[i]? = some l → ElI w base u l
theorem ElI.keepAbove {w w' : World} {base : Nat} {v : Value} {l : List Int} (h : ElI w base v l) (hk : ∀ k cs fr, base ≤ k → w.heap[k]? = some (.cells cs 3 fr) → w'.heap[k]? = w.heap[k]?) : ElI w' base v l := by
  obtain ⟨A, c, rfl, h1, h2, h3, h4⟩ := h
  refine ⟨A, c, rfl, h1, ⟨h2.1, ?_⟩, h3, fun a ha => ?_⟩
  · obtain ⟨_, h2⟩ := h2
    rcases h2 with h2 | ⟨b, off, rfl, h2⟩
    · exact .inl h2
    · obtain ⟨g1, cs, fr, g2⟩ := h4 _ rfl
      have hh := hk b cs fr g1 g2
      exact .inr ⟨b, off, rfl, fun k hk' => (World.cell?_of_block (w := w) (a := ⟨b, off + k, none⟩) hh).trans (h2 k hk')⟩
  · obtain ⟨g1, cs, fr, g2⟩ := h4 _ ha
    exact ⟨g1, cs, fr, (hk _ cs fr g1 g2).trans g2⟩
theorem ElI.keep {w w' : World} {base : Nat} {v : Value} {l : List Int} (h : ElI w base v l) (hb : Below w.heap.size w w') : ElI w' base v l :=
  h.keepAbove fun k _ _ _ hg => hb.block k (lt_of_heap hg)
theorem ElI.grown {w w' : World} {base : Nat} {v : Value} {l : List Int} {row : Option Nat} (h : ElI w base v l) (hg : w.grownBy w' row) (hr : ∀ k cs fr, base ≤ k → w.heap[k]? = some (.cells cs 3 fr) → some k ≠ row) : ElI w' base v l :=
  h.keepAbove fun k cs fr hk hh => hg.block k (lt_of_heap hh) (hr k cs fr hk hh)
theorem ElI.lower {w : World} {base base' : Nat} {v : Value} {l : List Int} (h : ElI w base v l) (hb : base' ≤ base) : ElI w base' v l := by
  obtain ⟨A, c, e, e1, e2, e3, e4⟩ := h
  exact ⟨A, c, e, e1, e2, e3, fun a ha => ⟨Nat.le_trans hb (e4 a ha).1, (e4 a ha).2⟩⟩
theorem OwII.nil {w : World} {base : Nat} : OwII w base (.slice none 0 0) [] := ⟨[], OwG.nil, rfl, by simp, by simp⟩
theorem OwII.keep {w w' : World} {base : Nat} {v : Value} {ls : List (List Int)} (h : OwII w base v ls) (hb : Below w.heap.size w w') : OwII w' base v ls := by
  obtain ⟨vs, h1, h2, h3, h4⟩ := h
  exact ⟨vs, h1.keep hb, h2, h3, fun i u l hu hl => (h4 i u l hu hl).keep hb⟩
theorem OwII.alloc {w : World} {base : Nat} {v : Value} {ls : List (List Int)} (h : OwII w base v ls) (o : Obj) : OwII (w.alloc o) base v ls := h.keep (Bl.alloc (Below.refl _ _) _)
theorem OwII.lower {w : World} {base base' : Nat} {v : Value} {ls : List (List Int)} (h : OwII w base v ls) (hb : base' ≤ base) : OwII w base' v ls := by
  obtain ⟨vs, h1, h2, h3, h4⟩ := h
  exact ⟨vs, h1.lower hb, h2, h3, fun i u l hu hl => (h4 i u l hu hl).lower hb⟩
theorem below_appII {w0 w w' : World} {v : Value} {ls : List (List Int)} (hb : Below w0.heap.size w0 w) (h : OwII w w0.heap.size v ls) (hg : w.grownBy w' v.ownBlock) : Below w0.heap.size w0 w' := by
  obtain ⟨vs, h1, _⟩ := h
  exact below_app hb h1 hg
/-- append of one slice of ints. -/
theorem wpList_appVI {w : World} {ops : Array Oper} {rest : List Oper} {o : Oper} {a : Act} {Q : Exit → Act → World → Prop} (hgd : o.guard = none) (s x : Operand)
    (ho : o.op = .call { callee := .builtin .append, args := #[s, x], argTypes := #[60, 60] })
    (base : Nat) (v : Value) (ls : List (List Int)) (hs : a.eval s = v) (hown : OwII w base v ls)
    (bx c : Nat) (u : Value) (l : List Int) (tb : TypeId) (hx : a.eval x = .slice (some ⟨bx, 0, none⟩) 1 c) (hnew : BlkS w bx tb #[u]) (hu : ElI w base u l)
    (hlen : ls.length ≤ 1000000) (hbase : base ≤ w.heap.size)
    (h : ∀ v' w', OwII w' base v' (ls ++ [l]) → w.grownBy w' v.ownBlock → (v'.ownBlock = v.ownBlock ∨ v'.ownBlock = some w.heap.size) → wpList Tryz.prog ops Q rest (a.put o.dst v') w') :
    wpList Tryz.prog ops Q (o :: rest) a w := by
  obtain ⟨i, hi, hz0, hz1, hz2⟩ := info_parts infoII
  obtain ⟨vs, h1, h2, h3, h4⟩ := hown
  have hone : u.oneCell' = true := by obtain ⟨A, c, rfl, _⟩ := hu; rfl
  have hrow : ∀ k cs fr, base ≤ k → w.heap[k]? = some (.cells cs 3 fr) → some k ≠ v.ownBlock := by
    intro k cs fr _ hh he
    rcases h1.2 with ⟨rfl, _⟩ | ⟨g, cap, cur, rfl, _, hg, _⟩
    · cases he
    · have : k = g := by simpa [Value.ownBlock] using he
      subst this
      rw [hg] at hh
      injection hh with hh
      injection hh with _ ht
      exact absurd ht (by decide)
  refine wpList_append_own_at (P := Tryz.prog) w hgd s x 60 ho base 43 i (.slice none 0 0) 1 24 Tryz.underlying60 hi hz0 hz1 hz2 rfl (by omega) v vs.length (vs.flatMap enV) hs h1 ⟨bx, 0, none⟩ 1 c [u] hx rfl ?_ (by simpa using hone) (by rw [h2]; unfold maxLen; omega) (by rw [h2]; omega) hbase ?_
  · intro j y hj
    exact World.news_of_block (w := w) (B := bx) (cs := #[u]) (t := tb) (fr := (0, 0)) hnew j y (by simpa using hj)
  · intro v' w' ho' hg _ hat
    refine h v' w' ⟨vs ++ [u], ?_, by rw [List.length_append, List.length_append, h2]; rfl, ?_, ?_⟩ hg hat
    · unfold OwG
      rw [List.length_append, List.flatMap_append]
      exact ho'
    · intro y hy
      rcases List.mem_append.1 hy with hy | hy
      · exact h3 y hy
      · rw [List.mem_singleton.1 hy]; exact hone
    · intro k y l' hy hl'
      rcases Nat.lt_or_ge k vs.length with hk | hk
      · rw [List.getElem?_append_left hk] at hy
        rw [List.getElem?_append_left (by omega)] at hl'
        exact (h4 k y l' hy hl').grown hg hrow
      · rw [List.getElem?_append_right hk] at hy
        rw [List.getElem?_append_right (by omega)] at hl'
        rcases Nat.eq_zero_or_pos (k - vs.length) with h0 | h0
        · rw [h0] at hy
          rw [show k - ls.length = 0 by omega] at hl'
          simp at hy hl'
          subst hy hl'
          exact hu.grown hg hrow
        · rw [List.getElem?_eq_none (by simp; omega)] at hy; cases hy
/-! ### lists of lists read -/
def li (ls : List (List Int)) (k : Nat) : List Int := ls.getD k []
theorem li_some {ls : List (List Int)} {k : Nat} (h : k < ls.length) : ls[k]? = some (li ls k) := by
  unfold li; rw [List.getD, List.getElem?_eq_getElem h]; rfl
def InSS (w : World) (A : Option Addr) (n : Nat) (ls : List (List Int)) : Prop :=
  ls.length = n ∧ (n = 0 ∨ ∃ b off, A = some ⟨b, off, none⟩ ∧ ∀ k, k < n → ∃ Ak ck, w.cell? ⟨b, off + k, none⟩ = some (.slice Ak (li ls k).length ck) ∧ (li ls k).length ≤ ck ∧ InS w Ak (li ls k).length (li ls k) ∧ (Ak = none → ck = 0))
theorem InSS.at_ {w : World} {A : Option Addr} {n : Nat} {ls : List (List Int)} (h : InSS w A n ls) {k : Nat} (hk : k < n) : ∃ b off Ak ck, A = some ⟨b, off, none⟩ ∧ w.cell? ⟨b, off + k, none⟩ = some (.slice Ak (li ls k).length ck) ∧ (li ls k).length ≤ ck ∧ InS w Ak (li ls k).length (li ls k) ∧ (Ak = none → ck = 0) := by
  obtain ⟨h1, h⟩ := h; rcases h with rfl | ⟨b, off, rfl, h⟩
  · omega
  · obtain ⟨Ak, ck, e1, e2, e3, e4⟩ := h k hk
    exact ⟨b, off, Ak, ck, rfl, e1, e2, e3, e4⟩
theorem OwII.inss {w : World} {base : Nat} {v : Value} {ls : List (List Int)} (h : OwII w base v ls) : ∃ A c, v = .slice A ls.length c ∧ ls.length ≤ c ∧ InSS w A ls.length ls ∧ (A = none → c = 0) := by
  obtain ⟨vs, h1, h2, h3, h4⟩ := h
  rcases OwG.form h1 with ⟨rfl, rfl⟩ | ⟨g, cap, rfl, g1, g2, g3, g4⟩
  · have : ls = [] := List.eq_nil_of_length_eq_zero (by rw [← h2]; rfl)
    subst this
    exact ⟨none, 0, rfl, Nat.le_refl _, ⟨rfl, .inl rfl⟩, fun _ => rfl⟩
  · refine ⟨_, cap, by rw [← h2], by rw [← h2]; exact g3, ⟨rfl, .inr ⟨g, 0, rfl, fun k hk => ?_⟩⟩, fun h => by cases h⟩
    have hkv : k < vs.length := by rw [h2]; exact hk
    obtain ⟨u, hu⟩ : ∃ u, vs[k]? = some u := ⟨_, List.getElem?_eq_getElem hkv⟩
    have c0 := OwG.cells h1 k (by omega)
    have f0 := flat_at enV_len vs k 0 u hu (by omega)
    rw [Nat.mul_one, Nat.add_zero] at f0
    rw [f0] at c0
    obtain ⟨Ak, ck, rfl, e2, e3, e4, _⟩ := h4 k u (li ls k) hu (li_some hk)
    exact ⟨Ak, ck, by rw [Nat.zero_add]; exact c0, e2, e3, e4⟩
/-! ### append of ints -/
theorem newsI {w : World} {ad : Addr} {m : Nat} {l : List Int} (h : InS w (some ad) m l) : ∀ j u, (l.flatMap enI)[j]? = some u → w.cell? (ad.add j) = some u := by
  intro j u hj
  have hjl : j < (l.flatMap enI).length := by
    rcases Nat.lt_or_ge j (l.flatMap enI).length with h1 | h1
    · exact h1
    · rw [List.getElem?_eq_none h1] at hj; cases hj
  rw [flat_len enI_len, h.1, Nat.mul_one] at hjl
  obtain ⟨b, off, e, hc⟩ := h.at_ hjl
  injection e with e
  subst e
  have hf0 := flat_at enI_len l j 0 _ (gi_some (by rw [h.1]; exact hjl)) (by omega)
  rw [Nat.mul_one, Nat.add_zero, hj] at hf0
  have ea : (⟨b, off, none⟩ : Addr).add j = ⟨b, off + j, none⟩ := by
    unfold Addr.add; by_cases h0 : j = 0
    · subst h0; simp
    · simp [h0]
  rw [ea, hc, hf0]; rfl
theorem wpList_appI {w : World} {ops : Array Oper} {rest : List Oper} {o : Oper} {a : Act} {Q : Exit → Act → World → Prop} (hgd : o.guard = none) (s x : Operand)
    (ho : o.op = .call { callee := .builtin .append, args := #[s, x], argTypes := #[43, 43] })
    (base : Nat) (v : Value) (l : List Int) (hs : a.eval s = v) (hown : OwI w base v l)
    (A : Option Addr) (m c : Nat) (l2 : List Int) (hx : a.eval x = .slice A m c) (hr : InS w A m l2) (hnil : A = none → c = 0)
    (hlen : l.length + m ≤ 1000000) (hbase : base ≤ w.heap.size)
    (h : ∀ v' w', OwI w' base v' (l ++ l2) → w.grownBy w' v.ownBlock → (v'.ownBlock = v.ownBlock ∨ v'.ownBlock = some w.heap.size) → wpList Tryz.prog ops Q rest (a.put o.dst v') w') :
    wpList Tryz.prog ops Q (o :: rest) a w := by
  obtain ⟨i, hi, hz0, hz1, hz2⟩ := info_parts infoI
  cases A with
  | none =>
    have h0 := hnil rfl
    subst h0
    have hm : m = 0 := by
      rcases Nat.eq_zero_or_pos m with h1 | h1
      · exact h1
      · obtain ⟨_, _, e, _⟩ := hr.at_ h1; cases e
    subst hm
    have hl2 : l2 = [] := List.eq_nil_of_length_eq_zero hr.1
    subst hl2
    refine wpList_append_own_none hgd s x 43 ho base 3 i 1 Tryz.underlying43 hi v l.length (l.flatMap enI) hs hown hx ?_
    exact h v w (by rw [List.append_nil]; exact hown) (World.grownBy.refl _ _) (Or.inl rfl)
  | some ad =>
    refine wpList_append_own_at (P := Tryz.prog) w hgd s x 43 ho base 3 i (.int .i64 0) 1 8 Tryz.underlying43 hi hz0 hz1 hz2 rfl (by omega) v l.length (l.flatMap enI) hs hown ad m c (l2.flatMap enI) hx (by rw [flat_len enI_len, hr.1]) (newsI hr) ?_ (by unfold maxLen; omega) (by omega) hbase ?_
    · intro u hu
      obtain ⟨p, _, hp⟩ := List.mem_flatMap.1 hu
      exact enI_one p u hp
    · intro v' w' ho' hg _ hat
      refine h v' w' ?_ hg hat
      unfold OwI OwG
      rw [List.length_append, List.flatMap_append, hr.1]
      exact ho'
theorem InS.new (w : World) (t : TypeId) (z : Int) : InS (w.alloc (.cells #[.int .i64 z] t)) (some ⟨w.heap.size, 0, none⟩) 1 [z] := by
  refine ⟨rfl, .inr ⟨_, 0, rfl, fun k hk => ?_⟩⟩
  obtain rfl : k = 0 := by omega
  simp [gi]
/-! ### slices.Index, Contains, Clone -/
set_option maxHeartbeats 1000000 in
theorem indexI_any (A : Option Addr) (cap n : Nat) (l : List Int) (x : Int) (w : World) (hl : n ≤ 1000000) (hs : InS w A n l) :
    Calls Tryz.prog 91 #[.slice A n cap, .int .i64 x] w fun e w' => e = .returned (.int .i64 (idxOf (fun i => x == gi l i) n)) ∧ Below w.heap.size w w' := by
  go_enter Tryz.func91, Tryz.ntmps91
  go_wp2_with fail
  go_loopw [8] (fun i wr => ∃ k : Nat, k ≤ n ∧ i = .int .i64 k ∧ Hid (AnyB (fun i => x == gi l i) k = false) ∧ Below w.heap.size w wr) (fun i _ => n - (intOf i).toNat)
  case atStart => exact ⟨0, Nat.zero_le _, rfl, AnyB.zero _, Below.refl _ _⟩
  case round =>
    obtain ⟨k, hk, rfl, hp, hb⟩ := hrel
    by_cases hlt : k < n
    · obtain ⟨b, off, rfl, hc⟩ := (hs.keep hb).at_ hlt
      go_wp2_with fail
      · go_ret
        exact ⟨ret_int (idxOf_at hlt hp.out (by assumption)).symm, hb⟩
      · go_roundw
        case rel => exact ⟨k + 1, by omega, by go_num, AnyB.succ hp.out (by assumption), hb⟩
        case measure => simp [intOf]; omega
    · obtain rfl : n = k := by omega
      go_wp2_with fail
      go_ret
      exact ⟨ret_int (idxOf_none hp.out).symm, hb⟩
set_option maxHeartbeats 1000000 in
theorem containsI_any (A : Option Addr) (cap n : Nat) (l : List Int) (x : Int) (w : World) (hl : n ≤ 1000000) (hs : InS w A n l) :
    Calls Tryz.prog 57 #[.slice A n cap, .int .i64 x] w fun e w' => e = .returned (.bool (AnyB (fun i => x == gi l i) n)) ∧ Below w.heap.size w w' := by
  go_enter Tryz.func57, Tryz.ntmps57
  go_wp2_with (go_at_call 91; refine (indexI_any _ _ _ _ _ _ hl hs).mono ?_; rintro e w1 ⟨rfl, hb1⟩)
  go_ret
  exact ⟨ret_bool (idxOf_any _ _), hb1⟩
def RetI (w : World) (l : List Int) (e : Ending) (w' : World) : Prop := ∃ v, e = .returned v ∧ OwI w' w.heap.size v l ∧ Below w.heap.size w w'
set_option maxHeartbeats 1000000 in
theorem cloneI_some (ad : Addr) (cap n : Nat) (l : List Int) (w : World) (hn : n ≤ 1000000) (hs : InS w (some ad) n l) :
    Calls Tryz.prog 58 #[.slice (some ad) n cap] w (RetI w l) := by
  have heq := fun (w : World) => Lib.run_eql_slice_nil (P := Tryz.prog) w 43 3 (some ad) n cap 0 0 Tryz.underlying43
  have hE : OwI (w.alloc (.cells #[] 3)) w.heap.size (.slice (some ⟨w.heap.size, 0, none⟩) 0 0) [] := World.ownsRow_lit w #[] 0 (Nat.le_refl _) (Nat.zero_le _) rfl
  go_enter Tryz.func58, Tryz.ntmps58
  go_wp2_with (at_builtin; refine wpList_appI rfl _ _ rfl w.heap.size _ [] rfl hE (some ad) n cap l rfl (hs.keep (Bl.alloc (Below.refl _ _) _)) (fun h => by cases h) (by simp; omega) (Bl.alloc (Below.refl _ _) _).size ?_; intro v' w' ho' hg' hat')
  go_ret
  exact ⟨v', rfl, by simpa using ho', below_app (Bl.alloc (Below.refl _ _) _) hE hg'⟩
set_option maxHeartbeats 400000 in
theorem cloneI_none (w : World) : Calls Tryz.prog 58 #[.slice none 0 0] w (RetI w []) := by
  have heq := fun (w : World) => Lib.run_eql_slice_nil (P := Tryz.prog) w 43 3 none 0 0 0 0 Tryz.underlying43
  go_enter Tryz.func58, Tryz.ntmps58
  go_wp2_with fail
  go_ret
  exact ⟨_, rfl, OwG.nil, Below.refl _ _⟩
theorem cloneI_any (A : Option Addr) (cap n : Nat) (l : List Int) (w : World) (hn : n ≤ 1000000) (hs : InS w A n l) (hz : A = none → cap = 0) :
    Calls Tryz.prog 58 #[.slice A n cap] w (RetI w l) := by
  cases A with
  | some ad => exact cloneI_some ad cap n l w hn hs
  | none =>
    have h0 := hz rfl
    have hn0 : n = 0 := by
      rcases Nat.eq_zero_or_pos n with h | h
      · exact h
      · obtain ⟨_, _, e, _⟩ := hs.at_ h; cases e
    subst hn0 h0
    rw [List.eq_nil_of_length_eq_zero hs.1]
    exact cloneI_none w
end Go.Proofs.YtmdncaoilegnnaaGreat

namespace Go.Proofs.YtmdncaoilegnnaaGreat
set_option linter.unusedVariables false
set_option linter.unusedSimpArgs false
set_option linter.unusedVariables false
set_option linter.unusedSimpArgs false
open Go.RowKit

def ordIn (o : List Int) (acc : List (List Int)) : Nat → List (List Int)
  | 0 => acc
  | i + 1 => if AnyB (fun j => ((i : Nat) : Int) == gi o j) o.length = true then ordIn o acc i else ordIn o acc i ++ [o ++ [((i : Nat) : Int)]]
def ordMid (n : Nat) (os : List (List Int)) : Nat → List (List Int)
  | 0 => []
  | k + 1 => ordIn (li os k) (ordMid n os k) n
def ordTo (n : Nat) : Nat → List (List Int)
  | 0 => [[]]
  | r + 1 => ordMid n (ordTo n r) (ordTo n r).length
def ordW (z : Int) : List (List Int) := if z < 0 ∨ 5 < z then [] else ordTo z.toNat z.toNat
theorem ordIn_small {o : List Int} {acc : List (List Int)} {m : Nat} (ho : o.length ≤ m) (ha : ∀ t ∈ acc, t.length ≤ m + 1) : ∀ i, (ordIn o acc i).length ≤ acc.length + i ∧ ∀ t ∈ ordIn o acc i, t.length ≤ m + 1 := by
  intro i
  induction i with
  | zero => exact ⟨Nat.le_refl _, ha⟩
  | succ i ih =>
    rw [ordIn]
    split
    · exact ⟨by omega, ih.2⟩
    · refine ⟨by simp; omega, fun t ht => ?_⟩
      rcases List.mem_append.1 ht with ht | ht
      · exact ih.2 t ht
      · simp at ht; subst ht; simp; exact ho
theorem li_mem {ls : List (List Int)} {k : Nat} (h : k < ls.length) : li ls k ∈ ls := by
  unfold li; rw [List.getD, List.getElem?_eq_getElem h]; exact List.getElem_mem h
theorem ordMid_small {n m : Nat} {os : List (List Int)} (ho : ∀ t ∈ os, t.length ≤ m) : ∀ k, k ≤ os.length → (ordMid n os k).length ≤ k * n ∧ ∀ t ∈ ordMid n os k, t.length ≤ m + 1 := by
  intro k
  induction k with
  | zero => intro _; simp [ordMid]
  | succ k ih =>
    intro hk
    have h := ih (by omega)
    have := ordIn_small (ho _ (li_mem (ls := os) (k := k) (by omega))) h.2 n
    rw [ordMid, Nat.add_mul]
    exact ⟨by omega, this.2⟩
theorem ordTo_small {n : Nat} (hn : n ≤ 5) : ∀ r, (ordTo n r).length ≤ 5 ^ r ∧ ∀ t ∈ ordTo n r, t.length ≤ r := by
  intro r
  induction r with
  | zero => simp [ordTo]
  | succ r ih =>
    have h := ordMid_small (n := n) ih.2 _ (Nat.le_refl _)
    rw [ordTo]
    refine ⟨Nat.le_trans h.1 ?_, h.2⟩
    rw [Nat.pow_succ]
    exact Nat.mul_le_mul ih.1 hn
theorem ordTo_len {n r : Nat} (hn : n ≤ 5) (hr : r ≤ 5) : (ordTo n r).length ≤ 3125 ∧ ∀ t ∈ ordTo n r, t.length ≤ 5 := by
  have h := ordTo_small hn r
  refine ⟨Nat.le_trans h.1 ?_, fun t ht => Nat.le_trans (h.2 t ht) hr⟩
  exact Nat.le_trans (Nat.pow_le_pow_right (by omega) hr) (by decide)
def RetII (w : World) (ls : List (List Int)) (e : Ending) (w' : World) : Prop := ∃ v, e = .returned v ∧ OwII w' w.heap.size v ls ∧ Below w.heap.size w w'
theorem ordInit (w : World) : OwII ((w.alloc (.cells #[] 3)).alloc (.cells #[.slice (some ⟨w.heap.size, 0, none⟩) 0 0] 43)) w.heap.size (.slice (some ⟨w.heap.size + 1, 0, none⟩) 1 1) [[]] := by
  refine ⟨[.slice (some ⟨w.heap.size, 0, none⟩) 0 0], ?_, rfl, ?_, ?_⟩
  · have h := World.ownsRow_lit (base := w.heap.size) (e := 43) (size := 1) (w.alloc (.cells #[] 3)) #[.slice (some ⟨w.heap.size, 0, none⟩) 0 0] 1 (by simp) (by unfold maxLen; omega) rfl
    simpa [OwG, enV] using h
  · intro u hu; simp at hu; subst hu; rfl
  · intro i u l hu hl
    rcases i with _ | i
    · simp at hu hl
      subst hu hl
      refine ⟨some ⟨w.heap.size, 0, none⟩, 0, rfl, Nat.le_refl _, ⟨rfl, .inl rfl⟩, (fun h => by cases h), fun a ha => ?_⟩
      injection ha with ha
      subst ha
      exact ⟨Nat.le_refl _, #[], (0, 0), by rw [(Bl.alloc (Below.refl _ _) _ : Below (w.alloc (.cells #[] 3)).heap.size _ _).block w.heap.size (by simp), heap_alloc_new]⟩
    · simp at hu
set_option maxHeartbeats 2000000 in
set_option maxRecDepth 100000 in
theorem orders_any (z : Int) (w : World) (hz1 : -9223372036854775808 ≤ z) (hz2 : z ≤ 9223372036854775807) :
    Calls Tryz.prog 30 #[.int .i64 z] w (RetII w (ordW z)) := by
  by_cases h : z < 0 ∨ 5 < z
  · have HR := Lib.hid (show ordW z = [] by unfold ordW; rw [if_pos h])
    go_enter Tryz.func30, Tryz.ntmps30
    rcases h with h | h
    · go_wp2_with fail
      go_ret
      exact ⟨_, rfl, by rw [HR.out]; exact OwII.nil, Below.refl _ _⟩
    · go_wp2_with fail
      go_ret
      exact ⟨_, rfl, by rw [HR.out]; exact OwII.nil, Below.refl _ _⟩
  · obtain ⟨n, rfl⟩ : ∃ n : Nat, z = n := ⟨z.toNat, by omega⟩
    have hn : n ≤ 5 := by omega
    have HR := Lib.hid (show ordW n = ordTo n n by unfold ordW; rw [if_neg h, Int.toNat_natCast])
    clear h hz1 hz2
    have hI := ordInit w
    have hbI : Below w.heap.size w ((w.alloc (.cells #[] 3)).alloc (.cells #[.slice (some ⟨w.heap.size, 0, none⟩) 0 0] 43)) := (Bl.alloc (Bl.alloc (Below.refl _ _) _) _)
    go_enter Tryz.func30, Tryz.ntmps30
    go_wp2_with fail
    go_loopw [3, 17] (fun v i wr => ∃ r : Nat, r ≤ n ∧ i = .int .i64 r ∧ OwII wr w.heap.size v (ordTo n r) ∧ Below w.heap.size w wr) (fun _ i _ => n - (intOf i).toNat)
    case atStart => exact ⟨0, Nat.zero_le _, rfl, hI, hbI⟩
    case round =>
      clear hI hbI
      obtain ⟨r, hr, rfl, ho, hb⟩ := hrel
      by_cases hlt : r < n
      · have hsm := ordTo_len hn (show r ≤ 5 by omega)
        have HSM := Lib.hid hsm.2
        have hsm1 := hsm.1
        clear hsm
        have hstep := Lib.hid (show ordTo n (r + 1) = ordMid n (ordTo n r) (ordTo n r).length from rfl)
        obtain ⟨os, hos⟩ : ∃ os, ordTo n r = os := ⟨_, rfl⟩
        rw [hos] at hstep hsm1 HSM ho
        clear hos
        obtain ⟨A1, c1, rfl, hc1, hS1, -⟩ := ho.inss
        obtain ⟨m, hm⟩ : ∃ m, os.length = m := ⟨_, rfl⟩
        rw [hm] at hstep hsm1 hc1 hS1
        have HM := Lib.hid hm
        rw [hm]
        clear hm
        go_wp2_with fail
        obtain ⟨wa, rfl⟩ : ∃ wa : World, wa = wr := ⟨_, rfl⟩
        go_loopw [4, 21] (fun v i wx => ∃ k : Nat, k ≤ m ∧ i = .int .i64 k ∧ OwII wx wa.heap.size v (ordMid n os k) ∧ Below wa.heap.size wa wx) (fun _ i _ => m - (intOf i).toNat)
        case atStart => exact ⟨0, Nat.zero_le _, rfl, OwII.nil, Below.refl _ _⟩
        case round =>
          obtain ⟨k, hk, rfl, hok, hbk⟩ := hrel
          by_cases hkm : k < m
          · obtain ⟨b1, o1, Ak, ck, rfl, e1, e2, e3, e4⟩ := hS1.at_ hkm
            have hmid := ordMid_small (n := n) HSM.out k (by rw [HM.out]; omega)
            have hmid1 : (ordMid n os k).length ≤ 15625 := Nat.le_trans hmid.1 (Nat.le_trans (Nat.mul_le_mul (show k ≤ 3125 by omega) hn) (by omega))
            have HMID := Lib.hid hmid.2
            clear hmid
            have hl5 : (li os k).length ≤ 5 := HSM.out _ (li_mem (by rw [HM.out]; exact hkm))
            have hst2 := Lib.hid (show ordMid n os (k + 1) = ordIn (li os k) (ordMid n os k) n from rfl)
            obtain ⟨o, hoo⟩ : ∃ o, li os k = o := ⟨_, rfl⟩
            rw [hoo] at e1 e2 e3 hl5 hst2
            clear hoo
            obtain ⟨no, hno⟩ : ∃ no, o.length = no := ⟨_, rfl⟩
            rw [hno] at e1 e2 e3 hl5
            have HNO := Lib.hid hno
            clear hno
            obtain ⟨acc, hacc⟩ : ∃ acc, ordMid n os k = acc := ⟨_, rfl⟩
            rw [hacc] at hmid1 HMID hst2 hok
            clear hacc
            have e1' := cell_keep hbk e1
            clear e1
            go_wp2_with fail
            clear e1'
            obtain ⟨wx, rfl⟩ : ∃ wx : World, wx = wr := ⟨_, rfl⟩
            go_loopw [4, 26] (fun v i wy => ∃ j : Nat, j ≤ n ∧ i = .int .i64 j ∧ OwII wy wa.heap.size v (ordIn o acc j) ∧ Below wa.heap.size wa wy) (fun _ i _ => n - (intOf i).toNat)
            case atStart => exact ⟨0, Nat.zero_le _, rfl, hok, hbk⟩
            case round =>
              clear hok hbk
              obtain ⟨j, hj, rfl, hoj, hbj⟩ := hrel
              by_cases hjn : j < n
              · have hin := (ordIn_small (o := o) (m := 5) (by rw [HNO.out]; exact hl5) HMID.out j).1
                have hin1 : (ordIn o acc j).length ≤ 1000000 := by omega
                have hst3 : ordIn o acc (j + 1) = if AnyB (fun i => ((j : Nat) : Int) == gi o i) no = true then ordIn o acc j else ordIn o acc j ++ [o ++ [((j : Nat) : Int)]] := by rw [ordIn, HNO.out]
                by_cases hany : AnyB (fun i => ((j : Nat) : Int) == gi o i) no = true
                · rw [if_pos hany] at hst3
                  have H3 := Lib.hid hst3
                  clear hst3
                  go_wp2_with (go_at_call 57; refine (containsI_any _ _ _ o _ _ (by omega) (e3.keep hbj)).mono ?_; rintro e w5 ⟨rfl, hb5⟩; rw [hany])
                  exact ⟨⟨j + 1, by omega, by go_num, by rw [H3.out]; exact hoj.keep hb5, Bl.call hbj hb5⟩, by simp [intOf]; omega⟩
                · rw [if_neg hany] at hst3
                  have H3 := Lib.hid hst3
                  have hany' : AnyB (fun i => ((j : Nat) : Int) == gi o i) no = false := by simpa using hany
                  clear hst3 hany
                  have HL7 := Lib.hid (show (o ++ [(j : Int)]).length = no + 1 by rw [List.length_append, HNO.out]; rfl)
                  go_wp2_with (first | (go_at_call 57; refine (containsI_any _ _ _ o _ _ (by omega) (e3.keep hbj)).mono ?_; rintro e w5 ⟨rfl, hb5⟩; rw [hany']) | (go_at_call 58; refine (cloneI_any _ _ _ o _ (by omega) ((e3.keep hbj).keep hb5) e4).mono ?_; rintro e w6 ⟨v6, rfl, ho6, hb6⟩) | (at_builtin; refine wpList_appI rfl _ _ rfl w5.heap.size v6 o rfl (OwG.alloc ho6 _) _ 1 1 [(j : Int)] rfl (InS.new _ _ _) (fun h => by cases h) (by rw [HNO.out]; omega) (Bl.alloc hb6 _).size ?_; intro v7 w7 ho7 hg7 hat7; have hb7 := below_app (Bl.alloc hb6 _) (OwG.alloc ho6 _) hg7; clear hg7 hat7; obtain ⟨A7, c7, rfl, -, -, -, -⟩ := OwI.eli ho7; rw [HL7.out] at ho7 ⊢) | (at_builtin; refine wpList_appVI rfl _ _ rfl wa.heap.size _ (ordIn o acc j) rfl (((hoj.keep hb5).keep hb7).alloc _) w7.heap.size 1 _ (o ++ [(j : Int)]) 43 rfl (BlkS.new _ _ _) (((OwI.eli ho7).lower (Bl.call hbj hb5).size).keep (Bl.alloc (Below.refl _ _) _)) hin1 (Bl.alloc (Bl.call (Bl.call hbj hb5) hb7) _).size ?_; intro v8 w8 ho8 hg8 hat8))
                  exact ⟨⟨j + 1, by omega, by go_num, by rw [H3.out]; exact ho8, below_appII (Bl.alloc (Bl.call (Bl.call hbj hb5) hb7) _) (((hoj.keep hb5).keep hb7).alloc _) hg8⟩, by simp [intOf]; omega⟩
              · obtain rfl : n = j := by omega
                go_wp2_with fail
                exact ⟨⟨k + 1, by omega, by go_num, by rw [hst2.out]; exact hoj, hbj⟩, by simp [intOf]; omega⟩
          · obtain rfl : m = k := by omega
            go_wp2_with fail
            exact ⟨⟨r + 1, by omega, by go_num, by rw [hstep.out]; exact hok.lower hb.size, Bl.call hb hbk⟩, by simp [intOf]; omega⟩
      · obtain rfl : n = r := by omega
        go_wp2_with fail
        go_ret
        exact ⟨_, rfl, by rw [HR.out]; exact ho, hb⟩
end Go.Proofs.YtmdncaoilegnnaaGreat

namespace Go.Proofs.YtmdncaoilegnnaaGreat
set_option linter.unusedVariables false
set_option linter.unusedSimpArgs false
set_option linter.unusedVariables false
set_option linter.unusedSimpArgs false
open Go.RowKit

def contIn (f : List Int → List (List Int)) (l : List Int) : Nat → List (List Int)
  | 0 => []
  | i + 1 => if AnyB (fun j => gi l j == ((i : Nat) : Int)) l.length = true then contIn f l i else contIn f l i ++ f (l ++ [((i : Nat) : Int)])
def contW (n : Nat) : Nat → List Int → List (List Int)
  | 0, l => [l]
  | d + 1, l => contIn (contW n d) l n
def refOrdW (z : Int) : List (List Int) := if z < 0 ∨ 5 < z then [] else contW z.toNat z.toNat []
/-! ### garmentref21.SameInts -/
def sameI (a b : List Int) : Bool := decide (a = b)
theorem sameI_no {a b : List Int} {k : Nat} (hk : k < a.length) (hl : a.length = b.length) (h : gi a k ≠ gi b k) : sameI a b = false := by
  unfold sameI
  rw [decide_eq_false_iff_not]
  intro e; rw [e] at h; exact h rfl
theorem sameI_yes {a b : List Int} (hl : a.length = b.length) (h : AllB (fun i => gi a i == gi b i) a.length = true) : sameI a b = true := by
  unfold sameI
  rw [decide_eq_true_eq]
  apply List.ext_getElem? 
  intro k
  rcases Nat.lt_or_ge k a.length with hk | hk
  · rw [gi_some hk, gi_some (by omega)]
    have := AllB.iff.1 h k hk
    simp at this
    rw [this]
  · rw [List.getElem?_eq_none hk, List.getElem?_eq_none (by omega)]
set_option maxHeartbeats 1000000 in
theorem sameInts_any (A B : Option Addr) (ca cb na nb : Nat) (a b : List Int) (w : World) (hn : na ≤ 1000000) (hA : InS w A na a) (hB : InS w B nb b) :
    Calls Tryz.prog 29 #[.slice A na ca, .slice B nb cb] w fun e w' => e = .returned (.bool (sameI a b)) ∧ Below w.heap.size w w' := by
  have hla := hA.1
  have hlb := hB.1
  by_cases hne : na = nb
  · subst hne
    have q : ((na : Int) != (na : Int)) = false := by simp
    have HE := Lib.hid (show a.length = b.length by omega)
    have HLA := Lib.hid hla
    clear hla hlb
    go_enter Tryz.func29, Tryz.ntmps29
    go_wp2_with fail
    go_loopw [5] (fun i wr => ∃ k : Nat, k ≤ na ∧ i = .int .i64 k ∧ Hid (AllB (fun i => gi a i == gi b i) k = true) ∧ Below w.heap.size w wr) (fun i _ => na - (intOf i).toNat)
    case atStart => exact ⟨0, Nat.zero_le _, rfl, AllB.zero _, Below.refl _ _⟩
    case round =>
      obtain ⟨k, hk, rfl, hp, hb⟩ := hrel
      by_cases hlt : k < na
      · obtain ⟨b1, o1, rfl, c1⟩ := (hA.keep hb).at_ hlt
        obtain ⟨b2, o2, rfl, c2⟩ := (hB.keep hb).at_ hlt
        go_wp2_with fail
        go_quiet (fail)
        have hb2 := Bl.drewN hb nq
        clear hb
        by_cases he : gi a k = gi b k
        · have q2 : (gi a k != gi b k) = false := by simp [he]
          have HS := Lib.hid (AllB.succ hp.out (show (gi a k == gi b k) = true by simp [he]))
          clear he
          go_wp2_with fail
          exact ⟨⟨k + 1, by omega, by go_num, HS, hb2⟩, by simp [intOf]; omega⟩
        · have q2 : (gi a k != gi b k) = true := by simp [he]
          have HS := Lib.hid (sameI_no (by rw [HLA.out]; exact hlt) HE.out he)
          clear he
          go_wp2_with fail
          go_ret
          exact ⟨ret_bool HS.out.symm, hb2⟩
      · obtain rfl : na = k := by omega
        go_wp2_with fail
        go_ret
        exact ⟨ret_bool (sameI_yes HE.out (by rw [HLA.out]; exact hp.out)).symm, hb⟩
  · have q : ((na : Int) != (nb : Int)) = true := by simp; omega
    have HS := Lib.hid (show sameI a b = false by unfold sameI; rw [decide_eq_false_iff_not]; intro e; rw [e] at hla; omega)
    clear hla hlb hne
    go_enter Tryz.func29, Tryz.ntmps29
    go_wp2_with fail
    go_ret
    exact ⟨ret_bool HS.out.symm, Below.refl _ _⟩
end Go.Proofs.YtmdncaoilegnnaaGreat

namespace Go.Proofs.YtmdncaoilegnnaaGreat
set_option linter.unusedVariables false
set_option linter.unusedSimpArgs false
set_option linter.unusedVariables false
set_option linter.unusedSimpArgs false
open Go.RowKit

def AliveOK : Prop := ∀ w : World, Calls Tryz.prog 23 #[] w fun e w' => e = .returned (.bool true) ∧ Below w.heap.size w w'
theorem ord_eq_small : ∀ n : Nat, n ≤ 5 → ordTo n n = contW n n [] := by
  intro n hn
  have : n = 0 ∨ n = 1 ∨ n = 2 ∨ n = 3 ∨ n = 4 ∨ n = 5 := by omega
  rcases this with rfl | rfl | rfl | rfl | rfl | rfl <;> decide +kernel
theorem ord_eq (z : Int) : ordW z = refOrdW z := by
  unfold ordW refOrdW
  split
  · rfl
  · exact ord_eq_small _ (by omega)
theorem ordW_len (z : Int) : (ordW z).length ≤ 3125 ∧ ∀ t ∈ ordW z, t.length ≤ 5 := by
  unfold ordW
  split
  · simp
  · exact ordTo_len (by omega) (by omega)
end Go.Proofs.YtmdncaoilegnnaaGreat

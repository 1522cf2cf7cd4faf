/- Rows of the call's own: what they hold as a list, and append onto them. Contract of slices.Reverse at spots, on a row of the caller's own. -/
import Derived.Test.YtjnllehnplenaaaGreatG04
import Derived.Maps.AppendAt
import Derived.Deep.AppendLies
import Derived.OwnWalk
namespace Go.Proofs.YtjnllehnplenaaaGreat
set_option linter.unusedVariables false
set_option linter.unusedSimpArgs false
open Go.RowKit

/-- The slice value v owns, from block base on, a row of elements of type e (size cells each) that holds the list l, each element written by enc. -/
def OwG {α : Type} (e : TypeId) (size : Nat) (enc : α → List Value) (w : World) (base : Nat) (v : Value) (l : List α) : Prop := w.ownsRow base e size v l.length (l.flatMap enc)

section
variable {α : Type} {e : TypeId} {size : Nat} {enc : α → List Value} {w w' : World} {base : Nat} {v : Value} {l : List α}

theorem flat_len (henc : ∀ x, (enc x).length = size) (l : List α) : (l.flatMap enc).length = l.length * size := by
  induction l with
  | nil => simp
  | cons a l ih => rw [List.flatMap_cons, List.length_append, ih, henc, List.length_cons, Nat.add_mul]; omega

theorem OwG.nil : OwG e size enc w base (.slice none 0 0) ([] : List α) := World.ownsRow_nil w base e size
theorem OwG.alloc (h : OwG e size enc w base v l) (o : Obj) : OwG e size enc (w.alloc o) base v l := World.ownsRow.alloc h o
theorem OwG.keep (h : OwG e size enc w base v l) (hb : Below w.heap.size w w') : OwG e size enc w' base v l :=
  World.ownsRow.kept (row := none) h ⟨hb.os, hb.tape, hb.output, hb.size, fun k hk _ => hb.block k hk⟩ (by cases h' : v.ownBlock <;> simp)
theorem OwG.far (h : OwG e size enc w base v l) {p : Addr} (hp : v.ownBlock ≠ some p.block) (u : Value) : OwG e size enc (w.setCell p u) base v l := by
  obtain ⟨h1, h2⟩ := h
  refine ⟨h1, ?_⟩
  rcases h2 with h2 | ⟨g, cap, cur, hv, hg, hh, r⟩
  · exact Or.inl h2
  · refine Or.inr ⟨g, cap, cur, hv, hg, ?_, r⟩
    rw [Below.heap_setCell _ _ _ _ (by rintro rfl; exact hp (by rw [hv]; rfl))]; exact hh
theorem OwG.lt (h : OwG e size enc w base v l) : ∀ k, v.ownBlock = some k → base ≤ k ∧ k < w.heap.size := World.ownsRow.lt h
theorem OwG.lower {base' : Nat} (h : OwG e size enc w base v l) (hb : base' ≤ base) : OwG e size enc w base' v l := by
  obtain ⟨h1, h2⟩ := h
  refine ⟨h1, ?_⟩
  rcases h2 with h2 | ⟨g, cap, cur, hv, hg, r⟩
  · exact Or.inl h2
  · exact Or.inr ⟨g, cap, cur, hv, Nat.le_trans hb hg, r⟩
/-- The value's form. -/
theorem OwG.form (h : OwG e size enc w base v l) : (v = .slice none 0 0 ∧ l = []) ∨ ∃ g cap, v = .slice (some ⟨g, 0, none⟩) l.length cap ∧ base ≤ g ∧ g < w.heap.size ∧ l.length ≤ cap ∧ cap ≤ maxLen := by
  rcases h.2 with ⟨h1, h2⟩ | ⟨g, cap, cur, hv, hg, hh, h1, h2, _⟩
  · exact Or.inl ⟨h1, List.eq_nil_of_length_eq_zero h2⟩
  · refine Or.inr ⟨g, cap, hv, hg, ?_, h1, h2⟩
    rcases Nat.lt_or_ge g w.heap.size with hlt | hge
    · exact hlt
    · rw [Array.getElem?_eq_none hge] at hh; cases hh
theorem OwG.form2 (h : OwG e size enc w base v l) : ∃ A cap, v = .slice A l.length cap ∧ l.length ≤ cap ∧ cap ≤ maxLen ∧ (0 < l.length → ∃ g, A = some ⟨g, 0, none⟩ ∧ base ≤ g ∧ g < w.heap.size) := by
  rcases h.form with ⟨rfl, rfl⟩ | ⟨g, cap, rfl, h1, h2, h3, h4⟩
  · exact ⟨none, 0, rfl, Nat.le_refl _, Nat.zero_le _, fun h => absurd h (by simp)⟩
  · exact ⟨_, cap, rfl, h3, h4, fun _ => ⟨g, rfl, h1, h2⟩⟩
theorem OwG.cells {g cap : Nat} (h : OwG e size enc w base (.slice (some ⟨g, 0, none⟩) l.length cap) l) (j : Nat) (hj : j < l.length * size) : w.cell? ⟨g, j, none⟩ = (l.flatMap enc)[j]? := World.ownsRow.cellAt h j hj
end

theorem flat_at {α : Type} {enc : α → List Value} {size : Nat} (henc : ∀ x, (enc x).length = size) : ∀ (l : List α) (k i : Nat) (x : α), l[k]? = some x → i < size → (l.flatMap enc)[k * size + i]? = (enc x)[i]? := by
  intro l
  induction l with
  | nil => intro k i x h; simp at h
  | cons a l ih =>
    intro k i x h hi
    rw [List.flatMap_cons]
    cases k with
    | zero =>
      simp at h; subst h
      rw [Nat.zero_mul, Nat.zero_add, List.getElem?_append_left (by rw [henc]; exact hi)]
    | succ k =>
      rw [List.getElem?_append_right (by rw [henc, Nat.add_mul]; omega), henc, show (k + 1) * size + i - size = k * size + i by rw [Nat.add_mul]; omega]
      exact ih k i x (by simpa using h) hi

/-- append of one element that lies in a block of its own. -/
theorem wpList_app1 {P : Program} {w : World} {ops : Array Oper} {rest : List Oper} {o : Oper} {a : Act} {Q : Exit → Act → World → Prop} (hgd : o.guard = none) (s x : Operand) (t : TypeId)
    (ho : o.op = .call { callee := .builtin .append, args := #[s, x], argTypes := #[t, t] })
    {α : Type} (enc : α → List Value) (base : Nat) (e : TypeId) (z : Value) (size bytes : Nat) (ht : P.underlying t = some (.slice e)) (hinf : (P.info? e).map (fun i => (i.zero, i.size, i.bytes)) = some (some z, size, bytes))
    (hzs : z.cells.size = size) (hsz : 0 < size) (henc : ∀ x, (enc x).length = size) (h1c : ∀ x, ∀ u ∈ enc x, u.oneCell' = true)
    (v : Value) (l : List α) (hs : a.eval s = v) (hown : OwG e size enc w base v l)
    (bx c : Nat) (p : α) (tb : TypeId) (hx : a.eval x = .slice (some ⟨bx, 0, none⟩) 1 c) (hnew : BlkS w bx tb (enc p).toArray)
    (hlen : l.length + 1 ≤ maxLen) (hbytes : (l.length + 1) * bytes ≤ 140737488355328) (hbase : base ≤ w.heap.size)
    (h : ∀ v' w', OwG e size enc w' base v' (l ++ [p]) → w.grownBy w' v.ownBlock → (v'.ownBlock = v.ownBlock ∨ v'.ownBlock = some w.heap.size) → wpList P ops Q rest (a.put o.dst v') w') :
    wpList P ops Q (o :: rest) a w := by
  obtain ⟨i, hi, hz0, hz1, hz2⟩ := info_parts hinf
  refine wpList_append_own_at (P := P) w hgd s x t ho base e i z size bytes ht hi hz0 hz1 hz2 hzs hsz v l.length (l.flatMap enc) hs hown ⟨bx, 0, none⟩ 1 c (enc p) hx (by rw [henc]; omega) ?_ (h1c p) hlen hbytes hbase ?_
  · intro j u hj
    have := World.news_of_block (w := w) (B := bx) (cs := (enc p).toArray) (t := tb) (fr := (0, 0)) hnew j u (by simpa using hj)
    exact this
  · intro v' w' ho' hg _ hat
    refine h v' w' ?_ hg hat
    unfold OwG
    rw [List.length_append, List.flatMap_append]
    simpa using ho'

theorem below_app {w0 w w' : World} {v : Value} {α : Type} {e : TypeId} {size : Nat} {enc : α → List Value} {l : List α} (hb : Below w0.heap.size w0 w) (h : OwG e size enc w w0.heap.size v l) (hg : w.grownBy w' v.ownBlock) : Below w0.heap.size w0 w' :=
  Below.grown hb hg hb.size (fun k hk => (h.lt k hk).1)

/-! ### spots -/
def enS (p : Int × Int) : List Value := [.int .i64 p.1, .int .i64 p.2]
theorem enS_len (p : Int × Int) : (enS p).length = 2 := rfl
theorem enS_one (p : Int × Int) : ∀ u ∈ enS p, u.oneCell' = true := by
  intro u hu; simp [enS] at hu; rcases hu with rfl | rfl <;> rfl
def OwS (w : World) (base : Nat) (v : Value) (l : List (Int × Int)) : Prop := OwG 30 2 enS w base v l
theorem infoS : (Tryz.prog.info? 30).map (fun i => (i.zero, i.size, i.bytes)) = some (some (.agg #[.int .i64 0, .int .i64 0]), 2, 16) := by kernel_rfl

theorem gt_some {l : List (Int × Int)} {k : Nat} (h : k < l.length) : l[k]? = some (gt l k) := by
  unfold gt; rw [List.getD, List.getElem?_eq_getElem h]; rfl

theorem OwS.sps {w : World} {base : Nat} {v : Value} {l : List (Int × Int)} (h : OwS w base v l) : ∃ A cap, v = .slice A l.length cap ∧ l.length ≤ cap ∧ SpS w A l.length l ∧ (0 < l.length → ∃ g, A = some ⟨g, 0, none⟩ ∧ base ≤ g ∧ g < w.heap.size) := by
  rcases OwG.form h with ⟨rfl, rfl⟩ | ⟨g, cap, rfl, h1, h2, h3, h4⟩
  · exact ⟨none, 0, rfl, Nat.le_refl _, ⟨rfl, .inl rfl⟩, fun h => absurd h (by simp)⟩
  · refine ⟨_, cap, rfl, h3, ⟨rfl, .inr ⟨g, 0, rfl, fun k hk => ?_⟩⟩, fun _ => ⟨g, rfl, h1, h2⟩⟩
    have c0 := OwG.cells h (k * 2) (by omega)
    have c1 := OwG.cells h (k * 2 + 1) (by omega)
    have f0 := flat_at enS_len l k 0 _ (gt_some hk) (by omega)
    have f1 := flat_at enS_len l k 1 _ (gt_some hk) (by omega)
    rw [Nat.add_zero] at f0
    rw [f0] at c0
    rw [f1] at c1
    rw [Nat.zero_add]
    exact ⟨c0, c1⟩

theorem wpList_appS {w : World} {ops : Array Oper} {rest : List Oper} {o : Oper} {a : Act} {Q : Exit → Act → World → Prop} (hgd : o.guard = none) (s x : Operand)
    (ho : o.op = .call { callee := .builtin .append, args := #[s, x], argTypes := #[22, 22] })
    (base : Nat) (v : Value) (l : List (Int × Int)) (hs : a.eval s = v) (hown : OwS w base v l)
    (bx c : Nat) (p : Int × Int) (tb : TypeId) (hx : a.eval x = .slice (some ⟨bx, 0, none⟩) 1 c) (hnew : BlkS w bx tb #[.int .i64 p.1, .int .i64 p.2])
    (hlen : l.length ≤ 1000000) (hbase : base ≤ w.heap.size)
    (h : ∀ v' w', OwS w' base v' (l ++ [p]) → w.grownBy w' v.ownBlock → (v'.ownBlock = v.ownBlock ∨ v'.ownBlock = some w.heap.size) → wpList Tryz.prog ops Q rest (a.put o.dst v') w') :
    wpList Tryz.prog ops Q (o :: rest) a w :=
  wpList_app1 hgd s x 22 ho enS base 30 (.agg #[.int .i64 0, .int .i64 0]) 2 16 Tryz.underlying22 infoS rfl (by omega) enS_len enS_one v l hs hown bx c p tb hx hnew (by unfold maxLen; omega) (by omega) hbase h

end Go.Proofs.YtjnllehnplenaaaGreat

namespace Go.Proofs.YtjnllehnplenaaaGreat
set_option linter.unusedVariables false
set_option linter.unusedSimpArgs false
open Go.RowKit

theorem OwG.frozen {α : Type} {e : TypeId} {size : Nat} {enc : α → List Value} {w : World} {base g cap : Nat} {l : List α} (h : OwG e size enc w base (.slice (some ⟨g, 0, none⟩) l.length cap) l) (j : Nat) : w.frozen? ⟨g, j, none⟩ = false := World.ownsRow.frozenAt h j

theorem OwS.cells {w : World} {base g cap n : Nat} {l : List (Int × Int)} (h : OwS w base (.slice (some ⟨g, 0, none⟩) n cap) l) (hn : l.length = n) {k : Nat} (hk : k < n) : w.cell? ⟨g, k * 2, none⟩ = some (.int .i64 (gt l k).1) ∧ w.cell? ⟨g, k * 2 + 1, none⟩ = some (.int .i64 (gt l k).2) ∧ w.frozen? ⟨g, k * 2, none⟩ = false ∧ w.frozen? ⟨g, k * 2 + 1, none⟩ = false := by
  subst hn
  obtain ⟨A, cap', e, _, hs, _⟩ := h.sps
  injection e with e1 e2 e3
  subst e1
  have := hs.cells hk
  rw [Nat.zero_add] at this
  exact ⟨this.1, this.2, OwG.frozen h _, OwG.frozen h _⟩

theorem flat_set {l : List (Int × Int)} {k : Nat} (x y : Int) : ((l.flatMap enS).set (k * 2) (.int .i64 x)).set (k * 2 + 1) (.int .i64 y) = (l.set k (x, y)).flatMap enS := by
  induction l generalizing k with
  | nil => simp
  | cons a l ih =>
    cases k with
    | zero => simp [enS, List.flatMap_cons]
    | succ k =>
      rw [List.set_cons_succ, List.flatMap_cons, List.flatMap_cons, ← ih]
      simp only [enS, List.cons_append, List.nil_append]
      rw [show (k + 1) * 2 = k * 2 + 1 + 1 by omega]
      simp

theorem OwS.store {w : World} {base g cap n : Nat} {l : List (Int × Int)} (h : OwS w base (.slice (some ⟨g, 0, none⟩) n cap) l) (hn : l.length = n) {k : Nat} (hk : k < n) (x y : Int) : OwS ((w.setCell ⟨g, k * 2, none⟩ (.int .i64 x)).setCell ⟨g, k * 2 + 1, none⟩ (.int .i64 y)) base (.slice (some ⟨g, 0, none⟩) n cap) (l.set k (x, y)) := by
  subst hn
  have h1 := (World.ownsRow.stored h (k * 2) (.int .i64 x)).1
  have h2 := (World.ownsRow.stored h1 (k * 2 + 1) (.int .i64 y)).1
  rw [flat_set] at h2
  unfold OwS OwG
  rw [List.length_set]
  exact h2

theorem Gb.set {a w : World} {g : Nat} (h : a.grownBy w (some g)) (i : Nat) (u : Value) : a.grownBy (w.setCell ⟨g, i, none⟩ u) (some g) :=
  ⟨h.os, h.tape, h.output, by simpa [World.setCell] using h.size, fun j hj hne => (Below.heap_setCell w ⟨g, i, none⟩ u j (fun e => hne (by rw [e]))).trans (h.block j hj hne)⟩
theorem Gb.drew {a w : World} {row : Option Nat} (h : a.grownBy w row) : a.grownBy w.drew row := ⟨h.os, h.tape, h.output, h.size, h.block⟩
theorem Gb.drewN {a w : World} {row : Option Nat} (h : a.grownBy w row) (n : Nat) : a.grownBy (w.drewN n) row := ⟨h.os, h.tape, h.output, h.size, h.block⟩
theorem OwS.drew {w : World} {base : Nat} {v : Value} {l : List (Int × Int)} (h : OwS w base v l) : OwS w.drew base v l := h
theorem OwS.drewN {w : World} {base : Nat} {v : Value} {l : List (Int × Int)} (h : OwS w base v l) (n : Nat) : OwS (w.drewN n) base v l := h

/-- The list, its first k elements and its last k elements exchanged. -/
def revTo (l : List (Int × Int)) (k : Nat) : List (Int × Int) := (List.range l.length).map fun p => if p < k ∨ l.length - k ≤ p then gt l (l.length - 1 - p) else gt l p
theorem revTo_len (l : List (Int × Int)) (k : Nat) : (revTo l k).length = l.length := by simp [revTo]
theorem revTo_gt {l : List (Int × Int)} {k p : Nat} (hp : p < l.length) : gt (revTo l k) p = if p < k ∨ l.length - k ≤ p then gt l (l.length - 1 - p) else gt l p := by
  unfold gt revTo; rw [List.getD, List.getElem?_map, List.getElem?_range hp]; rfl
theorem list_ext {l l' : List (Int × Int)} (h : l.length = l'.length) (h2 : ∀ k, k < l.length → gt l k = gt l' k) : l = l' := by
  apply List.ext_getElem?
  intro i
  rcases Nat.lt_or_ge i l.length with hi | hi
  · rw [gt_some hi, gt_some (by omega), h2 i hi]
  · rw [List.getElem?_eq_none hi, List.getElem?_eq_none (by omega)]
theorem gt_set {l : List (Int × Int)} {k j : Nat} {x : Int × Int} (hk : k < l.length) : gt (l.set k x) j = if k = j then x else gt l j := by
  unfold gt; rw [List.getD, List.getElem?_set]
  by_cases h : k = j
  · subst h; simp [hk]
  · simp [h, List.getD]
theorem revTo_zero (l : List (Int × Int)) : revTo l 0 = l := by
  apply list_ext (revTo_len _ _)
  intro k hk
  rw [revTo_len] at hk
  rw [revTo_gt hk, if_neg (by omega)]
theorem revTo_end {l : List (Int × Int)} {k : Nat} (h : l.length ≤ 2 * k + 1) : revTo l k = l.reverse := by
  apply list_ext (by rw [revTo_len, List.length_reverse])
  intro p hp
  rw [revTo_len] at hp
  rw [revTo_gt hp]
  have : gt l.reverse p = gt l (l.length - 1 - p) := by
    unfold gt; rw [List.getD, List.getElem?_reverse hp]; rfl
  rw [this]
  by_cases h2 : p < k ∨ l.length - k ≤ p
  · rw [if_pos h2]
  · rw [if_neg h2]; congr 1; omega
theorem revTo_step {l : List (Int × Int)} {k : Nat} (h : k < l.length - 1 - k) : ((revTo l k).set k (gt (revTo l k) (l.length - 1 - k))).set (l.length - 1 - k) (gt (revTo l k) k) = revTo l (k + 1) := by
  apply list_ext (by simp [revTo_len])
  intro p hp
  simp [revTo_len] at hp
  rw [gt_set (by rw [List.length_set, revTo_len]; omega), gt_set (by rw [revTo_len]; omega), revTo_gt (by omega), revTo_gt (by omega), revTo_gt hp, revTo_gt hp]
  by_cases h1 : l.length - 1 - k = p
  · rw [if_pos h1, if_neg (by omega), if_pos (by omega)]; congr 1; omega
  · rw [if_neg h1]
    by_cases h2 : k = p
    · rw [if_pos h2, if_neg (by omega), if_pos (by omega)]; congr 1; omega
    · rw [if_neg h2]
      by_cases h3 : p < k ∨ l.length - k ≤ p
      · rw [if_pos h3, if_pos (by omega)]
      · rw [if_neg h3, if_neg (by omega)]

set_option maxHeartbeats 1000000 in
theorem reverse_any (v : Value) (base : Nat) (l : List (Int × Int)) (w : World) (hl : l.length ≤ 1000000) (hs : OwS w base v l) :
    Calls Tryz.prog 66 #[v] w fun e w' => e = .returned (.tuple #[]) ∧ OwS w' base v l.reverse ∧ w.grownBy w' v.ownBlock := by
  obtain ⟨n, hn⟩ : ∃ n, l.length = n := ⟨_, rfl⟩
  rcases OwG.form hs with ⟨rfl, rfl⟩ | ⟨g, cap, rfl, h1, h2, h3, h4⟩
  · go_enter Tryz.func66, Tryz.ntmps66
    go_wp2_with fail
    go_loop [2, 3] (fun i j => i = .int .i64 0 ∧ j = .int .i64 (-1)) (fun _ _ => 0)
    case atStart => exact ⟨rfl, rfl⟩
    case round =>
      obtain ⟨rfl, rfl⟩ := hrel
      go_wp2_with fail
      go_end0
      exact ⟨rfl, hs, World.grownBy.refl _ _⟩
  · rw [hn] at hs hl h3 ⊢
    have HN := Lib.hid hn
    clear hn
    go_enter Tryz.func66, Tryz.ntmps66
    go_wp2_with fail
    go_loopw [2, 3] (fun i j wr => ∃ k : Nat, 2 * k ≤ n ∧ i = .int .i64 k ∧ j = .int .i64 ((n : Int) - 1 - k) ∧ OwS wr base (.slice (some ⟨g, 0, none⟩) n cap) (revTo l k) ∧ w.grownBy wr (some g)) (fun i _ _ => n - (intOf i).toNat)
    case atStart => exact ⟨0, by omega, rfl, by simp, by rw [revTo_zero]; exact hs, World.grownBy.refl _ _⟩
    case round =>
      obtain ⟨k, hk, rfl, rfl, ho, hg⟩ := hrel
      by_cases hlt : k < n - 1 - k
      · have hj : n - 1 - k < n := by omega
        obtain ⟨c1, c2, f1, f2⟩ := ho.cells ((revTo_len _ _).trans HN.out) (k := k) (by omega)
        obtain ⟨c3, c4, f3, f4⟩ := ho.cells ((revTo_len _ _).trans HN.out) hj
        have e1 : ((n : Int) - 1 - (k : Int)).toNat = n - 1 - k := by omega
        have b1 : 0 ≤ (n : Int) - 1 - (k : Int) := by omega
        have b2 : (n : Int) - 1 - (k : Int) < (n : Int) := by omega
        go_wp2_with fail
        go_region
        go_wp2_with fail
        have hst := ((ho.store ((revTo_len _ _).trans HN.out) (k := k) (by omega) (gt (revTo l k) (n - 1 - k)).1 (gt (revTo l k) (n - 1 - k)).2).store (by rw [List.length_set, revTo_len]; exact HN.out) hj (gt (revTo l k) k).1 (gt (revTo l k) k).2).drew
        have hre := revTo_step (l := l) (k := k) (by rw [HN.out]; exact hlt)
        rw [HN.out] at hre
        exact ⟨⟨k + 1, by omega, by go_num, by congr 1; omega, by rw [← hre]; exact hst, Gb.drew (Gb.set (Gb.set (Gb.set (Gb.set hg _ _) _ _) _ _) _ _)⟩, by simp [intOf]; omega⟩
      · go_wp2_with fail
        go_end0
        exact ⟨rfl, by rw [← revTo_end (k := k) (by rw [HN.out]; omega)]; exact ho, hg⟩

end Go.Proofs.YtjnllehnplenaaaGreat

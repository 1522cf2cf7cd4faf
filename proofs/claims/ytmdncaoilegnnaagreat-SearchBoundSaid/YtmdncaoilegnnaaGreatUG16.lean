/- A set kept as a map to bools that the call makes: keys of any type with a law. -/
import Derived.Test.YtmdncaoilegnnaaGreatUB
import Derived.Maps.RangeWalk
import Derived.Maps.OwnOps
import Derived.Maps.Views
import Derived.DeepKeys5
namespace Go.Proofs.YtmdncaoilegnnaaGreat
set_option linter.unusedVariables false
set_option linter.unusedSimpArgs false
set_option linter.unusedVariables false
set_option linter.unusedSimpArgs false
open Go.RowKit Go.Maps

section
variable {P : Program} {α : Type}

/-- How the elements of α are keys of type k. -/
structure KeyRep (P : Program) (k : TypeId) (key : α → Value) (ok : α → Prop) (kl : α → Lit) : Prop where
  law : Keyed P k
  of : ∀ x, ok x → keyOf P k (key x) = some (kl x)
  inv : ∀ v l, keyOf P k v = some l → ∃ x, v = key x ∧ ok x
  inj : ∀ x y, key x = key y → x = y
theorem KeyRep.one {k : TypeId} {key : α → Value} {ok : α → Prop} {kl : α → Lit} (K : KeyRep P k key ok kl) {x y : α} (hx : ok x) (hy : ok y) (h : kl x = kl y) : x = y :=
  K.inj x y (K.law.inj (K.of x hx) (by rw [h]; exact K.of y hy))
/-- Block b is a map whose keys, all at true, are the elements of S. -/
def OwSet (P : Program) (k e : TypeId) (ok : α → Prop) (kl : α → Lit) (w : World) (b n : Nat) (S : List α) : Prop :=
  ∃ D : DataW Unit, w.ownsMap P k (plainElem P e) b n D ∧ (∀ x ∈ S, ok x) ∧ (∀ x, ok x → (x ∈ S → ∀ z, D.atKey (kl x) z = .lit (.bool true)) ∧ (¬ x ∈ S → Maps.has D (kl x) = false))
variable {k e t : TypeId} {key : α → Value} {ok : α → Prop} {kl : α → Lit} {w : World} {b n : Nat} {S : List α}

theorem OwSet.made (w : World) : OwSet P k e ok kl (w.alloc (.map #[] 0)) w.heap.size 0 ([] : List α) :=
  ⟨.map [], World.ownsMap_made w P k _, by simp, fun x _ => ⟨by simp, fun _ => rfl⟩⟩
theorem OwSet.kept {w' : World} {row : Option Nat} (h : OwSet P k e ok kl w b n S) (hg : w.grownBy w' row) (hne : some b ≠ row) : OwSet P k e ok kl w' b n S := by
  obtain ⟨D, h1, h2⟩ := h
  exact ⟨D, h1.kept hg hne, h2⟩
theorem OwSet.alloc (h : OwSet P k e ok kl w b n S) (o : Obj) : OwSet P k e ok kl (w.alloc o) b n S := h.kept (World.grownBy_alloc w o none) (by simp)
theorem OwSet.keep {w' : World} (h : OwSet P k e ok kl w b n S) (hb : Below w.heap.size w w') : OwSet P k e ok kl w' b n S :=
  h.kept (row := none) ⟨hb.os, hb.tape, hb.output, hb.size, fun k hk _ => hb.block k hk⟩ (by simp)
theorem OwSet.mono {m : Nat} (h : OwSet P k e ok kl w b n S) (hm : n ≤ m) : OwSet P k e ok kl w b m S := by
  obtain ⟨D, h1, h2⟩ := h
  exact ⟨D, h1.mono hm, h2⟩
theorem OwSet.lt (h : OwSet P k e ok kl w b n S) : b < w.heap.size := by obtain ⟨D, h1, _⟩ := h; exact h1.lt
theorem OwSet.isMap (h : OwSet P k e ok kl w b n S) : ∃ es c, w.heap[b]? = some (.map es c) := by
  obtain ⟨D, ⟨es, c, h1, _⟩, _⟩ := h; exact ⟨es, c, h1⟩
theorem plainElem_bool_inv {e : TypeId} (he : P.underlying e = some .bool) {v : Value} {z : DataW Unit × List MemPlace} (h : plainElem P e v = some z) : ∃ c, v = .bool c ∧ z = (.lit (.bool c), []) := by
  unfold plainElem at h
  rw [he] at h
  cases v <;> simp at h
  exact ⟨_, rfl, h.symm⟩
theorem OwSet.get [DecidableEq α] (K : KeyRep P k key ok kl) (ht : P.underlying t = some (.map k e)) (he : P.underlying e = some .bool) (hz : (zeroValue e).run P w = .ok (.bool false) w) (h : OwSet P k e ok kl w b n S) {x : α} (hx : ok x) :
    (Instr.lookup t (.map (some b)) (key x) false).run P w = .ok (.bool (decide (x ∈ S))) w := by
  obtain ⟨D, h1, h2, h3⟩ := h
  obtain ⟨v, ps, hrun, hR⟩ := h1.lookup K.law ht hz (plainElem_bool he false) (K.of x hx)
  obtain ⟨c, rfl, hc⟩ := plainElem_bool_inv he hR
  injection hc with hc _
  by_cases hxS : x ∈ S
  · rw [(h3 x hx).1 hxS] at hc
    injection hc with hc; injection hc with hc
    rw [hrun, ← hc, decide_eq_true hxS]
  · rw [Maps.atKey_of_not_has ((h3 x hx).2 hxS)] at hc
    injection hc with hc; injection hc with hc
    rw [hrun, ← hc, decide_eq_false hxS]
theorem OwSet.put (K : KeyRep P k key ok kl) (ht : P.underlying t = some (.map k e)) (he : P.underlying e = some .bool) (h : OwSet P k e ok kl w b n S) (hn : n < maxLen) {x : α} (hx : ok x) :
    ∃ w', (Instr.mapUpdate t (.map (some b)) (key x) (.bool true)).run P w = .ok () w' ∧ OwSet P k e ok kl w' b (n + 1) (S ++ [x]) ∧ w.grownBy w' (some b) := by
  obtain ⟨D, h1, h2, h3⟩ := h
  obtain ⟨w', hrun, r1, r2⟩ := h1.update K.law ht hn (K.of x hx) (plainElem_bool he true)
  have hM : IsMap D := by obtain ⟨es, c, _, _, _, rfl⟩ := h1; exact ⟨_, rfl⟩
  refine ⟨w', hrun, ⟨_, r1, fun y hy => ?_, fun y hy => ⟨fun hyS z => ?_, fun hyS => ?_⟩⟩, r2⟩
  · rcases List.mem_append.1 hy with h | h
    · exact h2 y h
    · simp at h; subst h; exact hx
  · by_cases e1 : y = x
    · subst e1; exact Maps.atKey_put_same hM (K.law.key (K.of y hx)) _ _
    · rw [Maps.atKey_put_other (fun h => e1 (K.one hy hx h))]
      rcases List.mem_append.1 hyS with h | h
      · exact (h3 y hy).1 h z
      · simp at h; exact absurd h e1
  · have e1 : y ≠ x := fun h => hyS (by rw [h]; simp)
    rw [Maps.has_put_other (fun h => e1 (K.one hy hx h))]
    exact (h3 y hy).2 (fun h => hyS (List.mem_append_left _ h))
theorem wpList_setPut {ops : Array Oper} {rest : List Oper} {o : Oper} {a : Act} {Q : Exit → Act → World → Prop} (hg : o.guard = none) (m x v : Operand) (t : TypeId) (hop : o.op = Op.mapUpdate t m x v)
    (K : KeyRep P k key ok kl) (ht : P.underlying t = some (.map k e)) (he : P.underlying e = some .bool) (hm : a.eval m = .map (some b)) (h : OwSet P k e ok kl w b n S) (hn : n < maxLen) (p : α) (hp : ok p) (hx : a.eval x = key p) (hv : a.eval v = .bool true)
    (hK : ∀ w', OwSet P k e ok kl w' b (n + 1) (S ++ [p]) → w.grownBy w' (some b) → wpList P ops Q rest (a.put o.dst undef) w') : wpList P ops Q (o :: rest) a w := by
  refine wpList_plain hg fun K' hK' => ?_
  obtain ⟨w', hrun, r1, r2⟩ := h.put K ht he hn hp
  unfold Oper.wp
  simp [execOp, hop, hm, hx, hv, hrun, Result.andThen]
  exact hK' _ _ (hK w' r1 r2)
/-! ### ranging over it -/
/-- The iterator r over the set in block b: the elements of L have come, those of S that are not in L are still to come. -/
def RgSet (P : Program) (k e : TypeId) (ok : α → Prop) (kl : α → Lit) (w : World) (b r n : Nat) (S L : List α) (cnt : Nat) : Prop :=
  ∃ (D : DataW Unit) (left : Lit → Bool), w.ranges P k (plainElem P e) b r n D left cnt ∧ (∀ x ∈ S, ok x) ∧ L.Nodup ∧ (∀ x ∈ L, x ∈ S) ∧ (∀ x, ok x → (left (kl x) = true ↔ x ∈ S ∧ ¬ x ∈ L)) ∧ (∀ x, ok x → Maps.has D (kl x) = true → x ∈ S) ∧ (∀ l, left l = true → Maps.has D l = true)
theorem RgSet.kept {w' : World} {row : Option Nat} {r : Nat} {L : List α} {cnt : Nat} (h : RgSet P k e ok kl w b r n S L cnt) (hg : w.grownBy w' row) (hb' : some b ≠ row) (hr' : some r ≠ row) : RgSet P k e ok kl w' b r n S L cnt := by
  obtain ⟨D, left, h1, h2⟩ := h
  exact ⟨D, left, h1.kept hg hb' hr', h2⟩
theorem RgSet.keep {w' : World} {r : Nat} {L : List α} {cnt : Nat} (h : RgSet P k e ok kl w b r n S L cnt) (hb : Below w.heap.size w w') : RgSet P k e ok kl w' b r n S L cnt :=
  h.kept (row := none) ⟨hb.os, hb.tape, hb.output, hb.size, fun k hk _ => hb.block k hk⟩ (by simp) (by simp)
theorem RgSet.left {r : Nat} {L : List α} {cnt : Nat} (h : RgSet P k e ok kl w b r n S L cnt) : w.rangeLeft b r = cnt := by
  obtain ⟨D, left, h1, _⟩ := h; exact h1.left_eq
theorem wpList_setRange {ops : Array Oper} {rest : List Oper} {o : Oper} {a : Act} {Q : Exit → Act → World → Prop} (hg : o.guard = none) (m : Operand) (t : TypeId) (hop : o.op = Op.range t m)
    (K : KeyRep P k key ok kl) (ht : P.underlying t = some (.map k e)) (hm : a.eval m = .map (some b)) (h : OwSet P k e ok kl w b n S)
    (hK : ∀ w' cnt, RgSet P k e ok kl w' b w.heap.size n S [] cnt → w.grownBy w' none → w'.heap.size = w.heap.size + 1 → wpList P ops Q rest (a.put o.dst (.pointer (some ⟨w.heap.size, 0, none⟩))) w') : wpList P ops Q (o :: rest) a w := by
  obtain ⟨D, h1, h2, h3⟩ := h
  refine wpList_range_own w hg m t hop k e K.law ht (plainElem P e) b n D hm h1 fun w' hr hgr hsz => ?_
  refine hK w' _ ⟨D, _, hr, h2, List.nodup_nil, by simp, fun x hx => ⟨fun hh => ⟨?_, by simp⟩, fun hh => ?_⟩, fun x hx hh => ?_, fun l hl => hl⟩ hgr hsz
  · by_cases hS : x ∈ S
    · exact hS
    · rw [(h3 x hx).2 hS] at hh; cases hh
  · exact Maps.has_true_of_atKey ((h3 x hx).1 hh.1)
  · by_cases hS : x ∈ S
    · exact hS
    · rw [(h3 x hx).2 hS] at hh; cases hh
/-- One more element has come. -/
structure NextIs (P : Program) (k e : TypeId) (key : α → Value) (ok : α → Prop) (kl : α → Lit) (w : World) (b r n : Nat) (S L : List α) (cnt : Nat) where
  x : α
  c : Bool
  w' : World
  cnt' : Nat
  inS : x ∈ S
  new : ¬ x ∈ L
  rg : RgSet P k e ok kl w' b r n S (L ++ [x]) cnt'
  lt : cnt' < cnt
  gr : w.grownBy w' (some r)
  sz : w'.heap.size = w.heap.size
  en : (Instr.entry (.pointer (some ⟨r, 0, none⟩))).run P w' = .ok (.tuple #[key x, .bool c]) w'
theorem wpList_setNext {ops : Array Oper} {rest : List Oper} {o : Oper} {a : Act} {Q : Exit → Act → World → Prop} {r : Nat} {L : List α} {cnt : Nat} (hg : o.guard = none) (it : Operand) (hop : o.op = Op.next it false)
    (K : KeyRep P k key ok kl) (he : P.underlying e = some .bool) (hit : a.eval it = .pointer (some ⟨r, 0, none⟩)) (h : RgSet P k e ok kl w b r n S L cnt)
    (hDone : Hid (∀ x, x ∈ S ↔ x ∈ L) → wpList P ops Q rest (a.put o.dst (.tuple #[.bool false])) w)
    (hMore : ∀ q : NextIs P k e key ok kl w b r n S L cnt, wpList P ops Q rest (a.put o.dst (.tuple #[.bool true, key q.x, .bool q.c])) q.w') : wpList P ops Q (o :: rest) a w := by
  obtain ⟨D, left, h1, h2, h3, h4, h5, h6, h7⟩ := h
  refine wpList_next_ranges w hg it hop k K.law (plainElem P e) key Value.bool (fun v l hv => by obtain ⟨x, hx, _⟩ := K.inv v l hv; exact ⟨x, hx⟩) (fun v y hv => by obtain ⟨c, hc, _⟩ := plainElem_bool_inv he hv; exact ⟨c, hc⟩) b r n D left cnt hit h1 (fun _ hl => hDone (Lib.hid fun x => ⟨fun hx => ?_, h4 x⟩)) ?_
  · have := (h5 x (h2 x hx))
    rw [hl] at this
    by_cases hL : x ∈ L
    · exact hL
    · exact absurd (this.2 ⟨hx, hL⟩) (by simp)
  · intro x c l y w' cnt' hkey hlk hRv hat hrg hlt hgr hsz hen
    obtain ⟨x', ex, hox⟩ := K.inv _ _ hkey
    have := K.inj _ _ ex
    subst this
    have hkl : l = kl x := by
      have := K.of x hox
      rw [hkey] at this
      injection this
    subst hkl
    obtain ⟨hxS, hxL⟩ := (h5 x hox).1 hlk
    refine hMore ⟨x, c, w', cnt', hxS, hxL, ⟨D, _, hrg, h2, ?_, ?_, ?_, h6, ?_⟩, hlt, hgr, hsz, hen⟩
    · rw [List.nodup_append]
      exact ⟨h3, by simp, by simp; intro a ha e; exact hxL (e ▸ ha)⟩
    · intro z hz
      rcases List.mem_append.1 hz with h | h
      · exact h4 z h
      · simp at h; subst h; exact hxS
    · intro z hz
      simp only [Bool.and_eq_true, Bool.not_eq_true']
      rw [h5 z hz]
      constructor
      · rintro ⟨⟨q1, q2⟩, q3⟩
        refine ⟨q1, fun q => ?_⟩
        rcases List.mem_append.1 q with q | q
        · exact q2 q
        · simp at q; subst q
          rw [WideAt.sameKey_self (K.law.key hkey)] at q3; cases q3
      · rintro ⟨q1, q2⟩
        refine ⟨⟨q1, fun q => q2 (List.mem_append_left _ q)⟩, ?_⟩
        refine Maps.sameKey_ne fun q => q2 ?_
        rw [K.one hz hox q]; simp
    · intro l hl
      simp only [Bool.and_eq_true] at hl
      exact h7 l hl.1
end

theorem laidOut : laidOutB Tryz.prog = true := by kernel_rfl
def inR (n : Int) : Prop := -9223372036854775808 ≤ n ∧ n ≤ 9223372036854775807
theorem inR_wf {n : Int} (h : inR n) : (Lit.int .i64 n).wf = true := by
  unfold inR at h
  exact WalkArith.wf_i64 h
theorem wf_inR {n : Int} (h : (Lit.int .i64 n).wf = true) : inR n := by
  unfold inR
  have e1 : IntKind.i64.min = -9223372036854775808 := by decide
  have e2 : IntKind.i64.max = 9223372036854775807 := by decide
  simp only [Lit.wf, Bool.and_eq_true, decide_eq_true_eq, e1, e2] at h
  exact h
def okS (p : Int × Int) : Prop := inR p.1 ∧ inR p.2
def keyS (p : Int × Int) : Value := .agg #[.int .i64 p.1, .int .i64 p.2]
def klS (p : Int × Int) : Lit := .string (keyBytes [.int .i64 p.1, .int .i64 p.2])
theorem typesN : ∃ m, Tryz.prog.types.size + 1 = m + 5 := ⟨Tryz.prog.types.size - 4, by have : 10 ≤ Tryz.prog.types.size := of_decide_eq_true (by kernel_rfl); omega⟩
theorem wideS : (match Tryz.prog.underlying 37 with | some (.array _ _) | some (.struct _) => true | _ => false) = true := by rw [Tryz.underlying37]
theorem rowS : (37 : TypeId) < Tryz.prog.types.size := of_decide_eq_true (by kernel_rfl)
set_option maxRecDepth 100000 in
theorem lawS : Keyed Tryz.prog 37 := Keyed.of_law (deep_law_laid (P := Tryz.prog) (k := 37) laidOut (m := 3) (by omega) rowS (by kernel_rfl) wideS)
theorem cellsI : Tryz.prog.cellsOf 3 = 1 := by kernel_rfl
theorem cellsSp : Tryz.prog.cellsOf 37 = 2 := by kernel_rfl
theorem keyTS : Tryz.prog.keyType 37 = true := by kernel_rfl
theorem keyS_of (p : Int × Int) (h : okS p) : keyOf Tryz.prog 37 (keyS p) = some (klS p) := by
  obtain ⟨m, hm⟩ := typesN
  have h1 := inR_wf h.1
  have h2 := inR_wf h.2
  unfold keyOf keyS klS
  rw [hm]
  simp [Tryz.underlying37, keyTS, Value.formed, cellsSp, Program.keyLits, Tryz.underlying3, cellsI, Value.cells, h1, h2]
section
variable {P : Program} {t : TypeId} {d : Nat} {cs : List Value} {L : List Lit}
theorem klInt (hu : P.underlying t = some (.int .i64)) {a : Value} (h : P.keyLits (d + 1) t [a] = some L) : ∃ n, a = .int .i64 n ∧ inR n := by
  unfold Program.keyLits at h
  rw [hu] at h
  cases a <;> simp at h
  obtain ⟨⟨rfl, h1⟩, _⟩ := h
  exact ⟨_, rfl, wf_inR h1⟩
theorem klBool (hu : P.underlying t = some .bool) {a : Value} (h : P.keyLits (d + 1) t [a] = some L) : ∃ n, a = .bool n := by
  unfold Program.keyLits at h
  rw [hu] at h
  cases a <;> simp at h
  exact ⟨_, rfl⟩
theorem kl_two {f1 f2 : Field} (hu : P.underlying t = some (.struct #[f1, f2])) (h : P.keyLits (d + 1) t cs = some L) :
    cs.length = P.cellsOf t ∧ (∃ L1, P.keyLits d f1.type ((cs.drop f1.offset).take (P.cellsOf f1.type)) = some L1) ∧ ∃ L2, P.keyLits d f2.type ((cs.drop f2.offset).take (P.cellsOf f2.type)) = some L2 := by
  unfold Program.keyLits at h
  rw [hu] at h
  simp only at h
  split at h
  · rename_i hc
    refine ⟨hc.1, ?_⟩
    cases h1 : P.keyLits d f1.type ((cs.drop f1.offset).take (P.cellsOf f1.type)) with
    | none => simp [h1] at h
    | some L1 =>
      cases h2 : P.keyLits d f2.type ((cs.drop f2.offset).take (P.cellsOf f2.type)) with
      | none => simp [h1, h2] at h
      | some L2 => exact ⟨⟨L1, rfl⟩, ⟨L2, rfl⟩⟩
  · cases h
theorem kl_three {f1 f2 f3 : Field} (hu : P.underlying t = some (.struct #[f1, f2, f3])) (h : P.keyLits (d + 1) t cs = some L) :
    cs.length = P.cellsOf t ∧ (∃ L1, P.keyLits d f1.type ((cs.drop f1.offset).take (P.cellsOf f1.type)) = some L1) ∧ (∃ L2, P.keyLits d f2.type ((cs.drop f2.offset).take (P.cellsOf f2.type)) = some L2) ∧ ∃ L3, P.keyLits d f3.type ((cs.drop f3.offset).take (P.cellsOf f3.type)) = some L3 := by
  unfold Program.keyLits at h
  rw [hu] at h
  simp only at h
  split at h
  · rename_i hc
    refine ⟨hc.1, ?_⟩
    cases h1 : P.keyLits d f1.type ((cs.drop f1.offset).take (P.cellsOf f1.type)) with
    | none => simp [h1] at h
    | some L1 =>
      cases h2 : P.keyLits d f2.type ((cs.drop f2.offset).take (P.cellsOf f2.type)) with
      | none => simp [h1, h2] at h
      | some L2 =>
        cases h3 : P.keyLits d f3.type ((cs.drop f3.offset).take (P.cellsOf f3.type)) with
        | none => simp [h1, h2, h3] at h
        | some L3 => exact ⟨⟨L1, rfl⟩, ⟨L2, rfl⟩, ⟨L3, rfl⟩⟩
  · cases h
end

theorem len2 {xs : List Value} (h : xs.length = 2) : ∃ a b, xs = [a, b] := by
  match xs, h with
  | [a, b], _ => exact ⟨a, b, rfl⟩
theorem len6 {xs : List Value} (h : xs.length = 6) : ∃ a b c d e f, xs = [a, b, c, d, e, f] := by
  match xs, h with
  | [a, b, c, d, e, f], _ => exact ⟨a, b, c, d, e, f, rfl⟩
set_option maxRecDepth 100000 in
theorem klSpot {d : Nat} {xs : List Value} {L : List Lit} (h : Tryz.prog.keyLits (d + 2) 37 xs = some L) : ∃ x y, xs = [.int .i64 x, .int .i64 y] ∧ inR x ∧ inR y := by
  obtain ⟨h1, ⟨L1, h2⟩, ⟨L2, h3⟩⟩ := kl_two Tryz.underlying37 h
  rw [cellsSp] at h1
  rw [cellsI] at h2 h3
  obtain ⟨a, b, rfl⟩ := len2 h1
  simp only [List.drop_zero, List.drop_succ_cons, List.take_succ_cons, List.take_zero] at h2 h3
  obtain ⟨x, rfl, hx⟩ := klInt (P := Tryz.prog) Tryz.underlying3 h2
  obtain ⟨y, rfl, hy⟩ := klInt (P := Tryz.prog) Tryz.underlying3 h3
  exact ⟨x, y, rfl, hx, hy⟩
set_option maxRecDepth 100000 in
theorem keyS_inv (v : Value) (l : Lit) (h : keyOf Tryz.prog 37 v = some l) : ∃ p, v = keyS p ∧ okS p := by
  obtain ⟨m, hm⟩ := typesN
  obtain ⟨xs, L, rfl, h1, rfl⟩ := keyOf_top (P := Tryz.prog) (k := 37) wideS h
  rw [hm] at h1
  obtain ⟨x, y, hxs, h2, h3⟩ := klSpot h1
  refine ⟨(x, y), ?_, h2, h3⟩
  unfold keyS
  rw [show xs = #[.int .i64 x, .int .i64 y] by apply Array.ext'; simpa using hxs]
theorem repS : KeyRep Tryz.prog 37 keyS okS klS where
  law := lawS
  of := keyS_of
  inv := keyS_inv
  inj x y h := by
    unfold keyS at h
    injection h with h
    injection h with h
    simp at h
    exact Prod.ext h.1 h.2
end Go.Proofs.YtmdncaoilegnnaaGreat

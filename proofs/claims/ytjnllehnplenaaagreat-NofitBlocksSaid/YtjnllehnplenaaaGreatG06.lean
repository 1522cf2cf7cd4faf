/- append of a slice of spots; slices.Grow from nil, slices.Concat of two, slices.Clone. -/
import Derived.Test.YtjnllehnplenaaaGreatG05
import Derived.Laws.AppendOwnNone
import Derived.Lib.AppendZerosOnto
namespace Go.Proofs.YtjnllehnplenaaaGreat
set_option linter.unusedVariables false
set_option linter.unusedSimpArgs false
open Go.RowKit

theorem news_of_sps {w : World} {ad : Addr} {m : Nat} {l : List (Int × Int)} (h : SpS w (some ad) m l) : ∀ j u, (l.flatMap enS)[j]? = some u → w.cell? (ad.add j) = some u := by
  intro j u hj
  have hlen := flat_len enS_len l
  have hjl : j < (l.flatMap enS).length := by
    rcases Nat.lt_or_ge j (l.flatMap enS).length with h1 | h1
    · exact h1
    · rw [List.getElem?_eq_none h1] at hj; cases hj
  rw [hlen, h.1] at hjl
  have hk : j / 2 < m := by omega
  obtain ⟨b, off, e, -, hc⟩ := h.at_ hk
  injection e with e
  subst e
  have hf0 := flat_at enS_len l (j / 2) (j % 2) _ (gt_some (by rw [h.1]; exact hk)) (by omega)
  rw [show j / 2 * 2 + j % 2 = j by omega, hj] at hf0
  have hcc := hc (j / 2) hk
  have ea : (⟨b, off, none⟩ : Addr).add j = ⟨b, off + j, none⟩ := by
    unfold Addr.add; by_cases h0 : j = 0
    · subst h0; simp
    · simp [h0]
  rw [ea]
  rcases Nat.mod_two_eq_zero_or_one j with h0 | h0
  · rw [h0] at hf0
    have e2 : off + j = off + j / 2 * 2 := by omega
    rw [e2, hcc.1, hf0]; rfl
  · rw [h0] at hf0
    have e2 : off + j = off + j / 2 * 2 + 1 := by omega
    rw [e2, hcc.2, hf0]; rfl

theorem wpList_appSS {w : World} {ops : Array Oper} {rest : List Oper} {o : Oper} {a : Act} {Q : Exit → Act → World → Prop} (hgd : o.guard = none) (s x : Operand)
    (ho : o.op = .call { callee := .builtin .append, args := #[s, x], argTypes := #[22, 22] })
    (base : Nat) (v : Value) (l : List (Int × Int)) (hs : a.eval s = v) (hown : OwS w base v l)
    (A : Option Addr) (m c : Nat) (l2 : List (Int × Int)) (hx : a.eval x = .slice A m c) (hr : SpS w A m l2) (hnil : A = none → c = 0)
    (hlen : l.length + m ≤ 1000000) (hbase : base ≤ w.heap.size)
    (h : ∀ v' w', OwS w' base v' (l ++ l2) → w.grownBy w' v.ownBlock → (v'.ownBlock = v.ownBlock ∨ v'.ownBlock = some w.heap.size) → wpList Tryz.prog ops Q rest (a.put o.dst v') w') :
    wpList Tryz.prog ops Q (o :: rest) a w := by
  obtain ⟨i, hi, hz0, hz1, hz2⟩ := info_parts infoS
  cases A with
  | none =>
    have h0 := hnil rfl
    subst h0
    have hm : m = 0 := by
      rcases Nat.eq_zero_or_pos m with h1 | h1
      · exact h1
      · obtain ⟨_, _, e, _⟩ := hr.at_ h1; cases e
    subst hm
    have hl2 : l2 = [] := List.eq_nil_of_length_eq_zero hr.1
    subst hl2
    refine wpList_append_own_none hgd s x 22 ho base 30 i 2 Tryz.underlying22 hi v l.length (l.flatMap enS) hs hown hx ?_
    exact h v w (by rw [List.append_nil]; exact hown) (World.grownBy.refl _ _) (Or.inl rfl)
  | some ad =>
    refine wpList_append_own_at (P := Tryz.prog) w hgd s x 22 ho base 30 i (.agg #[.int .i64 0, .int .i64 0]) 2 16 Tryz.underlying22 hi hz0 hz1 hz2 rfl (by omega) v l.length (l.flatMap enS) hs hown ad m c (l2.flatMap enS) hx (by rw [flat_len enS_len, hr.1]) (news_of_sps hr) ?_ (by unfold maxLen; omega) (by omega) hbase ?_
    · intro u hu
      obtain ⟨p, _, hp⟩ := List.mem_flatMap.1 hu
      exact enS_one p u hp
    · intro v' w' ho' hg _ hat
      refine h v' w' ?_ hg hat
      unfold OwS OwG
      rw [List.length_append, List.flatMap_append, hr.1]
      exact ho'

/-- The call returns a slice of its own that holds the list; nothing older has turned. -/
def RetS (w : World) (l : List (Int × Int)) (e : Ending) (w' : World) : Prop := ∃ v, e = .returned v ∧ OwS w' w.heap.size v l ∧ Below w.heap.size w w'

theorem ownsMade {w : World} {base : Nat} {cur : Array Value} {cap : Nat} (hb : base ≤ w.heap.size) (hm : cap ≤ maxLen) (hs : cur.size = cap * 2) : OwS (w.alloc (.cells cur 30)) base (.slice (some ⟨w.heap.size, 0, none⟩) 0 cap) [] :=
  World.ownsRow_made w cur cap hb hm hs

/-- An append whose run is known. -/
theorem wpList_append_run {P : Program} {w w' : World} {ops : Array Oper} {rest : List Oper} {o : Oper} {a : Act} {Q : Exit → Act → World → Prop} (hgd : o.guard = none) (s x : Operand) (t t2 : TypeId) {v vs vx : Value}
    (ho : o.op = .call { callee := .builtin .append, args := #[s, x], argTypes := #[t, t2] }) (hs : a.eval s = vs) (hx : a.eval x = vx)
    (hr : ∀ ty, (Builtin.append_ #[t, t2] ty #[vs, vx]).run P w = .ok v w') (h : wpList P ops Q rest (a.put o.dst v) w') : wpList P ops Q (o :: rest) a w := by
  refine wpList_plain hgd fun K hK => ?_
  unfold Oper.wp execOp
  simp only [ho, resolve, invoke, builtin, Sem.run_bind, Sem.run_pure, Result.andThen_ok, List.map_toArray, List.map_cons, List.map_nil, hs, hx, hr]
  exact hK _ _ h

set_option maxHeartbeats 1000000 in
theorem grow_any (z : Int) (w : World) (hz : 0 ≤ z) (hz2 : z ≤ 1000000) :
    Calls Tryz.prog 104 #[.slice none 0 0, .int .i64 z] w (RetS w []) := by
  obtain ⟨n, rfl⟩ : ∃ n : Nat, z = n := ⟨z.toNat, by omega⟩
  have hn : n ≤ 1000000 := by omega
  by_cases h0 : 0 < n
  · obtain ⟨i, hi, hz0, hz1, hz2⟩ := info_parts infoS
    have hold : (Builtin.firstCells i.size 0 (.slice none 0 0)).run Tryz.prog w.drew = .ok #[] w.drew := run_firstCells_none w.drew i.size 0 0 0
    have hrz := fun ty => Lib.run_append_grow_zeros (P := Tryz.prog) w 22 3 ty 30 i (.agg #[.int .i64 0, .int .i64 0]) .i64 .i64 Tryz.underlying22 Tryz.underlying3 hi hz0 none 0 0 [] hold n (by omega) (by omega) (by omega) (by omega) (by rw [hz2]; omega) (by rw [hz2]; exact growslice_fits (by omega) (by omega))
    obtain ⟨G, cur, hcur, hGn, hGm, hrz⟩ : ∃ (G : Nat) (cur : Array Value), cur.size = G * 2 ∧ n ≤ G ∧ G ≤ 9223372036854775807 ∧ ∀ ty, (Builtin.append_ #[22, 3] ty #[.slice none 0 0, .int .i64 n]).run Tryz.prog w = .ok (.slice (some ⟨w.heap.size, 0, none⟩) n G) (w.alloc (.cells cur 30)).drew := by
      refine ⟨grownCap w (0 + n) 0 30, #[] ++ Builtin.zeroCells (Value.agg #[Value.int IntKind.i64 0, Value.int IntKind.i64 0]).cells n ++ Builtin.zeroCells (Value.agg #[Value.int IntKind.i64 0, Value.int IntKind.i64 0]).cells (grownCap w (0 + n) 0 30 - (0 + n)), ?_, ?_, ?_, fun ty => ?_⟩
      · have h := grownCap_ge w (0 + n) 0 30
        rw [Array.size_append, Array.size_append, size_zeroCells, size_zeroCells]
        simp only [Value.cells]
        simp at h ⊢
        omega
      · have h := grownCap_ge w (0 + n) 0 30
        omega
      · have h := grownCap_le_maxLen w (0 + n) 0 30 (by unfold maxLen; omega)
        unfold maxLen at h
        exact h
      · have h := hrz ty
        rw [Nat.zero_add] at h ⊢
        exact h
    clear hold hi hz0 hz1
    have HR := Lib.hid hrz
    clear hrz
    go_enter Tryz.func104, Tryz.ntmps104
    go_wp2_with (at_builtin; refine wpList_append_run rfl _ _ _ _ rfl rfl rfl HR.out ?_)
    go_ret
    exact ⟨_, rfl, OwS.drew (ownsMade (Nat.le_refl _) (by unfold maxLen; exact hGm) hcur), Bl.drew (Bl.alloc (Below.refl _ _) _)⟩
  · obtain rfl : n = 0 := by omega
    go_enter Tryz.func104, Tryz.ntmps104
    go_wp2_with fail
    go_ret
    exact ⟨_, rfl, OwG.nil, Below.refl _ _⟩

set_option maxHeartbeats 1000000 in
theorem concat_any (bx : Nat) (A1 A2 : Option Addr) (n1 n2 c1 c2 cap : Nat) (l1 l2 : List (Int × Int)) (w : World) (h1 : n1 ≤ 100000) (h2 : n2 ≤ 100000) (hs1 : SpS w A1 n1 l1) (hs2 : SpS w A2 n2 l2) (hz1 : A1 = none → c1 = 0) (hz2 : A2 = none → c2 = 0)
    (g1 : w.cell? ⟨bx, 0, none⟩ = some (.slice A1 n1 c1)) (g2 : w.cell? ⟨bx, 1, none⟩ = some (.slice A2 n2 c2)) :
    Calls Tryz.prog 67 #[.slice (some ⟨bx, 0, none⟩) 2 cap] w (RetS w (l1 ++ l2)) := by
  go_enter Tryz.func67, Tryz.ntmps67
  go_wp2_with fail
  go_loop [3, 11] (fun s i => ∃ k : Nat, k ≤ 2 ∧ i = .int .i64 k ∧ s = .int .i64 (if k = 0 then 0 else if k = 1 then (n1 : Int) else (n1 : Int) + n2)) (fun _ i => 2 - (intOf i).toNat)
  case atStart => exact ⟨0, by omega, rfl, rfl⟩
  case round =>
    obtain ⟨k, hk, rfl, rfl⟩ := hrel
    rcases (show k = 0 ∨ k = 1 ∨ k = 2 by omega) with rfl | rfl | rfl
    · go_wp2_with fail
      exact ⟨⟨1, by omega, by simp, by simp⟩, by simp [intOf]⟩
    · go_wp2_with fail
      exact ⟨⟨2, by omega, by simp, by simp⟩, by simp [intOf]⟩
    · go_wp2_with (go_at_call 104; refine (grow_any _ _ (by omega) (by omega)).mono ?_; rintro e w1 ⟨v1, rfl, ho1, hb1⟩)
      go_loopw [6, 27] (fun s i wr => ∃ k : Nat, k ≤ 2 ∧ i = .int .i64 k ∧ OwS wr w.heap.size s (if k = 0 then [] else if k = 1 then l1 else l1 ++ l2) ∧ Below w.heap.size w wr) (fun _ i _ => 2 - (intOf i).toNat)
      case atStart => exact ⟨0, by omega, rfl, ho1, hb1⟩
      case round =>
        clear ho1 hb1
        obtain ⟨k, hk, rfl, ho, hb⟩ := hrel
        have g1' := cell_keep hb g1
        have g2' := cell_keep hb g2
        rcases (show k = 0 ∨ k = 1 ∨ k = 2 by omega) with rfl | rfl | rfl
        · go_wp2_with (at_builtin; refine wpList_appSS rfl _ _ rfl w.heap.size _ [] rfl ho A1 n1 c1 l1 rfl (hs1.keep hb) hz1 (by simp; omega) hb.size ?_; intro v' w' ho' hg' hat')
          exact ⟨⟨1, by omega, by simp, by simpa using ho', below_app hb ho hg'⟩, by simp [intOf]⟩
        · go_wp2_with (at_builtin; refine wpList_appSS rfl _ _ rfl w.heap.size _ l1 rfl ho A2 n2 c2 l2 rfl (hs2.keep hb) hz2 (by rw [hs1.1]; omega) hb.size ?_; intro v' w' ho' hg' hat')
          exact ⟨⟨2, by omega, by simp, by simpa using ho', below_app hb ho hg'⟩, by simp [intOf]⟩
        · go_wp2_with fail
          go_ret
          exact ⟨_, rfl, ho, hb⟩

end Go.Proofs.YtjnllehnplenaaaGreat

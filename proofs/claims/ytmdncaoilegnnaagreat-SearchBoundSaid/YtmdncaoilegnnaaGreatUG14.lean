/- DERIVED: THE SHELF's CONTRACTS AT THIS DUMP, IN PLAIN WORDS (tools/lay-plain.mjs out of 'YtmdncaoilegnnaaGreatShelf.lean', which tools/lay-shelf.mjs wrote): THE SAME DECLARATIONS UNDER THE SAME NAMES: 'import', 'namespace', 'open', 'def', 'theorem' AND NOTHING ELSE: no command of the shelf's: FOR A HAND-IN. Each laying: the table of numbers ('.._ren') and one theorem, a field a fact of the dump's own or the kernel's comparison; each contract: ONE APPLICATION. slices.SortFunc at spots, on a row of the caller's own. clear on the tail of a row of one's own; slices.Compact at spots. convex.hull, Hull, Sum. convex.Sum. -/
import Derived.Test.YtmdncaoilegnnaaGreatProg
import Derived.Test.YtmdncaoilegnnaaGreatUG11
import Derived.Shelf.SlGeneric
import Derived.Shelf.SlSortCmp.WholeK
import Derived.Shelf.SlSortCmp.Whole1
import Derived.Shelf.SlSortCmp.NoneTotal
import Derived.Ground.SlsfProg
namespace Go.Proofs
open Go.Shelf
def Tryz.laysS_ren : Go.Shelf.Ren := ⟨fun | 6 => 62 | 15 => 97 | 14 => 96 | 28 => 133 | 29 => 134 | 20 => 125 | 21 => 126 | 22 => 127 | 23 => 128 | 24 => 129 | 25 => 130 | 26 => 131 | 27 => 132 | 46 => 170 | 47 => 171 | 48 => 172 | 49 => 173 | 50 => 174 | 57 => 199 | n => n, fun | 22 => 47 | 24 => 37 | 25 => 107 | 3 => 3 | 39 => 131 | 0 => 0 | 53 => 157 | 55 => 159 | 4 => 4 | 46 => 150 | 45 => 149 | 50 => 154 | 5 => 5 | 9 => 9 | 66 => 173 | 70 => 177 | 76 => 188 | 77 => 189 | n => n, fun | n => n⟩
theorem Tryz.laysS : Go.Proofs.SlLaysF0.n6 Tryz.prog Tryz.laysS_ren := {
  mixed := by kernel_rfl
  f6 := ⟨Tryz.f62.name, by decide, Tryz.func62.trans (congrArg some (by kernel_rfl))⟩
  f14 := ⟨Tryz.f96.name, by decide, Tryz.func96.trans (congrArg some (by kernel_rfl))⟩
  f15 := Tryz.func97.trans (congrArg some (by kernel_rfl))
  f20 := ⟨Tryz.f125.name, by decide, Tryz.func125.trans (congrArg some (by kernel_rfl))⟩
  f21 := ⟨Tryz.f126.name, by decide, Tryz.func126.trans (congrArg some (by kernel_rfl))⟩
  f22 := ⟨Tryz.f127.name, by decide, Tryz.func127.trans (congrArg some (by kernel_rfl))⟩
  f23 := ⟨Tryz.f128.name, by decide, Tryz.func128.trans (congrArg some (by kernel_rfl))⟩
  f24 := ⟨Tryz.f129.name, by decide, Tryz.func129.trans (congrArg some (by kernel_rfl))⟩
  f25 := ⟨Tryz.f130.name, by decide, Tryz.func130.trans (congrArg some (by kernel_rfl))⟩
  f26 := ⟨Tryz.f131.name, by decide, Tryz.func131.trans (congrArg some (by kernel_rfl))⟩
  f27 := ⟨Tryz.f132.name, by decide, Tryz.func132.trans (congrArg some (by kernel_rfl))⟩
  f28 := Tryz.func133.trans (congrArg some (by kernel_rfl))
  f29 := Tryz.func134.trans (congrArg some (by kernel_rfl))
  f46 := ⟨Tryz.f170.name, by decide, Tryz.func170.trans (congrArg some (by kernel_rfl))⟩
  f47 := Tryz.func171.trans (congrArg some (by kernel_rfl))
  f48 := Tryz.func172.trans (congrArg some (by kernel_rfl))
  f49 := ⟨Tryz.f173.name, by decide, Tryz.func173.trans (congrArg some (by kernel_rfl))⟩
  f50 := ⟨Tryz.f174.name, by decide, Tryz.func174.trans (congrArg some (by kernel_rfl))⟩
  f57 := ⟨Tryz.f199.name, by decide, Tryz.func199.trans (congrArg some (by kernel_rfl))⟩
  t0 := Tryz.underlying0
  a0 := Tryz.isAgg0
  z0 := Tryz.sizeOf0
  v0 := Tryz.zeroValue0
  t3 := Tryz.underlying3
  a3 := Tryz.isAgg3
  z3 := Tryz.sizeOf3
  v3 := Tryz.zeroValue3
  t4 := Tryz.underlying4
  a4 := Tryz.isAgg4
  z4 := Tryz.sizeOf4
  v4 := Tryz.zeroValue4
  t5 := Tryz.underlying5
  a5 := Tryz.isAgg5
  z5 := Tryz.sizeOf5
  v5 := Tryz.zeroValue5
  t9 := Tryz.underlying9
  a9 := Tryz.isAgg9
  z9 := Tryz.sizeOf9
  v9 := Tryz.zeroValue9
  t22 := Tryz.underlying47
  a22 := Tryz.isAgg47
  z22 := Tryz.sizeOf47
  v22 := Tryz.zeroValue47
  t25 := Tryz.underlying107
  a25 := Tryz.isAgg107
  z25 := Tryz.sizeOf107
  v25 := Tryz.zeroValue107
  t39 := Tryz.underlying131
  a39 := Tryz.isAgg131
  z39 := Tryz.sizeOf131
  v39 := Tryz.zeroValue131
  t45 := Tryz.underlying149
  a45 := Tryz.isAgg149
  z45 := Tryz.sizeOf149
  v45 := Tryz.zeroValue149
  t46 := Tryz.underlying150
  a46 := Tryz.isAgg150
  z46 := Tryz.sizeOf150
  v46 := Tryz.zeroValue150
  t50 := Tryz.underlying154
  a50 := Tryz.isAgg154
  z50 := Tryz.sizeOf154
  v50 := Tryz.zeroValue154
  t53 := Tryz.underlying157
  a53 := Tryz.isAgg157
  z53 := Tryz.sizeOf157
  v53 := Tryz.zeroValue157
  t55 := Tryz.underlying159
  a55 := Tryz.isAgg159
  z55 := Tryz.sizeOf159
  v55 := Tryz.zeroValue159
  t66 := Tryz.underlying173
  a66 := Tryz.isAgg173
  z66 := Tryz.sizeOf173
  v66 := Tryz.zeroValue173
  t70 := Tryz.underlying177
  a70 := Tryz.isAgg177
  z70 := Tryz.sizeOf177
  v70 := Tryz.zeroValue177
  t76 := Tryz.underlying188
  a76 := Tryz.isAgg188
  z76 := Tryz.sizeOf188
  v76 := Tryz.zeroValue188
  t77 := Tryz.underlying189
  a77 := Tryz.isAgg189
  z77 := Tryz.sizeOf189
  v77 := Tryz.zeroValue189 }
def Tryz.laysSS_ren : Go.Shelf.Ren := ⟨fun | 6 => 161 | 15 => 97 | 14 => 198 | 28 => 133 | 29 => 134 | 20 => 211 | 21 => 212 | 22 => 213 | 23 => 214 | 24 => 215 | 25 => 216 | 26 => 217 | 27 => 218 | 46 => 223 | 47 => 171 | 48 => 172 | 49 => 224 | 50 => 225 | 57 => 226 | n => n, fun | 22 => 64 | 24 => 47 | 25 => 165 | 3 => 3 | 39 => 131 | 0 => 0 | 53 => 157 | 55 => 159 | 4 => 4 | 46 => 150 | 45 => 149 | 50 => 154 | 5 => 5 | 9 => 9 | 66 => 173 | 70 => 177 | 76 => 188 | 77 => 189 | n => n, fun | n => n⟩
theorem Tryz.laysSS : Go.Proofs.SlLaysF.n6 Tryz.prog Tryz.laysSS_ren := {
  mixed := by kernel_rfl
  f6 := ⟨Tryz.f161.name, by decide, Tryz.func161.trans (congrArg some (by kernel_rfl))⟩
  f14 := ⟨Tryz.f198.name, by decide, Tryz.func198.trans (congrArg some (by kernel_rfl))⟩
  f15 := Tryz.func97.trans (congrArg some (by kernel_rfl))
  f20 := ⟨Tryz.f211.name, by decide, Tryz.func211.trans (congrArg some (by kernel_rfl))⟩
  f21 := ⟨Tryz.f212.name, by decide, Tryz.func212.trans (congrArg some (by kernel_rfl))⟩
  f22 := ⟨Tryz.f213.name, by decide, Tryz.func213.trans (congrArg some (by kernel_rfl))⟩
  f23 := ⟨Tryz.f214.name, by decide, Tryz.func214.trans (congrArg some (by kernel_rfl))⟩
  f24 := ⟨Tryz.f215.name, by decide, Tryz.func215.trans (congrArg some (by kernel_rfl))⟩
  f25 := ⟨Tryz.f216.name, by decide, Tryz.func216.trans (congrArg some (by kernel_rfl))⟩
  f26 := ⟨Tryz.f217.name, by decide, Tryz.func217.trans (congrArg some (by kernel_rfl))⟩
  f27 := ⟨Tryz.f218.name, by decide, Tryz.func218.trans (congrArg some (by kernel_rfl))⟩
  f28 := Tryz.func133.trans (congrArg some (by kernel_rfl))
  f29 := Tryz.func134.trans (congrArg some (by kernel_rfl))
  f46 := ⟨Tryz.f223.name, by decide, Tryz.func223.trans (congrArg some (by kernel_rfl))⟩
  f47 := Tryz.func171.trans (congrArg some (by kernel_rfl))
  f48 := Tryz.func172.trans (congrArg some (by kernel_rfl))
  f49 := ⟨Tryz.f224.name, by decide, Tryz.func224.trans (congrArg some (by kernel_rfl))⟩
  f50 := ⟨Tryz.f225.name, by decide, Tryz.func225.trans (congrArg some (by kernel_rfl))⟩
  f57 := ⟨Tryz.f226.name, by decide, Tryz.func226.trans (congrArg some (by kernel_rfl))⟩
  t0 := Tryz.underlying0
  a0 := Tryz.isAgg0
  z0 := Tryz.sizeOf0
  v0 := Tryz.zeroValue0
  t3 := Tryz.underlying3
  a3 := Tryz.isAgg3
  z3 := Tryz.sizeOf3
  v3 := Tryz.zeroValue3
  t4 := Tryz.underlying4
  a4 := Tryz.isAgg4
  z4 := Tryz.sizeOf4
  v4 := Tryz.zeroValue4
  t5 := Tryz.underlying5
  a5 := Tryz.isAgg5
  z5 := Tryz.sizeOf5
  v5 := Tryz.zeroValue5
  t9 := Tryz.underlying9
  a9 := Tryz.isAgg9
  z9 := Tryz.sizeOf9
  v9 := Tryz.zeroValue9
  t22 := Tryz.underlying64
  a22 := Tryz.isAgg64
  z22 := Tryz.sizeOf64
  v22 := Tryz.zeroValue64
  a24 := Tryz.isAgg47
  z24 := Tryz.sizeOf47
  t25 := Tryz.underlying165
  a25 := Tryz.isAgg165
  z25 := Tryz.sizeOf165
  v25 := Tryz.zeroValue165
  t39 := Tryz.underlying131
  a39 := Tryz.isAgg131
  z39 := Tryz.sizeOf131
  v39 := Tryz.zeroValue131
  t45 := Tryz.underlying149
  a45 := Tryz.isAgg149
  z45 := Tryz.sizeOf149
  v45 := Tryz.zeroValue149
  t46 := Tryz.underlying150
  a46 := Tryz.isAgg150
  z46 := Tryz.sizeOf150
  v46 := Tryz.zeroValue150
  t50 := Tryz.underlying154
  a50 := Tryz.isAgg154
  z50 := Tryz.sizeOf154
  v50 := Tryz.zeroValue154
  t53 := Tryz.underlying157
  a53 := Tryz.isAgg157
  z53 := Tryz.sizeOf157
  v53 := Tryz.zeroValue157
  t55 := Tryz.underlying159
  a55 := Tryz.isAgg159
  z55 := Tryz.sizeOf159
  v55 := Tryz.zeroValue159
  t66 := Tryz.underlying173
  a66 := Tryz.isAgg173
  z66 := Tryz.sizeOf173
  v66 := Tryz.zeroValue173
  t70 := Tryz.underlying177
  a70 := Tryz.isAgg177
  z70 := Tryz.sizeOf177
  v70 := Tryz.zeroValue177
  t76 := Tryz.underlying188
  a76 := Tryz.isAgg188
  z76 := Tryz.sizeOf188
  v76 := Tryz.zeroValue188
  t77 := Tryz.underlying189
  a77 := Tryz.isAgg189
  z77 := Tryz.sizeOf189
  v77 := Tryz.zeroValue189 }
end Go.Proofs

namespace Go.Proofs.YtmdncaoilegnnaaGreat
set_option linter.unusedVariables false
set_option linter.unusedSimpArgs false
set_option linter.unusedVariables false
set_option linter.unusedSimpArgs false
open Go.RowKit Go.Sort

section
variable {α : Type} [Inhabited α] {e : TypeId} {size : Nat} {enc : α → List Value} {w : World} {base g cap : Nat}

theorem flat_get (henc : ∀ x, (enc x).length = size) (hs : 0 < size) (l : List α) {j : Nat} (hj : j < l.length * size) : (l.flatMap enc)[j]? = some ((enc (l.toArray[j / size]!))[j % size]!) := by
  have hq : j / size < l.length := (Nat.div_lt_iff_lt_mul hs).2 hj
  have hr : j % size < size := Nat.mod_lt _ hs
  have h1 := flat_at henc l (j / size) (j % size) l[j / size] (List.getElem?_eq_getElem hq) hr
  rw [Nat.div_add_mod' j size] at h1
  rw [h1]
  have e1 : l.toArray[j / size]! = l[j / size] := by simp [hq]
  rw [e1, List.getElem?_eq_getElem (by rw [henc]; exact hr)]
  simp [List.getElem!_eq_getElem?_getD, List.getElem?_eq_getElem (show j % size < (enc l[j / size]).length by rw [henc]; exact hr)]
theorem OwG.holdsK (henc : ∀ x, (enc x).length = size) (hs : 0 < size) {l : List α} (h : OwG e size enc w base (.slice (some ⟨g, 0, none⟩) l.length cap) l) : HoldsK enc size w g 0 l.toArray := by
  intro j hj
  rw [size_flatK, List.size_toArray] at hj
  rw [get_flatK _ _ _ _ (by rw [List.size_toArray]; exact hj), Nat.zero_add]
  exact ⟨(h.cells j hj).trans (flat_get henc hs l hj), h.frozen j⟩
theorem OwG.sorted (henc : ∀ x, (enc x).length = size) (hs : 0 < size) {l : List α} (h : OwG e size enc w base (.slice (some ⟨g, 0, none⟩) l.length cap) l) (d : List α) (hd : d.length = l.length) (m : Nat) (os : Array Obj) :
    OwG e size enc (sortWorldK enc size w g 0 m d.toArray os) base (.slice (some ⟨g, 0, none⟩) l.length cap) d ∧ w.grownBy (sortWorldK enc size w g 0 m d.toArray os) (some g) := by
  obtain ⟨h1, h2⟩ := h
  rcases h2 with ⟨e0, _⟩ | ⟨g', cap', cur, e0, hb, hg, hnc, hcm, hcs, htake⟩
  · cases e0
  · injection e0 with e1 e2 e3
    injection e1 with e1
    injection e1 with e1
    subst e1 e3
    have hlt : g < w.heap.size := lt_of_heap hg
    have hh : (sortWorldK enc size w g 0 m d.toArray os).heap[g]? = some (.cells (Sort.putCells id 0 (flatK enc size d.toArray) cur) e (0, 0)) := by
      show ((w.heap.modify g (Sort.onCells (Sort.putCells id 0 (flatK enc size d.toArray)))) ++ os)[g]? = _
      rw [Array.getElem?_append_left (by simpa using hlt), Array.getElem?_modify, if_pos rfl, hg]
      rfl
    refine ⟨⟨?_, .inr ⟨g, cap, _, by rw [hd], hb, hh, by rw [hd]; exact hnc, hcm, ?_, ?_⟩⟩, ⟨rfl, rfl, rfl, ?_, ?_⟩⟩
    · rw [flat_len henc]
    · simp only [Sort.putCells, Array.size_mapIdx]; exact hcs
    · apply List.ext_getElem?
      intro j
      rcases Nat.lt_or_ge j (d.length * size) with hj | hj
      · have hjc : j < cur.size := by
          have := Nat.mul_le_mul_right size hnc
          rw [hcs]; rw [hd] at hj; omega
        rw [List.getElem?_take_of_lt hj, flat_get henc hs d hj, Array.getElem?_toList]
        simp only [Sort.putCells, Array.getElem?_mapIdx]
        rw [Array.getElem?_eq_getElem hjc, Option.map_some, if_pos (by rw [size_flatK, List.size_toArray]; omega), Nat.sub_zero, get_flatK _ _ _ _ (by rw [List.size_toArray]; exact hj)]
        rfl
      · rw [List.getElem?_eq_none (by rw [List.length_take]; omega), List.getElem?_eq_none (by rw [flat_len henc]; omega)]
    · show w.heap.size ≤ ((w.heap.modify g _) ++ os).size
      simp
    · intro k hk hne
      show ((w.heap.modify g _) ++ os)[k]? = _
      rw [Array.getElem?_append_left (by simpa using hk), Array.getElem?_modify, if_neg (fun e => hne (by rw [e]))]
end

theorem cmpI_lt (x y : Int) : cmpI x y < 0 ↔ x < y := by
  unfold cmpI; split
  · simp [*]
  · split <;> simp [*] <;> omega
theorem cmpI_zero (x y : Int) : cmpI x y = 0 ↔ x = y := by
  unfold cmpI; split
  · omega
  · split <;> omega
theorem cmpS_lt (p q : Int × Int) : cmpS p q < 0 ↔ p.1 < q.1 ∨ (p.1 = q.1 ∧ p.2 < q.2) := by
  unfold cmpS orI orI orI
  have h1 := cmpI_lt p.1 q.1
  have h2 := cmpI_zero p.1 q.1
  have h3 := cmpI_lt p.2 q.2
  have h4 := cmpI_zero p.2 q.2
  by_cases e1 : cmpI p.1 q.1 = 0
  · rw [e1]
    by_cases e2 : cmpI p.2 q.2 = 0
    · rw [e2]; simp; omega
    · rw [if_neg (by simp), if_pos (by simpa using e2)]; omega
  · rw [if_pos (by simpa using e1)]; omega
theorem ltS (p q : Int × Int) : ltOf cmpS p q = lessS p q := by
  unfold ltOf lessS
  rw [Bool.eq_iff_iff]
  simp [cmpS_lt]
theorem swoS : Sort.SWO (ltOf cmpS) where
  irrefl x := by rw [ltS]; unfold lessS; simp
  trans x y z h1 h2 := by
    rw [ltS] at *; unfold lessS at *; simp at *; omega
  ntrans x y z h1 h2 := by
    rw [ltS] at *; unfold lessS at *; simp at *; omega
theorem totS (x y : Int × Int) (h1 : ltOf cmpS x y = false) (h2 : ltOf cmpS y x = false) : x = y := by
  rw [ltS] at *; unfold lessS at *
  obtain ⟨a, b⟩ := x; obtain ⟨c, d⟩ := y
  simp at *; omega
/-- The sorted list. -/
def sortW (l : List (Int × Int)) : List (Int × Int) := l.mergeSort fun x y => !ltOf cmpS y x
theorem sortW_len (l : List (Int × Int)) : (sortW l).length = l.length := List.length_mergeSort _
theorem sort_any (F : Nat) (eg : ∀ args w, (callFunc F args).run Tryz.prog w = .ok (.enter F args) w) (hF : ∀ ax ay bx bY w, Calls Tryz.prog F #[.agg #[.int .i64 ax, .int .i64 ay], .agg #[.int .i64 bx, .int .i64 bY]] w fun e w' => e = .returned (.int .i64 (cmpS (ax, ay) (bx, bY))) ∧ GrW w w')
    (v : Value) (base : Nat) (l : List (Int × Int)) (w : World) (hl : l.length ≤ 1000000) (hs : OwS w base v l) :
    Calls Tryz.prog 62 #[v, .func (.func F) #[] #[]] w fun e w' => e = .returned (.tuple #[]) ∧ OwS w' base v (sortW l) ∧ w.grownBy w' v.ownBlock := by
  rcases OwG.form hs with ⟨rfl, rfl⟩ | ⟨g, cap, rfl, h1, h2, h3, h4⟩
  · refine (AnyF.slices_SortFunc_none Tryz.laysS none 0 _ w).mono ?_
    rintro e w' ⟨rfl, rfl⟩
    exact ⟨rfl, by rw [show sortW [] = [] by simp [sortW]]; exact hs, World.grownBy.refl _ _⟩
  · have hcmp : CmpLays Tryz.prog F #[] enS 2 cmpS g 0 l.toArray.size w := by
      intro m os dk hdk x y
      exact hF x.1 x.2 y.1 y.2 _
    have hcon := AnyQ.slices_SortFunc_total Tryz.laysS 2 Tryz.isAgg37 Tryz.sizeOf37 enS enS_len enS_one cmpS swoS F #[] g 0 cap l.toArray w eg hcmp (OwG.holdsK enS_len (by omega) hs) h2 (by rw [List.size_toArray]; omega) totS
    rw [List.size_toArray] at hcon
    refine hcon.mono ?_
    rintro e w' ⟨rfl, n, os, rfl⟩
    have hso := OwG.sorted enS_len (by omega) hs (sortW l) (sortW_len l) n os
    refine ⟨rfl, ?_, hso.2⟩
    exact hso.1
end Go.Proofs.YtmdncaoilegnnaaGreat

namespace Go.Proofs.YtmdncaoilegnnaaGreat
set_option linter.unusedVariables false
set_option linter.unusedSimpArgs false
set_option linter.unusedVariables false
set_option linter.unusedSimpArgs false
open Go.RowKit

theorem OwG.kept {α : Type} {e : TypeId} {size : Nat} {enc : α → List Value} {w w' : World} {base : Nat} {v : Value} {l : List α} {row : Option Nat} (h : OwG e size enc w base v l) (hg : w.grownBy w' row) (hne : v.ownBlock = none ∨ v.ownBlock ≠ row) : OwG e size enc w' base v l :=
  World.ownsRow.kept h hg hne
theorem flatG_take {α : Type} {enc : α → List Value} {size : Nat} (henc : ∀ x, (enc x).length = size) (l : List α) (i : Nat) : (l.flatMap enc).take (i * size) = (l.take i).flatMap enc := by
  induction l generalizing i with
  | nil => simp
  | cons a l ih =>
    cases i with
    | zero => simp
    | succ i =>
      rw [List.take_succ_cons, List.flatMap_cons, List.flatMap_cons, ← ih, show (i + 1) * size = (enc a).length + i * size by rw [henc, Nat.add_mul]; omega, List.take_length_add_append]
/-- clear(s[i:]) on a row of one's own: the first i elements stay. -/
theorem OwG.clear {α : Type} {P : Program} {e t : TypeId} {size : Nat} {enc : α → List Value} {w : World} {base g n cap i : Nat} {l : List α} {z : Value} (henc : ∀ x, (enc x).length = size)
    (hu : P.underlying t = some (.slice e)) (hz : ∀ w, (zeroValue e).run P w = .ok z w) (hzs : z.cells.size = size) (hz1 : ∀ u ∈ z.cells.toList, u.oneCell' = true) (hs0 : 0 < size)
    (h : OwG e size enc w base (.slice (some ⟨g, 0, none⟩) n cap) l) (hl : l.length = n) (hi : i < n) :
    ∃ W, (∀ ty, (Builtin.clear_ #[t] ty #[.slice (some ⟨g, i * size, none⟩) (n - i) (cap - i)]).run P w = .ok (.tuple #[]) W) ∧ OwG e size enc W base (.slice (some ⟨g, 0, none⟩) i cap) (l.take i) ∧ w.grownBy W (some g) := by
  subst hl
  have htl : (l.take i).length = i := by rw [List.length_take]; omega
  obtain ⟨h1, h2⟩ := h
  rcases h2 with ⟨e0, _⟩ | ⟨g', cap', A, e0, hb, hg, hnc, hcm, hcs, htake⟩
  · cases e0
  · injection e0 with e1 e2 e3
    injection e1 with e1
    injection e1 with e1
    subst e1 e3
    obtain ⟨zs, hzc⟩ : ∃ zs : List Value, (Builtin.zeroCells z.cells (l.length - i)).toList = zs := ⟨_, rfl⟩
    have hzl : zs.length = (l.length - i) * size := by
      rw [← hzc]; simp [Builtin.zeroCells, hzs]
    have hone : ∀ u ∈ zs, u.oneCell' = true := by
      intro u hu
      rw [← hzc, Builtin.zeroCells, Array.toList_map] at hu
      obtain ⟨j, _, rfl⟩ := List.mem_map.1 hu
      have hj : j % z.cells.size < z.cells.size := Nat.mod_lt _ (by rw [hzs]; exact hs0)
      apply hz1
      rw [getElem!_pos z.cells _ hj]
      simp
    have hfit : i * size + zs.length ≤ A.size := by
      rw [hzl, hcs, ← Nat.add_mul]
      exact Nat.mul_le_mul_right _ (by omega)
    have hst := run_storeCells_at P g (i * size) e zs 0 A w hg (by simpa using hfit) hone
    rw [Nat.add_zero] at hst
    obtain ⟨m, hm⟩ : ∃ m, l.length - i = m + 1 := ⟨l.length - i - 1, by omega⟩
    have hrun : ∀ ty, (Builtin.clear_ #[t] ty #[.slice (some ⟨g, i * size, none⟩) (l.length - i) (cap - i)]).run P w = .ok (.tuple #[]) (w.setRow g (A.toList.take (i * size) ++ zs ++ A.toList.drop (i * size + zs.length)).toArray) := by
      intro ty
      rw [hm] at hzc ⊢
      simp [Builtin.clear_, run_underlying hu, hz, hzc, hst]
    refine ⟨_, hrun, ⟨?_, .inr ⟨g, cap, _, by rw [htl], hb, setRow_heap w g A _ _ _ hg, by rw [htl]; omega, hcm, ?_, ?_⟩⟩, ⟨rfl, rfl, rfl, by simp [World.setRow], fun k _ hne => setRow_other w g k _ (fun e => hne (by rw [e]))⟩⟩
    · rw [flat_len henc]
    · rw [List.size_toArray, List.length_append, List.length_append, List.length_take, List.length_drop, Array.length_toList, hcs]
      rw [hcs] at hfit
      omega
    · have hA : i * size ≤ A.toList.length := by rw [Array.length_toList]; omega
      have hlt : (A.toList.take (i * size)).length = i * size := by rw [List.length_take]; omega
      rw [htl, List.append_assoc]
      simp only [List.toList_toArray]
      rw [List.take_append_of_le_length (by rw [hlt]; exact Nat.le_refl _), List.take_of_length_le (by rw [hlt]; exact Nat.le_refl _), ← flatG_take henc, ← htake, List.take_take]
      congr 1
      have := Nat.mul_le_mul_right size (Nat.le_of_lt hi)
      omega
/-! ### the first of each run of equal elements -/
section
variable {α : Type}
def cpTo (eq : α → α → Bool) (l : List α) (d : α) : Nat → List α
  | 0 => []
  | k + 1 => if 0 < k ∧ eq (l.getD k d) (l.getD (k - 1) d) = true then cpTo eq l d k else cpTo eq l d k ++ [l.getD k d]
def compW (eq : α → α → Bool) (d : α) (l : List α) : List α := cpTo eq l d l.length
variable {eq : α → α → Bool} {l : List α} {d : α}
theorem cpTo_len (k : Nat) : (cpTo eq l d k).length ≤ k := by
  induction k with
  | zero => exact Nat.le_refl _
  | succ k ih =>
    rw [cpTo]; split
    · omega
    · rw [List.length_append]; simp; omega
theorem cpTo_one : cpTo eq l d 1 = [l.getD 0 d] := by simp [cpTo]
theorem cpTo_yes {k : Nat} (h0 : 0 < k) (h : eq (l.getD k d) (l.getD (k - 1) d) = true) : cpTo eq l d (k + 1) = cpTo eq l d k := by
  rw [cpTo, if_pos ⟨h0, h⟩]
theorem cpTo_no {k : Nat} (h : eq (l.getD k d) (l.getD (k - 1) d) = false) : cpTo eq l d (k + 1) = cpTo eq l d k ++ [l.getD k d] := by
  rw [cpTo, if_neg (by rw [h]; simp)]
theorem take_succ_getD {k : Nat} (h : k < l.length) : l.take (k + 1) = l.take k ++ [l.getD k d] := by
  rw [List.take_succ_eq_append_getElem h]; congr 2; simp [h]
theorem cpTo_take {k : Nat} (hk : k < l.length) (hp : cpTo eq l d k = l.take k) (h : eq (l.getD k d) (l.getD (k - 1) d) = false) : cpTo eq l d (k + 1) = l.take (k + 1) := by
  rw [cpTo_no h, hp, take_succ_getD hk]
theorem take_one (h : 0 < l.length) : l.take 1 = [l.getD 0 d] := by
  rw [take_succ_getD (d := d) h]; simp
end

theorem take_set {l : List (Int × Int)} {c : Nat} {x : Int × Int} (h : c < l.length) : (l.set c x).take (c + 1) = l.take c ++ [x] := by
  rw [List.take_succ_eq_append_getElem (by simpa using h)]
  simp [List.take_set_of_le]
theorem zeroS : ∀ w, (zeroValue 37).run Tryz.prog w = .ok (.agg #[.int .i64 0, .int .i64 0]) w := fun _ => by kernel_rfl
set_option maxHeartbeats 2000000 in
set_option maxRecDepth 100000 in
theorem compact_some (g cap n : Nat) (base : Nat) (l : List (Int × Int)) (w : World) (hl : n ≤ 1000000) (hn : l.length = n) (hcap : n ≤ cap) (hs : OwS w base (.slice (some ⟨g, 0, none⟩) n cap) l) :
    Calls Tryz.prog 209 #[.slice (some ⟨g, 0, none⟩) n cap] w fun e w' => ∃ m, e = .returned (.slice (some ⟨g, 0, none⟩) m cap) ∧ m = (compW eqS (0, 0) l).length ∧ OwS w' base (.slice (some ⟨g, 0, none⟩) m cap) (compW eqS (0, 0) l) ∧ w.grownBy w' (some g) := by
  have HN := Lib.hid hn
  have hcw := Lib.hid (show compW eqS (0, 0) l = cpTo eqS l (0, 0) n by unfold compW; rw [hn])
  clear hn
  by_cases h2 : n < 2
  · go_enter Tryz.func209, Tryz.ntmps209
    go_wp2_with fail
    go_ret
    have e : compW eqS (0, 0) l = l := by
      rw [hcw.out]
      have hn := HN.out
      rcases Nat.lt_or_ge n 1 with h | h
      · have h0 : n = 0 := by omega
        subst h0
        rw [List.eq_nil_of_length_eq_zero hn]; rfl
      · have h0 : n = 1 := by omega
        subst h0
        rw [cpTo_one, ← take_one (by omega), List.take_of_length_le (by omega)]
    exact ⟨n, rfl, by rw [e, HN.out], by rw [e]; exact hs, World.grownBy.refl _ _⟩
  · have heq := eqInSpot
    go_enter Tryz.func209, Tryz.ntmps209
    go_wp2_with fail
    go_loopw [3] (fun i wr => ∃ k : Nat, 1 ≤ k ∧ k ≤ n ∧ i = .int .i64 k ∧ Hid (cpTo eqS l (0, 0) k = l.take k) ∧ OwS wr base (.slice (some ⟨g, 0, none⟩) n cap) l ∧ w.grownBy wr (some g)) (fun i _ => n - (intOf i).toNat)
    case atStart => exact ⟨1, Nat.le_refl _, by omega, rfl, by rw [cpTo_one, ← take_one (by rw [HN.out]; omega)]; exact Lib.hid rfl, hs, World.grownBy.refl _ _⟩
    case round =>
      clear hs
      obtain ⟨k, hk1, hk, rfl, hp, ho, hg⟩ := hrel
      by_cases hlt : k < n
      · obtain ⟨j, hj⟩ : ∃ j, k - 1 = j := ⟨_, rfl⟩
        obtain ⟨d1, d2, _, _⟩ := ho.cells HN.out hlt
        obtain ⟨d3, d4, _, _⟩ := ho.cells HN.out (show j < n by omega)
        have e1 : IntKind.i64.wrap ((k : Int) - 1) = (j : Int) := (wrap_in _ (by omega) (by omega)).trans (by omega)
        have hjn : (j : Int) < (n : Int) := by omega
        have hk0 : ¬ n = 0 := by omega
        by_cases hdup : eqS ((gt l k).1, (gt l k).2) ((gt l j).1, (gt l j).2) = true
        · go_wp2_with fail
          go_quiet (fail)
          clear d1 d2 d3 d4 e1
          have hkc : ¬ k = cap := by omega
          have hst := Lib.hid (cpTo_yes (eq := eqS) (l := l) (d := ((0 : Int), (0 : Int))) (k := k) (by omega) (by rw [hj]; exact hdup))
          have hklt : (k : Int) ≤ (n : Int) := by omega
          go_wp2_with fail
          obtain ⟨M, hM⟩ : ∃ M, n - k = M := ⟨_, rfl⟩
          obtain ⟨C, hC⟩ : ∃ C, cap - k = C := ⟨_, rfl⟩
          rw [hM, hC]
          have hM1 : n ≤ k + M := by omega
          have hM2 : k + M ≤ n := by omega
          have HM' := Lib.hid (show n = k + M by omega)
          have hC' : M ≤ C := by omega
          clear hM hC
          have HD := Lib.hid hdup
          have hlen0 : (cpTo eqS l (0, 0) k).length = k := by rw [hp.out, List.length_take, HN.out]; omega
          have HL0 := Lib.hid hlen0
          have HO := Lib.hid (OwS.drewN ho nq)
          have HG := Lib.hid (Gb.drewN hg nq)
          clear hdup hlen0 ho hg hklt
          go_loopw [3, 5] (fun c i wx => ∃ (p c' : Nat) (z : List (Int × Int)), 1 ≤ p ∧ p ≤ M ∧ i = .int .i64 p ∧ c = .int .i64 c' ∧ Hid (c' = (cpTo eqS l (0, 0) (k + p)).length) ∧ c' + 1 ≤ k + p ∧ Hid (z.length = n) ∧ Hid (z.take c' = cpTo eqS l (0, 0) (k + p)) ∧ Hid (∀ x, k + p ≤ x + 1 → x < n → gt z x = gt l x) ∧ OwS wx base (.slice (some ⟨g, 0, none⟩) n cap) z ∧ w.grownBy wx (some g)) (fun _ i _ => M - (intOf i).toNat)
          case atStart => exact ⟨1, k, l, Nat.le_refl _, by omega, rfl, rfl, Lib.hid (by rw [hst.out, HL0.out]), Nat.le_refl _, HN, Lib.hid (by rw [hst.out, hp.out]), Lib.hid (fun x _ _ => rfl), HO.out, HG.out⟩
          case round =>
            clear HO HG
            obtain ⟨p, c, z, hp1, hpM, rfl, rfl, hc, hcl, hz, hzt, hzx, ho, hg⟩ := hrel
            by_cases hpl : p < M
            · obtain ⟨r, hr⟩ : ∃ r, p - 1 = r := ⟨_, rfl⟩
              obtain ⟨d1, d2, _, _⟩ := ho.cells hz.out (show k + p < n by omega)
              obtain ⟨d3, d4, _, _⟩ := ho.cells hz.out (show k + r < n by omega)
              obtain ⟨d5, d6, f5, f6⟩ := ho.cells hz.out (show c < n by omega)
              rw [hzx.out _ (by omega) (by omega), Nat.add_mul] at d1 d2
              rw [hzx.out _ (by omega) (by omega), Nat.add_mul] at d3 d4
              have e1 : IntKind.i64.wrap ((p : Int) - 1) = (r : Int) := (wrap_in _ (by omega) (by omega)).trans (by omega)
              have hrM : (r : Int) < (M : Int) := by omega
              have hcn : (c : Int) < (n : Int) := by omega
              have hk0 : ¬ M = 0 := by omega
              by_cases hdup : eqS ((gt l (k + p)).1, (gt l (k + p)).2) ((gt l (k + r)).1, (gt l (k + r)).2) = true
              · have hs2 := Lib.hid (cpTo_yes (eq := eqS) (l := l) (d := ((0 : Int), (0 : Int))) (k := k + p) (by omega) (by rw [show k + p - 1 = k + r by omega]; exact hdup))
                go_wp2_with fail
                go_quiet (fail)
                clear d1 d2 d3 d4 e1
                go_wp2_with fail
                exact ⟨⟨p + 1, c, z, by omega, by omega, by go_num, rfl, Lib.hid (by rw [← Nat.add_assoc, hs2.out]; exact hc.out), by omega, hz, Lib.hid (by rw [← Nat.add_assoc, hs2.out]; exact hzt.out), Lib.hid (fun x h1 h2 => hzx.out x (by omega) h2), OwS.drewN ho _, Gb.drewN hg _⟩, by simp [intOf]; omega⟩
              · have hdup' : eqS ((gt l (k + p)).1, (gt l (k + p)).2) ((gt l (k + r)).1, (gt l (k + r)).2) = false := by simpa using hdup
                clear hdup
                have hs2 := Lib.hid (cpTo_no (eq := eqS) (l := l) (d := ((0 : Int), (0 : Int))) (k := k + p) (by rw [show k + p - 1 = k + r by omega]; exact hdup'))
                go_wp2_with fail
                go_quiet (fail)
                clear d3 d4 e1
                go_wp2_with fail
                refine ⟨⟨p + 1, c + 1, z.set c (gt l (k + p)), by omega, by omega, by go_num, by go_num, Lib.hid (by rw [← Nat.add_assoc, hs2.out, List.length_append, ← hc.out]; rfl), by omega, Lib.hid (by rw [List.length_set]; exact hz.out), Lib.hid ?_, Lib.hid (fun x h1 h2 => ?_), OwS.store (OwS.drewN ho nq) hz.out (by omega) _ _, Gb.set (Gb.set (Gb.drewN hg nq) _ _) _ _⟩, by simp [intOf]; omega⟩
                · rw [← Nat.add_assoc, hs2.out, ← hzt.out]
                  exact take_set (by rw [hz.out]; omega)
                · rw [gt_set (by rw [hz.out]; omega), if_neg (by omega)]; exact hzx.out x (by omega) h2
            · obtain rfl : M = p := by omega
              obtain ⟨W, hrun, hoW, hgW⟩ := OwG.clear (P := Tryz.prog) (t := 47) (i := c) enS_len Tryz.underlying47 zeroS rfl (by intro u hu; simp [Value.cells] at hu; rcases hu with rfl | rfl <;> rfl) (by omega) ho hz.out (by omega)
              have hcc : ¬ c = cap := by omega
              have hcn : (c : Int) ≤ (n : Int) := by omega
              go_wp2_with fail
              go_ret
              have e : compW eqS (0, 0) l = z.take c := by rw [hcw.out, hzt.out, ← HM'.out]
              exact ⟨c, rfl, by rw [e, hzt.out]; exact hc.out, by rw [e]; exact hoW, hg.trans hgW⟩
        · have hdup' : eqS ((gt l k).1, (gt l k).2) ((gt l j).1, (gt l j).2) = false := by simpa using hdup
          clear hdup
          go_wp2_with fail
          go_quiet (fail)
          clear d1 d2 d3 d4 e1
          go_wp2_with fail
          have hst := cpTo_take (eq := eqS) (d := ((0 : Int), (0 : Int))) (k := k) (by rw [HN.out]; exact hlt) hp.out (by rw [hj]; exact hdup')
          exact ⟨⟨k + 1, by omega, by omega, by go_num, hst, OwS.drewN ho _, Gb.drewN hg _⟩, by simp [intOf]; omega⟩
      · obtain rfl : n = k := by omega
        go_wp2_with fail
        go_ret
        have e : compW eqS (0, 0) l = l := by rw [hcw.out, hp.out, List.take_of_length_le (by rw [HN.out]; exact Nat.le_refl _)]
        exact ⟨n, rfl, by rw [e, HN.out], by rw [e]; exact ho, hg⟩
end Go.Proofs.YtmdncaoilegnnaaGreat

namespace Go.Proofs.YtmdncaoilegnnaaGreat
set_option linter.unusedVariables false
set_option linter.unusedSimpArgs false
set_option linter.unusedVariables false
set_option linter.unusedSimpArgs false
open Go.RowKit

set_option maxHeartbeats 400000 in
theorem compact_any (v : Value) (base : Nat) (l : List (Int × Int)) (w : World) (hl : l.length ≤ 1000000) (hs : OwS w base v l) :
    Calls Tryz.prog 209 #[v] w fun e w' => ∃ v', e = .returned v' ∧ OwS w' base v' (compW eqS (0, 0) l) ∧ w.grownBy w' v.ownBlock ∧ v'.ownBlock = v.ownBlock := by
  rcases OwG.form hs with ⟨rfl, rfl⟩ | ⟨g, cap, rfl, h1, h2, h3, h4⟩
  · go_enter Tryz.func209, Tryz.ntmps209
    go_wp2_with fail
    go_ret
    exact ⟨_, rfl, hs, World.grownBy.refl _ _, rfl⟩
  · refine (compact_some g cap _ base l w hl rfl h3 hs).mono ?_
    rintro e w' ⟨m, rfl, hm, ho, hg⟩
    exact ⟨_, rfl, ho, hg, rfl⟩
set_option maxHeartbeats 400000 in
theorem clone_none (w : World) : Calls Tryz.prog 207 #[.slice none 0 0] w (RetS w []) := by
  have heq := fun (w : World) => Lib.run_eql_slice_nil (P := Tryz.prog) w 47 37 none 0 0 0 0 Tryz.underlying47
  go_enter Tryz.func207, Tryz.ntmps207
  go_wp2_with fail
  go_ret
  exact ⟨_, rfl, OwG.nil, Below.refl _ _⟩
theorem clone_any (A : Option Addr) (cap n : Nat) (l : List (Int × Int)) (w : World) (hn : n ≤ 1000000) (hs : SpS w A n l) (hz : A = none → cap = 0) :
    Calls Tryz.prog 207 #[.slice A n cap] w (RetS w l) := by
  cases A with
  | some ad => exact clone_some ad cap n l w hn hs
  | none =>
    have h0 := hz rfl
    have hn0 : n = 0 := by
      rcases Nat.eq_zero_or_pos n with h | h
      · exact h
      · obtain ⟨_, _, e, _⟩ := hs.at_ h; cases e
    subst hn0 h0
    rw [List.eq_nil_of_length_eq_zero hs.1]
    exact clone_none w
def hullW (l : List (Int × Int)) : Option (List (Int × Int)) :=
  if (compW eqS (0, 0) (sortW l)).length < 3 then none
  else if (borW (compW eqS (0, 0) (sortW l)) ++ borW (compW eqS (0, 0) (sortW l)).reverse).length < 3 then none
  else some (borW (compW eqS (0, 0) (sortW l)) ++ borW (compW eqS (0, 0) (sortW l)).reverse)
theorem entCmp : ∀ args w, (callFunc 208 args).run Tryz.prog w = .ok (.enter 208 args) w := by
  intro args w
  kernel_rfl
theorem borW_len (l : List (Int × Int)) : (borW l).length ≤ l.length := by
  unfold borW; rw [List.length_take]
  exact Nat.le_trans (Nat.min_le_right _ _) (borTo_len _ _)
theorem hullRev {w : World} {base : Nat} {A : Option Addr} {m c : Nat} {s : List (Int × Int)} (hm : s.length = m) (h : OwS w base (.slice A m c) s.reverse) : SpS w A m s.reverse := by
  obtain ⟨A', c', e, _, hS, _⟩ := h.sps
  injection e with e1 e2 e3
  subst e1
  rw [List.length_reverse, hm] at hS
  exact hS
theorem hullFar {w3 w4 w5 : World} {base : Nat} {v3 v4 : Value} {l l4 : List (Int × Int)} (h3 : OwS w3 base v3 l) (hb4 : Below w3.heap.size w3 w4) (h4 : OwS w4 w3.heap.size v4 l4) (hg5 : w4.grownBy w5 v3.ownBlock) : OwS w5 w3.heap.size v4 l4 :=
  OwG.kept h4 hg5 (by
    cases e4 : v4.ownBlock with
    | none => exact .inl rfl
    | some k =>
      refine .inr fun e => ?_
      have h1 := (OwG.lt h4 k e4).1
      have h2 := (OwG.lt h3 k e.symm).2
      omega)
set_option maxHeartbeats 1000000 in
theorem hull_any (A : Option Addr) (cap n : Nat) (l : List (Int × Int)) (w : World) (hn : n ≤ 400000) (hs : SpS w A n l) (hz : A = none → cap = 0) :
    Calls Tryz.prog 196 #[.slice A n cap] w fun e w' => ∃ v, e = .returned (.tuple #[v, .bool (hullW l).isSome]) ∧ OwS w' w.heap.size v ((hullW l).getD []) ∧ Below w.heap.size w w' := by
  obtain ⟨s, hsW⟩ : ∃ s, compW eqS (0, 0) (sortW l) = s := ⟨_, rfl⟩
  have hsl : s.length ≤ n := by rw [← hsW]; unfold compW; refine Nat.le_trans (cpTo_len _) ?_; rw [sortW_len, hs.1]; exact Nat.le_refl _
  have HSW := Lib.hid hsW
  have HLEN := Lib.hid hs.1
  have hH := Lib.hid (show hullW l = if s.length < 3 then none else if (borW s ++ borW s.reverse).length < 3 then none else some (borW s ++ borW s.reverse) by unfold hullW; rw [hsW])
  clear hsW
  go_enter Tryz.func196, Tryz.ntmps196
  go_upto_region 4 with (first | (go_at_call 207; refine (clone_any _ _ _ l _ (by omega) hs hz).mono ?_; rintro e w1 ⟨v1, rfl, ho1, hb1⟩) | (go_at_call 62; refine (sort_any _ entCmp (fun _ _ _ _ _ => ccmp_any _ _ _ _ _) v1 _ l _ (by rw [HLEN.out]; omega) ho1).mono ?_; rintro e w2 ⟨rfl, ho2, hg2⟩) | (go_at_call 209; refine (compact_any v1 _ (sortW l) _ (by rw [sortW_len, HLEN.out]; omega) ho2).mono ?_; rintro e w3 ⟨v3, rfl, ho3, hg3, hv3⟩; rw [HSW.out] at ho3))
  have hb2 := below_app hb1 ho1 hg2
  have hb3 := below_app hb2 ho2 hg3
  clear hb1 ho1 hg2 hb2 ho2 hg3 hv3
  obtain ⟨A3, c3, rfl, hc3, hS3, hA3⟩ := ho3.sps
  obtain ⟨m, hm⟩ : ∃ m, s.length = m := ⟨_, rfl⟩
  rw [hm] at hS3 hc3 hA3 ho3 hsl ⊢
  have HM := Lib.hid hm
  have hbl1 : (borW s).length ≤ m := by rw [← hm]; exact borW_len s
  have hbl2 : (borW s.reverse).length ≤ m := Nat.le_trans (borW_len s.reverse) (by rw [List.length_reverse, hm]; exact Nat.le_refl _)
  clear hm
  by_cases h3 : m < 3
  · go_wp2_with fail
    go_ret2
    have e : hullW l = none := by rw [hH.out, if_pos (by rw [HM.out]; exact h3)]
    exact ⟨_, by rw [e]; rfl, by rw [e]; exact OwG.nil, hb3⟩
  · go_upto_region 9 with (first | (go_at_call 210; refine (border_any _ _ _ s.reverse _ (by omega) (by omega) hS5).mono ?_; rintro e w6 ⟨v6, rfl, ho6, hb6⟩; obtain ⟨A6, c6, rfl, hc6, hS6, hn6, -⟩ := ho6.els) | (go_at_call 210; refine (border_any _ _ _ s _ (by omega) (by omega) hS3).mono ?_; rintro e w4 ⟨v4, rfl, ho4, hb4⟩) | (go_at_call 202; refine (reverse_any _ w.heap.size s _ (by rw [HM.out]; omega) (ho3.keep hb4)).mono ?_; rintro e w5 ⟨rfl, ho5, hg5⟩; have hS5 := hullRev HM.out ho5; have ho4' := hullFar ho3 hb4 ho4 hg5) | (at_builtin; refine wpList_appSS rfl _ _ rfl w3.heap.size v4 (borW s) rfl (ho4'.keep hb6) A6 _ c6 (borW s.reverse) rfl hS6 hn6 (by omega) (by have := hb4.size; have := hg5.size; have := hb6.size; omega) ?_; intro v7 w7 ho7 hg7 hat7))
    have hb4' := Bl.call hb3 hb4
    have hb5 := below_app hb4' (ho3.keep hb4) hg5
    have hb6' := Bl.call hb5 hb6
    have ho7' := OwG.lower ho7 hb3.size
    have hb7 := below_app hb6' (OwG.lower (ho4'.keep hb6) hb3.size) hg7
    clear hS6 hn6 hat7 hg7 ho7 hb6' hb5 hb4' hg5 hb4 hb6 ho4 ho4' ho5 hS5 ho6 hc6
    obtain ⟨A7, c7, rfl, hc7, hS7, -⟩ := OwS.sps ho7'
    obtain ⟨m7, hm7⟩ : ∃ m7, (borW s ++ borW s.reverse).length = m7 := ⟨_, rfl⟩
    rw [hm7] at hc7 ho7' ⊢
    have hm7' : m7 ≤ m + m := by rw [← hm7, List.length_append]; omega
    have HM7 := Lib.hid hm7
    clear hm7 hS7
    by_cases h7 : m7 < 3
    · go_wp2_with fail
      go_ret2
      have e : hullW l = none := by rw [hH.out, if_neg (by rw [HM.out]; exact h3), if_pos (by rw [HM7.out]; exact h7)]
      exact ⟨_, by rw [e]; rfl, by rw [e]; exact OwG.nil, hb7⟩
    · go_wp2_with fail
      go_ret2
      have e : hullW l = some (borW s ++ borW s.reverse) := by rw [hH.out, if_neg (by rw [HM.out]; exact h3), if_neg (by rw [HM7.out]; exact h7)]
      exact ⟨_, by rw [e]; rfl, by rw [e]; exact ho7', hb7⟩
set_option maxHeartbeats 1000000 in
theorem idxOutC_any (A : Option Addr) (cap n : Nat) (l : List (Int × Int)) (w : World) (hl : n ≤ 1000000) (hs : SpS w A n l) :
    Calls Tryz.prog 143 #[.slice A n cap, .func (.func 197) #[] #[]] w fun e w' => e = .returned (.int .i64 (idxOf (fun i => outB 4194304 (gt l i)) n)) ∧ Below w.heap.size w w' := by
  go_enter Tryz.func143, Tryz.ntmps143
  go_wp2_with fail
  go_loopw [8] (fun i wr => ∃ k : Nat, k ≤ n ∧ i = .int .i64 k ∧ Hid (AnyB (fun i => outB 4194304 (gt l i)) k = false) ∧ Below w.heap.size w wr) (fun i _ => n - (intOf i).toNat)
  case atStart => exact ⟨0, Nat.zero_le _, rfl, AnyB.zero _, Below.refl _ _⟩
  case round =>
    obtain ⟨k, hk, rfl, hp, hb⟩ := hrel
    by_cases hlt : k < n
    · obtain ⟨b, off, rfl, hbl, hc⟩ := hs.at_ hlt
      have h1 := cell_keep hb (hc k hlt).1
      have h2 := cell_keep hb (hc k hlt).2
      clear hc
      go_wp2_with (go_at_call 197; refine (cout_any _ _ _).mono ?_; rintro e w1 ⟨rfl, hb1⟩; have hb2 := Bl.call hb hb1; clear hb1)
      · go_ret
        exact ⟨ret_int (idxOf_at hlt hp.out (by assumption)).symm, hb2⟩
      · go_roundw
        case rel => exact ⟨k + 1, by omega, by go_num, AnyB.succ hp.out (by simpa using ‹_›), hb2⟩
        case measure => simp [intOf]; omega
    · obtain rfl : n = k := by omega
      go_wp2_with fail
      go_ret
      exact ⟨ret_int (idxOf_none hp.out).symm, hb⟩
set_option maxHeartbeats 1000000 in
theorem containsOutC_any (A : Option Addr) (cap n : Nat) (l : List (Int × Int)) (w : World) (hl : n ≤ 1000000) (hs : SpS w A n l) :
    Calls Tryz.prog 105 #[.slice A n cap, .func (.func 197) #[] #[]] w fun e w' => e = .returned (.bool (AnyB (fun i => outB 4194304 (gt l i)) n)) ∧ Below w.heap.size w w' := by
  go_enter Tryz.func105, Tryz.ntmps105
  go_wp2_with (go_at_call 143; refine (idxOutC_any _ _ _ _ _ hl hs).mono ?_; rintro e w1 ⟨rfl, hb1⟩)
  go_ret
  exact ⟨ret_bool (idxOf_any _ _), hb1⟩
def HullW (l : List (Int × Int)) : Int × List (Int × Int) :=
  if l.length > 160 then (5, []) else if AnyB (fun i => outB 4194304 (gt l i)) l.length then (3, []) else match hullW l with | none => (11, []) | some r => (0, r)
/-- A result of spots and an error number. -/
def RetSE (w : World) (r : Int × List (Int × Int)) (e : Ending) (w' : World) : Prop :=
  ∃ v, e = .returned (.tuple #[v, .int .i64 r.1]) ∧ OwS w' w.heap.size v r.2 ∧ Below w.heap.size w w'
theorem hullW_len {l r : List (Int × Int)} (h : hullW l = some r) : r.length ≤ l.length + l.length := by
  unfold hullW at h
  split at h
  · cases h
  · split at h
    · cases h
    · injection h with h
      subst h
      rw [List.length_append]
      have h1 := borW_len (compW eqS (0, 0) (sortW l))
      have h2 := borW_len (compW eqS (0, 0) (sortW l)).reverse
      rw [List.length_reverse] at h2
      have h3 : (compW eqS (0, 0) (sortW l)).length ≤ l.length := by unfold compW; refine Nat.le_trans (cpTo_len _) ?_; rw [sortW_len]; exact Nat.le_refl _
      omega
theorem HullW_len (l : List (Int × Int)) : (HullW l).2.length ≤ 320 := by
  unfold HullW
  split
  · simp
  · split
    · simp
    · split
      · simp
      · rename_i r h
        have := hullW_len h
        show r.length ≤ 320
        omega
set_option maxHeartbeats 1000000 in
theorem Hull_any (A : Option Addr) (cap n : Nat) (l : List (Int × Int)) (w : World) (hn : n ≤ 9223372036854775807) (hs : SpS w A n l) (hz : A = none → cap = 0) :
    Calls Tryz.prog 195 #[.slice A n cap] w (RetSE w (HullW l)) := by
  have HLEN := Lib.hid hs.1
  by_cases h1 : n > 160
  · have e : HullW l = (5, []) := by unfold HullW; rw [if_pos (by rw [hs.1]; exact h1)]
    have HE := Lib.hid e
    clear e
    go_enter Tryz.func195, Tryz.ntmps195
    go_wp2_with fail
    go_ret2
    exact ⟨_, by rw [HE.out]; rfl, by rw [HE.out]; exact OwG.nil, Below.refl _ _⟩
  · have hn' : n ≤ 160 := by omega
    clear hn
    by_cases h2 : AnyB (fun i => outB 4194304 (gt l i)) n = true
    · have e : HullW l = (3, []) := by unfold HullW; rw [hs.1, if_neg h1, if_pos h2]
      have HE := Lib.hid e
      clear e
      go_enter Tryz.func195, Tryz.ntmps195
      go_wp2_with (go_at_call 105; refine (containsOutC_any _ _ _ l _ (by omega) hs).mono ?_; rintro e w1 ⟨rfl, hb1⟩)
      go_ret2
      exact ⟨_, by rw [HE.out]; rfl, by rw [HE.out]; exact OwG.nil, hb1⟩
    · have h2' : AnyB (fun i => outB 4194304 (gt l i)) n = false := by simpa using h2
      have e : HullW l = match hullW l with | none => (11, []) | some r => (0, r) := by unfold HullW; rw [hs.1, if_neg h1, if_neg h2]
      have HE := Lib.hid e
      clear e h2
      cases hh : hullW l with
      | none =>
        have q : (hullW l).isSome = false := by rw [hh]; rfl
        have HH := Lib.hid hh
        clear hh
        go_enter Tryz.func195, Tryz.ntmps195
        go_wp2_with (first | (go_at_call 105; refine (containsOutC_any _ _ _ l _ (by omega) hs).mono ?_; rintro e w1 ⟨rfl, hb1⟩) | (go_at_call 196; refine (hull_any _ _ _ l _ (by omega) (hs.keep hb1) hz).mono ?_; rintro e w2 ⟨v2, rfl, ho2, hb2⟩))
        go_ret2
        exact ⟨_, by rw [HE.out, HH.out]; rfl, by rw [HE.out, HH.out]; exact OwG.nil, Bl.call hb1 hb2⟩
      | some r =>
        have q : (hullW l).isSome = true := by rw [hh]; rfl
        have HH := Lib.hid hh
        clear hh
        go_enter Tryz.func195, Tryz.ntmps195
        go_wp2_with (first | (go_at_call 105; refine (containsOutC_any _ _ _ l _ (by omega) hs).mono ?_; rintro e w1 ⟨rfl, hb1⟩) | (go_at_call 196; refine (hull_any _ _ _ l _ (by omega) (hs.keep hb1) hz).mono ?_; rintro e w2 ⟨v2, rfl, ho2, hb2⟩))
        go_ret2
        refine ⟨v2, by rw [HE.out, HH.out]; rfl, ?_, Bl.call hb1 hb2⟩
        rw [HE.out, HH.out]
        rw [HH.out] at ho2
        exact OwG.lower ho2 hb1.size
end Go.Proofs.YtmdncaoilegnnaaGreat

namespace Go.Proofs.YtmdncaoilegnnaaGreat
set_option linter.unusedVariables false
set_option linter.unusedSimpArgs false
set_option linter.unusedVariables false
set_option linter.unusedSimpArgs false
open Go.RowKit

def addS (p q : Int × Int) : Int × Int := (wrap64 (p.1 + q.1), wrap64 (p.2 + q.2))
def sumIn (p : Int × Int) (g c0 : List (Int × Int)) : Nat → List (Int × Int)
  | 0 => c0
  | j + 1 => sumIn p g c0 j ++ [addS p (gt g j)]
def sumTo (f g : List (Int × Int)) : Nat → List (Int × Int)
  | 0 => []
  | k + 1 => sumIn (gt f k) g (sumTo f g k) g.length
theorem sumIn_len (p : Int × Int) (g c0 : List (Int × Int)) (j : Nat) : (sumIn p g c0 j).length = c0.length + j := by
  induction j with
  | zero => rfl
  | succ j ih => rw [sumIn, List.length_append, ih]; simp; omega
theorem sumTo_len (f g : List (Int × Int)) (k : Nat) : (sumTo f g k).length = k * g.length := by
  induction k with
  | zero => simp [sumTo]
  | succ k ih => rw [sumTo, sumIn_len, ih, Nat.add_mul]; omega
theorem BlkS.grown {w w' : World} {g : Nat} {t : TypeId} {cs : Array Value} {row : Option Nat} (h : BlkS w g t cs) (hg : w.grownBy w' row) (hne : some g ≠ row) : BlkS w' g t cs := (hg.block g h.lt hne).trans h
def SumW (a b : List (Int × Int)) : Int × List (Int × Int) :=
  if (HullW a).1 ≠ 0 then ((HullW a).1, []) else if (HullW b).1 ≠ 0 then ((HullW b).1, [])
  else if AnyB (fun i => outB 4194304 (gt ((hullW (sumTo (HullW a).2 (HullW b).2 (HullW a).2.length)).getD []) i)) ((hullW (sumTo (HullW a).2 (HullW b).2 (HullW a).2.length)).getD []).length then (3, [])
  else if ((hullW (sumTo (HullW a).2 (HullW b).2 (HullW a).2.length)).getD []).length > 160 then (5, [])
  else (0, (hullW (sumTo (HullW a).2 (HullW b).2 (HullW a).2.length)).getD [])
set_option maxHeartbeats 2000000 in
set_option maxRecDepth 100000 in
theorem Sum_any (A B : Option Addr) (ca cb na nb : Nat) (a b : List (Int × Int)) (w : World) (hna : na ≤ 1000000) (hnb : nb ≤ 1000000) (hsA : SpS w A na a) (hsB : SpS w B nb b) (hzA : A = none → ca = 0) (hzB : B = none → cb = 0) :
    Calls Tryz.prog 159 #[.slice A na ca, .slice B nb cb] w (RetSE w (SumW a b)) := by
  by_cases h1 : (HullW a).1 = 0
  · by_cases h2 : (HullW b).1 = 0
    · obtain ⟨f, hf⟩ : ∃ f, (HullW a).2 = f := ⟨_, rfl⟩
      obtain ⟨g, hg⟩ : ∃ g, (HullW b).2 = g := ⟨_, rfl⟩
      have lf : f.length ≤ 320 := by rw [← hf]; exact HullW_len a
      have lg : g.length ≤ 320 := by rw [← hg]; exact HullW_len b
      obtain ⟨r, hr⟩ : ∃ r, (hullW (sumTo f g f.length)).getD [] = r := ⟨_, rfl⟩
      have hS := Lib.hid (show SumW a b = if AnyB (fun i => outB 4194304 (gt r i)) r.length = true then (3, []) else if r.length > 160 then (5, []) else (0, r) by unfold SumW; rw [if_neg (by simpa using h1), if_neg (by simpa using h2), hf, hg, hr])
      have lr : r.length ≤ 204800 := by
        rw [← hr]
        cases hh : hullW (sumTo f g f.length) with
        | none => simp
        | some q =>
          have h3 := hullW_len hh
          rw [sumTo_len] at h3
          have h4 := Nat.mul_le_mul lf lg
          show q.length ≤ 204800
          omega
      have ls : (sumTo f g f.length).length ≤ 102400 := by
        rw [sumTo_len]
        have h4 := Nat.mul_le_mul lf lg
        omega
      have HF := Lib.hid hf
      have HG := Lib.hid hg
      have HR := Lib.hid hr
      clear hf hg hr
      go_enter Tryz.func159, Tryz.ntmps159
      go_upto_region 8 with (go_at_call 195; first | (refine (Hull_any _ _ _ b _ (by omega) (hsB.keep hb1) hzB).mono ?_; rintro e w2 ⟨v2, rfl, ho2, hb2⟩; rw [HG.out] at ho2) | (refine (Hull_any _ _ _ a _ (by omega) hsA hzA).mono ?_; rintro e w1 ⟨v1, rfl, ho1, hb1⟩; rw [HF.out] at ho1))
      obtain ⟨A1, c1, rfl, hc1, hS1, -⟩ := (OwS.sps (OwG.keep ho1 hb2))
      obtain ⟨A2, c2, rfl, hc2, hS2, -⟩ := OwS.sps ho2
      have hb := Bl.call hb1 hb2
      clear ho1 ho2 hb1 hb2
      obtain ⟨nf, hnf⟩ : ∃ nf, f.length = nf := ⟨_, rfl⟩
      obtain ⟨ng, hng⟩ : ∃ ng, g.length = ng := ⟨_, rfl⟩
      rw [hnf] at hS1 hc1 lf ls ⊢
      rw [hng] at hS2 hc2 lg ⊢
      have HNF := Lib.hid hnf
      have HNG := Lib.hid hng
      clear hnf hng
      go_wp2_with fail
      go_loopw [9, 34] (fun v i wr => ∃ k : Nat, k ≤ nf ∧ i = .int .i64 k ∧ OwS wr w2.heap.size v (sumTo f g k) ∧ Below w2.heap.size w2 wr) (fun _ i _ => nf - (intOf i).toNat)
      case atStart => exact ⟨0, Nat.zero_le _, rfl, OwG.nil, Below.refl _ _⟩
      case round =>
        obtain ⟨k, hk, rfl, ho, hbr⟩ := hrel
        by_cases hlt : k < nf
        · obtain ⟨ba, oa, rfl, hbl, hc⟩ := (hS1.keep hbr).at_ hlt
          obtain ⟨d1, d2⟩ := hc k hlt
          clear hc
          have hkl : (sumTo f g k).length ≤ 102400 := by
            rw [sumTo_len, HNG.out]
            exact Nat.le_trans (Nat.mul_le_mul (show k ≤ 320 by omega) lg) (by omega)
          go_wp2_with fail
          clear d1 d2
          obtain ⟨B0, hB0⟩ : ∃ B0, B0 = wr.heap.size := ⟨_, rfl⟩
          have hBk : BlkS (wr.alloc (.cells #[.int .i64 (gt f k).1, .int .i64 (gt f k).2] 37)) B0 37 #[.int .i64 (gt f k).1, .int .i64 (gt f k).2] := by rw [hB0]; exact BlkS.new _ _ _
          have hoA := OwG.alloc ho (.cells #[.int .i64 (gt f k).1, .int .i64 (gt f k).2] 37)
          have hbA := Bl.alloc hbr (.cells #[.int .i64 (gt f k).1, .int .i64 (gt f k).2] 37)
          have hneB : u9.ownBlock ≠ some B0 := fun h => by rw [hB0] at h; exact Nat.lt_irrefl _ (OwG.lt ho _ h).2
          rw [← hB0]
          have HB := Lib.hid hBk
          clear ho hbr hbl hBk hB0
          go_loopw [9, 40] (fun v i wx => ∃ j : Nat, j ≤ ng ∧ i = .int .i64 j ∧ OwS wx w2.heap.size v (sumIn (gt f k) g (sumTo f g k) j) ∧ BlkS wx B0 37 #[.int .i64 (gt f k).1, .int .i64 (gt f k).2] ∧ v.ownBlock ≠ some B0 ∧ Below w2.heap.size w2 wx) (fun _ i _ => ng - (intOf i).toNat)
          case atStart => exact ⟨0, Nat.zero_le _, rfl, hoA, HB.out, hneB, hbA⟩
          case round =>
            clear hoA HB hneB hbA
            obtain ⟨j, hj, rfl, ho, hB, hne, hbx⟩ := hrel
            by_cases hjn : j < ng
            · obtain ⟨bb, ob, rfl, hbb, hc⟩ := (hS2.keep hbx).at_ hjn
              obtain ⟨d1, d2⟩ := hc j hjn
              clear hc
              have d3 := hB.cell 0
              have d4 := hB.cell 1
              have dl := hB.lt
              simp only [List.getElem?_toArray, List.getElem?_cons_zero, List.getElem?_cons_succ] at d3 d4
              have hlen : (sumIn (gt f k) g (sumTo f g k) j).length ≤ 1000000 := by rw [sumIn_len]; omega
              go_wp2_with (at_builtin; refine wpList_appS rfl _ _ rfl w2.heap.size _ (sumIn (gt f k) g (sumTo f g k) j) rfl (OwG.alloc (OwG.alloc ho _) _) (wr.heap.size + 1) 1 (addS (gt f k) (gt g j)) 37 rfl (BlkS.new2 _ _ _ _) hlen (Bl.alloc (Bl.alloc hbx _) _).size ?_; intro v' w5 ho' hg' hat')
              refine ⟨⟨j + 1, by omega, by go_num, ho', ?_, ?_, below_app (Bl.alloc (Bl.alloc hbx _) _) (OwG.alloc (OwG.alloc ho _) _) hg'⟩, by simp [intOf]; omega⟩
              · exact BlkS.grown ((hB.alloc _).alloc _) hg' hne.symm
              · rcases hat' with h | h
                · rw [h]; exact hne
                · rw [h]; intro h'; injection h' with h'; simp at h'; omega
            · obtain rfl : ng = j := by omega
              have e9 := Lib.hid (show sumTo f g (k + 1) = sumIn (gt f k) g (sumTo f g k) ng by simp only [sumTo]; rw [HNG.out])
              go_wp2_with fail
              exact ⟨⟨k + 1, by omega, by go_num, by rw [e9.out]; exact ho, hbx⟩, by simp [intOf]; omega⟩
        · obtain rfl : nf = k := by omega
          obtain ⟨A9, c9, rfl, hc9, hS9, hn9, -⟩ := OwS.els ho
          obtain ⟨n9, hn9'⟩ : ∃ n9, (sumTo f g nf).length = n9 := ⟨_, rfl⟩
          rw [hn9'] at hc9 hS9 ls ⊢
          clear hn9' ho
          rw [HNF.out] at HR
          go_upto_region 18 with (go_at_call 196; refine (hull_any _ _ _ (sumTo f g nf) _ (by omega) hS9 hn9).mono ?_; rintro e w5 ⟨v5, rfl, ho5, hb5⟩; rw [HR.out] at ho5)
          obtain ⟨A5, c5, rfl, hc5, hS5, hn5, -⟩ := OwS.els ho5
          obtain ⟨nr, hnr⟩ : ∃ nr, r.length = nr := ⟨_, rfl⟩
          rw [hnr] at hS5 hc5 lr hS ho5 ⊢
          have HNR := Lib.hid hnr
          clear hnr
          have hbw := Bl.call (Bl.call hb hbr) hb5
          by_cases h3 : AnyB (fun i => outB 4194304 (gt r i)) nr = true
          · go_wp2_with (go_at_call 105; refine (containsOutC_any _ _ _ r _ (by omega) hS5).mono ?_; rintro e w6 ⟨rfl, hb6⟩)
            go_ret2
            rw [if_pos h3] at hS
            exact ⟨_, by rw [hS.out]; rfl, by rw [hS.out]; exact OwG.nil, Bl.call hbw hb6⟩
          · have h3' : AnyB (fun i => outB 4194304 (gt r i)) nr = false := by simpa using h3
            rw [if_neg h3] at hS
            clear h3
            by_cases h4 : nr > 160
            · go_wp2_with (go_at_call 105; refine (containsOutC_any _ _ _ r _ (by omega) hS5).mono ?_; rintro e w6 ⟨rfl, hb6⟩)
              go_ret2
              rw [if_pos h4] at hS
              exact ⟨_, by rw [hS.out]; rfl, by rw [hS.out]; exact OwG.nil, Bl.call hbw hb6⟩
            · go_wp2_with (go_at_call 105; refine (containsOutC_any _ _ _ r _ (by omega) hS5).mono ?_; rintro e w6 ⟨rfl, hb6⟩)
              go_ret2
              rw [if_neg h4] at hS
              exact ⟨_, by rw [hS.out]; rfl, by rw [hS.out]; exact OwG.lower (OwG.keep ho5 hb6) (Nat.le_trans hb.size hbr.size), Bl.call hbw hb6⟩
    · have hr := Lib.hid (show SumW a b = ((HullW b).1, []) by unfold SumW; rw [if_neg (by simpa using h1), if_pos h2])
      have q2 : ((HullW b).1 != 0) = true := by simpa using h2
      go_enter Tryz.func159, Tryz.ntmps159
      go_wp2_with (go_at_call 195; first | (refine (Hull_any _ _ _ b _ (by omega) (hsB.keep hb1) hzB).mono ?_; rintro e w2 ⟨v2, rfl, ho2, hb2⟩) | (refine (Hull_any _ _ _ a _ (by omega) hsA hzA).mono ?_; rintro e w1 ⟨v1, rfl, ho1, hb1⟩))
      go_ret2
      exact ⟨_, by rw [hr.out]; rfl, by rw [hr.out]; exact OwG.nil, Bl.call hb1 hb2⟩
  · have hr := Lib.hid (show SumW a b = ((HullW a).1, []) by unfold SumW; rw [if_pos h1])
    have q2 : ((HullW a).1 != 0) = true := by simpa using h1
    go_enter Tryz.func159, Tryz.ntmps159
    go_wp2_with (go_at_call 195; refine (Hull_any _ _ _ a _ (by omega) hsA hzA).mono ?_; rintro e w1 ⟨v1, rfl, ho1, hb1⟩)
    go_ret2
    exact ⟨_, by rw [hr.out]; rfl, by rw [hr.out]; exact OwG.nil, hb1⟩
end Go.Proofs.YtmdncaoilegnnaaGreat

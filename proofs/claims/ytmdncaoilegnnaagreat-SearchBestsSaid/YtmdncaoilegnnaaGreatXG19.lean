/- Lean texts of the claim. -/
import Derived.Test.YtmdncaoilegnnaaGreatXG17
import Derived.Test.YtmdncaoilegnnaaGreatXG18
import Derived.Deep.RegionLaw
namespace Go.Proofs.YtmdncaoilegnnaaGreat
set_option linter.unusedVariables false
set_option linter.unusedSimpArgs false
section
set_option maxRecDepth 100000
open Go.RowKit Go.Maps
section
variable {α : Type} [DecidableEq α]
def addTo (L xs : List α) (d : α) : Nat → List α
 | 0 => L
 | k + 1 => if xs.getD k d ∈ addTo L xs d k then addTo L xs d k else addTo L xs d k ++ [xs.getD k d]
def addW (L xs : List α) (d : α) : List α := addTo L xs d xs.length
theorem addTo_len (L xs : List α) (d : α) (k : Nat) : (addTo L xs d k).length ≤ L.length + k := by
 induction k with
 | zero => exact Nat.le_refl _
 | succ k ih =>
   rw [addTo]; split
   ·omega
   ·rw [List.length_append]; simp; omega
theorem addTo_mem {L xs : List α} {d : α} {k : Nat} (hk : k ≤ xs.length) {x : α} (h : x ∈ addTo L xs d k) : x ∈ L ∨ x ∈ xs := by
 induction k with
 | zero => exact .inl h
 | succ k ih =>
   rw [addTo] at h
   split at h
   ·exact ih (by omega) h
   ·rcases List.mem_append.1 h with h | h
    ·exact ih (by omega) h
    ·simp at h; subst h; right; simp [show k < xs.length by omega]
end
theorem step_app1 {P : Program} {w : World} {ops : Array Oper} {o : Oper} {a : Act} {K : Act → World → Prop} {Q : Exit → Act → World → Prop} {E : Prop} (hgd : o.guard = none) (s x : Operand) (t : TypeId)
 (ho : o.op = .call { callee := .builtin .append, args := #[s, x], argTypes := #[t, t] })
 {α : Type} (enc : α → List Value) (base : Nat) (e : TypeId) (i : TypeInfo) (z : Value) (size bytes : Nat) (ht : P.underlying t = some (.slice e)) (hi : P.info? e = some i) (hz : i.zero = some z)
 (hsize : i.size = size) (hby : i.bytes = bytes) (hzs : z.cells.size = size) (hsz : 0 < size) (henc : ∀ x, (enc x).length = size) (h1c : ∀ x, ∀ u ∈ enc x, u.oneCell' = true)
 (v : Value) (l : List α) (hs : a.eval s = v) (hown : OwG e size enc w base v l)
 (bx c : Nat) (p : α) (tb : TypeId) (hx : a.eval x = .slice (some ⟨bx, 0, none⟩) 1 c) (hnew : BlkS w bx tb (enc p).toArray)
 (hlen : l.length + 1 ≤ maxLen) (hbytes : (l.length + 1) * bytes ≤ 140737488355328) (hbase : base ≤ w.heap.size) (H : Nat) (hH : w.heap.size = H)
 (h : ∀ g cap w', OwG e size enc w' base (.slice (some ⟨g, 0, none⟩) (l.length + 1) cap) (l ++ [p]) → w.grownBy w' v.ownBlock → (v.ownBlock = some g ∨ g = H) → g < w'.heap.size → K (a.put o.dst (.slice (some ⟨g, 0, none⟩) (l.length + 1) cap)) w') :
 if Region.wanted o (yielded ops a.tmps) = true then Oper.wp P o a w K Q else E := by
 refine step_append_lies (P := P) w hgd s x t ho base e i z size bytes ht hi hz hsize hby hzs hsz v l.length (l.flatMap enc) hs hown ⟨bx, 0, none⟩ 1 c (enc p) hx (by rw [henc]; omega) ?_ (h1c p) (by omega) hlen hbytes hbase H hH ?_
 ·intro j u hj
  exact World.news_of_block (w := w) (B := bx) (cs := (enc p).toArray) (t := tb) (fr := (0, 0)) hnew j u (by simpa using hj)
 ·intro g cap w' ho' hg hat hlt
  refine h g cap w' ?_ hg hat hlt
  unfold OwG
  rw [List.length_append, List.flatMap_append]
  simpa using ho'
def BagS (w : World) (B hi : Nat) (L : List (Int × Int)) : Prop :=
 ∃ mv sv, BlkS w B 103 #[mv, sv] ∧ OwG 37 2 enS w B sv L ∧ ((mv = .map none ∧ L = []) ∨ ∃ bm, mv = .map (some bm) ∧ B < bm ∧ bm < hi ∧ OwSet Tryz.prog 37 4 okS klS w bm L.length L) ∧ (∀ k, sv.ownBlock = some k → B < k ∧ k < hi) ∧ B < hi
theorem BagS.keep {w w' : World} {B hi : Nat} {L : List (Int × Int)} (h : BagS w B hi L) (hb : Below w.heap.size w w') : BagS w' B hi L := by
 obtain ⟨mv, sv, h1, h2, h3, h4, h5⟩ := h
 refine ⟨mv, sv, h1.keep hb, h2.keep hb, ?_, h4, h5⟩
 rcases h3 with h3 | ⟨bm, e1, e2, e3, e4⟩
 ·exact .inl h3
 ·exact .inr ⟨bm, e1, e2, e3, e4.keep hb⟩
theorem BagS.mono {w : World} {B hi hi' : Nat} {L : List (Int × Int)} (h : BagS w B hi L) (hh : hi ≤ hi') : BagS w B hi' L := by
 obtain ⟨mv, sv, h1, h2, h3, h4, h5⟩ := h
 refine ⟨mv, sv, h1, h2, ?_, fun k hk => ⟨(h4 k hk).1, Nat.lt_of_lt_of_le (h4 k hk).2 hh⟩, by omega⟩
 rcases h3 with h3 | ⟨bm, e1, e2, e3, e4⟩
 ·exact .inl h3
 ·exact .inr ⟨bm, e1, e2, by omega, e4⟩
theorem BagS.new (w : World) : BagS (w.alloc (.cells #[.map none, .slice none 0 0] 103)) w.heap.size (w.heap.size + 1) [] :=
 ⟨_, _, BlkS.new _ _ _, OwG.nil, .inl ⟨rfl, rfl⟩, (fun k hk => by cases hk), by omega⟩
theorem BlB.drew {B : Nat} {a w : World} (h : Below B a w) : Below B a w.drew := ⟨h.os, h.tape, h.output, h.size, h.block⟩
theorem BlB.drewN {B : Nat} {a w : World} (h : Below B a w) (n : Nat) : Below B a (w.drewN n) := ⟨h.os, h.tape, h.output, h.size, h.block⟩
def AvS (w : World) (B s : Nat) : Prop := s < w.heap.size ∧ s ≠ B ∧ ∀ mv sv, BlkS w B 103 #[mv, sv] → sv.ownBlock ≠ some s ∧ mv ≠ .map (some s)
theorem avS {w : World} {B s bm : Nat} {sv : Value} (h1 : BlkS w B 103 #[.map (some bm), sv]) (h2 : sv.ownBlock ≠ some s) (h3 : bm ≠ s) : ∀ mv sv, BlkS w B 103 #[mv, sv] → sv.ownBlock ≠ some s ∧ mv ≠ .map (some s) := by
 intro mv sv' h
 unfold BlkS at h h1
 rw [h1] at h
 simp at h
 obtain ⟨rfl, rfl⟩ := h
 exact ⟨h2, by simp; exact h3⟩
theorem BagS.av {w : World} {B hi s : Nat} {L : List (Int × Int)} (h : BagS w B hi L) (hs : hi ≤ s) (hs2 : s < w.heap.size) : AvS w B s := by
 obtain ⟨mv, sv, h1, h2, h3, h4, h5⟩ := h
 refine ⟨hs2, by omega, fun mv' sv' h => ?_⟩
 unfold BlkS at h h1
 rw [h1] at h
 simp at h
 obtain ⟨rfl, rfl⟩ := h
 refine ⟨fun e => by have := (h4 s e).2; omega, ?_⟩
 rcases h3 with ⟨rfl, _⟩ | ⟨bm, rfl, _, e3, _⟩
 ·simp
 ·simp; omega
theorem AvS.keep {w w' : World} {B s : Nat} (h : AvS w B s) (hB : B < w.heap.size) (hb : Below w.heap.size w w') : AvS w' B s :=
 ⟨Nat.lt_of_lt_of_le h.1 hb.size, h.2.1, fun mv sv h' => h.2.2 mv sv ((hb.block B hB).symm.trans h')⟩
def AddS (wq : World) (B s : Nat) (L : List (Int × Int)) (e : Ending) (w' : World) : Prop := e = .returned (.tuple #[]) ∧ BagS w' B w'.heap.size L ∧ Below B wq w' ∧ wq.heap.size ≤ w'.heap.size ∧ w'.heap[s]? = wq.heap[s]? ∧ AvS w' B s
theorem addS_end {B bm bx n k gg cap : Nat} {x : (Int × Int)} {L xs : List (Int × Int)} {w wu wv : World} {sv : Value} {o : Obj} (hst : Hid (addTo L xs (0, 0) (k + 1) = addTo L xs (0, 0) k ++ [x])) (hlt : k < n)
 (f1v : BlkS wv B 103 #[.map (some bm), sv]) (f2u : OwG 37 2 enS wu B sv (addTo L xs (0, 0) k)) (gu : OwSet Tryz.prog 37 4 okS klS wu bm ((addTo L xs (0, 0) k).length + 1) (addTo L xs (0, 0) k ++ [x])) (f4 : ∀ k, sv.ownBlock = some k → B < k ∧ k ≠ bx)
 (f5u : BlkS wu bx 37 (xs.flatMap enS).toArray) (f6u : Below B w wu) (f7u : w.heap.size ≤ wu.heap.size) (hov : OwG 37 2 enS wv B (.slice (some ⟨gg, 0, none⟩) ((addTo L xs (0, 0) k).length + 1) cap) (addTo L xs (0, 0) k ++ [x]))
 (hgv : (wu.alloc o).drew.grownBy wv sv.ownBlock) (hat : sv.ownBlock = some gg ∨ gg = wu.heap.size + 1) (hBm : B < bm) {s : Nat} (hsl : s < w.heap.size) (hsB : s ≠ B) (hsm : bm ≠ s) (f8u : wu.heap[s]? = w.heap[s]?) (f9 : sv.ownBlock ≠ some s) :
 (∃ (k_1 : Nat) (sv : Value), k_1 ≤ n ∧ Value.int IntKind.i64 ((k : Int) + 1) = .int .i64 k_1 ∧ BlkS (wv.setCell ⟨B, 1, none⟩ (.slice (some ⟨gg, 0, none⟩) ((addTo L xs (0, 0) k).length + 1) cap)) B 103 #[.map (some bm), sv] ∧ OwG 37 2 enS (wv.setCell ⟨B, 1, none⟩ (.slice (some ⟨gg, 0, none⟩) ((addTo L xs (0, 0) k).length + 1) cap)) B sv (addTo L xs (0, 0) k_1) ∧ OwSet Tryz.prog 37 4 okS klS (wv.setCell ⟨B, 1, none⟩ (.slice (some ⟨gg, 0, none⟩) ((addTo L xs (0, 0) k).length + 1) cap)) bm (addTo L xs (0, 0) k_1).length (addTo L xs (0, 0) k_1) ∧ (∀ k, sv.ownBlock = some k → B < k ∧ k ≠ bx) ∧ BlkS (wv.setCell ⟨B, 1, none⟩ (.slice (some ⟨gg, 0, none⟩) ((addTo L xs (0, 0) k).length + 1) cap)) bx 37 (xs.flatMap enS).toArray ∧ Below B w (wv.setCell ⟨B, 1, none⟩ (.slice (some ⟨gg, 0, none⟩) ((addTo L xs (0, 0) k).length + 1) cap)) ∧ w.heap.size ≤ (wv.setCell ⟨B, 1, none⟩ (.slice (some ⟨gg, 0, none⟩) ((addTo L xs (0, 0) k).length + 1) cap)).heap.size ∧ Hid ((wv.setCell ⟨B, 1, none⟩ (.slice (some ⟨gg, 0, none⟩) ((addTo L xs (0, 0) k).length + 1) cap)).heap[s]? = w.heap[s]?) ∧ sv.ownBlock ≠ some s) := by
 have hmap : ∀ cs t fr, wu.heap[bm]? ≠ some (.cells cs t fr) := fun cs t fr h => by obtain ⟨es, cc, hq⟩ := gu.isMap; rw [hq] at h; cases h
 have hbmu := gu.lt
 have hbxu := f5u.lt
 have hgg : B < gg ∧ gg ≠ bx := by
  rcases hat with h | h
  ·exact f4 gg h
  ·omega
 have hblk : (Value.slice (some ⟨gg, 0, none⟩) ((addTo L xs (0, 0) k).length + 1) cap).ownBlock = some gg := rfl
 have hxB : bx ≠ B := by
  intro e
  subst e
  have h1 := (hgv.block bx (by simp; omega) (by intro e2; exact (f4 bx e2.symm).2 rfl))
  have h2 := f5u.alloc o
  unfold BlkS at h2 f1v
  rw [f1v] at h1
  have h3 : (wu.alloc o).drew.heap[bx]? = some (.cells (xs.flatMap enS).toArray 37 (0, 0)) := h2
  rw [h3] at h1
  injection h1 with h1
  injection h1 with _ h1
  exact absurd h1 (by decide)
 refine ⟨k + 1, .slice (some ⟨gg, 0, none⟩) ((addTo L xs (0, 0) k).length + 1) cap, by omega, by go_num, f1v.set_ 1 _, by rw [hst.out]; exact OwG.far hov (by rw [hblk]; intro e; injection e with e; exact absurd e (Nat.ne_of_gt hgg.1)) _, ?_, ?_, ?_, ?_, ?_, ?_, ?_⟩
 ·rw [hst.out, List.length_append]
  exact ((gu.alloc o).keep (Bl.drew Br)).kept hgv (OwG.notMap f2u hmap).symm |>.kept (row := some B) ⟨rfl, rfl, rfl, by simp [World.setCell], fun j _ hne => Below.heap_setCell _ _ _ j (fun e => hne (by rw [e]))⟩ (by intro e; injection e with e; omega)
 ·intro j hj
  rw [hblk] at hj
  injection hj with hj
  subst hj
  exact hgg
 ·exact (BlkS.grown ((f5u.alloc o).drew) hgv (by intro e; exact (f4 bx e.symm).2 rfl)).far hxB _
 ·refine Below.setCell (Below.grown (BlB.drew (Below.alloc f6u (by omega) o)) hgv (by simp; omega) (fun j hj => Nat.le_of_lt (f4 j hj).1)) (Nat.le_refl _) _
 ·have := hgv.size
  simp [World.setCell] at this ⊢
  omega
 ·refine Hj ((Below.heap_setCell wv _ _ s (by exact hsB)).trans ((hgv.block s (by simp; omega) (fun e => f9 e.symm)).trans ((Below.heap_alloc wu o s (by omega)).trans f8u)))
 ·rw [hblk]; intro e; injection e with e
  rcases hat with h | h
  ·exact f9 (by rw [h, e])
  ·omega
set_option maxHeartbeats 2000000 in
theorem addS_any (B hi bx n c : Nat) (L xs : List (Int × Int)) (w : World) (hn : xs.length = n) (hn1 : n ≤ 1000) (hL : L.length ≤ 1000000000000) (hX : BlkS w bx 37 (xs.flatMap enS).toArray) (hbx : hi ≤ bx) (hok : ∀ x ∈ xs, okS x) (hB : BagS w B hi L) (s : Nat) (hav : AvS w B s) :
 Calls Tryz.prog 61 #[.pointer (some ⟨B, 0, none⟩), .slice (some ⟨bx, 0, none⟩) n c] w (AddS w B s (addW L xs (0, 0))) := by
 have hz := zeroB
 have HN := Hj hn
 have HOK := Hj hok
 have HW := Hj (show addW L xs (0, 0) = addTo L xs (0, 0) n by unfold addW; rw [hn])
 clear hn hok
 obtain ⟨mv, sv, k1, k2, k3, k4, k5⟩ := hB
 have hsl := hav.1
 have hsB := hav.2.1
 have k9 := hav.2.2 mv sv k1
 clear hav
 rcases k3 with ⟨rfl, hLn⟩ | ⟨bm, rfl, hBm, hbm, k3⟩
 ·have hmm := @run_makeMap Tryz.prog
  have heq := fun (w : World) => run_eql_map_nil (P := Tryz.prog) w 101 37 4 none Tryz.underlying101
  obtain ⟨m1, m2, m3, m4, m5⟩ := k1.cells2
  obtain ⟨bm, hbm⟩ : ∃ bm, bm = w.heap.size := ⟨_, rfl⟩
  have hBm : B < bm := by omega
  have k3 : True := trivial
  have HLN := Hj hLn
  clear hLn
  go_enter Tryz.func61, Tryz.ntmps61
  go_upto_region 2 with fail
  clear hmm heq
  rw [← hbm]
  have hsz0 : (w.setCell ⟨B, 0, none⟩ (.map (some bm))).heap.size = bm := by rw [hbm]; simp [World.setCell]
  have hs1 : OwSet Tryz.prog 37 4 okS klS ((w.setCell ⟨B, 0, none⟩ (.map (some bm))).alloc (.map #[] 0)) bm L.length L := by
   rw [HLN.out]
   have h9 := OwSet.made (P := Tryz.prog) (k := 37) (e := 4) (ok := okS) (kl := klS) (w.setCell ⟨B, 0, none⟩ (.map (some bm)))
   rw [hsz0] at h9
   exact h9
  have hbm2 : w.heap.size ≤ bm := by omega
  have hbxm : bx ≠ bm := by have := hX.lt; omega
  have hsm : bm ≠ s := by omega
  have hL0 : Hid ((w.setCell ⟨B, 0, none⟩ (.map (some bm))).heap.size = bm) := hsz0
  clear m1 m2 m3 m4 hsz0 hbm
  refine wp_world (fun X => ∃ sv, BlkS X B 103 #[.map (some bm), sv] ∧ OwG 37 2 enS X B sv L ∧ OwSet Tryz.prog 37 4 okS klS X bm L.length L ∧ (∀ k, sv.ownBlock = some k → B < k ∧ k ≠ bx) ∧ BlkS X bx 37 (xs.flatMap enS).toArray ∧ Below B w X ∧ w.heap.size ≤ X.heap.size ∧ X.heap[s]? = w.heap[s]? ∧ sv.ownBlock ≠ some s) ⟨sv, (k1.set_ 0 _).alloc _, OwG.alloc (OwG.far k2 (fun e => Nat.lt_irrefl _ (k4 B e).1) _) _, hs1, fun k hk => ⟨(k4 k hk).1, by have := (k4 k hk).2; omega⟩, (hX.far (p := ⟨B, 0, none⟩) (Nat.ne_of_gt (Nat.lt_of_lt_of_le k5 hbx)) _).alloc _, Below.alloc (Below.setCell Br (Nat.le_refl _) _) (by rw [hL0.out]; exact Nat.le_of_lt hBm) _, by simp [World.setCell], (Below.heap_alloc _ _ s (by rw [hL0.out]; omega)).trans (Below.heap_setCell w ⟨B, 0, none⟩ _ s hsB), k9.1⟩ ?_
  rintro wl ⟨sv2, f1, f2, f3, f4, f5, f6, f7, f8, f9⟩
  clear k1 k2 k3 k4 hX hz
  go_wp2_with fail
  go_loopw [17] (fun i wr => ∃ (k : Nat) (sv : Value), k ≤ n ∧ i = .int .i64 k ∧ BlkS wr B 103 #[.map (some bm), sv] ∧ OwG 37 2 enS wr B sv (addTo L xs (0, 0) k) ∧ OwSet Tryz.prog 37 4 okS klS wr bm (addTo L xs (0, 0) k).length (addTo L xs (0, 0) k) ∧ (∀ k, sv.ownBlock = some k → B < k ∧ k ≠ bx) ∧ BlkS wr bx 37 (xs.flatMap enS).toArray ∧ Below B w wr ∧ w.heap.size ≤ wr.heap.size ∧ Hid (wr.heap[s]? = w.heap[s]?) ∧ sv.ownBlock ≠ some s) (fun i _ => n - (intOf i).toNat)
  case atStart => exact ⟨0, sv2, Nat.zero_le _, rfl, f1, f2, f3, f4, f5, f6, f7, Hj f8, f9⟩
  case round =>
   clear f1 f2 f3 f4 f5 f6 f7 f8 f9
   obtain ⟨k, sv, hk, rfl, f1, f2, f3, f4, f5, f6, f7, f8, f9⟩ := hrel
   have hlen := addTo_len L xs (0, 0) k
   by_cases hlt : k < n
   ·have hkx : k < xs.length := by rw [HN.out]; exact hlt
    obtain ⟨x, hx⟩ : ∃ x, xs.getD k (0, 0) = x := ⟨_, rfl⟩
    have hxk : xs[k]? = some x := by rw [← hx, List.getD, List.getElem?_eq_getElem hkx]; rfl
    have hxok : okS x := HOK.out x (List.mem_of_getElem? hxk)
    have HX := Hj hx
    have d0 := (f5.cell (k * 2)).trans (by have := flat_at enS_len xs k 0 x hxk (by omega); simpa using this)
    have d1 := (f5.cell (k * 2 + 1)).trans (by have := flat_at enS_len xs k 1 x hxk (by omega); simpa using this)
    simp only [enS, List.getElem?_cons_zero, List.getElem?_cons_succ] at d0 d1
    clear hx hxk
    have bl := f5.lt
    obtain ⟨m1, m2, m3, m4, m5⟩ := f1.cells2
    obtain ⟨x1, x2⟩ := x
    by_cases hin : (x1, x2) ∈ addTo L xs (0, 0) k
    ·have hst := Hj (show addTo L xs (0, 0) (k + 1) = addTo L xs (0, 0) k by rw [addTo, HX.out, if_pos hin])
     have hgt : ∀ q, (Instr.lookup 101 (.map (some bm)) (.agg #[.int .i64 x1, .int .i64 x2]) false).run Tryz.prog ((wr.alloc (.cells #[.int .i64 x1, .int .i64 x2] 37)).drewN q) = .ok (.bool true) ((wr.alloc (.cells #[.int .i64 x1, .int .i64 x2] 37)).drewN q) := by
      intro q
      have h9 := OwSet.get (t := 101) repS Tryz.underlying101 Tryz.underlying4 (zeroB _) ((f3.alloc (.cells #[.int .i64 x1, .int .i64 x2] 37)).keep (Bl.drewN Br q)) (x := (x1, x2)) hxok
      refine h9.trans ?_
      simp [hin]
     go_wp2_with fail
     go_quiet (fail)
     clear hgt
     go_wp2_with fail
     exact ⟨⟨k + 1, sv, by omega, by go_num, (f1.alloc _).drewN _, by rw [hst.out]; exact OwG.keep (OwG.alloc f2 _) (Bl.drewN Br _), by rw [hst.out]; exact (f3.alloc _).keep (Bl.drewN Br _), f4, (f5.alloc _).drewN _, BlB.drewN (Below.alloc f6 (by omega) _) _, by simp; omega, Hj ((Below.heap_alloc wr _ s (by omega)).trans f8.out), f9⟩, by simp [intOf]; omega⟩
    ·have hst := Hj (show addTo L xs (0, 0) (k + 1) = addTo L xs (0, 0) k ++ [(x1, x2)] by rw [addTo, HX.out, if_neg hin])
     have hgt : ∀ q, (Instr.lookup 101 (.map (some bm)) (.agg #[.int .i64 x1, .int .i64 x2]) false).run Tryz.prog ((wr.alloc (.cells #[.int .i64 x1, .int .i64 x2] 37)).drewN q) = .ok (.bool false) ((wr.alloc (.cells #[.int .i64 x1, .int .i64 x2] 37)).drewN q) := by
      intro q
      have h9 := OwSet.get (t := 101) repS Tryz.underlying101 Tryz.underlying4 (zeroB _) ((f3.alloc (.cells #[.int .i64 x1, .int .i64 x2] 37)).keep (Bl.drewN Br q)) (x := (x1, x2)) hxok
      refine h9.trans ?_
      simp [hin]
     go_wp2_with fail
     go_quiet (fail)
     clear hgt
     have f1a := (f1.alloc (.cells #[.int .i64 x1, .int .i64 x2] 37)).drewN nq
     have f2a := OwG.keep (OwG.alloc f2 (.cells #[.int .i64 x1, .int .i64 x2] 37)) (Bl.drewN Br nq)
     have f3a := (f3.alloc (.cells #[.int .i64 x1, .int .i64 x2] 37)).keep (Bl.drewN Br nq)
     have f5a := (f5.alloc (.cells #[.int .i64 x1, .int .i64 x2] 37)).drewN nq
     have f6a := BlB.drewN (Below.alloc f6 (by omega) (.cells #[.int .i64 x1, .int .i64 x2] 37)) nq
     have hxa := (BlkS.new wr 37 #[.int .i64 x1, .int .i64 x2]).drewN nq
     have f8a : ((wr.alloc (.cells #[.int .i64 x1, .int .i64 x2] 37)).drewN nq).heap[s]? = w.heap[s]? := (Below.heap_alloc wr _ s (by omega)).trans f8.out
     have f7a : w.heap.size ≤ ((wr.alloc (.cells #[.int .i64 x1, .int .i64 x2] 37)).drewN nq).heap.size := by simp; omega
     obtain ⟨bq, hbq⟩ : ∃ bq, bq = wr.heap.size := ⟨_, rfl⟩
     have hbq1 : bx < bq := by omega
     have hbq2 : B < bq := by omega
     have hbq3 : bm < bq := by have := f3.lt; omega
     have hbq4 : ∀ k, sv.ownBlock = some k → k < bq := fun k hk => by rw [hbq]; exact (OwG.lt f2 k hk).2
     go_upto_region 6 with fail
     rw [← hbq] at hxa ⊢
     refine wp_world (fun X => BlkS X B 103 #[.map (some bm), sv] ∧ OwG 37 2 enS X B sv (addTo L xs (0, 0) k) ∧ OwSet Tryz.prog 37 4 okS klS X bm (addTo L xs (0, 0) k).length (addTo L xs (0, 0) k) ∧ BlkS X bx 37 (xs.flatMap enS).toArray ∧ BlkS X bq 37 #[.int .i64 x1, .int .i64 x2] ∧ Below B w X ∧ w.heap.size ≤ X.heap.size ∧ Hid (X.heap[s]? = w.heap[s]?)) ⟨f1a, f2a, f3a, f5a, hxa, f6a, f7a, Hj f8a⟩ ?_
     clear f1a f2a f3a f5a hxa f6a f7a f8a f1 f2 f3 f5 f6 f7 f8 hbq d0 d1 m1 m2 m3 m4 m5 bl
     rintro wz ⟨f1, f2, f3, f5, fx, f6, f7, f8⟩
     obtain ⟨m1, m2, m3, m4, m5⟩ := f1.cells2
     obtain ⟨y1, y2, y3, y4, y5⟩ := fx.cells2
     refine wp_region_tailD 5 (by kernel_rfl) (by kernel_rfl) ?_
     simp only [List.take_succ_cons, List.take_zero, List.drop_succ_cons, List.drop_zero]
     repeat still_step
     refine wpStill_nil ?_
     go_wp2_with (at_mapUpdate; refine wpList_setPut rfl _ _ _ 101 rfl repS Tryz.underlying101 Tryz.underlying4 rfl (f3.keep (Bl.drew Br)) (by unfold maxLen; omega) (x1, x2) hxok rfl rfl ?_; intro wu gu hu)
     have hnm : sv.ownBlock ≠ some bm := OwG.notMap f2 (fun cs t fr h => by obtain ⟨es, cc, hq⟩ := f3.isMap; rw [hq] at h; cases h)
     have f1u := BlkS.grown f1.drew hu (by intro e; injection e with e; omega)
     have f2u := OwG.kept (OwG.keep f2 (Bl.drew Br)) hu (Or.inr hnm)
     have f5u := BlkS.grown f5.drew hu (by intro e; injection e with e; omega)
     have fxu := BlkS.grown fx.drew hu (by intro e; injection e with e; omega)
     have f6u : Below B w wu := Below.grown (BlB.drew f6) hu (by have := m5; simp; omega) (fun j hj => by cases hj; omega)
     have f7u : w.heap.size ≤ wu.heap.size := Nat.le_trans f7 hu.size
     have f8u : Hid (wu.heap[s]? = w.heap[s]?) := Hj ((hu.block s (by show s < wz.heap.size; omega) (by intro e; injection e with e; omega)).trans f8.out)
     clear f1 f2 f3 f5 fx f6 f7 f8 hu hnm m1 m2 m3 m4 m5 y1 y2 y3 y4 y5
     obtain ⟨m1, m2, m3, m4, m5⟩ := f1u.cells2
     obtain ⟨y1, y2, y3, y4, y5⟩ := fxu.cells2
     obtain ⟨i0, hi0, hz0, hz1, hz2⟩ := info_parts infoS
     have hsz := addTo_len L xs (0, 0) k
     go_region_law ((refine step_app1 rfl _ _ 47 rfl enS B 37 i0 (.agg #[.int .i64 0, .int .i64 0]) 2 16 Tryz.underlying47 hi0 hz0 hz1 hz2 rfl (by omega) enS_len enS_one sv (addTo L xs (0, 0) k) rfl (OwG.keep (OwG.alloc f2u _) (Bl.drew Br)) wu.heap.size 1 (x1, x2) 37 rfl (BlkS.drew (BlkS.new _ _ _)) (by unfold maxLen; omega) (by omega) (by simp; omega) (wu.heap.size + 1) (by simp) ?_; intro gg cap wv hov hgv hat hlv; have f1v := BlkS.grown ((f1u.alloc _).drew) hgv (by intro e; exact Nat.lt_irrefl _ (f4 _ e.symm).1); obtain ⟨p1, p2, p3, p4, p5⟩ := f1v.cells2))
     all_goals go_wp2_with fail
     all_goals exact ⟨addS_end hst hlt f1v f2u gu f4 f5u f6u f7u hov hgv hat hBm hsl hsB hsm f8u.out f9, by simp [intOf]; omega⟩
   ·obtain rfl : n = k := by omega
    go_wp2_with fail
    go_end0
    refine ⟨rfl, ⟨_, sv, f1, by rw [HW.out]; exact f2, .inr ⟨bm, rfl, hBm, f3.lt, by rw [HW.out]; exact f3⟩, fun k hk => ⟨(f4 k hk).1, (OwG.lt f2 k hk).2⟩, f1.lt⟩, f6, f7, f8.out, by omega, hsB, avS f1 f9 hsm⟩
 ·have heq := fun (w : World) => run_eql_map_nil (P := Tryz.prog) w 101 37 4 (some bm) Tryz.underlying101
  obtain ⟨m1, m2, m3, m4, m5⟩ := k1.cells2
  go_enter Tryz.func61, Tryz.ntmps61
  go_upto_region 2 with fail
  clear heq m1 m2 m3 m4 m5
  have hbxm : bx ≠ bm := by omega
  have hsm : bm ≠ s := fun e => k9.2 (by rw [e])
  refine wp_world (fun X => ∃ sv, BlkS X B 103 #[.map (some bm), sv] ∧ OwG 37 2 enS X B sv L ∧ OwSet Tryz.prog 37 4 okS klS X bm L.length L ∧ (∀ k, sv.ownBlock = some k → B < k ∧ k ≠ bx) ∧ BlkS X bx 37 (xs.flatMap enS).toArray ∧ Below B w X ∧ w.heap.size ≤ X.heap.size ∧ X.heap[s]? = w.heap[s]? ∧ sv.ownBlock ≠ some s) ⟨sv, k1, k2, k3, fun k hk => ⟨(k4 k hk).1, by have := (k4 k hk).2; omega⟩, hX, Below.refl _ _, Nat.le_refl _, rfl, k9.1⟩ ?_
  rintro wl ⟨sv2, f1, f2, f3, f4, f5, f6, f7, f8, f9⟩
  clear k1 k2 k3 k4 hX hz
  go_wp2_with fail
  go_loopw [17] (fun i wr => ∃ (k : Nat) (sv : Value), k ≤ n ∧ i = .int .i64 k ∧ BlkS wr B 103 #[.map (some bm), sv] ∧ OwG 37 2 enS wr B sv (addTo L xs (0, 0) k) ∧ OwSet Tryz.prog 37 4 okS klS wr bm (addTo L xs (0, 0) k).length (addTo L xs (0, 0) k) ∧ (∀ k, sv.ownBlock = some k → B < k ∧ k ≠ bx) ∧ BlkS wr bx 37 (xs.flatMap enS).toArray ∧ Below B w wr ∧ w.heap.size ≤ wr.heap.size ∧ Hid (wr.heap[s]? = w.heap[s]?) ∧ sv.ownBlock ≠ some s) (fun i _ => n - (intOf i).toNat)
  case atStart => exact ⟨0, sv2, Nat.zero_le _, rfl, f1, f2, f3, f4, f5, f6, f7, Hj f8, f9⟩
  case round =>
   clear f1 f2 f3 f4 f5 f6 f7 f8 f9
   obtain ⟨k, sv, hk, rfl, f1, f2, f3, f4, f5, f6, f7, f8, f9⟩ := hrel
   have hlen := addTo_len L xs (0, 0) k
   by_cases hlt : k < n
   ·have hkx : k < xs.length := by rw [HN.out]; exact hlt
    obtain ⟨x, hx⟩ : ∃ x, xs.getD k (0, 0) = x := ⟨_, rfl⟩
    have hxk : xs[k]? = some x := by rw [← hx, List.getD, List.getElem?_eq_getElem hkx]; rfl
    have hxok : okS x := HOK.out x (List.mem_of_getElem? hxk)
    have HX := Hj hx
    have d0 := (f5.cell (k * 2)).trans (by have := flat_at enS_len xs k 0 x hxk (by omega); simpa using this)
    have d1 := (f5.cell (k * 2 + 1)).trans (by have := flat_at enS_len xs k 1 x hxk (by omega); simpa using this)
    simp only [enS, List.getElem?_cons_zero, List.getElem?_cons_succ] at d0 d1
    clear hx hxk
    have bl := f5.lt
    obtain ⟨m1, m2, m3, m4, m5⟩ := f1.cells2
    obtain ⟨x1, x2⟩ := x
    by_cases hin : (x1, x2) ∈ addTo L xs (0, 0) k
    ·have hst := Hj (show addTo L xs (0, 0) (k + 1) = addTo L xs (0, 0) k by rw [addTo, HX.out, if_pos hin])
     have hgt : ∀ q, (Instr.lookup 101 (.map (some bm)) (.agg #[.int .i64 x1, .int .i64 x2]) false).run Tryz.prog ((wr.alloc (.cells #[.int .i64 x1, .int .i64 x2] 37)).drewN q) = .ok (.bool true) ((wr.alloc (.cells #[.int .i64 x1, .int .i64 x2] 37)).drewN q) := by
      intro q
      have h9 := OwSet.get (t := 101) repS Tryz.underlying101 Tryz.underlying4 (zeroB _) ((f3.alloc (.cells #[.int .i64 x1, .int .i64 x2] 37)).keep (Bl.drewN Br q)) (x := (x1, x2)) hxok
      refine h9.trans ?_
      simp [hin]
     go_wp2_with fail
     go_quiet (fail)
     clear hgt
     go_wp2_with fail
     exact ⟨⟨k + 1, sv, by omega, by go_num, (f1.alloc _).drewN _, by rw [hst.out]; exact OwG.keep (OwG.alloc f2 _) (Bl.drewN Br _), by rw [hst.out]; exact (f3.alloc _).keep (Bl.drewN Br _), f4, (f5.alloc _).drewN _, BlB.drewN (Below.alloc f6 (by omega) _) _, by simp; omega, Hj ((Below.heap_alloc wr _ s (by omega)).trans f8.out), f9⟩, by simp [intOf]; omega⟩
    ·have hst := Hj (show addTo L xs (0, 0) (k + 1) = addTo L xs (0, 0) k ++ [(x1, x2)] by rw [addTo, HX.out, if_neg hin])
     have hgt : ∀ q, (Instr.lookup 101 (.map (some bm)) (.agg #[.int .i64 x1, .int .i64 x2]) false).run Tryz.prog ((wr.alloc (.cells #[.int .i64 x1, .int .i64 x2] 37)).drewN q) = .ok (.bool false) ((wr.alloc (.cells #[.int .i64 x1, .int .i64 x2] 37)).drewN q) := by
      intro q
      have h9 := OwSet.get (t := 101) repS Tryz.underlying101 Tryz.underlying4 (zeroB _) ((f3.alloc (.cells #[.int .i64 x1, .int .i64 x2] 37)).keep (Bl.drewN Br q)) (x := (x1, x2)) hxok
      refine h9.trans ?_
      simp [hin]
     go_wp2_with fail
     go_quiet (fail)
     clear hgt
     have f1a := (f1.alloc (.cells #[.int .i64 x1, .int .i64 x2] 37)).drewN nq
     have f2a := OwG.keep (OwG.alloc f2 (.cells #[.int .i64 x1, .int .i64 x2] 37)) (Bl.drewN Br nq)
     have f3a := (f3.alloc (.cells #[.int .i64 x1, .int .i64 x2] 37)).keep (Bl.drewN Br nq)
     have f5a := (f5.alloc (.cells #[.int .i64 x1, .int .i64 x2] 37)).drewN nq
     have f6a := BlB.drewN (Below.alloc f6 (by omega) (.cells #[.int .i64 x1, .int .i64 x2] 37)) nq
     have hxa := (BlkS.new wr 37 #[.int .i64 x1, .int .i64 x2]).drewN nq
     have f8a : ((wr.alloc (.cells #[.int .i64 x1, .int .i64 x2] 37)).drewN nq).heap[s]? = w.heap[s]? := (Below.heap_alloc wr _ s (by omega)).trans f8.out
     have f7a : w.heap.size ≤ ((wr.alloc (.cells #[.int .i64 x1, .int .i64 x2] 37)).drewN nq).heap.size := by simp; omega
     obtain ⟨bq, hbq⟩ : ∃ bq, bq = wr.heap.size := ⟨_, rfl⟩
     have hbq1 : bx < bq := by omega
     have hbq2 : B < bq := by omega
     have hbq3 : bm < bq := by have := f3.lt; omega
     have hbq4 : ∀ k, sv.ownBlock = some k → k < bq := fun k hk => by rw [hbq]; exact (OwG.lt f2 k hk).2
     go_upto_region 6 with fail
     rw [← hbq] at hxa ⊢
     refine wp_world (fun X => BlkS X B 103 #[.map (some bm), sv] ∧ OwG 37 2 enS X B sv (addTo L xs (0, 0) k) ∧ OwSet Tryz.prog 37 4 okS klS X bm (addTo L xs (0, 0) k).length (addTo L xs (0, 0) k) ∧ BlkS X bx 37 (xs.flatMap enS).toArray ∧ BlkS X bq 37 #[.int .i64 x1, .int .i64 x2] ∧ Below B w X ∧ w.heap.size ≤ X.heap.size ∧ Hid (X.heap[s]? = w.heap[s]?)) ⟨f1a, f2a, f3a, f5a, hxa, f6a, f7a, Hj f8a⟩ ?_
     clear f1a f2a f3a f5a hxa f6a f7a f8a f1 f2 f3 f5 f6 f7 f8 hbq d0 d1 m1 m2 m3 m4 m5 bl
     rintro wz ⟨f1, f2, f3, f5, fx, f6, f7, f8⟩
     obtain ⟨m1, m2, m3, m4, m5⟩ := f1.cells2
     obtain ⟨y1, y2, y3, y4, y5⟩ := fx.cells2
     refine wp_region_tailD 5 (by kernel_rfl) (by kernel_rfl) ?_
     simp only [List.take_succ_cons, List.take_zero, List.drop_succ_cons, List.drop_zero]
     repeat still_step
     refine wpStill_nil ?_
     go_wp2_with (at_mapUpdate; refine wpList_setPut rfl _ _ _ 101 rfl repS Tryz.underlying101 Tryz.underlying4 rfl (f3.keep (Bl.drew Br)) (by unfold maxLen; omega) (x1, x2) hxok rfl rfl ?_; intro wu gu hu)
     have hnm : sv.ownBlock ≠ some bm := OwG.notMap f2 (fun cs t fr h => by obtain ⟨es, cc, hq⟩ := f3.isMap; rw [hq] at h; cases h)
     have f1u := BlkS.grown f1.drew hu (by intro e; injection e with e; omega)
     have f2u := OwG.kept (OwG.keep f2 (Bl.drew Br)) hu (Or.inr hnm)
     have f5u := BlkS.grown f5.drew hu (by intro e; injection e with e; omega)
     have fxu := BlkS.grown fx.drew hu (by intro e; injection e with e; omega)
     have f6u : Below B w wu := Below.grown (BlB.drew f6) hu (by have := m5; simp; omega) (fun j hj => by cases hj; omega)
     have f7u : w.heap.size ≤ wu.heap.size := Nat.le_trans f7 hu.size
     have f8u : Hid (wu.heap[s]? = w.heap[s]?) := Hj ((hu.block s (by show s < wz.heap.size; omega) (by intro e; injection e with e; omega)).trans f8.out)
     clear f1 f2 f3 f5 fx f6 f7 f8 hu hnm m1 m2 m3 m4 m5 y1 y2 y3 y4 y5
     obtain ⟨m1, m2, m3, m4, m5⟩ := f1u.cells2
     obtain ⟨y1, y2, y3, y4, y5⟩ := fxu.cells2
     obtain ⟨i0, hi0, hz0, hz1, hz2⟩ := info_parts infoS
     have hsz := addTo_len L xs (0, 0) k
     go_region_law ((refine step_app1 rfl _ _ 47 rfl enS B 37 i0 (.agg #[.int .i64 0, .int .i64 0]) 2 16 Tryz.underlying47 hi0 hz0 hz1 hz2 rfl (by omega) enS_len enS_one sv (addTo L xs (0, 0) k) rfl (OwG.keep (OwG.alloc f2u _) (Bl.drew Br)) wu.heap.size 1 (x1, x2) 37 rfl (BlkS.drew (BlkS.new _ _ _)) (by unfold maxLen; omega) (by omega) (by simp; omega) (wu.heap.size + 1) (by simp) ?_; intro gg cap wv hov hgv hat hlv; have f1v := BlkS.grown ((f1u.alloc _).drew) hgv (by intro e; exact Nat.lt_irrefl _ (f4 _ e.symm).1); obtain ⟨p1, p2, p3, p4, p5⟩ := f1v.cells2))
     all_goals go_wp2_with fail
     all_goals exact ⟨addS_end hst hlt f1v f2u gu f4 f5u f6u f7u hov hgv hat hBm hsl hsB hsm f8u.out f9, by simp [intOf]; omega⟩
   ·obtain rfl : n = k := by omega
    go_wp2_with fail
    go_end0
    refine ⟨rfl, ⟨_, sv, f1, by rw [HW.out]; exact f2, .inr ⟨bm, rfl, hBm, f3.lt, by rw [HW.out]; exact f3⟩, fun k hk => ⟨(f4 k hk).1, (OwG.lt f2 k hk).2⟩, f1.lt⟩, f6, f7, f8.out, by omega, hsB, avS f1 f9 hsm⟩
end
section
set_option maxRecDepth 100000
open Go.RowKit Go.Maps
structure End6 where
 put : Pt5
 right : Int
deriving DecidableEq
def enE (e : End6) : List Value := [.int .i64 e.put.sh, .bool e.put.fl, .int .i64 e.put.qu, .int .i64 e.put.x, .int .i64 e.put.y, .int .i64 e.right]
theorem enE_len (e : End6) : (enE e).length = 6 := rfl
theorem enE_one (e : End6) : ∀ u ∈ enE e, u.oneCell' = true := by
 intro u hu; simp [enE] at hu; rcases hu with rfl | rfl | rfl | rfl | rfl | rfl <;> rfl
theorem infoE : (Tryz.prog.info? 88).map (fun i => (i.zero, i.size, i.bytes)) = some (some (.agg #[.int .i64 0, .bool false, .int .i64 0, .int .i64 0, .int .i64 0, .int .i64 0]), 6, 48) := by kernel_rfl
def keyE (e : End6) : Value := .agg #[.int .i64 e.put.sh, .bool e.put.fl, .int .i64 e.put.qu, .int .i64 e.put.x, .int .i64 e.put.y, .int .i64 e.right]
def okE (e : End6) : Prop := inR e.put.sh ∧ inR e.put.qu ∧ inR e.put.x ∧ inR e.put.y ∧ inR e.right
def klE (e : End6) : Lit := .string (keyBytes [.int .i64 e.put.sh, .bool e.put.fl, .int .i64 e.put.qu, .int .i64 e.put.x, .int .i64 e.put.y, .int .i64 e.right])
theorem wideE : (match Tryz.prog.underlying 88 with | some (.array _ _) | some (.struct _) => true | _ => false) = true := by rw [Tryz.underlying88]
theorem rowE : (88 : TypeId) < Tryz.prog.types.size := of_decide_eq_true (by kernel_rfl)
theorem lawE : Keyed Tryz.prog 88 := Keyed.of_law (deep_law_laid (P := Tryz.prog) (k := 88) laidOut (m := 4) (by omega) rowE (by kernel_rfl) wideE)
theorem cellsE : Tryz.prog.cellsOf 88 = 6 := by kernel_rfl
theorem cellsP : Tryz.prog.cellsOf 39 = 5 := by kernel_rfl
theorem cellsT : Tryz.prog.cellsOf 29 = 2 := by kernel_rfl
theorem cellsB : Tryz.prog.cellsOf 4 = 1 := by kernel_rfl
theorem keyTE : Tryz.prog.keyType 88 = true := by kernel_rfl
section
variable {P : Program} {t : TypeId} {d : Nat} {cs : List Value} {L1 L2 L3 : List Lit}
theorem kl_int_mk (hu : P.underlying t = some (.int .i64)) {n : Int} (h : inR n) : P.keyLits (d + 1) t [.int .i64 n] = some [.int .i64 n] := by
 unfold Program.keyLits; rw [hu]; simp [inR_wf h]
theorem kl_bool_mk (hu : P.underlying t = some .bool) (b : Bool) : P.keyLits (d + 1) t [.bool b] = some [.bool b] := by
 unfold Program.keyLits; rw [hu]
theorem kl_two_mk {f1 f2 : Field} (hu : P.underlying t = some (.struct #[f1, f2])) (hn : #[f1, f2].all (·.name != "_") = true) (hc : cs.length = P.cellsOf t) (h1 : P.keyLits d f1.type ((cs.drop f1.offset).take (P.cellsOf f1.type)) = some L1) (h2 : P.keyLits d f2.type ((cs.drop f2.offset).take (P.cellsOf f2.type)) = some L2) :
 P.keyLits (d + 1) t cs = some (L1 ++ L2) := by
 unfold Program.keyLits; rw [hu]; simp only; rw [if_pos ⟨hc, hn⟩]; simp [h1, h2]
theorem kl_three_mk {f1 f2 f3 : Field} (hu : P.underlying t = some (.struct #[f1, f2, f3])) (hn : #[f1, f2, f3].all (·.name != "_") = true) (hc : cs.length = P.cellsOf t) (h1 : P.keyLits d f1.type ((cs.drop f1.offset).take (P.cellsOf f1.type)) = some L1) (h2 : P.keyLits d f2.type ((cs.drop f2.offset).take (P.cellsOf f2.type)) = some L2) (h3 : P.keyLits d f3.type ((cs.drop f3.offset).take (P.cellsOf f3.type)) = some L3) :
 P.keyLits (d + 1) t cs = some (L1 ++ (L2 ++ L3)) := by
 unfold Program.keyLits; rw [hu]; simp only; rw [if_pos ⟨hc, hn⟩]; simp [h1, h2, h3]
theorem keyOf_mk {k : TypeId} {fs : Array Field} (hu : P.underlying k = some (.struct fs)) (hk : P.keyType k = true) {xs : Array Value} (hf : (Value.agg xs).formed P k = true) {L : List Lit} (h : P.keyLits (P.types.size + 1) k (Value.agg xs).cells.toList = some L) : keyOf P k (.agg xs) = some (.string (keyBytes L)) := by
 unfold keyOf; rw [hu]; simp [hk, hf, h]
end
theorem keyE_of (p : End6) (h : okE p) : keyOf Tryz.prog 88 (keyE p) = some (klE p) := by
 obtain ⟨m, hm⟩ := typesN
 unfold keyE klE
 refine keyOf_mk (P := Tryz.prog) Tryz.underlying88 keyTE (by simp [Value.formed, Tryz.underlying88, cellsE]) ?_
 rw [hm, show [Lit.int .i64 p.put.sh, .bool p.put.fl, .int .i64 p.put.qu, .int .i64 p.put.x, .int .i64 p.put.y, .int .i64 p.right] = ([.int .i64 p.put.sh] ++ (([.bool p.put.fl] ++ [.int .i64 p.put.qu]) ++ ([.int .i64 p.put.x] ++ [.int .i64 p.put.y]))) ++ [.int .i64 p.right] from rfl]
 refine kl_two_mk Tryz.underlying88 (by kernel_rfl) (by rw [cellsE]; rfl) ?_ ?_
 ·rw [cellsP]
  refine kl_three_mk Tryz.underlying39 (by kernel_rfl) (by rw [cellsP]; rfl) ?_ ?_ ?_
  ·rw [cellsI]; exact kl_int_mk Tryz.underlying3 h.1
  ·rw [cellsT]
   refine kl_two_mk Tryz.underlying29 (by kernel_rfl) (by rw [cellsT]; rfl) ?_ ?_
   ·rw [cellsB]; exact kl_bool_mk Tryz.underlying4 _
   ·rw [cellsI]; exact kl_int_mk Tryz.underlying3 h.2.1
  ·rw [cellsSp]
   refine kl_two_mk Tryz.underlying37 (by kernel_rfl) (by rw [cellsSp]; rfl) ?_ ?_
   ·rw [cellsI]; exact kl_int_mk Tryz.underlying3 h.2.2.1
   ·rw [cellsI]; exact kl_int_mk Tryz.underlying3 h.2.2.2.1
 ·rw [cellsI]; exact kl_int_mk Tryz.underlying3 h.2.2.2.2
theorem klTurn {d : Nat} {xs : List Value} {L : List Lit} (h : Tryz.prog.keyLits (d + 2) 29 xs = some L) : ∃ f q, xs = [.bool f, .int .i64 q] ∧ inR q := by
 obtain ⟨h1, ⟨L1, h2⟩, ⟨L2, h3⟩⟩ := kl_two Tryz.underlying29 h
 rw [cellsT] at h1
 rw [cellsB] at h2
 rw [cellsI] at h3
 obtain ⟨a, b, rfl⟩ := len2 h1
 simp only [List.drop_zero, List.drop_succ_cons, List.take_succ_cons, List.take_zero] at h2 h3
 obtain ⟨x, rfl⟩ := klBool (P := Tryz.prog) Tryz.underlying4 h2
 obtain ⟨y, rfl, hy⟩ := klInt (P := Tryz.prog) Tryz.underlying3 h3
 exact ⟨x, y, rfl, hy⟩
theorem keyE_inv (v : Value) (l : Lit) (h : keyOf Tryz.prog 88 v = some l) : ∃ p, v = keyE p ∧ okE p := by
 obtain ⟨m, hm⟩ := typesN
 obtain ⟨xs, L, rfl, h1, rfl⟩ := keyOf_top (P := Tryz.prog) (k := 88) wideE h
 rw [hm] at h1
 obtain ⟨g1, ⟨L1, g2⟩, ⟨L2, g3⟩⟩ := kl_two Tryz.underlying88 h1
 rw [cellsE] at g1
 rw [cellsP] at g2
 rw [cellsI] at g3
 obtain ⟨x0, x1, x2, x3, x4, x5, hx⟩ := len6 g1
 rw [hx] at g2 g3
 simp only [List.drop_zero, List.drop_succ_cons, List.take_succ_cons, List.take_zero] at g2 g3
 obtain ⟨-, ⟨M1, q1⟩, ⟨M2, q2⟩, ⟨M3, q3⟩⟩ := kl_three Tryz.underlying39 g2
 rw [cellsI] at q1
 rw [cellsT] at q2
 rw [cellsSp] at q3
 simp only [List.drop_zero, List.drop_succ_cons, List.take_succ_cons, List.take_zero] at q1 q2 q3
 obtain ⟨sh, rfl, e1⟩ := klInt (P := Tryz.prog) Tryz.underlying3 q1
 obtain ⟨fl, qu, e2, e3⟩ := klTurn q2
 obtain ⟨x, y, e4, e5, e6⟩ := klSpot q3
 obtain ⟨r, rfl, e7⟩ := klInt (P := Tryz.prog) Tryz.underlying3 g3
 simp only [List.cons.injEq, and_true] at e2 e4
 obtain ⟨rfl, rfl⟩ := e2
 obtain ⟨rfl, rfl⟩ := e4
 refine ⟨⟨⟨sh, fl, qu, x, y⟩, r⟩, ?_, e1, e3, e5, e6, e7⟩
 unfold keyE
 rw [show xs = #[.int .i64 sh, .bool fl, .int .i64 qu, .int .i64 x, .int .i64 y, .int .i64 r] by apply Array.ext'; simpa using hx]
theorem repE : KeyRep Tryz.prog 88 keyE okE klE where
 law := lawE
 of := keyE_of
 inv := keyE_inv
 inj x y h := by
  obtain ⟨⟨a1, a2, a3, a4, a5⟩, a6⟩ := x
  obtain ⟨⟨b1, b2, b3, b4, b5⟩, b6⟩ := y
  unfold keyE at h
  injection h with h
  injection h with h
  simp at h
  obtain ⟨rfl, rfl, rfl, rfl, rfl, rfl⟩ := h
  rfl
theorem BlkS.cells6 {w : World} {g : Nat} {t : TypeId} {u0 u1 u2 u3 u4 u5 : Value} (h : BlkS w g t #[u0, u1, u2, u3, u4, u5]) : w.cell? ⟨g, 0, none⟩ = some u0 ∧ w.cell? ⟨g, 1, none⟩ = some u1 ∧ w.cell? ⟨g, 2, none⟩ = some u2 ∧ w.cell? ⟨g, 3, none⟩ = some u3 ∧ w.cell? ⟨g, 4, none⟩ = some u4 ∧ w.cell? ⟨g, 5, none⟩ = some u5 ∧ g < w.heap.size :=
 ⟨h.cell 0, h.cell 1, h.cell 2, h.cell 3, h.cell 4, h.cell 5, h.lt⟩
def BagE (w : World) (B hi : Nat) (L : List End6) : Prop :=
 ∃ mv sv, BlkS w B 78 #[mv, sv] ∧ OwG 88 6 enE w B sv L ∧ ((mv = .map none ∧ L = []) ∨ ∃ bm, mv = .map (some bm) ∧ B < bm ∧ bm < hi ∧ OwSet Tryz.prog 88 4 okE klE w bm L.length L) ∧ (∀ k, sv.ownBlock = some k → B < k ∧ k < hi) ∧ B < hi
theorem BagE.keep {w w' : World} {B hi : Nat} {L : List End6} (h : BagE w B hi L) (hb : Below w.heap.size w w') : BagE w' B hi L := by
 obtain ⟨mv, sv, h1, h2, h3, h4, h5⟩ := h
 refine ⟨mv, sv, h1.keep hb, h2.keep hb, ?_, h4, h5⟩
 rcases h3 with h3 | ⟨bm, e1, e2, e3, e4⟩
 ·exact .inl h3
 ·exact .inr ⟨bm, e1, e2, e3, e4.keep hb⟩
theorem BagE.mono {w : World} {B hi hi' : Nat} {L : List End6} (h : BagE w B hi L) (hh : hi ≤ hi') : BagE w B hi' L := by
 obtain ⟨mv, sv, h1, h2, h3, h4, h5⟩ := h
 refine ⟨mv, sv, h1, h2, ?_, fun k hk => ⟨(h4 k hk).1, Nat.lt_of_lt_of_le (h4 k hk).2 hh⟩, by omega⟩
 rcases h3 with h3 | ⟨bm, e1, e2, e3, e4⟩
 ·exact .inl h3
 ·exact .inr ⟨bm, e1, e2, by omega, e4⟩
theorem BagE.new (w : World) : BagE (w.alloc (.cells #[.map none, .slice none 0 0] 78)) w.heap.size (w.heap.size + 1) [] :=
 ⟨_, _, BlkS.new _ _ _, OwG.nil, .inl ⟨rfl, rfl⟩, (fun k hk => by cases hk), by omega⟩
def AvE (w : World) (B s : Nat) : Prop := s < w.heap.size ∧ s ≠ B ∧ ∀ mv sv, BlkS w B 78 #[mv, sv] → sv.ownBlock ≠ some s ∧ mv ≠ .map (some s)
theorem avE {w : World} {B s bm : Nat} {sv : Value} (h1 : BlkS w B 78 #[.map (some bm), sv]) (h2 : sv.ownBlock ≠ some s) (h3 : bm ≠ s) : ∀ mv sv, BlkS w B 78 #[mv, sv] → sv.ownBlock ≠ some s ∧ mv ≠ .map (some s) := by
 intro mv sv' h
 unfold BlkS at h h1
 rw [h1] at h
 simp at h
 obtain ⟨rfl, rfl⟩ := h
 exact ⟨h2, by simp; exact h3⟩
theorem BagE.av {w : World} {B hi s : Nat} {L : List End6} (h : BagE w B hi L) (hs : hi ≤ s) (hs2 : s < w.heap.size) : AvE w B s := by
 obtain ⟨mv, sv, h1, h2, h3, h4, h5⟩ := h
 refine ⟨hs2, by omega, fun mv' sv' h => ?_⟩
 unfold BlkS at h h1
 rw [h1] at h
 simp at h
 obtain ⟨rfl, rfl⟩ := h
 refine ⟨fun e => by have := (h4 s e).2; omega, ?_⟩
 rcases h3 with ⟨rfl, _⟩ | ⟨bm, rfl, _, e3, _⟩
 ·simp
 ·simp; omega
theorem AvE.keep {w w' : World} {B s : Nat} (h : AvE w B s) (hB : B < w.heap.size) (hb : Below w.heap.size w w') : AvE w' B s :=
 ⟨Nat.lt_of_lt_of_le h.1 hb.size, h.2.1, fun mv sv h' => h.2.2 mv sv ((hb.block B hB).symm.trans h')⟩
def AddE (wq : World) (B s : Nat) (L : List End6) (e : Ending) (w' : World) : Prop := e = .returned (.tuple #[]) ∧ BagE w' B w'.heap.size L ∧ Below B wq w' ∧ wq.heap.size ≤ w'.heap.size ∧ w'.heap[s]? = wq.heap[s]? ∧ AvE w' B s
theorem addE_end {B bm bx n k gg cap : Nat} {x : End6} {L xs : List End6} {w wu wv : World} {sv : Value} {o : Obj} (hst : Hid (addTo L xs ⟨⟨0, false, 0, 0, 0⟩, 0⟩ (k + 1) = addTo L xs ⟨⟨0, false, 0, 0, 0⟩, 0⟩ k ++ [x])) (hlt : k < n)
 (f1v : BlkS wv B 78 #[.map (some bm), sv]) (f2u : OwG 88 6 enE wu B sv (addTo L xs ⟨⟨0, false, 0, 0, 0⟩, 0⟩ k)) (gu : OwSet Tryz.prog 88 4 okE klE wu bm ((addTo L xs ⟨⟨0, false, 0, 0, 0⟩, 0⟩ k).length + 1) (addTo L xs ⟨⟨0, false, 0, 0, 0⟩, 0⟩ k ++ [x])) (f4 : ∀ k, sv.ownBlock = some k → B < k ∧ k ≠ bx)
 (f5u : BlkS wu bx 88 (xs.flatMap enE).toArray) (f6u : Below B w wu) (f7u : w.heap.size ≤ wu.heap.size) (hov : OwG 88 6 enE wv B (.slice (some ⟨gg, 0, none⟩) ((addTo L xs ⟨⟨0, false, 0, 0, 0⟩, 0⟩ k).length + 1) cap) (addTo L xs ⟨⟨0, false, 0, 0, 0⟩, 0⟩ k ++ [x]))
 (hgv : (wu.alloc o).drew.grownBy wv sv.ownBlock) (hat : sv.ownBlock = some gg ∨ gg = wu.heap.size + 1) (hBm : B < bm) {s : Nat} (hsl : s < w.heap.size) (hsB : s ≠ B) (hsm : bm ≠ s) (f8u : wu.heap[s]? = w.heap[s]?) (f9 : sv.ownBlock ≠ some s) :
 (∃ (k_1 : Nat) (sv : Value), k_1 ≤ n ∧ Value.int IntKind.i64 ((k : Int) + 1) = .int .i64 k_1 ∧ BlkS (wv.setCell ⟨B, 1, none⟩ (.slice (some ⟨gg, 0, none⟩) ((addTo L xs ⟨⟨0, false, 0, 0, 0⟩, 0⟩ k).length + 1) cap)) B 78 #[.map (some bm), sv] ∧ OwG 88 6 enE (wv.setCell ⟨B, 1, none⟩ (.slice (some ⟨gg, 0, none⟩) ((addTo L xs ⟨⟨0, false, 0, 0, 0⟩, 0⟩ k).length + 1) cap)) B sv (addTo L xs ⟨⟨0, false, 0, 0, 0⟩, 0⟩ k_1) ∧ OwSet Tryz.prog 88 4 okE klE (wv.setCell ⟨B, 1, none⟩ (.slice (some ⟨gg, 0, none⟩) ((addTo L xs ⟨⟨0, false, 0, 0, 0⟩, 0⟩ k).length + 1) cap)) bm (addTo L xs ⟨⟨0, false, 0, 0, 0⟩, 0⟩ k_1).length (addTo L xs ⟨⟨0, false, 0, 0, 0⟩, 0⟩ k_1) ∧ (∀ k, sv.ownBlock = some k → B < k ∧ k ≠ bx) ∧ BlkS (wv.setCell ⟨B, 1, none⟩ (.slice (some ⟨gg, 0, none⟩) ((addTo L xs ⟨⟨0, false, 0, 0, 0⟩, 0⟩ k).length + 1) cap)) bx 88 (xs.flatMap enE).toArray ∧ Below B w (wv.setCell ⟨B, 1, none⟩ (.slice (some ⟨gg, 0, none⟩) ((addTo L xs ⟨⟨0, false, 0, 0, 0⟩, 0⟩ k).length + 1) cap)) ∧ w.heap.size ≤ (wv.setCell ⟨B, 1, none⟩ (.slice (some ⟨gg, 0, none⟩) ((addTo L xs ⟨⟨0, false, 0, 0, 0⟩, 0⟩ k).length + 1) cap)).heap.size ∧ Hid ((wv.setCell ⟨B, 1, none⟩ (.slice (some ⟨gg, 0, none⟩) ((addTo L xs ⟨⟨0, false, 0, 0, 0⟩, 0⟩ k).length + 1) cap)).heap[s]? = w.heap[s]?) ∧ sv.ownBlock ≠ some s) := by
 have hmap : ∀ cs t fr, wu.heap[bm]? ≠ some (.cells cs t fr) := fun cs t fr h => by obtain ⟨es, cc, hq⟩ := gu.isMap; rw [hq] at h; cases h
 have hbmu := gu.lt
 have hbxu := f5u.lt
 have hgg : B < gg ∧ gg ≠ bx := by
  rcases hat with h | h
  ·exact f4 gg h
  ·omega
 have hblk : (Value.slice (some ⟨gg, 0, none⟩) ((addTo L xs ⟨⟨0, false, 0, 0, 0⟩, 0⟩ k).length + 1) cap).ownBlock = some gg := rfl
 have hxB : bx ≠ B := by
  intro e
  subst e
  have h1 := (hgv.block bx (by simp; omega) (by intro e2; exact (f4 bx e2.symm).2 rfl))
  have h2 := f5u.alloc o
  unfold BlkS at h2 f1v
  rw [f1v] at h1
  have h3 : (wu.alloc o).drew.heap[bx]? = some (.cells (xs.flatMap enE).toArray 88 (0, 0)) := h2
  rw [h3] at h1
  injection h1 with h1
  injection h1 with _ h1
  exact absurd h1 (by decide)
 refine ⟨k + 1, .slice (some ⟨gg, 0, none⟩) ((addTo L xs ⟨⟨0, false, 0, 0, 0⟩, 0⟩ k).length + 1) cap, by omega, by go_num, f1v.set_ 1 _, by rw [hst.out]; exact OwG.far hov (by rw [hblk]; intro e; injection e with e; exact absurd e (Nat.ne_of_gt hgg.1)) _, ?_, ?_, ?_, ?_, ?_, ?_, ?_⟩
 ·rw [hst.out, List.length_append]
  exact ((gu.alloc o).keep (Bl.drew Br)).kept hgv (OwG.notMap f2u hmap).symm |>.kept (row := some B) ⟨rfl, rfl, rfl, by simp [World.setCell], fun j _ hne => Below.heap_setCell _ _ _ j (fun e => hne (by rw [e]))⟩ (by intro e; injection e with e; omega)
 ·intro j hj
  rw [hblk] at hj
  injection hj with hj
  subst hj
  exact hgg
 ·exact (BlkS.grown ((f5u.alloc o).drew) hgv (by intro e; exact (f4 bx e.symm).2 rfl)).far hxB _
 ·refine Below.setCell (Below.grown (BlB.drew (Below.alloc f6u (by omega) o)) hgv (by simp; omega) (fun j hj => Nat.le_of_lt (f4 j hj).1)) (Nat.le_refl _) _
 ·have := hgv.size
  simp [World.setCell] at this ⊢
  omega
 ·refine Hj ((Below.heap_setCell wv _ _ s (by exact hsB)).trans ((hgv.block s (by simp; omega) (fun e => f9 e.symm)).trans ((Below.heap_alloc wu o s (by omega)).trans f8u)))
 ·rw [hblk]; intro e; injection e with e
  rcases hat with h | h
  ·exact f9 (by rw [h, e])
  ·omega
set_option maxHeartbeats 2000000 in
theorem addE_any (B hi bx n c : Nat) (L xs : List End6) (w : World) (hn : xs.length = n) (hn1 : n ≤ 1000) (hL : L.length ≤ 1000000000000) (hX : BlkS w bx 88 (xs.flatMap enE).toArray) (hbx : hi ≤ bx) (hok : ∀ x ∈ xs, okE x) (hB : BagE w B hi L) (s : Nat) (hav : AvE w B s) :
 Calls Tryz.prog 43 #[.pointer (some ⟨B, 0, none⟩), .slice (some ⟨bx, 0, none⟩) n c] w (AddE w B s (addW L xs ⟨⟨0, false, 0, 0, 0⟩, 0⟩)) := by
 have hz := zeroB
 have HN := Hj hn
 have HOK := Hj hok
 have HW := Hj (show addW L xs ⟨⟨0, false, 0, 0, 0⟩, 0⟩ = addTo L xs ⟨⟨0, false, 0, 0, 0⟩, 0⟩ n by unfold addW; rw [hn])
 clear hn hok
 obtain ⟨mv, sv, k1, k2, k3, k4, k5⟩ := hB
 have hsl := hav.1
 have hsB := hav.2.1
 have k9 := hav.2.2 mv sv k1
 clear hav
 rcases k3 with ⟨rfl, hLn⟩ | ⟨bm, rfl, hBm, hbm, k3⟩
 ·have hmm := @run_makeMap Tryz.prog
  have heq := fun (w : World) => run_eql_map_nil (P := Tryz.prog) w 75 88 4 none Tryz.underlying75
  obtain ⟨m1, m2, m3, m4, m5⟩ := k1.cells2
  obtain ⟨bm, hbm⟩ : ∃ bm, bm = w.heap.size := ⟨_, rfl⟩
  have hBm : B < bm := by omega
  have k3 : True := trivial
  have HLN := Hj hLn
  clear hLn
  go_enter Tryz.func43, Tryz.ntmps43
  go_upto_region 2 with fail
  clear hmm heq
  rw [← hbm]
  have hsz0 : (w.setCell ⟨B, 0, none⟩ (.map (some bm))).heap.size = bm := by rw [hbm]; simp [World.setCell]
  have hs1 : OwSet Tryz.prog 88 4 okE klE ((w.setCell ⟨B, 0, none⟩ (.map (some bm))).alloc (.map #[] 0)) bm L.length L := by
   rw [HLN.out]
   have h9 := OwSet.made (P := Tryz.prog) (k := 88) (e := 4) (ok := okE) (kl := klE) (w.setCell ⟨B, 0, none⟩ (.map (some bm)))
   rw [hsz0] at h9
   exact h9
  have hbm2 : w.heap.size ≤ bm := by omega
  have hbxm : bx ≠ bm := by have := hX.lt; omega
  have hsm : bm ≠ s := by omega
  have hL0 : Hid ((w.setCell ⟨B, 0, none⟩ (.map (some bm))).heap.size = bm) := hsz0
  clear m1 m2 m3 m4 hsz0 hbm
  refine wp_world (fun X => ∃ sv, BlkS X B 78 #[.map (some bm), sv] ∧ OwG 88 6 enE X B sv L ∧ OwSet Tryz.prog 88 4 okE klE X bm L.length L ∧ (∀ k, sv.ownBlock = some k → B < k ∧ k ≠ bx) ∧ BlkS X bx 88 (xs.flatMap enE).toArray ∧ Below B w X ∧ w.heap.size ≤ X.heap.size ∧ X.heap[s]? = w.heap[s]? ∧ sv.ownBlock ≠ some s) ⟨sv, (k1.set_ 0 _).alloc _, OwG.alloc (OwG.far k2 (fun e => Nat.lt_irrefl _ (k4 B e).1) _) _, hs1, fun k hk => ⟨(k4 k hk).1, by have := (k4 k hk).2; omega⟩, (hX.far (p := ⟨B, 0, none⟩) (Nat.ne_of_gt (Nat.lt_of_lt_of_le k5 hbx)) _).alloc _, Below.alloc (Below.setCell Br (Nat.le_refl _) _) (by rw [hL0.out]; exact Nat.le_of_lt hBm) _, by simp [World.setCell], (Below.heap_alloc _ _ s (by rw [hL0.out]; omega)).trans (Below.heap_setCell w ⟨B, 0, none⟩ _ s hsB), k9.1⟩ ?_
  rintro wl ⟨sv2, f1, f2, f3, f4, f5, f6, f7, f8, f9⟩
  clear k1 k2 k3 k4 hX hz
  go_wp2_with fail
  go_loopw [17] (fun i wr => ∃ (k : Nat) (sv : Value), k ≤ n ∧ i = .int .i64 k ∧ BlkS wr B 78 #[.map (some bm), sv] ∧ OwG 88 6 enE wr B sv (addTo L xs ⟨⟨0, false, 0, 0, 0⟩, 0⟩ k) ∧ OwSet Tryz.prog 88 4 okE klE wr bm (addTo L xs ⟨⟨0, false, 0, 0, 0⟩, 0⟩ k).length (addTo L xs ⟨⟨0, false, 0, 0, 0⟩, 0⟩ k) ∧ (∀ k, sv.ownBlock = some k → B < k ∧ k ≠ bx) ∧ BlkS wr bx 88 (xs.flatMap enE).toArray ∧ Below B w wr ∧ w.heap.size ≤ wr.heap.size ∧ Hid (wr.heap[s]? = w.heap[s]?) ∧ sv.ownBlock ≠ some s) (fun i _ => n - (intOf i).toNat)
  case atStart => exact ⟨0, sv2, Nat.zero_le _, rfl, f1, f2, f3, f4, f5, f6, f7, Hj f8, f9⟩
  case round =>
   clear f1 f2 f3 f4 f5 f6 f7 f8 f9
   obtain ⟨k, sv, hk, rfl, f1, f2, f3, f4, f5, f6, f7, f8, f9⟩ := hrel
   have hlen := addTo_len L xs ⟨⟨0, false, 0, 0, 0⟩, 0⟩ k
   by_cases hlt : k < n
   ·have hkx : k < xs.length := by rw [HN.out]; exact hlt
    obtain ⟨x, hx⟩ : ∃ x, xs.getD k ⟨⟨0, false, 0, 0, 0⟩, 0⟩ = x := ⟨_, rfl⟩
    have hxk : xs[k]? = some x := by rw [← hx, List.getD, List.getElem?_eq_getElem hkx]; rfl
    have hxok : okE x := HOK.out x (List.mem_of_getElem? hxk)
    have HX := Hj hx
    have d0 := (f5.cell (k * 6)).trans (by have := flat_at enE_len xs k 0 x hxk (by omega); simpa using this)
    have d1 := (f5.cell (k * 6 + 1)).trans (by have := flat_at enE_len xs k 1 x hxk (by omega); simpa using this)
    have d2 := (f5.cell (k * 6 + 2)).trans (by have := flat_at enE_len xs k 2 x hxk (by omega); simpa using this)
    have d3 := (f5.cell (k * 6 + 3)).trans (by have := flat_at enE_len xs k 3 x hxk (by omega); simpa using this)
    have d4 := (f5.cell (k * 6 + 4)).trans (by have := flat_at enE_len xs k 4 x hxk (by omega); simpa using this)
    have d5 := (f5.cell (k * 6 + 5)).trans (by have := flat_at enE_len xs k 5 x hxk (by omega); simpa using this)
    simp only [enE, List.getElem?_cons_zero, List.getElem?_cons_succ] at d0 d1 d2 d3 d4 d5
    clear hx hxk
    have bl := f5.lt
    obtain ⟨m1, m2, m3, m4, m5⟩ := f1.cells2
    obtain ⟨⟨s0, f0, q0, x0, y0⟩, r0⟩ := x
    by_cases hin : (⟨⟨s0, f0, q0, x0, y0⟩, r0⟩ : End6) ∈ addTo L xs ⟨⟨0, false, 0, 0, 0⟩, 0⟩ k
    ·have hst := Hj (show addTo L xs ⟨⟨0, false, 0, 0, 0⟩, 0⟩ (k + 1) = addTo L xs ⟨⟨0, false, 0, 0, 0⟩, 0⟩ k by rw [addTo, HX.out, if_pos hin])
     have hgt : ∀ q, (Instr.lookup 75 (.map (some bm)) (.agg #[.int .i64 s0, .bool f0, .int .i64 q0, .int .i64 x0, .int .i64 y0, .int .i64 r0]) false).run Tryz.prog ((wr.alloc (.cells #[.int .i64 s0, .bool f0, .int .i64 q0, .int .i64 x0, .int .i64 y0, .int .i64 r0] 88)).drewN q) = .ok (.bool true) ((wr.alloc (.cells #[.int .i64 s0, .bool f0, .int .i64 q0, .int .i64 x0, .int .i64 y0, .int .i64 r0] 88)).drewN q) := by
      intro q
      have h9 := OwSet.get (t := 75) repE Tryz.underlying75 Tryz.underlying4 (zeroB _) ((f3.alloc (.cells #[.int .i64 s0, .bool f0, .int .i64 q0, .int .i64 x0, .int .i64 y0, .int .i64 r0] 88)).keep (Bl.drewN Br q)) (x := (⟨⟨s0, f0, q0, x0, y0⟩, r0⟩ : End6)) hxok
      refine h9.trans ?_
      simp [hin]
     go_wp2_with fail
     go_quiet (fail)
     clear hgt
     go_wp2_with fail
     exact ⟨⟨k + 1, sv, by omega, by go_num, (f1.alloc _).drewN _, by rw [hst.out]; exact OwG.keep (OwG.alloc f2 _) (Bl.drewN Br _), by rw [hst.out]; exact (f3.alloc _).keep (Bl.drewN Br _), f4, (f5.alloc _).drewN _, BlB.drewN (Below.alloc f6 (by omega) _) _, by simp; omega, Hj ((Below.heap_alloc wr _ s (by omega)).trans f8.out), f9⟩, by simp [intOf]; omega⟩
    ·have hst := Hj (show addTo L xs ⟨⟨0, false, 0, 0, 0⟩, 0⟩ (k + 1) = addTo L xs ⟨⟨0, false, 0, 0, 0⟩, 0⟩ k ++ [(⟨⟨s0, f0, q0, x0, y0⟩, r0⟩ : End6)] by rw [addTo, HX.out, if_neg hin])
     have hgt : ∀ q, (Instr.lookup 75 (.map (some bm)) (.agg #[.int .i64 s0, .bool f0, .int .i64 q0, .int .i64 x0, .int .i64 y0, .int .i64 r0]) false).run Tryz.prog ((wr.alloc (.cells #[.int .i64 s0, .bool f0, .int .i64 q0, .int .i64 x0, .int .i64 y0, .int .i64 r0] 88)).drewN q) = .ok (.bool false) ((wr.alloc (.cells #[.int .i64 s0, .bool f0, .int .i64 q0, .int .i64 x0, .int .i64 y0, .int .i64 r0] 88)).drewN q) := by
      intro q
      have h9 := OwSet.get (t := 75) repE Tryz.underlying75 Tryz.underlying4 (zeroB _) ((f3.alloc (.cells #[.int .i64 s0, .bool f0, .int .i64 q0, .int .i64 x0, .int .i64 y0, .int .i64 r0] 88)).keep (Bl.drewN Br q)) (x := (⟨⟨s0, f0, q0, x0, y0⟩, r0⟩ : End6)) hxok
      refine h9.trans ?_
      simp [hin]
     go_wp2_with fail
     go_quiet (fail)
     clear hgt
     have f1a := (f1.alloc (.cells #[.int .i64 s0, .bool f0, .int .i64 q0, .int .i64 x0, .int .i64 y0, .int .i64 r0] 88)).drewN nq
     have f2a := OwG.keep (OwG.alloc f2 (.cells #[.int .i64 s0, .bool f0, .int .i64 q0, .int .i64 x0, .int .i64 y0, .int .i64 r0] 88)) (Bl.drewN Br nq)
     have f3a := (f3.alloc (.cells #[.int .i64 s0, .bool f0, .int .i64 q0, .int .i64 x0, .int .i64 y0, .int .i64 r0] 88)).keep (Bl.drewN Br nq)
     have f5a := (f5.alloc (.cells #[.int .i64 s0, .bool f0, .int .i64 q0, .int .i64 x0, .int .i64 y0, .int .i64 r0] 88)).drewN nq
     have f6a := BlB.drewN (Below.alloc f6 (by omega) (.cells #[.int .i64 s0, .bool f0, .int .i64 q0, .int .i64 x0, .int .i64 y0, .int .i64 r0] 88)) nq
     have hxa := (BlkS.new wr 88 #[.int .i64 s0, .bool f0, .int .i64 q0, .int .i64 x0, .int .i64 y0, .int .i64 r0]).drewN nq
     have f8a : ((wr.alloc (.cells #[.int .i64 s0, .bool f0, .int .i64 q0, .int .i64 x0, .int .i64 y0, .int .i64 r0] 88)).drewN nq).heap[s]? = w.heap[s]? := (Below.heap_alloc wr _ s (by omega)).trans f8.out
     have f7a : w.heap.size ≤ ((wr.alloc (.cells #[.int .i64 s0, .bool f0, .int .i64 q0, .int .i64 x0, .int .i64 y0, .int .i64 r0] 88)).drewN nq).heap.size := by simp; omega
     obtain ⟨bq, hbq⟩ : ∃ bq, bq = wr.heap.size := ⟨_, rfl⟩
     have hbq1 : bx < bq := by omega
     have hbq2 : B < bq := by omega
     have hbq3 : bm < bq := by have := f3.lt; omega
     have hbq4 : ∀ k, sv.ownBlock = some k → k < bq := fun k hk => by rw [hbq]; exact (OwG.lt f2 k hk).2
     go_upto_region 6 with fail
     rw [← hbq] at hxa ⊢
     refine wp_world (fun X => BlkS X B 78 #[.map (some bm), sv] ∧ OwG 88 6 enE X B sv (addTo L xs ⟨⟨0, false, 0, 0, 0⟩, 0⟩ k) ∧ OwSet Tryz.prog 88 4 okE klE X bm (addTo L xs ⟨⟨0, false, 0, 0, 0⟩, 0⟩ k).length (addTo L xs ⟨⟨0, false, 0, 0, 0⟩, 0⟩ k) ∧ BlkS X bx 88 (xs.flatMap enE).toArray ∧ BlkS X bq 88 #[.int .i64 s0, .bool f0, .int .i64 q0, .int .i64 x0, .int .i64 y0, .int .i64 r0] ∧ Below B w X ∧ w.heap.size ≤ X.heap.size ∧ Hid (X.heap[s]? = w.heap[s]?)) ⟨f1a, f2a, f3a, f5a, hxa, f6a, f7a, Hj f8a⟩ ?_
     clear f1a f2a f3a f5a hxa f6a f7a f8a f1 f2 f3 f5 f6 f7 f8 hbq d0 d1 d2 d3 d4 d5 m1 m2 m3 m4 m5 bl
     rintro wz ⟨f1, f2, f3, f5, fx, f6, f7, f8⟩
     obtain ⟨m1, m2, m3, m4, m5⟩ := f1.cells2
     obtain ⟨z1, z2, z3, z4, z5, z6, z7⟩ := fx.cells6
     refine wp_region_tailD 5 (by kernel_rfl) (by kernel_rfl) ?_
     simp only [List.take_succ_cons, List.take_zero, List.drop_succ_cons, List.drop_zero]
     repeat still_step
     refine wpStill_nil ?_
     go_wp2_with (at_mapUpdate; refine wpList_setPut rfl _ _ _ 75 rfl repE Tryz.underlying75 Tryz.underlying4 rfl (f3.keep (Bl.drew Br)) (by unfold maxLen; omega) (⟨⟨s0, f0, q0, x0, y0⟩, r0⟩ : End6) hxok rfl rfl ?_; intro wu gu hu)
     have hnm : sv.ownBlock ≠ some bm := OwG.notMap f2 (fun cs t fr h => by obtain ⟨es, cc, hq⟩ := f3.isMap; rw [hq] at h; cases h)
     have f1u := BlkS.grown f1.drew hu (by intro e; injection e with e; omega)
     have f2u := OwG.kept (OwG.keep f2 (Bl.drew Br)) hu (Or.inr hnm)
     have f5u := BlkS.grown f5.drew hu (by intro e; injection e with e; omega)
     have fxu := BlkS.grown fx.drew hu (by intro e; injection e with e; omega)
     have f6u : Below B w wu := Below.grown (BlB.drew f6) hu (by have := m5; simp; omega) (fun j hj => by cases hj; omega)
     have f7u : w.heap.size ≤ wu.heap.size := Nat.le_trans f7 hu.size
     have f8u : Hid (wu.heap[s]? = w.heap[s]?) := Hj ((hu.block s (by show s < wz.heap.size; omega) (by intro e; injection e with e; omega)).trans f8.out)
     clear f1 f2 f3 f5 fx f6 f7 f8 hu hnm m1 m2 m3 m4 m5 z1 z2 z3 z4 z5 z6 z7
     obtain ⟨m1, m2, m3, m4, m5⟩ := f1u.cells2
     obtain ⟨z1, z2, z3, z4, z5, z6, z7⟩ := fxu.cells6
     obtain ⟨i0, hi0, hz0, hz1, hz2⟩ := info_parts infoE
     have hsz := addTo_len L xs ⟨⟨0, false, 0, 0, 0⟩, 0⟩ k
     go_region_law ((refine step_app1 rfl _ _ 76 rfl enE B 88 i0 (.agg #[.int .i64 0, .bool false, .int .i64 0, .int .i64 0, .int .i64 0, .int .i64 0]) 6 48 Tryz.underlying76 hi0 hz0 hz1 hz2 rfl (by omega) enE_len enE_one sv (addTo L xs ⟨⟨0, false, 0, 0, 0⟩, 0⟩ k) rfl (OwG.keep (OwG.alloc f2u _) (Bl.drew Br)) wu.heap.size 1 (⟨⟨s0, f0, q0, x0, y0⟩, r0⟩ : End6) 88 rfl (BlkS.drew (BlkS.new _ _ _)) (by unfold maxLen; omega) (by omega) (by simp; omega) (wu.heap.size + 1) (by simp) ?_; intro gg cap wv hov hgv hat hlv; have f1v := BlkS.grown ((f1u.alloc _).drew) hgv (by intro e; exact Nat.lt_irrefl _ (f4 _ e.symm).1); obtain ⟨p1, p2, p3, p4, p5⟩ := f1v.cells2))
     all_goals go_wp2_with fail
     all_goals exact ⟨addE_end hst hlt f1v f2u gu f4 f5u f6u f7u hov hgv hat hBm hsl hsB hsm f8u.out f9, by simp [intOf]; omega⟩
   ·obtain rfl : n = k := by omega
    go_wp2_with fail
    go_end0
    refine ⟨rfl, ⟨_, sv, f1, by rw [HW.out]; exact f2, .inr ⟨bm, rfl, hBm, f3.lt, by rw [HW.out]; exact f3⟩, fun k hk => ⟨(f4 k hk).1, (OwG.lt f2 k hk).2⟩, f1.lt⟩, f6, f7, f8.out, by omega, hsB, avE f1 f9 hsm⟩
 ·have heq := fun (w : World) => run_eql_map_nil (P := Tryz.prog) w 75 88 4 (some bm) Tryz.underlying75
  obtain ⟨m1, m2, m3, m4, m5⟩ := k1.cells2
  go_enter Tryz.func43, Tryz.ntmps43
  go_upto_region 2 with fail
  clear heq m1 m2 m3 m4 m5
  have hbxm : bx ≠ bm := by omega
  have hsm : bm ≠ s := fun e => k9.2 (by rw [e])
  refine wp_world (fun X => ∃ sv, BlkS X B 78 #[.map (some bm), sv] ∧ OwG 88 6 enE X B sv L ∧ OwSet Tryz.prog 88 4 okE klE X bm L.length L ∧ (∀ k, sv.ownBlock = some k → B < k ∧ k ≠ bx) ∧ BlkS X bx 88 (xs.flatMap enE).toArray ∧ Below B w X ∧ w.heap.size ≤ X.heap.size ∧ X.heap[s]? = w.heap[s]? ∧ sv.ownBlock ≠ some s) ⟨sv, k1, k2, k3, fun k hk => ⟨(k4 k hk).1, by have := (k4 k hk).2; omega⟩, hX, Below.refl _ _, Nat.le_refl _, rfl, k9.1⟩ ?_
  rintro wl ⟨sv2, f1, f2, f3, f4, f5, f6, f7, f8, f9⟩
  clear k1 k2 k3 k4 hX hz
  go_wp2_with fail
  go_loopw [17] (fun i wr => ∃ (k : Nat) (sv : Value), k ≤ n ∧ i = .int .i64 k ∧ BlkS wr B 78 #[.map (some bm), sv] ∧ OwG 88 6 enE wr B sv (addTo L xs ⟨⟨0, false, 0, 0, 0⟩, 0⟩ k) ∧ OwSet Tryz.prog 88 4 okE klE wr bm (addTo L xs ⟨⟨0, false, 0, 0, 0⟩, 0⟩ k).length (addTo L xs ⟨⟨0, false, 0, 0, 0⟩, 0⟩ k) ∧ (∀ k, sv.ownBlock = some k → B < k ∧ k ≠ bx) ∧ BlkS wr bx 88 (xs.flatMap enE).toArray ∧ Below B w wr ∧ w.heap.size ≤ wr.heap.size ∧ Hid (wr.heap[s]? = w.heap[s]?) ∧ sv.ownBlock ≠ some s) (fun i _ => n - (intOf i).toNat)
  case atStart => exact ⟨0, sv2, Nat.zero_le _, rfl, f1, f2, f3, f4, f5, f6, f7, Hj f8, f9⟩
  case round =>
   clear f1 f2 f3 f4 f5 f6 f7 f8 f9
   obtain ⟨k, sv, hk, rfl, f1, f2, f3, f4, f5, f6, f7, f8, f9⟩ := hrel
   have hlen := addTo_len L xs ⟨⟨0, false, 0, 0, 0⟩, 0⟩ k
   by_cases hlt : k < n
   ·have hkx : k < xs.length := by rw [HN.out]; exact hlt
    obtain ⟨x, hx⟩ : ∃ x, xs.getD k ⟨⟨0, false, 0, 0, 0⟩, 0⟩ = x := ⟨_, rfl⟩
    have hxk : xs[k]? = some x := by rw [← hx, List.getD, List.getElem?_eq_getElem hkx]; rfl
    have hxok : okE x := HOK.out x (List.mem_of_getElem? hxk)
    have HX := Hj hx
    have d0 := (f5.cell (k * 6)).trans (by have := flat_at enE_len xs k 0 x hxk (by omega); simpa using this)
    have d1 := (f5.cell (k * 6 + 1)).trans (by have := flat_at enE_len xs k 1 x hxk (by omega); simpa using this)
    have d2 := (f5.cell (k * 6 + 2)).trans (by have := flat_at enE_len xs k 2 x hxk (by omega); simpa using this)
    have d3 := (f5.cell (k * 6 + 3)).trans (by have := flat_at enE_len xs k 3 x hxk (by omega); simpa using this)
    have d4 := (f5.cell (k * 6 + 4)).trans (by have := flat_at enE_len xs k 4 x hxk (by omega); simpa using this)
    have d5 := (f5.cell (k * 6 + 5)).trans (by have := flat_at enE_len xs k 5 x hxk (by omega); simpa using this)
    simp only [enE, List.getElem?_cons_zero, List.getElem?_cons_succ] at d0 d1 d2 d3 d4 d5
    clear hx hxk
    have bl := f5.lt
    obtain ⟨m1, m2, m3, m4, m5⟩ := f1.cells2
    obtain ⟨⟨s0, f0, q0, x0, y0⟩, r0⟩ := x
    by_cases hin : (⟨⟨s0, f0, q0, x0, y0⟩, r0⟩ : End6) ∈ addTo L xs ⟨⟨0, false, 0, 0, 0⟩, 0⟩ k
    ·have hst := Hj (show addTo L xs ⟨⟨0, false, 0, 0, 0⟩, 0⟩ (k + 1) = addTo L xs ⟨⟨0, false, 0, 0, 0⟩, 0⟩ k by rw [addTo, HX.out, if_pos hin])
     have hgt : ∀ q, (Instr.lookup 75 (.map (some bm)) (.agg #[.int .i64 s0, .bool f0, .int .i64 q0, .int .i64 x0, .int .i64 y0, .int .i64 r0]) false).run Tryz.prog ((wr.alloc (.cells #[.int .i64 s0, .bool f0, .int .i64 q0, .int .i64 x0, .int .i64 y0, .int .i64 r0] 88)).drewN q) = .ok (.bool true) ((wr.alloc (.cells #[.int .i64 s0, .bool f0, .int .i64 q0, .int .i64 x0, .int .i64 y0, .int .i64 r0] 88)).drewN q) := by
      intro q
      have h9 := OwSet.get (t := 75) repE Tryz.underlying75 Tryz.underlying4 (zeroB _) ((f3.alloc (.cells #[.int .i64 s0, .bool f0, .int .i64 q0, .int .i64 x0, .int .i64 y0, .int .i64 r0] 88)).keep (Bl.drewN Br q)) (x := (⟨⟨s0, f0, q0, x0, y0⟩, r0⟩ : End6)) hxok
      refine h9.trans ?_
      simp [hin]
     go_wp2_with fail
     go_quiet (fail)
     clear hgt
     go_wp2_with fail
     exact ⟨⟨k + 1, sv, by omega, by go_num, (f1.alloc _).drewN _, by rw [hst.out]; exact OwG.keep (OwG.alloc f2 _) (Bl.drewN Br _), by rw [hst.out]; exact (f3.alloc _).keep (Bl.drewN Br _), f4, (f5.alloc _).drewN _, BlB.drewN (Below.alloc f6 (by omega) _) _, by simp; omega, Hj ((Below.heap_alloc wr _ s (by omega)).trans f8.out), f9⟩, by simp [intOf]; omega⟩
    ·have hst := Hj (show addTo L xs ⟨⟨0, false, 0, 0, 0⟩, 0⟩ (k + 1) = addTo L xs ⟨⟨0, false, 0, 0, 0⟩, 0⟩ k ++ [(⟨⟨s0, f0, q0, x0, y0⟩, r0⟩ : End6)] by rw [addTo, HX.out, if_neg hin])
     have hgt : ∀ q, (Instr.lookup 75 (.map (some bm)) (.agg #[.int .i64 s0, .bool f0, .int .i64 q0, .int .i64 x0, .int .i64 y0, .int .i64 r0]) false).run Tryz.prog ((wr.alloc (.cells #[.int .i64 s0, .bool f0, .int .i64 q0, .int .i64 x0, .int .i64 y0, .int .i64 r0] 88)).drewN q) = .ok (.bool false) ((wr.alloc (.cells #[.int .i64 s0, .bool f0, .int .i64 q0, .int .i64 x0, .int .i64 y0, .int .i64 r0] 88)).drewN q) := by
      intro q
      have h9 := OwSet.get (t := 75) repE Tryz.underlying75 Tryz.underlying4 (zeroB _) ((f3.alloc (.cells #[.int .i64 s0, .bool f0, .int .i64 q0, .int .i64 x0, .int .i64 y0, .int .i64 r0] 88)).keep (Bl.drewN Br q)) (x := (⟨⟨s0, f0, q0, x0, y0⟩, r0⟩ : End6)) hxok
      refine h9.trans ?_
      simp [hin]
     go_wp2_with fail
     go_quiet (fail)
     clear hgt
     have f1a := (f1.alloc (.cells #[.int .i64 s0, .bool f0, .int .i64 q0, .int .i64 x0, .int .i64 y0, .int .i64 r0] 88)).drewN nq
     have f2a := OwG.keep (OwG.alloc f2 (.cells #[.int .i64 s0, .bool f0, .int .i64 q0, .int .i64 x0, .int .i64 y0, .int .i64 r0] 88)) (Bl.drewN Br nq)
     have f3a := (f3.alloc (.cells #[.int .i64 s0, .bool f0, .int .i64 q0, .int .i64 x0, .int .i64 y0, .int .i64 r0] 88)).keep (Bl.drewN Br nq)
     have f5a := (f5.alloc (.cells #[.int .i64 s0, .bool f0, .int .i64 q0, .int .i64 x0, .int .i64 y0, .int .i64 r0] 88)).drewN nq
     have f6a := BlB.drewN (Below.alloc f6 (by omega) (.cells #[.int .i64 s0, .bool f0, .int .i64 q0, .int .i64 x0, .int .i64 y0, .int .i64 r0] 88)) nq
     have hxa := (BlkS.new wr 88 #[.int .i64 s0, .bool f0, .int .i64 q0, .int .i64 x0, .int .i64 y0, .int .i64 r0]).drewN nq
     have f8a : ((wr.alloc (.cells #[.int .i64 s0, .bool f0, .int .i64 q0, .int .i64 x0, .int .i64 y0, .int .i64 r0] 88)).drewN nq).heap[s]? = w.heap[s]? := (Below.heap_alloc wr _ s (by omega)).trans f8.out
     have f7a : w.heap.size ≤ ((wr.alloc (.cells #[.int .i64 s0, .bool f0, .int .i64 q0, .int .i64 x0, .int .i64 y0, .int .i64 r0] 88)).drewN nq).heap.size := by simp; omega
     obtain ⟨bq, hbq⟩ : ∃ bq, bq = wr.heap.size := ⟨_, rfl⟩
     have hbq1 : bx < bq := by omega
     have hbq2 : B < bq := by omega
     have hbq3 : bm < bq := by have := f3.lt; omega
     have hbq4 : ∀ k, sv.ownBlock = some k → k < bq := fun k hk => by rw [hbq]; exact (OwG.lt f2 k hk).2
     go_upto_region 6 with fail
     rw [← hbq] at hxa ⊢
     refine wp_world (fun X => BlkS X B 78 #[.map (some bm), sv] ∧ OwG 88 6 enE X B sv (addTo L xs ⟨⟨0, false, 0, 0, 0⟩, 0⟩ k) ∧ OwSet Tryz.prog 88 4 okE klE X bm (addTo L xs ⟨⟨0, false, 0, 0, 0⟩, 0⟩ k).length (addTo L xs ⟨⟨0, false, 0, 0, 0⟩, 0⟩ k) ∧ BlkS X bx 88 (xs.flatMap enE).toArray ∧ BlkS X bq 88 #[.int .i64 s0, .bool f0, .int .i64 q0, .int .i64 x0, .int .i64 y0, .int .i64 r0] ∧ Below B w X ∧ w.heap.size ≤ X.heap.size ∧ Hid (X.heap[s]? = w.heap[s]?)) ⟨f1a, f2a, f3a, f5a, hxa, f6a, f7a, Hj f8a⟩ ?_
     clear f1a f2a f3a f5a hxa f6a f7a f8a f1 f2 f3 f5 f6 f7 f8 hbq d0 d1 d2 d3 d4 d5 m1 m2 m3 m4 m5 bl
     rintro wz ⟨f1, f2, f3, f5, fx, f6, f7, f8⟩
     obtain ⟨m1, m2, m3, m4, m5⟩ := f1.cells2
     obtain ⟨z1, z2, z3, z4, z5, z6, z7⟩ := fx.cells6
     refine wp_region_tailD 5 (by kernel_rfl) (by kernel_rfl) ?_
     simp only [List.take_succ_cons, List.take_zero, List.drop_succ_cons, List.drop_zero]
     repeat still_step
     refine wpStill_nil ?_
     go_wp2_with (at_mapUpdate; refine wpList_setPut rfl _ _ _ 75 rfl repE Tryz.underlying75 Tryz.underlying4 rfl (f3.keep (Bl.drew Br)) (by unfold maxLen; omega) (⟨⟨s0, f0, q0, x0, y0⟩, r0⟩ : End6) hxok rfl rfl ?_; intro wu gu hu)
     have hnm : sv.ownBlock ≠ some bm := OwG.notMap f2 (fun cs t fr h => by obtain ⟨es, cc, hq⟩ := f3.isMap; rw [hq] at h; cases h)
     have f1u := BlkS.grown f1.drew hu (by intro e; injection e with e; omega)
     have f2u := OwG.kept (OwG.keep f2 (Bl.drew Br)) hu (Or.inr hnm)
     have f5u := BlkS.grown f5.drew hu (by intro e; injection e with e; omega)
     have fxu := BlkS.grown fx.drew hu (by intro e; injection e with e; omega)
     have f6u : Below B w wu := Below.grown (BlB.drew f6) hu (by have := m5; simp; omega) (fun j hj => by cases hj; omega)
     have f7u : w.heap.size ≤ wu.heap.size := Nat.le_trans f7 hu.size
     have f8u : Hid (wu.heap[s]? = w.heap[s]?) := Hj ((hu.block s (by show s < wz.heap.size; omega) (by intro e; injection e with e; omega)).trans f8.out)
     clear f1 f2 f3 f5 fx f6 f7 f8 hu hnm m1 m2 m3 m4 m5 z1 z2 z3 z4 z5 z6 z7
     obtain ⟨m1, m2, m3, m4, m5⟩ := f1u.cells2
     obtain ⟨z1, z2, z3, z4, z5, z6, z7⟩ := fxu.cells6
     obtain ⟨i0, hi0, hz0, hz1, hz2⟩ := info_parts infoE
     have hsz := addTo_len L xs ⟨⟨0, false, 0, 0, 0⟩, 0⟩ k
     go_region_law ((refine step_app1 rfl _ _ 76 rfl enE B 88 i0 (.agg #[.int .i64 0, .bool false, .int .i64 0, .int .i64 0, .int .i64 0, .int .i64 0]) 6 48 Tryz.underlying76 hi0 hz0 hz1 hz2 rfl (by omega) enE_len enE_one sv (addTo L xs ⟨⟨0, false, 0, 0, 0⟩, 0⟩ k) rfl (OwG.keep (OwG.alloc f2u _) (Bl.drew Br)) wu.heap.size 1 (⟨⟨s0, f0, q0, x0, y0⟩, r0⟩ : End6) 88 rfl (BlkS.drew (BlkS.new _ _ _)) (by unfold maxLen; omega) (by omega) (by simp; omega) (wu.heap.size + 1) (by simp) ?_; intro gg cap wv hov hgv hat hlv; have f1v := BlkS.grown ((f1u.alloc _).drew) hgv (by intro e; exact Nat.lt_irrefl _ (f4 _ e.symm).1); obtain ⟨p1, p2, p3, p4, p5⟩ := f1v.cells2))
     all_goals go_wp2_with fail
     all_goals exact ⟨addE_end hst hlt f1v f2u gu f4 f5u f6u f7u hov hgv hat hBm hsl hsB hsm f8u.out f9, by simp [intOf]; omega⟩
   ·obtain rfl : n = k := by omega
    go_wp2_with fail
    go_end0
    refine ⟨rfl, ⟨_, sv, f1, by rw [HW.out]; exact f2, .inr ⟨bm, rfl, hBm, f3.lt, by rw [HW.out]; exact f3⟩, fun k hk => ⟨(f4 k hk).1, (OwG.lt f2 k hk).2⟩, f1.lt⟩, f6, f7, f8.out, by omega, hsB, avE f1 f9 hsm⟩
end
end Go.Proofs.YtmdncaoilegnnaaGreat

/- Plain facts for FillLeast. Turning and moving keep a polygon simple. -/
import Derived.Test.YtmdncaoilegnnaaGreatUG32
import Derived.Test.YtmdncaoilegnnaaGreatUG29
namespace Go.Proofs.YtmdncaoilegnnaaGreat
set_option linter.unusedVariables false
set_option linter.unusedSimpArgs false
set_option linter.unusedVariables false
set_option linter.unusedSimpArgs false
open Go.RowKit

end Go.Proofs.YtmdncaoilegnnaaGreat

namespace Go.Proofs.YtmdncaoilegnnaaGreat
set_option linter.unusedVariables false
set_option linter.unusedSimpArgs false
set_option linter.unusedVariables false
set_option linter.unusedSimpArgs false
open Go.RowKit

/-- A map that keeps what a polygon's check looks at, on a set D of points. -/
structure Iso (D : Int × Int → Prop) (T : Int × Int → Int × Int) : Prop where
  cr : ∀ a b c, D a → D b → D c → crossW (T a) (T b) (T c) = crossW a b c
  on : ∀ a b c, D a → D b → D c → onW (T a) (T b) (T c) = onW a b c
  fo : ∀ a b c, D a → D b → D c → foldedW (T a) (T b) (T c) = foldedW a b c
  eq : ∀ a b, D a → D b → eqS (T a) (T b) = eqS a b
theorem Iso.simple {D : Int × Int → Prop} {T : Int × Int → Int × Int} (h : Iso D T) {l : List (Int × Int)} (hl : ∀ q ∈ l, D q) (h0 : 0 < l.length) : simpleW (l.map T) l.length = simpleW l l.length := by
  have hg : ∀ i, i < l.length → gt (l.map T) i = T (gt l i) := fun i hi => gt_map hi
  have hD : ∀ i, i < l.length → D (gt l i) := fun i hi => hl _ (gt_in hi)
  have hm : ∀ i, i % l.length < l.length := fun i => Nat.mod_lt _ h0
  have h1 : AllB (fun i => !dupW (l.map T) i) l.length = AllB (fun i => !dupW l i) l.length := by
    apply AllB.congr
    intro i hi
    unfold dupW
    rw [AnyB.congr (g := fun j => eqS (gt l i) (gt l j))]
    intro j hj
    rw [hg i hi, hg j (by omega)]
    exact h.eq _ _ (hD i hi) (hD j (by omega))
  have h2 : AllB (sidW (l.map T) l.length) l.length = AllB (sidW l l.length) l.length := by
    apply AllB.congr
    intro i hi
    unfold sidW
    rw [hg i hi, hg _ (hm (i + 1)), hg _ (hm (i + 2)), h.fo _ _ _ (hD i hi) (hD _ (hm (i + 1))) (hD _ (hm (i + 2)))]
    congr 1
    apply AllB.congr
    intro k hk
    unfold innW
    rw [hg i hi, hg _ (hm (i + 1)), hg k hk, hg _ (hm (k + 1))]
    have d1 := hD i hi
    have d2 := hD _ (hm (i + 1))
    have d3 := hD k hk
    have d4 := hD _ (hm (k + 1))
    unfold meetW partedW
    rw [h.on _ _ _ d1 d2 d3, h.on _ _ _ d1 d2 d4, h.on _ _ _ d3 d4 d1, h.on _ _ _ d3 d4 d2, h.cr _ _ _ d1 d2 d3, h.cr _ _ _ d1 d2 d4, h.cr _ _ _ d3 d4 d1, h.cr _ _ _ d3 d4 d2]
  unfold simpleW
  rw [h1, h2]
theorem Iso.check {T : Int × Int → Int × Int} {D : Int × Int → Prop} (h : Iso D T) {l : List (Int × Int)} (hc : checkW l l.length = 0) (hl : ∀ q ∈ l, D q) (hT : ∀ q ∈ l, nearB 1048576 (T q)) : checkW (l.map T) l.length = 0 := by
  have h3 := check_len hc
  have h0 : 0 < l.length := by omega
  have hs := h.simple hl h0
  unfold checkW at hc ⊢
  split at hc
  · cases hc
  · rename_i g1
    rw [if_neg g1]
    split at hc
    · cases hc
    · rename_i g2
      rw [if_neg g2]
      split at hc
      · cases hc
      · rw [if_neg, hs]
        · exact hc
        · intro e
          obtain ⟨i, hi, he⟩ := AnyB.iff.1 e
          rw [gt_map hi] at he
          have := hT _ (gt_in hi)
          unfold nearB at this
          unfold outB at he
          simp at he
          omega
theorem iso_rot1 : Iso (nearB 1048576) rot1 := by
  have hr : ∀ {q : Int × Int}, nearB 1048576 q → rot1 q = (-q.2, q.1) := fun {q} h => by
    unfold nearB at h; unfold rot1; rw [wrap_near (by omega) (by omega)]
  have hn : ∀ {q : Int × Int}, nearB 1048576 q → nearB 1048576 (rot1 q) := fun h => rot1_near (by omega) h
  have hcr : ∀ a b c, nearB 1048576 a → nearB 1048576 b → nearB 1048576 c → crossW (rot1 a) (rot1 b) (rot1 c) = crossW a b c := fun a b c ha hb hc => by
    rw [cross_near (hn ha) (hn hb) (hn hc), cross_near ha hb hc, hr ha, hr hb, hr hc]
    unfold crP
    dsimp only
    grind
  refine ⟨hcr, fun a b c ha hb hc => ?_, fun a b c ha hb hc => ?_, fun a b ha hb => ?_⟩
  · unfold onW
    rw [hcr a b c ha hb hc, hr ha, hr hb, hr hc]
    dsimp only
    generalize (crossW a b c == 0) = z
    cases z
    · rfl
    · simp only [Bool.true_and]
      rw [Bool.eq_iff_iff]
      simp
      omega
  · rw [folded_near (hn ha) (hn hb) (hn hc), folded_near ha hb hc, ← cross_near (hn ha) (hn hb) (hn hc), hcr a b c ha hb hc, cross_near ha hb hc]
    have : dtP (rot1 a) (rot1 b) (rot1 c) = dtP a b c := by
      rw [hr ha, hr hb, hr hc]
      unfold dtP
      dsimp only
      grind
    rw [this]
  · rw [hr ha, hr hb, Bool.eq_iff_iff]
    unfold eqS
    simp
    omega
def addP (x y : Int) (q : Int × Int) : Int × Int := (q.1 + x, q.2 + y)
theorem iso_mov (x y : Int) : Iso (fun q => nearB 1048576 q ∧ nearB 1048576 (addP x y q)) (addP x y) := by
  have hcr : ∀ a b c, (nearB 1048576 a ∧ nearB 1048576 (addP x y a)) → (nearB 1048576 b ∧ nearB 1048576 (addP x y b)) → (nearB 1048576 c ∧ nearB 1048576 (addP x y c)) → crossW (addP x y a) (addP x y b) (addP x y c) = crossW a b c := fun a b c ha hb hc => by
    rw [cross_near ha.2 hb.2 hc.2, cross_near ha.1 hb.1 hc.1]
    unfold crP addP
    dsimp only
    grind
  refine ⟨hcr, fun a b c ha hb hc => ?_, fun a b c ha hb hc => ?_, fun a b ha hb => ?_⟩
  · unfold onW
    rw [hcr a b c ha hb hc]
    unfold addP
    dsimp only
    generalize (crossW a b c == 0) = z
    cases z
    · rfl
    · simp only [Bool.true_and]
      rw [Bool.eq_iff_iff]
      simp
  · rw [folded_near ha.2 hb.2 hc.2, folded_near ha.1 hb.1 hc.1, ← cross_near ha.2 hb.2 hc.2, hcr a b c ha hb hc, cross_near ha.1 hb.1 hc.1]
    have : dtP (addP x y a) (addP x y b) (addP x y c) = dtP a b c := by
      unfold dtP addP
      dsimp only
      grind
    rw [this]
  · rw [Bool.eq_iff_iff]
    unfold eqS addP
    simp
theorem check_rotN {l : List (Int × Int)} (hc : checkW l l.length = 0) : ∀ n, checkW (l.map (rotN n)) l.length = 0 := by
  intro n
  induction n with
  | zero => rw [show l.map (rotN 0) = l by simp [rotN]]; exact hc
  | succ n ih =>
    have e : l.map (rotN (n + 1)) = (l.map (rotN n)).map rot1 := by rw [List.map_map]; rfl
    have hl : (l.map (rotN n)).length = l.length := List.length_map _
    have hn : ∀ q ∈ l.map (rotN n), nearB 1048576 q := check_near (by rw [hl]; exact ih)
    rw [e]
    have := iso_rot1.check (l := l.map (rotN n)) (by rw [hl]; exact ih) hn (fun q hq => rot1_near (by omega) (hn q hq))
    rw [hl] at this
    exact this
/-- A polygon that is turned by quarters and moved within the limits stays a polygon. -/
theorem check_turn {l : List (Int × Int)} (hc : checkW l l.length = 0) (u : Int) : checkW (tpolW false u l) l.length = 0 := by
  have : tpolW false u l = l.map (rotN (u % 4).toNat) := by
    unfold tpolW; simp only [Bool.false_eq_true, if_false]; rfl
  rw [this]; exact check_rotN hc _
theorem check_mov {l : List (Int × Int)} (hc : checkW l l.length = 0) {x y : Int} (h : ∀ q ∈ movP l x y, nearB 1048576 q) : checkW (movP l x y) l.length = 0 := by
  have hn := check_near hc
  have h' : ∀ q ∈ l, nearB 1048576 (addP x y q) := fun q hq => h _ (List.mem_map.2 ⟨q, hq, rfl⟩)
  exact (iso_mov x y).check hc (fun q hq => ⟨hn q hq, h' q hq⟩) h'
end Go.Proofs.YtmdncaoilegnnaaGreat

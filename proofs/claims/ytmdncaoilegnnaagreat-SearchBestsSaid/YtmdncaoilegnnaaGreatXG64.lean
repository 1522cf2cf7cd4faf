/- Lean texts of the claim. -/
import Derived.Test.YtmdncaoilegnnaaGreatXG13
import Derived.Test.YtmdncaoilegnnaaGreatXG40
namespace Go.Proofs.YtmdncaoilegnnaaGreat
set_option linter.unusedVariables false
set_option linter.unusedSimpArgs false
section
open Go.RowKit
theorem most_ge {p q : Int × Int} {b : List (Int × Int)} {v : Int} (hv : 0 ≤ v) : ∀ k, v ≤ mostTo p q b k ↔ ∃ i, i < k ∧ v ≤ cmpI (crossW p q (gt b i)) 0
 | 0 => by simp [mostTo]; omega
 | k + 1 => by
   rw [mostTo, show (v ≤ max (mostTo p q b k) (cmpI (crossW p q (gt b k)) 0)) ↔ (v ≤ mostTo p q b k ∨ v ≤ cmpI (crossW p q (gt b k)) 0) by omega, most_ge hv k]
   constructor
   ·rintro (⟨i, hi, h⟩ | h)
    ·exact ⟨i, by omega, h⟩
    ·exact ⟨k, by omega, h⟩
   ·rintro ⟨i, hi, h⟩
    by_cases c : i = k
    ·subst c; exact .inr h
    ·exact .inl ⟨i, by omega, h⟩
theorem reachTo_ge {a b : List (Int × Int)} {na nb : Nat} {v : Int} (hv : v ≤ 1) : ∀ k, v ≤ reachTo a b na nb k ↔ ∀ i, i < k → v ≤ mostTo (gt a i) (gt a ((i + 1) % na)) b nb
 | 0 => by simp [reachTo]; exact hv
 | k + 1 => by
   rw [reachTo, show (v ≤ min (reachTo a b na nb k) (mostTo (gt a k) (gt a ((k + 1) % na)) b nb)) ↔ (v ≤ reachTo a b na nb k ∧ v ≤ mostTo (gt a k) (gt a ((k + 1) % na)) b nb) by omega, reachTo_ge hv k]
   constructor
   ·rintro ⟨h1, h2⟩ i hi
    by_cases c : i = k
    ·subst c; exact h2
    ·exact h1 i (by omega)
   ·intro h; exact ⟨fun i hi => h i (by omega), h k (by omega)⟩
theorem reachTo_le {a b : List (Int × Int)} {na nb : Nat} : ∀ k, reachTo a b na nb k ≤ 1
 | 0 => by simp [reachTo]
 | k + 1 => by rw [reachTo]; have := reachTo_le (a := a) (b := b) (na := na) (nb := nb) k; omega
theorem contact_le (a b : List (Int × Int)) : contactW a b ≤ 1 := by
 unfold contactW reachW; have := reachTo_le (a := a) (b := b) (na := a.length) (nb := b.length) a.length; omega
theorem closIn_ge {s : List (Int × Int)} {ts : List (List (Int × Int))} {c0 v : Int} : ∀ k, v ≤ closIn s ts c0 k ↔ v ≤ c0 ∨ ∃ i, i < k ∧ v ≤ contactW s (lt_ ts i)
 | 0 => by simp [closIn]
 | k + 1 => by
   rw [closIn, show (v ≤ max (closIn s ts c0 k) (contactW s (lt_ ts k))) ↔ (v ≤ closIn s ts c0 k ∨ v ≤ contactW s (lt_ ts k)) by omega, closIn_ge k]
   constructor
   ·rintro ((h | ⟨i, hi, h⟩) | h)
    ·exact .inl h
    ·exact .inr ⟨i, by omega, h⟩
    ·exact .inr ⟨k, by omega, h⟩
   ·rintro (h | ⟨i, hi, h⟩)
    ·exact .inl (.inl h)
    ·by_cases c : i = k
     ·subst c; exact .inr h
     ·exact .inl (.inr ⟨i, by omega, h⟩)
theorem closTo_ge {ss ts : List (List (Int × Int))} {v : Int} (hv : 0 ≤ v) : ∀ k, v ≤ closTo ss ts k ↔ ∃ i, i < k ∧ ∃ j, j < ts.length ∧ v ≤ contactW (lt_ ss i) (lt_ ts j)
 | 0 => by simp [closTo]; omega
 | k + 1 => by
   rw [closTo, closIn_ge, closTo_ge hv k]
   constructor
   ·rintro (⟨i, hi, j, hj, h⟩ | ⟨j, hj, h⟩)
    ·exact ⟨i, by omega, j, hj, h⟩
    ·exact ⟨k, by omega, j, hj, h⟩
   ·rintro ⟨i, hi, j, hj, h⟩
    by_cases c : i = k
    ·subst c; exact .inr ⟨j, hj, h⟩
    ·exact .inl ⟨i, by omega, j, hj, h⟩
end
section
open Go.RowKit
def beyR (p q : Int × Int) (l : List (Int × Int)) (n : Nat) : Bool := AllB (fun i => decide (cmpI (crossW p q (gt l i)) 0 ≤ 0)) n
def aprR (p l : List (Int × Int)) : Bool := AnyB (fun i => beyR (gt p i) (gt p ((i + 1) % p.length)) l l.length) p.length
def metR (p q : List (Int × Int)) : Bool := !aprR p q && !aprR q p
def somR (a b : List (List (Int × Int))) : Bool := AnyB (fun i => AnyB (fun k => metR (lt_ a i) (lt_ b k)) b.length) a.length
theorem bey_iff {p q : Int × Int} {l : List (Int × Int)} {n : Nat} : beyR p q l n = false ↔ 1 ≤ mostTo p q l n := by
 rw [most_ge (by omega), ← Bool.not_eq_true]
 unfold beyR
 rw [AllB.iff]
 constructor
 ·intro h
  apply Classical.byContradiction
  intro hc
  apply h
  intro i hi
  apply decide_eq_true
  apply Classical.byContradiction
  intro h2
  exact hc ⟨i, hi, by omega⟩
 ·rintro ⟨i, hi, h⟩ h2
  have := of_decide_eq_true (h2 i hi)
  omega
theorem apr_iff {p l : List (Int × Int)} : aprR p l = false ↔ 1 ≤ reachW p l := by
 unfold reachW
 rw [reachTo_ge (by omega), ← Bool.not_eq_true]
 unfold aprR
 rw [AnyB.iff]
 constructor
 ·intro h i hi
  apply bey_iff.1
  cases hb : beyR (gt p i) (gt p ((i + 1) % p.length)) l l.length with
  | false => rfl
  | true => exact absurd ⟨i, hi, hb⟩ h
 ·rintro h ⟨i, hi, h2⟩
  rw [bey_iff.2 (h i hi)] at h2; cases h2
theorem met_iff {p q : List (Int × Int)} : metR p q = true ↔ 1 ≤ contactW p q := by
 unfold metR contactW
 rw [Bool.and_eq_true, Bool.not_eq_true', Bool.not_eq_true', apr_iff, apr_iff]
 omega
theorem som_iff {a b : List (List (Int × Int))} : somR a b = true ↔ 1 ≤ closTo a b a.length := by
 rw [closTo_ge (by omega)]
 unfold somR
 rw [AnyB.iff]
 constructor
 ·rintro ⟨i, hi, h⟩
  obtain ⟨k, hk, h⟩ := AnyB.iff.1 h
  exact ⟨i, hi, k, hk, met_iff.1 h⟩
 ·rintro ⟨i, hi, k, hk, h⟩
  exact ⟨i, hi, AnyB.iff.2 ⟨k, hk, met_iff.2 h⟩⟩
theorem clos_one {ss ts : List (List (Int × Int))} : closTo ss ts ss.length ≤ 1 := by
 rcases Int.lt_or_le 1 (closTo ss ts ss.length) with h | h
 ·obtain ⟨i, _, j, _, g⟩ := (closTo_ge (v := 2) (by omega) _).1 (show 2 ≤ closTo ss ts ss.length by omega)
  have := contact_le (lt_ ss i) (lt_ ts j); omega
 ·exact h
theorem over_some {a b : List (Int × Int)} (ha : checkW a a.length = 0) (hb : checkW b b.length = 0) : overW a b = (somR (Xb a).2 (Xb b).2, 0) := by
 have h1 := (Ears.split_ok ha).1
 have h2 := (Ears.split_ok hb).1
 unfold overW
 rw [relW_c h1 h2]
 refine Prod.ext ?_ rfl
 show ((0 : Int) == 0 && closTo (Xb a).2 (Xb b).2 (Xb a).2.length == 1) = _
 rw [Bool.eq_iff_iff, som_iff]
 have := clos_one (ss := (Xb a).2) (ts := (Xb b).2)
 simp
 omega
end
end Go.Proofs.YtmdncaoilegnnaaGreat

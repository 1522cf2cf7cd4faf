/-
  No cell of these rows narrows 'for every input' (looked for: loops, veiled, ifaces, maps, wideKeys, modest, calm, conditions, laid).
  DERIVED. THE GIVEN ROWS OF THIS SEAT. 5 by the template 'for every input the law returns true; each argument reads behind the call as it read before'; 0 by the template 'total and deterministic' (their statements: YtpbchbcdgikonaaGreatTotals.lean).
  GIVEN WITH THE SEED: the statements are not yours to turn. If you find one false, say at which input.
  Laid BY PROGRAM, IN A SANDBOX (cutbox-rows.mjs): the forced cells as the released guide's own fill.sh prints them over the translation feb08732e65ae3f6… (all of the seat's roots in one cut). By AI agents, Wed Nov 11 2026. No macro, syntax, notation, axiom, sorry.
-/
import Derived.Test.YtpbchbcdgikonaaGreatChecked
import GoSem.Claim
import GoSem.ClaimJoined
import GoSem.ClaimMapViews
import Derived.JoinedTies
import Derived.KernelRfl
namespace Go.Proofs.YtpbchbcdgikonaaGreat
/- THE CELL 'sum', in the pinned program and in every row, IS THE sha256 OF THE DUMP (.gsa) THAT YtpbchbcdgikonaaGreatProg.lean LOADS. Nothing in Lean hashes anything: it is a label: what it is worth is what the hold of that sum in a sandbox is worth. -/
noncomputable def Tryz.pinned : Pinned := { name := "ytpbchbcdgikonaagreat", sum := "feb08732e65ae3f611904d9c8fc8c974c0c5da4fd51057ff85da9518a0cfd4f6", checked := Tryz.checked }
namespace Rows
def none {H : Type} : Left H := { results := [], args := [] }

/-- 'garmentlaw33.MarkerExact': WHATEVER THE INPUT: true; the input reads as it did. -/
def markerExactSpec : ChangeSpec := { name := "markerExact", fn := fun _ => fun
  | [d] => { results := [.lit (.bool true)], args := [d] }
  | _ => none }
def markerExactRow : OpenClaim := { program := "ytpbchbcdgikonaagreat", sum := "feb08732e65ae3f611904d9c8fc8c974c0c5da4fd51057ff85da9518a0cfd4f6", func := "garment/garmentlaw33.MarkerExact", spec := "markerExact", inPlace := ["math.sqrt"], unfollowed := true, recurses := true, named := ["math/bits.divideError", "math/bits.overflowError"], plainKeys := false, apart := false }
def MarkerExactSaid : Prop := markerExactRow.holds Tryz.pinned (OpenSpec.ofChange markerExactSpec)

/-- ITS FALSE NEIGHBOUR: 'it returns false'. Refute it at one input. -/
def markerExactWrong : ChangeSpec := { name := "markerExact", fn := fun _ => fun
  | [d] => { results := [.lit (.bool false)], args := [d] }
  | _ => none }
def MarkerExactWrongFalsely : Prop := markerExactRow.holds Tryz.pinned (OpenSpec.ofChange markerExactWrong)

/-- 'garmentlaw33.MarkerMisses': WHATEVER THE INPUT: true; the input reads as it did. -/
def markerMissesSpec : ChangeSpec := { name := "markerMisses", fn := fun _ => fun
  | [d1, d2] => { results := [.lit (.bool true)], args := [d1, d2] }
  | _ => none }
def markerMissesRow : OpenClaim := { program := "ytpbchbcdgikonaagreat", sum := "feb08732e65ae3f611904d9c8fc8c974c0c5da4fd51057ff85da9518a0cfd4f6", func := "garment/garmentlaw33.MarkerMisses", spec := "markerMisses", inPlace := ["math.sqrt"], unfollowed := true, recurses := true, named := ["math/bits.divideError", "math/bits.overflowError"], plainKeys := false, apart := false }
def MarkerMissesSaid : Prop := markerMissesRow.holds Tryz.pinned (OpenSpec.ofChange markerMissesSpec)

/-- ITS FALSE NEIGHBOUR: 'it returns false'. Refute it at one input. -/
def markerMissesWrong : ChangeSpec := { name := "markerMisses", fn := fun _ => fun
  | [d1, d2] => { results := [.lit (.bool false)], args := [d1, d2] }
  | _ => none }
def MarkerMissesWrongFalsely : Prop := markerMissesRow.holds Tryz.pinned (OpenSpec.ofChange markerMissesWrong)

/-- 'garmentlaw33.MarkerLengths': WHATEVER THE INPUT: true; the input reads as it did. -/
def markerLengthsSpec : ChangeSpec := { name := "markerLengths", fn := fun _ => fun
  | [d1, d2] => { results := [.lit (.bool true)], args := [d1, d2] }
  | _ => none }
def markerLengthsRow : OpenClaim := { program := "ytpbchbcdgikonaagreat", sum := "feb08732e65ae3f611904d9c8fc8c974c0c5da4fd51057ff85da9518a0cfd4f6", func := "garment/garmentlaw33.MarkerLengths", spec := "markerLengths", inPlace := ["math.sqrt"], unfollowed := true, recurses := true, named := ["math/bits.divideError", "math/bits.overflowError"], plainKeys := false, apart := false }
def MarkerLengthsSaid : Prop := markerLengthsRow.holds Tryz.pinned (OpenSpec.ofChange markerLengthsSpec)

/-- ITS FALSE NEIGHBOUR: 'it returns false'. Refute it at one input. -/
def markerLengthsWrong : ChangeSpec := { name := "markerLengths", fn := fun _ => fun
  | [d1, d2] => { results := [.lit (.bool false)], args := [d1, d2] }
  | _ => none }
def MarkerLengthsWrongFalsely : Prop := markerLengthsRow.holds Tryz.pinned (OpenSpec.ofChange markerLengthsWrong)

/-- 'garmentlaw33.MarkerSums': WHATEVER THE INPUT: true; the input reads as it did. -/
def markerSumsSpec : ChangeSpec := { name := "markerSums", fn := fun _ => fun
  | [d1, d2] => { results := [.lit (.bool true)], args := [d1, d2] }
  | _ => none }
def markerSumsRow : OpenClaim := { program := "ytpbchbcdgikonaagreat", sum := "feb08732e65ae3f611904d9c8fc8c974c0c5da4fd51057ff85da9518a0cfd4f6", func := "garment/garmentlaw33.MarkerSums", spec := "markerSums", inPlace := ["math.sqrt"], unfollowed := true, recurses := true, named := ["math/bits.divideError", "math/bits.overflowError"], plainKeys := false, apart := false }
def MarkerSumsSaid : Prop := markerSumsRow.holds Tryz.pinned (OpenSpec.ofChange markerSumsSpec)

/-- ITS FALSE NEIGHBOUR: 'it returns false'. Refute it at one input. -/
def markerSumsWrong : ChangeSpec := { name := "markerSums", fn := fun _ => fun
  | [d1, d2] => { results := [.lit (.bool false)], args := [d1, d2] }
  | _ => none }
def MarkerSumsWrongFalsely : Prop := markerSumsRow.holds Tryz.pinned (OpenSpec.ofChange markerSumsWrong)

/-- 'garmentlaw33.MarkerOrder': WHATEVER THE INPUT: true; the input reads as it did. -/
def markerOrderSpec : ChangeSpec := { name := "markerOrder", fn := fun _ => fun
  | [d1, d2] => { results := [.lit (.bool true)], args := [d1, d2] }
  | _ => none }
def markerOrderRow : OpenClaim := { program := "ytpbchbcdgikonaagreat", sum := "feb08732e65ae3f611904d9c8fc8c974c0c5da4fd51057ff85da9518a0cfd4f6", func := "garment/garmentlaw33.MarkerOrder", spec := "markerOrder", inPlace := ["math.sqrt"], unfollowed := true, recurses := true, named := ["math/bits.divideError", "math/bits.overflowError"], plainKeys := false, apart := false }
def MarkerOrderSaid : Prop := markerOrderRow.holds Tryz.pinned (OpenSpec.ofChange markerOrderSpec)

/-- ITS FALSE NEIGHBOUR: 'it returns false'. Refute it at one input. -/
def markerOrderWrong : ChangeSpec := { name := "markerOrder", fn := fun _ => fun
  | [d1, d2] => { results := [.lit (.bool false)], args := [d1, d2] }
  | _ => none }
def MarkerOrderWrongFalsely : Prop := markerOrderRow.holds Tryz.pinned (OpenSpec.ofChange markerOrderWrong)

/- THE SECOND FORM. 'bulk': how many values and letters a reading holds, each counted each time it is reached (what is shared counts as often as it is met; a slice's spare places count too). A statement '..UptoSaid' is the law's where the arguments, and the package variables that the reading takes, are together of bulk at most 1048576: NARROWER than '..Said'. Prove '..Said' where nothing that the law and all that it calls make is longer than what came in: it says more and counts as full. Else prove '..UptoSaid'. A law counts once. -/
mutual
def uptoBulk {H : Type} : DataW H → Nat
  | .lit (.string bytes) => bytes.length + 1
  | .lit _ => 1
  | .nil => 1
  | .ptr d => uptoBulk d + 1
  | .slice elems spare => uptoBulkAll elems + uptoBulkAll spare + 1
  | .agg parts => uptoBulkAll parts + 1
  | .iface _ d => uptoBulk d + 1
  | .map entries => uptoBulkEntries entries + 1
  | .held _ => 1
def uptoBulkAll {H : Type} : List (DataW H) → Nat
  | [] => 0
  | d :: r => uptoBulk d + uptoBulkAll r
def uptoBulkEntries {H : Type} : List (Lit × DataW H) → Nat
  | [] => 0
  | x :: r => uptoBulkEntry x + uptoBulkEntries r
def uptoBulkEntry {H : Type} : Lit × DataW H → Nat
  | (.string bytes, d) => bytes.length + uptoBulk d + 1
  | (_, d) => uptoBulk d + 1
 end
def uptoSmall : (H : Type) → List (DataW H) → Bool := fun _ ds => decide (uptoBulkAll ds ≤ 1048576)
def OpenSpec.upto (s : _root_.Go.ChangeSpec) : _root_.Go.OpenSpec := { _root_.Go.OpenSpec.ofChange s with cond := some uptoSmall }

/-- 'garmentlaw33.MarkerExact', WHERE WHAT IT READS IS OF BULK AT MOST 1048576: true; the input reads as it did. -/
def markerExactUptoRow : OpenClaim := { program := "ytpbchbcdgikonaagreat", sum := "feb08732e65ae3f611904d9c8fc8c974c0c5da4fd51057ff85da9518a0cfd4f6", func := "garment/garmentlaw33.MarkerExact", spec := "markerExact", inPlace := ["math.sqrt"], unfollowed := true, recurses := true, named := ["math/bits.divideError", "math/bits.overflowError"], plainKeys := false, apart := false, narrowed := true }
def MarkerExactUptoSaid : Prop := markerExactUptoRow.holds Tryz.pinned (OpenSpec.upto markerExactSpec)

/-- 'garmentlaw33.MarkerMisses', WHERE WHAT IT READS IS OF BULK AT MOST 1048576: true; the input reads as it did. -/
def markerMissesUptoRow : OpenClaim := { program := "ytpbchbcdgikonaagreat", sum := "feb08732e65ae3f611904d9c8fc8c974c0c5da4fd51057ff85da9518a0cfd4f6", func := "garment/garmentlaw33.MarkerMisses", spec := "markerMisses", inPlace := ["math.sqrt"], unfollowed := true, recurses := true, named := ["math/bits.divideError", "math/bits.overflowError"], plainKeys := false, apart := false, narrowed := true }
def MarkerMissesUptoSaid : Prop := markerMissesUptoRow.holds Tryz.pinned (OpenSpec.upto markerMissesSpec)

/-- 'garmentlaw33.MarkerLengths', WHERE WHAT IT READS IS OF BULK AT MOST 1048576: true; the input reads as it did. -/
def markerLengthsUptoRow : OpenClaim := { program := "ytpbchbcdgikonaagreat", sum := "feb08732e65ae3f611904d9c8fc8c974c0c5da4fd51057ff85da9518a0cfd4f6", func := "garment/garmentlaw33.MarkerLengths", spec := "markerLengths", inPlace := ["math.sqrt"], unfollowed := true, recurses := true, named := ["math/bits.divideError", "math/bits.overflowError"], plainKeys := false, apart := false, narrowed := true }
def MarkerLengthsUptoSaid : Prop := markerLengthsUptoRow.holds Tryz.pinned (OpenSpec.upto markerLengthsSpec)

/-- 'garmentlaw33.MarkerSums', WHERE WHAT IT READS IS OF BULK AT MOST 1048576: true; the input reads as it did. -/
def markerSumsUptoRow : OpenClaim := { program := "ytpbchbcdgikonaagreat", sum := "feb08732e65ae3f611904d9c8fc8c974c0c5da4fd51057ff85da9518a0cfd4f6", func := "garment/garmentlaw33.MarkerSums", spec := "markerSums", inPlace := ["math.sqrt"], unfollowed := true, recurses := true, named := ["math/bits.divideError", "math/bits.overflowError"], plainKeys := false, apart := false, narrowed := true }
def MarkerSumsUptoSaid : Prop := markerSumsUptoRow.holds Tryz.pinned (OpenSpec.upto markerSumsSpec)

/-- 'garmentlaw33.MarkerOrder', WHERE WHAT IT READS IS OF BULK AT MOST 1048576: true; the input reads as it did. -/
def markerOrderUptoRow : OpenClaim := { program := "ytpbchbcdgikonaagreat", sum := "feb08732e65ae3f611904d9c8fc8c974c0c5da4fd51057ff85da9518a0cfd4f6", func := "garment/garmentlaw33.MarkerOrder", spec := "markerOrder", inPlace := ["math.sqrt"], unfollowed := true, recurses := true, named := ["math/bits.divideError", "math/bits.overflowError"], plainKeys := false, apart := false, narrowed := true }
def MarkerOrderUptoSaid : Prop := markerOrderUptoRow.holds Tryz.pinned (OpenSpec.upto markerOrderSpec)

end Rows
end Go.Proofs.YtpbchbcdgikonaaGreat

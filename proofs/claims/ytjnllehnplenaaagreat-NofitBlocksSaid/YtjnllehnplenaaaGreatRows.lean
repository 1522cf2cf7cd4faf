/-
  No cell of these rows narrows 'for every input' (looked for: loops, veiled, ifaces, maps, wideKeys, modest, calm, conditions, laid).
  DERIVED. THE GIVEN ROWS OF THIS SEAT. 3 by the template 'for every input the law returns true; each argument reads behind the call as it read before'; 0 by the template 'total and deterministic' (their statements: YtjnllehnplenaaaGreatTotals.lean).
  GIVEN WITH THE SEED: the statements are not yours to turn. If you find one false, say at which input.
  Laid BY PROGRAM, IN A SANDBOX (cutbox-rows.mjs): the forced cells as the released guide's own fill.sh prints them over the translation 2527424164b2318b… (all of the seat's roots in one cut). By AI agents, Wed Nov 11 2026. No macro, syntax, notation, axiom, sorry.
-/
import Derived.Test.YtjnllehnplenaaaGreatChecked
import GoSem.Claim
import GoSem.ClaimJoined
import GoSem.ClaimMapViews
import Derived.JoinedTies
import Derived.KernelRfl
namespace Go.Proofs.YtjnllehnplenaaaGreat
/- THE CELL 'sum', in the pinned program and in every row, IS THE sha256 OF THE DUMP (.gsa) THAT YtjnllehnplenaaaGreatProg.lean LOADS. Nothing in Lean hashes anything: it is a label: what it is worth is what the hold of that sum in a sandbox is worth. -/
noncomputable def Tryz.pinned : Pinned := { name := "ytjnllehnplenaaagreat", sum := "2527424164b2318b3212e508b97c44c439f917c70d359e5c1201509e78d43013", checked := Tryz.checked }
namespace Rows
def none {H : Type} : Left H := { results := [], args := [] }

/-- 'garmentlaw16.NofitRegions': WHATEVER THE INPUT: true; the input reads as it did. -/
def nofitRegionsSpec : ChangeSpec := { name := "nofitRegions", fn := fun _ => fun
  | [d1, d2] => { results := [.lit (.bool true)], args := [d1, d2] }
  | _ => none }
def nofitRegionsRow : OpenClaim := { program := "ytjnllehnplenaaagreat", sum := "2527424164b2318b3212e508b97c44c439f917c70d359e5c1201509e78d43013", func := "garment/garmentlaw16.NofitRegions", spec := "nofitRegions", unfollowed := true, recurses := true, plainKeys := false, apart := false }
def NofitRegionsSaid : Prop := nofitRegionsRow.holds Tryz.pinned (OpenSpec.ofChange nofitRegionsSpec)

/-- ITS FALSE NEIGHBOUR: 'it returns false'. Refute it at one input. -/
def nofitRegionsWrong : ChangeSpec := { name := "nofitRegions", fn := fun _ => fun
  | [d1, d2] => { results := [.lit (.bool false)], args := [d1, d2] }
  | _ => none }
def NofitRegionsWrongFalsely : Prop := nofitRegionsRow.holds Tryz.pinned (OpenSpec.ofChange nofitRegionsWrong)

/-- 'garmentlaw16.NofitBlocks': WHATEVER THE INPUT: true; the input reads as it did. -/
def nofitBlocksSpec : ChangeSpec := { name := "nofitBlocks", fn := fun _ => fun
  | [d1, d2, d3] => { results := [.lit (.bool true)], args := [d1, d2, d3] }
  | _ => none }
def nofitBlocksRow : OpenClaim := { program := "ytjnllehnplenaaagreat", sum := "2527424164b2318b3212e508b97c44c439f917c70d359e5c1201509e78d43013", func := "garment/garmentlaw16.NofitBlocks", spec := "nofitBlocks", unfollowed := true, recurses := true, plainKeys := false, apart := false }
def NofitBlocksSaid : Prop := nofitBlocksRow.holds Tryz.pinned (OpenSpec.ofChange nofitBlocksSpec)

/-- ITS FALSE NEIGHBOUR: 'it returns false'. Refute it at one input. -/
def nofitBlocksWrong : ChangeSpec := { name := "nofitBlocks", fn := fun _ => fun
  | [d1, d2, d3] => { results := [.lit (.bool false)], args := [d1, d2, d3] }
  | _ => none }
def NofitBlocksWrongFalsely : Prop := nofitBlocksRow.holds Tryz.pinned (OpenSpec.ofChange nofitBlocksWrong)

/-- 'garmentlaw16.NofitSpots': WHATEVER THE INPUT: true; the input reads as it did. -/
def nofitSpotsSpec : ChangeSpec := { name := "nofitSpots", fn := fun _ => fun
  | [d1, d2] => { results := [.lit (.bool true)], args := [d1, d2] }
  | _ => none }
def nofitSpotsRow : OpenClaim := { program := "ytjnllehnplenaaagreat", sum := "2527424164b2318b3212e508b97c44c439f917c70d359e5c1201509e78d43013", func := "garment/garmentlaw16.NofitSpots", spec := "nofitSpots", unfollowed := true, recurses := true, plainKeys := false, apart := false }
def NofitSpotsSaid : Prop := nofitSpotsRow.holds Tryz.pinned (OpenSpec.ofChange nofitSpotsSpec)

/-- ITS FALSE NEIGHBOUR: 'it returns false'. Refute it at one input. -/
def nofitSpotsWrong : ChangeSpec := { name := "nofitSpots", fn := fun _ => fun
  | [d1, d2] => { results := [.lit (.bool false)], args := [d1, d2] }
  | _ => none }
def NofitSpotsWrongFalsely : Prop := nofitSpotsRow.holds Tryz.pinned (OpenSpec.ofChange nofitSpotsWrong)

/- THE SECOND FORM. 'bulk': how many values and letters a reading holds, each counted each time it is reached (what is shared counts as often as it is met; a slice's spare places count too). A statement '..UptoSaid' is the law's where the arguments, and the package variables that the reading takes, are together of bulk at most 1048576: NARROWER than '..Said'. Prove '..Said' where nothing that the law and all that it calls make is longer than what came in: it says more and counts as full. Else prove '..UptoSaid'. A law counts once. -/
mutual
def uptoBulk {H : Type} : DataW H → Nat
  | .lit (.string bytes) => bytes.length + 1
  | .lit _ => 1
  | .nil => 1
  | .ptr d => uptoBulk d + 1
  | .slice elems spare => uptoBulkAll elems + uptoBulkAll spare + 1
  | .agg parts => uptoBulkAll parts + 1
  | .iface _ d => uptoBulk d + 1
  | .map entries => uptoBulkEntries entries + 1
  | .held _ => 1
def uptoBulkAll {H : Type} : List (DataW H) → Nat
  | [] => 0
  | d :: r => uptoBulk d + uptoBulkAll r
def uptoBulkEntries {H : Type} : List (Lit × DataW H) → Nat
  | [] => 0
  | x :: r => uptoBulkEntry x + uptoBulkEntries r
def uptoBulkEntry {H : Type} : Lit × DataW H → Nat
  | (.string bytes, d) => bytes.length + uptoBulk d + 1
  | (_, d) => uptoBulk d + 1
 end
def uptoSmall : (H : Type) → List (DataW H) → Bool := fun _ ds => decide (uptoBulkAll ds ≤ 1048576)
def OpenSpec.upto (s : _root_.Go.ChangeSpec) : _root_.Go.OpenSpec := { _root_.Go.OpenSpec.ofChange s with cond := some uptoSmall }

/-- 'garmentlaw16.NofitRegions', WHERE WHAT IT READS IS OF BULK AT MOST 1048576: true; the input reads as it did. -/
def nofitRegionsUptoRow : OpenClaim := { program := "ytjnllehnplenaaagreat", sum := "2527424164b2318b3212e508b97c44c439f917c70d359e5c1201509e78d43013", func := "garment/garmentlaw16.NofitRegions", spec := "nofitRegions", unfollowed := true, recurses := true, plainKeys := false, apart := false, narrowed := true }
def NofitRegionsUptoSaid : Prop := nofitRegionsUptoRow.holds Tryz.pinned (OpenSpec.upto nofitRegionsSpec)

/-- 'garmentlaw16.NofitBlocks', WHERE WHAT IT READS IS OF BULK AT MOST 1048576: true; the input reads as it did. -/
def nofitBlocksUptoRow : OpenClaim := { program := "ytjnllehnplenaaagreat", sum := "2527424164b2318b3212e508b97c44c439f917c70d359e5c1201509e78d43013", func := "garment/garmentlaw16.NofitBlocks", spec := "nofitBlocks", unfollowed := true, recurses := true, plainKeys := false, apart := false, narrowed := true }
def NofitBlocksUptoSaid : Prop := nofitBlocksUptoRow.holds Tryz.pinned (OpenSpec.upto nofitBlocksSpec)

/-- 'garmentlaw16.NofitSpots', WHERE WHAT IT READS IS OF BULK AT MOST 1048576: true; the input reads as it did. -/
def nofitSpotsUptoRow : OpenClaim := { program := "ytjnllehnplenaaagreat", sum := "2527424164b2318b3212e508b97c44c439f917c70d359e5c1201509e78d43013", func := "garment/garmentlaw16.NofitSpots", spec := "nofitSpots", unfollowed := true, recurses := true, plainKeys := false, apart := false, narrowed := true }
def NofitSpotsUptoSaid : Prop := nofitSpotsUptoRow.holds Tryz.pinned (OpenSpec.upto nofitSpotsSpec)

end Rows
end Go.Proofs.YtjnllehnplenaaaGreat

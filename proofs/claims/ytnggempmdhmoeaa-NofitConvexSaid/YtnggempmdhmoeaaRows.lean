/-
  No cell of these rows narrows 'for every input' (looked for: loops, veiled, ifaces, maps, wideKeys, modest, calm, conditions, laid).
  DERIVED. THE GIVEN ROWS OF THIS SEAT. 6 by the template 'for every input the law returns true; each argument reads behind the call as it read before'; 0 by the template 'total and deterministic' (their statements: YtnggempmdhmoeaaTotals.lean).
  GIVEN WITH THE SEED: the statements are not yours to turn. If you find one false, say at which input.
  Laid BY PROGRAM, IN A SANDBOX (cutbox-rows.mjs): the forced cells as the released guide's own fill.sh prints them over the translation 01752848a71ad0ff… (all of the seat's roots in one cut). By AI agents, Wed Nov 11 2026. No macro, syntax, notation, axiom, sorry.
-/
import Derived.Test.YtnggempmdhmoeaaChecked
import GoSem.Claim
import GoSem.ClaimJoined
import GoSem.ClaimMapViews
import Derived.JoinedTies
import Derived.KernelRfl
namespace Go.Proofs.Ytnggempmdhmoeaa
/- THE CELL 'sum', in the pinned program and in every row, IS THE sha256 OF THE DUMP (.gsa) THAT YtnggempmdhmoeaaProg.lean LOADS. Nothing in Lean hashes anything: it is a label: what it is worth is what the hold of that sum in a sandbox is worth. -/
noncomputable def Try.pinned : Pinned := { name := "ytnggempmdhmoeaa", sum := "01752848a71ad0ff821f5207ff2d62c51fd1cd44b6baf91822c43af993b12e63", checked := Try.checked }
namespace Rows
def none {H : Type} : Left H := { results := [], args := [] }

/-- 'garmentlaw16.NofitSwaps': WHATEVER THE INPUT: true; the input reads as it did. -/
def nofitSwapsSpec : ChangeSpec := { name := "nofitSwaps", fn := fun _ => fun
  | [d1, d2, d3] => { results := [.lit (.bool true)], args := [d1, d2, d3] }
  | _ => none }
def nofitSwapsRow : OpenClaim := { program := "ytnggempmdhmoeaa", sum := "01752848a71ad0ff821f5207ff2d62c51fd1cd44b6baf91822c43af993b12e63", func := "garment/garmentlaw16.NofitSwaps", spec := "nofitSwaps", unfollowed := true, recurses := true, plainKeys := false, apart := false }
def NofitSwapsSaid : Prop := nofitSwapsRow.holds Try.pinned (OpenSpec.ofChange nofitSwapsSpec)

/-- ITS FALSE NEIGHBOUR: 'it returns false'. Refute it at one input. -/
def nofitSwapsWrong : ChangeSpec := { name := "nofitSwaps", fn := fun _ => fun
  | [d1, d2, d3] => { results := [.lit (.bool false)], args := [d1, d2, d3] }
  | _ => none }
def NofitSwapsWrongFalsely : Prop := nofitSwapsRow.holds Try.pinned (OpenSpec.ofChange nofitSwapsWrong)

/-- 'garmentlaw16.NofitMoves': WHATEVER THE INPUT: true; the input reads as it did. -/
def nofitMovesSpec : ChangeSpec := { name := "nofitMoves", fn := fun _ => fun
  | [d1, d2, d3] => { results := [.lit (.bool true)], args := [d1, d2, d3] }
  | _ => none }
def nofitMovesRow : OpenClaim := { program := "ytnggempmdhmoeaa", sum := "01752848a71ad0ff821f5207ff2d62c51fd1cd44b6baf91822c43af993b12e63", func := "garment/garmentlaw16.NofitMoves", spec := "nofitMoves", unfollowed := true, recurses := true, plainKeys := false, apart := false }
def NofitMovesSaid : Prop := nofitMovesRow.holds Try.pinned (OpenSpec.ofChange nofitMovesSpec)

/-- ITS FALSE NEIGHBOUR: 'it returns false'. Refute it at one input. -/
def nofitMovesWrong : ChangeSpec := { name := "nofitMoves", fn := fun _ => fun
  | [d1, d2, d3] => { results := [.lit (.bool false)], args := [d1, d2, d3] }
  | _ => none }
def NofitMovesWrongFalsely : Prop := nofitMovesRow.holds Try.pinned (OpenSpec.ofChange nofitMovesWrong)

/-- 'garmentlaw16.NofitSelf': WHATEVER THE INPUT: true; the input reads as it did. -/
def nofitSelfSpec : ChangeSpec := { name := "nofitSelf", fn := fun _ => fun
  | [d1, d2] => { results := [.lit (.bool true)], args := [d1, d2] }
  | _ => none }
def nofitSelfRow : OpenClaim := { program := "ytnggempmdhmoeaa", sum := "01752848a71ad0ff821f5207ff2d62c51fd1cd44b6baf91822c43af993b12e63", func := "garment/garmentlaw16.NofitSelf", spec := "nofitSelf", unfollowed := true, recurses := true, plainKeys := false, apart := false }
def NofitSelfSaid : Prop := nofitSelfRow.holds Try.pinned (OpenSpec.ofChange nofitSelfSpec)

/-- ITS FALSE NEIGHBOUR: 'it returns false'. Refute it at one input. -/
def nofitSelfWrong : ChangeSpec := { name := "nofitSelf", fn := fun _ => fun
  | [d1, d2] => { results := [.lit (.bool false)], args := [d1, d2] }
  | _ => none }
def NofitSelfWrongFalsely : Prop := nofitSelfRow.holds Try.pinned (OpenSpec.ofChange nofitSelfWrong)

/-- 'garmentlaw16.NofitConvex': WHATEVER THE INPUT: true; the input reads as it did. -/
def nofitConvexSpec : ChangeSpec := { name := "nofitConvex", fn := fun _ => fun
  | [d1, d2, d3] => { results := [.lit (.bool true)], args := [d1, d2, d3] }
  | _ => none }
def nofitConvexRow : OpenClaim := { program := "ytnggempmdhmoeaa", sum := "01752848a71ad0ff821f5207ff2d62c51fd1cd44b6baf91822c43af993b12e63", func := "garment/garmentlaw16.NofitConvex", spec := "nofitConvex", unfollowed := true, recurses := true, plainKeys := false, apart := false }
def NofitConvexSaid : Prop := nofitConvexRow.holds Try.pinned (OpenSpec.ofChange nofitConvexSpec)

/-- ITS FALSE NEIGHBOUR: 'it returns false'. Refute it at one input. -/
def nofitConvexWrong : ChangeSpec := { name := "nofitConvex", fn := fun _ => fun
  | [d1, d2, d3] => { results := [.lit (.bool false)], args := [d1, d2, d3] }
  | _ => none }
def NofitConvexWrongFalsely : Prop := nofitConvexRow.holds Try.pinned (OpenSpec.ofChange nofitConvexWrong)

/-- 'garmentlaw16.NofitExact': WHATEVER THE INPUT: true; the input reads as it did. -/
def nofitExactSpec : ChangeSpec := { name := "nofitExact", fn := fun _ => fun
  | [d1, d2, d3] => { results := [.lit (.bool true)], args := [d1, d2, d3] }
  | _ => none }
def nofitExactRow : OpenClaim := { program := "ytnggempmdhmoeaa", sum := "01752848a71ad0ff821f5207ff2d62c51fd1cd44b6baf91822c43af993b12e63", func := "garment/garmentlaw16.NofitExact", spec := "nofitExact", unfollowed := true, recurses := true, plainKeys := false, apart := false }
def NofitExactSaid : Prop := nofitExactRow.holds Try.pinned (OpenSpec.ofChange nofitExactSpec)

/-- ITS FALSE NEIGHBOUR: 'it returns false'. Refute it at one input. -/
def nofitExactWrong : ChangeSpec := { name := "nofitExact", fn := fun _ => fun
  | [d1, d2, d3] => { results := [.lit (.bool false)], args := [d1, d2, d3] }
  | _ => none }
def NofitExactWrongFalsely : Prop := nofitExactRow.holds Try.pinned (OpenSpec.ofChange nofitExactWrong)

/-- 'garmentlaw16.NofitTouches': WHATEVER THE INPUT: true; the input reads as it did. -/
def nofitTouchesSpec : ChangeSpec := { name := "nofitTouches", fn := fun _ => fun
  | [d1, d2, d3] => { results := [.lit (.bool true)], args := [d1, d2, d3] }
  | _ => none }
def nofitTouchesRow : OpenClaim := { program := "ytnggempmdhmoeaa", sum := "01752848a71ad0ff821f5207ff2d62c51fd1cd44b6baf91822c43af993b12e63", func := "garment/garmentlaw16.NofitTouches", spec := "nofitTouches", unfollowed := true, recurses := true, plainKeys := false, apart := false }
def NofitTouchesSaid : Prop := nofitTouchesRow.holds Try.pinned (OpenSpec.ofChange nofitTouchesSpec)

/-- ITS FALSE NEIGHBOUR: 'it returns false'. Refute it at one input. -/
def nofitTouchesWrong : ChangeSpec := { name := "nofitTouches", fn := fun _ => fun
  | [d1, d2, d3] => { results := [.lit (.bool false)], args := [d1, d2, d3] }
  | _ => none }
def NofitTouchesWrongFalsely : Prop := nofitTouchesRow.holds Try.pinned (OpenSpec.ofChange nofitTouchesWrong)

/- THE SECOND FORM. 'bulk': how many values and letters a reading holds, each counted each time it is reached (what is shared counts as often as it is met; a slice's spare places count too). A statement '..UptoSaid' is the law's where the arguments, and the package variables that the reading takes, are together of bulk at most 1048576: NARROWER than '..Said'. Prove '..Said' where nothing that the law and all that it calls make is longer than what came in: it says more and counts as full. Else prove '..UptoSaid'. A law counts once. -/
mutual
def uptoBulk {H : Type} : DataW H → Nat
  | .lit (.string bytes) => bytes.length + 1
  | .lit _ => 1
  | .nil => 1
  | .ptr d => uptoBulk d + 1
  | .slice elems spare => uptoBulkAll elems + uptoBulkAll spare + 1
  | .agg parts => uptoBulkAll parts + 1
  | .iface _ d => uptoBulk d + 1
  | .map entries => uptoBulkEntries entries + 1
  | .held _ => 1
def uptoBulkAll {H : Type} : List (DataW H) → Nat
  | [] => 0
  | d :: r => uptoBulk d + uptoBulkAll r
def uptoBulkEntries {H : Type} : List (Lit × DataW H) → Nat
  | [] => 0
  | x :: r => uptoBulkEntry x + uptoBulkEntries r
def uptoBulkEntry {H : Type} : Lit × DataW H → Nat
  | (.string bytes, d) => bytes.length + uptoBulk d + 1
  | (_, d) => uptoBulk d + 1
 end
def uptoSmall : (H : Type) → List (DataW H) → Bool := fun _ ds => decide (uptoBulkAll ds ≤ 1048576)
def OpenSpec.upto (s : _root_.Go.ChangeSpec) : _root_.Go.OpenSpec := { _root_.Go.OpenSpec.ofChange s with cond := some uptoSmall }

/-- 'garmentlaw16.NofitSwaps', WHERE WHAT IT READS IS OF BULK AT MOST 1048576: true; the input reads as it did. -/
def nofitSwapsUptoRow : OpenClaim := { program := "ytnggempmdhmoeaa", sum := "01752848a71ad0ff821f5207ff2d62c51fd1cd44b6baf91822c43af993b12e63", func := "garment/garmentlaw16.NofitSwaps", spec := "nofitSwaps", unfollowed := true, recurses := true, plainKeys := false, apart := false, narrowed := true }
def NofitSwapsUptoSaid : Prop := nofitSwapsUptoRow.holds Try.pinned (OpenSpec.upto nofitSwapsSpec)

/-- 'garmentlaw16.NofitMoves', WHERE WHAT IT READS IS OF BULK AT MOST 1048576: true; the input reads as it did. -/
def nofitMovesUptoRow : OpenClaim := { program := "ytnggempmdhmoeaa", sum := "01752848a71ad0ff821f5207ff2d62c51fd1cd44b6baf91822c43af993b12e63", func := "garment/garmentlaw16.NofitMoves", spec := "nofitMoves", unfollowed := true, recurses := true, plainKeys := false, apart := false, narrowed := true }
def NofitMovesUptoSaid : Prop := nofitMovesUptoRow.holds Try.pinned (OpenSpec.upto nofitMovesSpec)

/-- 'garmentlaw16.NofitSelf', WHERE WHAT IT READS IS OF BULK AT MOST 1048576: true; the input reads as it did. -/
def nofitSelfUptoRow : OpenClaim := { program := "ytnggempmdhmoeaa", sum := "01752848a71ad0ff821f5207ff2d62c51fd1cd44b6baf91822c43af993b12e63", func := "garment/garmentlaw16.NofitSelf", spec := "nofitSelf", unfollowed := true, recurses := true, plainKeys := false, apart := false, narrowed := true }
def NofitSelfUptoSaid : Prop := nofitSelfUptoRow.holds Try.pinned (OpenSpec.upto nofitSelfSpec)

/-- 'garmentlaw16.NofitConvex', WHERE WHAT IT READS IS OF BULK AT MOST 1048576: true; the input reads as it did. -/
def nofitConvexUptoRow : OpenClaim := { program := "ytnggempmdhmoeaa", sum := "01752848a71ad0ff821f5207ff2d62c51fd1cd44b6baf91822c43af993b12e63", func := "garment/garmentlaw16.NofitConvex", spec := "nofitConvex", unfollowed := true, recurses := true, plainKeys := false, apart := false, narrowed := true }
def NofitConvexUptoSaid : Prop := nofitConvexUptoRow.holds Try.pinned (OpenSpec.upto nofitConvexSpec)

/-- 'garmentlaw16.NofitExact', WHERE WHAT IT READS IS OF BULK AT MOST 1048576: true; the input reads as it did. -/
def nofitExactUptoRow : OpenClaim := { program := "ytnggempmdhmoeaa", sum := "01752848a71ad0ff821f5207ff2d62c51fd1cd44b6baf91822c43af993b12e63", func := "garment/garmentlaw16.NofitExact", spec := "nofitExact", unfollowed := true, recurses := true, plainKeys := false, apart := false, narrowed := true }
def NofitExactUptoSaid : Prop := nofitExactUptoRow.holds Try.pinned (OpenSpec.upto nofitExactSpec)

/-- 'garmentlaw16.NofitTouches', WHERE WHAT IT READS IS OF BULK AT MOST 1048576: true; the input reads as it did. -/
def nofitTouchesUptoRow : OpenClaim := { program := "ytnggempmdhmoeaa", sum := "01752848a71ad0ff821f5207ff2d62c51fd1cd44b6baf91822c43af993b12e63", func := "garment/garmentlaw16.NofitTouches", spec := "nofitTouches", unfollowed := true, recurses := true, plainKeys := false, apart := false, narrowed := true }
def NofitTouchesUptoSaid : Prop := nofitTouchesUptoRow.holds Try.pinned (OpenSpec.upto nofitTouchesSpec)

end Rows
end Go.Proofs.Ytnggempmdhmoeaa

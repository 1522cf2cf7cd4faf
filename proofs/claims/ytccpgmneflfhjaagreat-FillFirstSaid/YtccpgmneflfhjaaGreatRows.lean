/-
  No cell of these rows narrows 'for every input' (looked for: loops, veiled, ifaces, maps, wideKeys, modest, calm, conditions, laid).
  DERIVED. THE GIVEN ROWS OF THIS SEAT. 11 by the template 'for every input the law returns true; each argument reads behind the call as it read before'; 0 by the template 'total and deterministic' (their statements: YtccpgmneflfhjaaGreatTotals.lean).
  GIVEN WITH THE SEED: the statements are not yours to turn. If you find one false, say at which input.
  Laid BY PROGRAM, IN A SANDBOX (cutbox-rows.mjs): the forced cells as the released guide's own fill.sh prints them over the translation 5233017f844a3345… (all of the seat's roots in one cut). By AI agents, Wed Nov 11 2026. No macro, syntax, notation, axiom, sorry.
-/
import Derived.Test.YtccpgmneflfhjaaGreatChecked
import GoSem.Claim
import GoSem.ClaimJoined
import GoSem.ClaimMapViews
import Derived.JoinedTies
import Derived.KernelRfl
namespace Go.Proofs.YtccpgmneflfhjaaGreat
/- THE CELL 'sum', in the pinned program and in every row, IS THE sha256 OF THE DUMP (.gsa) THAT YtccpgmneflfhjaaGreatProg.lean LOADS. Nothing in Lean hashes anything: it is a label: what it is worth is what the hold of that sum in a sandbox is worth. -/
noncomputable def Tryz.pinned : Pinned := { name := "ytccpgmneflfhjaagreat", sum := "5233017f844a3345582136a0059cd73088b8eb7b6a4c757651da0d8e2eb35a92", checked := Tryz.checked }
namespace Rows
def none {H : Type} : Left H := { results := [], args := [] }

/-- 'garmentlaw31.FillBeginning': WHATEVER THE INPUT: true; the input reads as it did. -/
def fillBeginningSpec : ChangeSpec := { name := "fillBeginning", fn := fun _ => fun
  | [d1, d2, d3, d4] => { results := [.lit (.bool true)], args := [d1, d2, d3, d4] }
  | _ => none }
def fillBeginningRow : OpenClaim := { program := "ytccpgmneflfhjaagreat", sum := "5233017f844a3345582136a0059cd73088b8eb7b6a4c757651da0d8e2eb35a92", func := "garment/garmentlaw31.FillBeginning", spec := "fillBeginning", unfollowed := true, recurses := true, plainKeys := false, apart := false }
def FillBeginningSaid : Prop := fillBeginningRow.holds Tryz.pinned (OpenSpec.ofChange fillBeginningSpec)

/-- ITS FALSE NEIGHBOUR: 'it returns false'. Refute it at one input. -/
def fillBeginningWrong : ChangeSpec := { name := "fillBeginning", fn := fun _ => fun
  | [d1, d2, d3, d4] => { results := [.lit (.bool false)], args := [d1, d2, d3, d4] }
  | _ => none }
def FillBeginningWrongFalsely : Prop := fillBeginningRow.holds Tryz.pinned (OpenSpec.ofChange fillBeginningWrong)

/-- 'garmentlaw31.FillFirst': WHATEVER THE INPUT: true; the input reads as it did. -/
def fillFirstSpec : ChangeSpec := { name := "fillFirst", fn := fun _ => fun
  | [d1, d2, d3] => { results := [.lit (.bool true)], args := [d1, d2, d3] }
  | _ => none }
def fillFirstRow : OpenClaim := { program := "ytccpgmneflfhjaagreat", sum := "5233017f844a3345582136a0059cd73088b8eb7b6a4c757651da0d8e2eb35a92", func := "garment/garmentlaw31.FillFirst", spec := "fillFirst", unfollowed := true, recurses := true, plainKeys := false, apart := false }
def FillFirstSaid : Prop := fillFirstRow.holds Tryz.pinned (OpenSpec.ofChange fillFirstSpec)

/-- ITS FALSE NEIGHBOUR: 'it returns false'. Refute it at one input. -/
def fillFirstWrong : ChangeSpec := { name := "fillFirst", fn := fun _ => fun
  | [d1, d2, d3] => { results := [.lit (.bool false)], args := [d1, d2, d3] }
  | _ => none }
def FillFirstWrongFalsely : Prop := fillFirstRow.holds Tryz.pinned (OpenSpec.ofChange fillFirstWrong)

/-- 'garmentlaw31.FillLeast': WHATEVER THE INPUT: true; the input reads as it did. -/
def fillLeastSpec : ChangeSpec := { name := "fillLeast", fn := fun _ => fun
  | [d1, d2, d3, d4] => { results := [.lit (.bool true)], args := [d1, d2, d3, d4] }
  | _ => none }
def fillLeastRow : OpenClaim := { program := "ytccpgmneflfhjaagreat", sum := "5233017f844a3345582136a0059cd73088b8eb7b6a4c757651da0d8e2eb35a92", func := "garment/garmentlaw31.FillLeast", spec := "fillLeast", unfollowed := true, recurses := true, plainKeys := false, apart := false }
def FillLeastSaid : Prop := fillLeastRow.holds Tryz.pinned (OpenSpec.ofChange fillLeastSpec)

/-- ITS FALSE NEIGHBOUR: 'it returns false'. Refute it at one input. -/
def fillLeastWrong : ChangeSpec := { name := "fillLeast", fn := fun _ => fun
  | [d1, d2, d3, d4] => { results := [.lit (.bool false)], args := [d1, d2, d3, d4] }
  | _ => none }
def FillLeastWrongFalsely : Prop := fillLeastRow.holds Tryz.pinned (OpenSpec.ofChange fillLeastWrong)

/-- 'garmentlaw31.FillRects': WHATEVER THE INPUT: true; the input reads as it did. -/
def fillRectsSpec : ChangeSpec := { name := "fillRects", fn := fun _ => fun
  | [d1, d2, d3, d4] => { results := [.lit (.bool true)], args := [d1, d2, d3, d4] }
  | _ => none }
def fillRectsRow : OpenClaim := { program := "ytccpgmneflfhjaagreat", sum := "5233017f844a3345582136a0059cd73088b8eb7b6a4c757651da0d8e2eb35a92", func := "garment/garmentlaw31.FillRects", spec := "fillRects", unfollowed := true, recurses := true, plainKeys := false, apart := false }
def FillRectsSaid : Prop := fillRectsRow.holds Tryz.pinned (OpenSpec.ofChange fillRectsSpec)

/-- ITS FALSE NEIGHBOUR: 'it returns false'. Refute it at one input. -/
def fillRectsWrong : ChangeSpec := { name := "fillRects", fn := fun _ => fun
  | [d1, d2, d3, d4] => { results := [.lit (.bool false)], args := [d1, d2, d3, d4] }
  | _ => none }
def FillRectsWrongFalsely : Prop := fillRectsRow.holds Tryz.pinned (OpenSpec.ofChange fillRectsWrong)

/-- 'garmentlaw31.FillValid': WHATEVER THE INPUT: true; the input reads as it did. -/
def fillValidSpec : ChangeSpec := { name := "fillValid", fn := fun _ => fun
  | [d1, d2, d3] => { results := [.lit (.bool true)], args := [d1, d2, d3] }
  | _ => none }
def fillValidRow : OpenClaim := { program := "ytccpgmneflfhjaagreat", sum := "5233017f844a3345582136a0059cd73088b8eb7b6a4c757651da0d8e2eb35a92", func := "garment/garmentlaw31.FillValid", spec := "fillValid", unfollowed := true, recurses := true, plainKeys := false, apart := false }
def FillValidSaid : Prop := fillValidRow.holds Tryz.pinned (OpenSpec.ofChange fillValidSpec)

/-- ITS FALSE NEIGHBOUR: 'it returns false'. Refute it at one input. -/
def fillValidWrong : ChangeSpec := { name := "fillValid", fn := fun _ => fun
  | [d1, d2, d3] => { results := [.lit (.bool false)], args := [d1, d2, d3] }
  | _ => none }
def FillValidWrongFalsely : Prop := fillValidRow.holds Tryz.pinned (OpenSpec.ofChange fillValidWrong)

/-- 'garmentlaw32.SearchOrders': WHATEVER THE INPUT: true; the input reads as it did. -/
def searchOrdersSpec : ChangeSpec := { name := "searchOrders", fn := fun _ => fun
  | [d] => { results := [.lit (.bool true)], args := [d] }
  | _ => none }
def searchOrdersRow : OpenClaim := { program := "ytccpgmneflfhjaagreat", sum := "5233017f844a3345582136a0059cd73088b8eb7b6a4c757651da0d8e2eb35a92", func := "garment/garmentlaw32.SearchOrders", spec := "searchOrders", unfollowed := true, recurses := true, plainKeys := false, apart := false }
def SearchOrdersSaid : Prop := searchOrdersRow.holds Tryz.pinned (OpenSpec.ofChange searchOrdersSpec)

/-- ITS FALSE NEIGHBOUR: 'it returns false'. Refute it at one input. -/
def searchOrdersWrong : ChangeSpec := { name := "searchOrders", fn := fun _ => fun
  | [d] => { results := [.lit (.bool false)], args := [d] }
  | _ => none }
def SearchOrdersWrongFalsely : Prop := searchOrdersRow.holds Tryz.pinned (OpenSpec.ofChange searchOrdersWrong)

/-- 'garmentlaw32.SearchBounds': WHATEVER THE INPUT: true; the input reads as it did. -/
def searchBoundsSpec : ChangeSpec := { name := "searchBounds", fn := fun _ => fun
  | [d1, d2] => { results := [.lit (.bool true)], args := [d1, d2] }
  | _ => none }
def searchBoundsRow : OpenClaim := { program := "ytccpgmneflfhjaagreat", sum := "5233017f844a3345582136a0059cd73088b8eb7b6a4c757651da0d8e2eb35a92", func := "garment/garmentlaw32.SearchBounds", spec := "searchBounds", unfollowed := true, recurses := true, plainKeys := false, apart := false }
def SearchBoundsSaid : Prop := searchBoundsRow.holds Tryz.pinned (OpenSpec.ofChange searchBoundsSpec)

/-- ITS FALSE NEIGHBOUR: 'it returns false'. Refute it at one input. -/
def searchBoundsWrong : ChangeSpec := { name := "searchBounds", fn := fun _ => fun
  | [d1, d2] => { results := [.lit (.bool false)], args := [d1, d2] }
  | _ => none }
def SearchBoundsWrongFalsely : Prop := searchBoundsRow.holds Tryz.pinned (OpenSpec.ofChange searchBoundsWrong)

/-- 'garmentlaw32.SearchBound': WHATEVER THE INPUT: true; the input reads as it did. -/
def searchBoundSpec : ChangeSpec := { name := "searchBound", fn := fun _ => fun
  | [d1, d2, d3] => { results := [.lit (.bool true)], args := [d1, d2, d3] }
  | _ => none }
def searchBoundRow : OpenClaim := { program := "ytccpgmneflfhjaagreat", sum := "5233017f844a3345582136a0059cd73088b8eb7b6a4c757651da0d8e2eb35a92", func := "garment/garmentlaw32.SearchBound", spec := "searchBound", unfollowed := true, recurses := true, plainKeys := false, apart := false }
def SearchBoundSaid : Prop := searchBoundRow.holds Tryz.pinned (OpenSpec.ofChange searchBoundSpec)

/-- ITS FALSE NEIGHBOUR: 'it returns false'. Refute it at one input. -/
def searchBoundWrong : ChangeSpec := { name := "searchBound", fn := fun _ => fun
  | [d1, d2, d3] => { results := [.lit (.bool false)], args := [d1, d2, d3] }
  | _ => none }
def SearchBoundWrongFalsely : Prop := searchBoundRow.holds Tryz.pinned (OpenSpec.ofChange searchBoundWrong)

/-- 'garmentlaw32.SearchBest': WHATEVER THE INPUT: true; the input reads as it did. -/
def searchBestSpec : ChangeSpec := { name := "searchBest", fn := fun _ => fun
  | [d1, d2] => { results := [.lit (.bool true)], args := [d1, d2] }
  | _ => none }
def searchBestRow : OpenClaim := { program := "ytccpgmneflfhjaagreat", sum := "5233017f844a3345582136a0059cd73088b8eb7b6a4c757651da0d8e2eb35a92", func := "garment/garmentlaw32.SearchBest", spec := "searchBest", unfollowed := true, recurses := true, plainKeys := false, apart := false }
def SearchBestSaid : Prop := searchBestRow.holds Tryz.pinned (OpenSpec.ofChange searchBestSpec)

/-- ITS FALSE NEIGHBOUR: 'it returns false'. Refute it at one input. -/
def searchBestWrong : ChangeSpec := { name := "searchBest", fn := fun _ => fun
  | [d1, d2] => { results := [.lit (.bool false)], args := [d1, d2] }
  | _ => none }
def SearchBestWrongFalsely : Prop := searchBestRow.holds Tryz.pinned (OpenSpec.ofChange searchBestWrong)

/-- 'garmentlaw32.SearchAll': WHATEVER THE INPUT: true; the input reads as it did. -/
def searchAllSpec : ChangeSpec := { name := "searchAll", fn := fun _ => fun
  | [d] => { results := [.lit (.bool true)], args := [d] }
  | _ => none }
def searchAllRow : OpenClaim := { program := "ytccpgmneflfhjaagreat", sum := "5233017f844a3345582136a0059cd73088b8eb7b6a4c757651da0d8e2eb35a92", func := "garment/garmentlaw32.SearchAll", spec := "searchAll", unfollowed := true, recurses := true, plainKeys := false, apart := false }
def SearchAllSaid : Prop := searchAllRow.holds Tryz.pinned (OpenSpec.ofChange searchAllSpec)

/-- ITS FALSE NEIGHBOUR: 'it returns false'. Refute it at one input. -/
def searchAllWrong : ChangeSpec := { name := "searchAll", fn := fun _ => fun
  | [d] => { results := [.lit (.bool false)], args := [d] }
  | _ => none }
def SearchAllWrongFalsely : Prop := searchAllRow.holds Tryz.pinned (OpenSpec.ofChange searchAllWrong)

/-- 'garmentlaw32.SearchLonger': WHATEVER THE INPUT: true; the input reads as it did. -/
def searchLongerSpec : ChangeSpec := { name := "searchLonger", fn := fun _ => fun
  | [d1, d2, d3] => { results := [.lit (.bool true)], args := [d1, d2, d3] }
  | _ => none }
def searchLongerRow : OpenClaim := { program := "ytccpgmneflfhjaagreat", sum := "5233017f844a3345582136a0059cd73088b8eb7b6a4c757651da0d8e2eb35a92", func := "garment/garmentlaw32.SearchLonger", spec := "searchLonger", unfollowed := true, recurses := true, plainKeys := false, apart := false }
def SearchLongerSaid : Prop := searchLongerRow.holds Tryz.pinned (OpenSpec.ofChange searchLongerSpec)

/-- ITS FALSE NEIGHBOUR: 'it returns false'. Refute it at one input. -/
def searchLongerWrong : ChangeSpec := { name := "searchLonger", fn := fun _ => fun
  | [d1, d2, d3] => { results := [.lit (.bool false)], args := [d1, d2, d3] }
  | _ => none }
def SearchLongerWrongFalsely : Prop := searchLongerRow.holds Tryz.pinned (OpenSpec.ofChange searchLongerWrong)

/- THE SECOND FORM. 'bulk': how many values and letters a reading holds, each counted each time it is reached (what is shared counts as often as it is met; a slice's spare places count too). A statement '..UptoSaid' is the law's where the arguments, and the package variables that the reading takes, are together of bulk at most 1048576: NARROWER than '..Said'. Prove '..Said' where nothing that the law and all that it calls make is longer than what came in: it says more and counts as full. Else prove '..UptoSaid'. A law counts once. -/
mutual
def uptoBulk {H : Type} : DataW H → Nat
  | .lit (.string bytes) => bytes.length + 1
  | .lit _ => 1
  | .nil => 1
  | .ptr d => uptoBulk d + 1
  | .slice elems spare => uptoBulkAll elems + uptoBulkAll spare + 1
  | .agg parts => uptoBulkAll parts + 1
  | .iface _ d => uptoBulk d + 1
  | .map entries => uptoBulkEntries entries + 1
  | .held _ => 1
def uptoBulkAll {H : Type} : List (DataW H) → Nat
  | [] => 0
  | d :: r => uptoBulk d + uptoBulkAll r
def uptoBulkEntries {H : Type} : List (Lit × DataW H) → Nat
  | [] => 0
  | x :: r => uptoBulkEntry x + uptoBulkEntries r
def uptoBulkEntry {H : Type} : Lit × DataW H → Nat
  | (.string bytes, d) => bytes.length + uptoBulk d + 1
  | (_, d) => uptoBulk d + 1
 end
def uptoSmall : (H : Type) → List (DataW H) → Bool := fun _ ds => decide (uptoBulkAll ds ≤ 1048576)
def OpenSpec.upto (s : _root_.Go.ChangeSpec) : _root_.Go.OpenSpec := { _root_.Go.OpenSpec.ofChange s with cond := some uptoSmall }

/-- 'garmentlaw31.FillBeginning', WHERE WHAT IT READS IS OF BULK AT MOST 1048576: true; the input reads as it did. -/
def fillBeginningUptoRow : OpenClaim := { program := "ytccpgmneflfhjaagreat", sum := "5233017f844a3345582136a0059cd73088b8eb7b6a4c757651da0d8e2eb35a92", func := "garment/garmentlaw31.FillBeginning", spec := "fillBeginning", unfollowed := true, recurses := true, plainKeys := false, apart := false, narrowed := true }
def FillBeginningUptoSaid : Prop := fillBeginningUptoRow.holds Tryz.pinned (OpenSpec.upto fillBeginningSpec)

/-- 'garmentlaw31.FillFirst', WHERE WHAT IT READS IS OF BULK AT MOST 1048576: true; the input reads as it did. -/
def fillFirstUptoRow : OpenClaim := { program := "ytccpgmneflfhjaagreat", sum := "5233017f844a3345582136a0059cd73088b8eb7b6a4c757651da0d8e2eb35a92", func := "garment/garmentlaw31.FillFirst", spec := "fillFirst", unfollowed := true, recurses := true, plainKeys := false, apart := false, narrowed := true }
def FillFirstUptoSaid : Prop := fillFirstUptoRow.holds Tryz.pinned (OpenSpec.upto fillFirstSpec)

/-- 'garmentlaw31.FillLeast', WHERE WHAT IT READS IS OF BULK AT MOST 1048576: true; the input reads as it did. -/
def fillLeastUptoRow : OpenClaim := { program := "ytccpgmneflfhjaagreat", sum := "5233017f844a3345582136a0059cd73088b8eb7b6a4c757651da0d8e2eb35a92", func := "garment/garmentlaw31.FillLeast", spec := "fillLeast", unfollowed := true, recurses := true, plainKeys := false, apart := false, narrowed := true }
def FillLeastUptoSaid : Prop := fillLeastUptoRow.holds Tryz.pinned (OpenSpec.upto fillLeastSpec)

/-- 'garmentlaw31.FillRects', WHERE WHAT IT READS IS OF BULK AT MOST 1048576: true; the input reads as it did. -/
def fillRectsUptoRow : OpenClaim := { program := "ytccpgmneflfhjaagreat", sum := "5233017f844a3345582136a0059cd73088b8eb7b6a4c757651da0d8e2eb35a92", func := "garment/garmentlaw31.FillRects", spec := "fillRects", unfollowed := true, recurses := true, plainKeys := false, apart := false, narrowed := true }
def FillRectsUptoSaid : Prop := fillRectsUptoRow.holds Tryz.pinned (OpenSpec.upto fillRectsSpec)

/-- 'garmentlaw31.FillValid', WHERE WHAT IT READS IS OF BULK AT MOST 1048576: true; the input reads as it did. -/
def fillValidUptoRow : OpenClaim := { program := "ytccpgmneflfhjaagreat", sum := "5233017f844a3345582136a0059cd73088b8eb7b6a4c757651da0d8e2eb35a92", func := "garment/garmentlaw31.FillValid", spec := "fillValid", unfollowed := true, recurses := true, plainKeys := false, apart := false, narrowed := true }
def FillValidUptoSaid : Prop := fillValidUptoRow.holds Tryz.pinned (OpenSpec.upto fillValidSpec)

/-- 'garmentlaw32.SearchOrders', WHERE WHAT IT READS IS OF BULK AT MOST 1048576: true; the input reads as it did. -/
def searchOrdersUptoRow : OpenClaim := { program := "ytccpgmneflfhjaagreat", sum := "5233017f844a3345582136a0059cd73088b8eb7b6a4c757651da0d8e2eb35a92", func := "garment/garmentlaw32.SearchOrders", spec := "searchOrders", unfollowed := true, recurses := true, plainKeys := false, apart := false, narrowed := true }
def SearchOrdersUptoSaid : Prop := searchOrdersUptoRow.holds Tryz.pinned (OpenSpec.upto searchOrdersSpec)

/-- 'garmentlaw32.SearchBounds', WHERE WHAT IT READS IS OF BULK AT MOST 1048576: true; the input reads as it did. -/
def searchBoundsUptoRow : OpenClaim := { program := "ytccpgmneflfhjaagreat", sum := "5233017f844a3345582136a0059cd73088b8eb7b6a4c757651da0d8e2eb35a92", func := "garment/garmentlaw32.SearchBounds", spec := "searchBounds", unfollowed := true, recurses := true, plainKeys := false, apart := false, narrowed := true }
def SearchBoundsUptoSaid : Prop := searchBoundsUptoRow.holds Tryz.pinned (OpenSpec.upto searchBoundsSpec)

/-- 'garmentlaw32.SearchBound', WHERE WHAT IT READS IS OF BULK AT MOST 1048576: true; the input reads as it did. -/
def searchBoundUptoRow : OpenClaim := { program := "ytccpgmneflfhjaagreat", sum := "5233017f844a3345582136a0059cd73088b8eb7b6a4c757651da0d8e2eb35a92", func := "garment/garmentlaw32.SearchBound", spec := "searchBound", unfollowed := true, recurses := true, plainKeys := false, apart := false, narrowed := true }
def SearchBoundUptoSaid : Prop := searchBoundUptoRow.holds Tryz.pinned (OpenSpec.upto searchBoundSpec)

/-- 'garmentlaw32.SearchBest', WHERE WHAT IT READS IS OF BULK AT MOST 1048576: true; the input reads as it did. -/
def searchBestUptoRow : OpenClaim := { program := "ytccpgmneflfhjaagreat", sum := "5233017f844a3345582136a0059cd73088b8eb7b6a4c757651da0d8e2eb35a92", func := "garment/garmentlaw32.SearchBest", spec := "searchBest", unfollowed := true, recurses := true, plainKeys := false, apart := false, narrowed := true }
def SearchBestUptoSaid : Prop := searchBestUptoRow.holds Tryz.pinned (OpenSpec.upto searchBestSpec)

/-- 'garmentlaw32.SearchAll', WHERE WHAT IT READS IS OF BULK AT MOST 1048576: true; the input reads as it did. -/
def searchAllUptoRow : OpenClaim := { program := "ytccpgmneflfhjaagreat", sum := "5233017f844a3345582136a0059cd73088b8eb7b6a4c757651da0d8e2eb35a92", func := "garment/garmentlaw32.SearchAll", spec := "searchAll", unfollowed := true, recurses := true, plainKeys := false, apart := false, narrowed := true }
def SearchAllUptoSaid : Prop := searchAllUptoRow.holds Tryz.pinned (OpenSpec.upto searchAllSpec)

/-- 'garmentlaw32.SearchLonger', WHERE WHAT IT READS IS OF BULK AT MOST 1048576: true; the input reads as it did. -/
def searchLongerUptoRow : OpenClaim := { program := "ytccpgmneflfhjaagreat", sum := "5233017f844a3345582136a0059cd73088b8eb7b6a4c757651da0d8e2eb35a92", func := "garment/garmentlaw32.SearchLonger", spec := "searchLonger", unfollowed := true, recurses := true, plainKeys := false, apart := false, narrowed := true }
def SearchLongerUptoSaid : Prop := searchLongerUptoRow.holds Tryz.pinned (OpenSpec.upto searchLongerSpec)

end Rows
end Go.Proofs.YtccpgmneflfhjaaGreat

/-
  No cell of these rows narrows 'for every input' (looked for: loops, veiled, ifaces, maps, wideKeys, modest, calm, conditions, laid).
  DERIVED. THE GIVEN ROWS OF THIS SEAT. 7 by the template 'for every input the law returns true; each argument reads behind the call as it read before'; 0 by the template 'total and deterministic' (their statements: YtmdncaoilegnnaaGreatTotals.lean).
  GIVEN WITH THE SEED: the statements are not yours to turn. If you find one false, say at which input.
  Laid BY PROGRAM, IN A SANDBOX (cutbox-rows.mjs): the forced cells as the released guide's own fill.sh prints them over the translation b403f63fd37e1ffd… (all of the seat's roots in one cut). By AI agents, Wed Nov 11 2026. No macro, syntax, notation, axiom, sorry.
-/
import Derived.Test.YtmdncaoilegnnaaGreatChecked
import GoSem.Claim
import GoSem.ClaimJoined
import GoSem.ClaimMapViews
import Derived.JoinedTies
import Derived.KernelRfl
namespace Go.Proofs.YtmdncaoilegnnaaGreat
/- THE CELL 'sum', in the pinned program and in every row, IS THE sha256 OF THE DUMP (.gsa) THAT YtmdncaoilegnnaaGreatProg.lean LOADS. Nothing in Lean hashes anything: it is a label: what it is worth is what the hold of that sum in a sandbox is worth. -/
noncomputable def Tryz.pinned : Pinned := { name := "ytmdncaoilegnnaagreat", sum := "b403f63fd37e1ffd71cd06a8ca940a2420b0c2c189b76f6ca6302bded7da03f5", checked := Tryz.checked }
namespace Rows
def none {H : Type} : Left H := { results := [], args := [] }

/-- 'garmentlaw31.FillCandidates': WHATEVER THE INPUT: true; the input reads as it did. -/
def fillCandidatesSpec : ChangeSpec := { name := "fillCandidates", fn := fun _ => fun
  | [d1, d2, d3, d4, d5] => { results := [.lit (.bool true)], args := [d1, d2, d3, d4, d5] }
  | _ => none }
def fillCandidatesRow : OpenClaim := { program := "ytmdncaoilegnnaagreat", sum := "b403f63fd37e1ffd71cd06a8ca940a2420b0c2c189b76f6ca6302bded7da03f5", func := "garment/garmentlaw31.FillCandidates", spec := "fillCandidates", unfollowed := true, recurses := true, plainKeys := false, apart := false }
def FillCandidatesSaid : Prop := fillCandidatesRow.holds Tryz.pinned (OpenSpec.ofChange fillCandidatesSpec)

/-- ITS FALSE NEIGHBOUR: 'it returns false'. Refute it at one input. -/
def fillCandidatesWrong : ChangeSpec := { name := "fillCandidates", fn := fun _ => fun
  | [d1, d2, d3, d4, d5] => { results := [.lit (.bool false)], args := [d1, d2, d3, d4, d5] }
  | _ => none }
def FillCandidatesWrongFalsely : Prop := fillCandidatesRow.holds Tryz.pinned (OpenSpec.ofChange fillCandidatesWrong)

/-- 'garmentlaw31.FillSteps': WHATEVER THE INPUT: true; the input reads as it did. -/
def fillStepsSpec : ChangeSpec := { name := "fillSteps", fn := fun _ => fun
  | [d1, d2, d3, d4] => { results := [.lit (.bool true)], args := [d1, d2, d3, d4] }
  | _ => none }
def fillStepsRow : OpenClaim := { program := "ytmdncaoilegnnaagreat", sum := "b403f63fd37e1ffd71cd06a8ca940a2420b0c2c189b76f6ca6302bded7da03f5", func := "garment/garmentlaw31.FillSteps", spec := "fillSteps", unfollowed := true, recurses := true, plainKeys := false, apart := false }
def FillStepsSaid : Prop := fillStepsRow.holds Tryz.pinned (OpenSpec.ofChange fillStepsSpec)

/-- ITS FALSE NEIGHBOUR: 'it returns false'. Refute it at one input. -/
def fillStepsWrong : ChangeSpec := { name := "fillSteps", fn := fun _ => fun
  | [d1, d2, d3, d4] => { results := [.lit (.bool false)], args := [d1, d2, d3, d4] }
  | _ => none }
def FillStepsWrongFalsely : Prop := fillStepsRow.holds Tryz.pinned (OpenSpec.ofChange fillStepsWrong)

/-- 'garmentlaw31.FillRuns': WHATEVER THE INPUT: true; the input reads as it did. -/
def fillRunsSpec : ChangeSpec := { name := "fillRuns", fn := fun _ => fun
  | [d1, d2, d3] => { results := [.lit (.bool true)], args := [d1, d2, d3] }
  | _ => none }
def fillRunsRow : OpenClaim := { program := "ytmdncaoilegnnaagreat", sum := "b403f63fd37e1ffd71cd06a8ca940a2420b0c2c189b76f6ca6302bded7da03f5", func := "garment/garmentlaw31.FillRuns", spec := "fillRuns", unfollowed := true, recurses := true, plainKeys := false, apart := false }
def FillRunsSaid : Prop := fillRunsRow.holds Tryz.pinned (OpenSpec.ofChange fillRunsSpec)

/-- ITS FALSE NEIGHBOUR: 'it returns false'. Refute it at one input. -/
def fillRunsWrong : ChangeSpec := { name := "fillRuns", fn := fun _ => fun
  | [d1, d2, d3] => { results := [.lit (.bool false)], args := [d1, d2, d3] }
  | _ => none }
def FillRunsWrongFalsely : Prop := fillRunsRow.holds Tryz.pinned (OpenSpec.ofChange fillRunsWrong)

/-- 'garmentlaw31.FillRects': WHATEVER THE INPUT: true; the input reads as it did. -/
def fillRectsSpec : ChangeSpec := { name := "fillRects", fn := fun _ => fun
  | [d1, d2, d3, d4] => { results := [.lit (.bool true)], args := [d1, d2, d3, d4] }
  | _ => none }
def fillRectsRow : OpenClaim := { program := "ytmdncaoilegnnaagreat", sum := "b403f63fd37e1ffd71cd06a8ca940a2420b0c2c189b76f6ca6302bded7da03f5", func := "garment/garmentlaw31.FillRects", spec := "fillRects", unfollowed := true, recurses := true, plainKeys := false, apart := false }
def FillRectsSaid : Prop := fillRectsRow.holds Tryz.pinned (OpenSpec.ofChange fillRectsSpec)

/-- ITS FALSE NEIGHBOUR: 'it returns false'. Refute it at one input. -/
def fillRectsWrong : ChangeSpec := { name := "fillRects", fn := fun _ => fun
  | [d1, d2, d3, d4] => { results := [.lit (.bool false)], args := [d1, d2, d3, d4] }
  | _ => none }
def FillRectsWrongFalsely : Prop := fillRectsRow.holds Tryz.pinned (OpenSpec.ofChange fillRectsWrong)

/-- 'garmentlaw32.SearchBounds': WHATEVER THE INPUT: true; the input reads as it did. -/
def searchBoundsSpec : ChangeSpec := { name := "searchBounds", fn := fun _ => fun
  | [d1, d2] => { results := [.lit (.bool true)], args := [d1, d2] }
  | _ => none }
def searchBoundsRow : OpenClaim := { program := "ytmdncaoilegnnaagreat", sum := "b403f63fd37e1ffd71cd06a8ca940a2420b0c2c189b76f6ca6302bded7da03f5", func := "garment/garmentlaw32.SearchBounds", spec := "searchBounds", unfollowed := true, recurses := true, plainKeys := false, apart := false }
def SearchBoundsSaid : Prop := searchBoundsRow.holds Tryz.pinned (OpenSpec.ofChange searchBoundsSpec)

/-- ITS FALSE NEIGHBOUR: 'it returns false'. Refute it at one input. -/
def searchBoundsWrong : ChangeSpec := { name := "searchBounds", fn := fun _ => fun
  | [d1, d2] => { results := [.lit (.bool false)], args := [d1, d2] }
  | _ => none }
def SearchBoundsWrongFalsely : Prop := searchBoundsRow.holds Tryz.pinned (OpenSpec.ofChange searchBoundsWrong)

/-- 'garmentlaw32.SearchBests': WHATEVER THE INPUT: true; the input reads as it did. -/
def searchBestsSpec : ChangeSpec := { name := "searchBests", fn := fun _ => fun
  | [d1, d2] => { results := [.lit (.bool true)], args := [d1, d2] }
  | _ => none }
def searchBestsRow : OpenClaim := { program := "ytmdncaoilegnnaagreat", sum := "b403f63fd37e1ffd71cd06a8ca940a2420b0c2c189b76f6ca6302bded7da03f5", func := "garment/garmentlaw32.SearchBests", spec := "searchBests", unfollowed := true, recurses := true, plainKeys := false, apart := false }
def SearchBestsSaid : Prop := searchBestsRow.holds Tryz.pinned (OpenSpec.ofChange searchBestsSpec)

/-- ITS FALSE NEIGHBOUR: 'it returns false'. Refute it at one input. -/
def searchBestsWrong : ChangeSpec := { name := "searchBests", fn := fun _ => fun
  | [d1, d2] => { results := [.lit (.bool false)], args := [d1, d2] }
  | _ => none }
def SearchBestsWrongFalsely : Prop := searchBestsRow.holds Tryz.pinned (OpenSpec.ofChange searchBestsWrong)

/-- 'garmentlaw32.SearchBound': WHATEVER THE INPUT: true; the input reads as it did. -/
def searchBoundSpec : ChangeSpec := { name := "searchBound", fn := fun _ => fun
  | [d1, d2, d3] => { results := [.lit (.bool true)], args := [d1, d2, d3] }
  | _ => none }
def searchBoundRow : OpenClaim := { program := "ytmdncaoilegnnaagreat", sum := "b403f63fd37e1ffd71cd06a8ca940a2420b0c2c189b76f6ca6302bded7da03f5", func := "garment/garmentlaw32.SearchBound", spec := "searchBound", unfollowed := true, recurses := true, plainKeys := false, apart := false }
def SearchBoundSaid : Prop := searchBoundRow.holds Tryz.pinned (OpenSpec.ofChange searchBoundSpec)

/-- ITS FALSE NEIGHBOUR: 'it returns false'. Refute it at one input. -/
def searchBoundWrong : ChangeSpec := { name := "searchBound", fn := fun _ => fun
  | [d1, d2, d3] => { results := [.lit (.bool false)], args := [d1, d2, d3] }
  | _ => none }
def SearchBoundWrongFalsely : Prop := searchBoundRow.holds Tryz.pinned (OpenSpec.ofChange searchBoundWrong)

/- THE SECOND FORM. 'bulk': how many values and letters a reading holds, each counted each time it is reached (what is shared counts as often as it is met; a slice's spare places count too). A statement '..UptoSaid' is the law's where the arguments, and the package variables that the reading takes, are together of bulk at most 1048576: NARROWER than '..Said'. Prove '..Said' where nothing that the law and all that it calls make is longer than what came in: it says more and counts as full. Else prove '..UptoSaid'. A law counts once. -/
mutual
def uptoBulk {H : Type} : DataW H → Nat
  | .lit (.string bytes) => bytes.length + 1
  | .lit _ => 1
  | .nil => 1
  | .ptr d => uptoBulk d + 1
  | .slice elems spare => uptoBulkAll elems + uptoBulkAll spare + 1
  | .agg parts => uptoBulkAll parts + 1
  | .iface _ d => uptoBulk d + 1
  | .map entries => uptoBulkEntries entries + 1
  | .held _ => 1
def uptoBulkAll {H : Type} : List (DataW H) → Nat
  | [] => 0
  | d :: r => uptoBulk d + uptoBulkAll r
def uptoBulkEntries {H : Type} : List (Lit × DataW H) → Nat
  | [] => 0
  | x :: r => uptoBulkEntry x + uptoBulkEntries r
def uptoBulkEntry {H : Type} : Lit × DataW H → Nat
  | (.string bytes, d) => bytes.length + uptoBulk d + 1
  | (_, d) => uptoBulk d + 1
 end
def uptoSmall : (H : Type) → List (DataW H) → Bool := fun _ ds => decide (uptoBulkAll ds ≤ 1048576)
def OpenSpec.upto (s : _root_.Go.ChangeSpec) : _root_.Go.OpenSpec := { _root_.Go.OpenSpec.ofChange s with cond := some uptoSmall }

/-- 'garmentlaw31.FillCandidates', WHERE WHAT IT READS IS OF BULK AT MOST 1048576: true; the input reads as it did. -/
def fillCandidatesUptoRow : OpenClaim := { program := "ytmdncaoilegnnaagreat", sum := "b403f63fd37e1ffd71cd06a8ca940a2420b0c2c189b76f6ca6302bded7da03f5", func := "garment/garmentlaw31.FillCandidates", spec := "fillCandidates", unfollowed := true, recurses := true, plainKeys := false, apart := false, narrowed := true }
def FillCandidatesUptoSaid : Prop := fillCandidatesUptoRow.holds Tryz.pinned (OpenSpec.upto fillCandidatesSpec)

/-- 'garmentlaw31.FillSteps', WHERE WHAT IT READS IS OF BULK AT MOST 1048576: true; the input reads as it did. -/
def fillStepsUptoRow : OpenClaim := { program := "ytmdncaoilegnnaagreat", sum := "b403f63fd37e1ffd71cd06a8ca940a2420b0c2c189b76f6ca6302bded7da03f5", func := "garment/garmentlaw31.FillSteps", spec := "fillSteps", unfollowed := true, recurses := true, plainKeys := false, apart := false, narrowed := true }
def FillStepsUptoSaid : Prop := fillStepsUptoRow.holds Tryz.pinned (OpenSpec.upto fillStepsSpec)

/-- 'garmentlaw31.FillRuns', WHERE WHAT IT READS IS OF BULK AT MOST 1048576: true; the input reads as it did. -/
def fillRunsUptoRow : OpenClaim := { program := "ytmdncaoilegnnaagreat", sum := "b403f63fd37e1ffd71cd06a8ca940a2420b0c2c189b76f6ca6302bded7da03f5", func := "garment/garmentlaw31.FillRuns", spec := "fillRuns", unfollowed := true, recurses := true, plainKeys := false, apart := false, narrowed := true }
def FillRunsUptoSaid : Prop := fillRunsUptoRow.holds Tryz.pinned (OpenSpec.upto fillRunsSpec)

/-- 'garmentlaw31.FillRects', WHERE WHAT IT READS IS OF BULK AT MOST 1048576: true; the input reads as it did. -/
def fillRectsUptoRow : OpenClaim := { program := "ytmdncaoilegnnaagreat", sum := "b403f63fd37e1ffd71cd06a8ca940a2420b0c2c189b76f6ca6302bded7da03f5", func := "garment/garmentlaw31.FillRects", spec := "fillRects", unfollowed := true, recurses := true, plainKeys := false, apart := false, narrowed := true }
def FillRectsUptoSaid : Prop := fillRectsUptoRow.holds Tryz.pinned (OpenSpec.upto fillRectsSpec)

/-- 'garmentlaw32.SearchBounds', WHERE WHAT IT READS IS OF BULK AT MOST 1048576: true; the input reads as it did. -/
def searchBoundsUptoRow : OpenClaim := { program := "ytmdncaoilegnnaagreat", sum := "b403f63fd37e1ffd71cd06a8ca940a2420b0c2c189b76f6ca6302bded7da03f5", func := "garment/garmentlaw32.SearchBounds", spec := "searchBounds", unfollowed := true, recurses := true, plainKeys := false, apart := false, narrowed := true }
def SearchBoundsUptoSaid : Prop := searchBoundsUptoRow.holds Tryz.pinned (OpenSpec.upto searchBoundsSpec)

/-- 'garmentlaw32.SearchBests', WHERE WHAT IT READS IS OF BULK AT MOST 1048576: true; the input reads as it did. -/
def searchBestsUptoRow : OpenClaim := { program := "ytmdncaoilegnnaagreat", sum := "b403f63fd37e1ffd71cd06a8ca940a2420b0c2c189b76f6ca6302bded7da03f5", func := "garment/garmentlaw32.SearchBests", spec := "searchBests", unfollowed := true, recurses := true, plainKeys := false, apart := false, narrowed := true }
def SearchBestsUptoSaid : Prop := searchBestsUptoRow.holds Tryz.pinned (OpenSpec.upto searchBestsSpec)

/-- 'garmentlaw32.SearchBound', WHERE WHAT IT READS IS OF BULK AT MOST 1048576: true; the input reads as it did. -/
def searchBoundUptoRow : OpenClaim := { program := "ytmdncaoilegnnaagreat", sum := "b403f63fd37e1ffd71cd06a8ca940a2420b0c2c189b76f6ca6302bded7da03f5", func := "garment/garmentlaw32.SearchBound", spec := "searchBound", unfollowed := true, recurses := true, plainKeys := false, apart := false, narrowed := true }
def SearchBoundUptoSaid : Prop := searchBoundUptoRow.holds Tryz.pinned (OpenSpec.upto searchBoundSpec)

end Rows
end Go.Proofs.YtmdncaoilegnnaaGreat

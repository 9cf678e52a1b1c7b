/-
  No cell of these rows narrows 'for every input' (looked for: loops, veiled, ifaces, maps, wideKeys, modest, calm, conditions, laid).
  DERIVED. THE GIVEN ROWS OF THIS SEAT. 7 by the template 'for every input the law returns true; each argument reads behind the call as it read before'; 0 by the template 'total and deterministic' (their statements: YtijacopaadmncaaGreatTotals.lean).
  GIVEN WITH THE SEED: the statements are not yours to turn. If you find one false, say at which input.
  Laid BY PROGRAM, IN A SANDBOX (cutbox-rows.mjs): the forced cells as the released guide's own fill.sh prints them over the translation d07565638696e9b3… (all of the seat's roots in one cut). By AI agents, Wed Nov 11 2026. No macro, syntax, notation, axiom, sorry.
-/
import Derived.Test.YtijacopaadmncaaGreatChecked
import GoSem.Claim
import GoSem.ClaimJoined
import GoSem.ClaimMapViews
import Derived.JoinedTies
import Derived.KernelRfl
namespace Go.Proofs.YtijacopaadmncaaGreat
/- THE CELL 'sum', in the pinned program and in every row, IS THE sha256 OF THE DUMP (.gsa) THAT YtijacopaadmncaaGreatProg.lean LOADS. Nothing in Lean hashes anything: it is a label: what it is worth is what the hold of that sum in a sandbox is worth. -/
noncomputable def Tryz.pinned : Pinned := { name := "ytijacopaadmncaagreat", sum := "d07565638696e9b3691a1c063a86376d0901dabbed040a514599ae1034d40acb", checked := Tryz.checked }
namespace Rows
def none {H : Type} : Left H := { results := [], args := [] }

/-- 'laws.FnBoundary': WHATEVER THE INPUT: true; the input reads as it did. -/
def fnBoundarySpec : ChangeSpec := { name := "fnBoundary", fn := fun _ => fun
  | [d] => { results := [.lit (.bool true)], args := [d] }
  | _ => none }
def fnBoundaryRow : OpenClaim := { program := "ytijacopaadmncaagreat", sum := "d07565638696e9b3691a1c063a86376d0901dabbed040a514599ae1034d40acb", func := "loop.example/g00498/laws.FnBoundary", spec := "fnBoundary", recurses := true, apart := false }
def FnBoundarySaid : Prop := fnBoundaryRow.holds Tryz.pinned (OpenSpec.ofChange fnBoundarySpec)

/-- ITS FALSE NEIGHBOUR: 'it returns false'. Refute it at one input. -/
def fnBoundaryWrong : ChangeSpec := { name := "fnBoundary", fn := fun _ => fun
  | [d] => { results := [.lit (.bool false)], args := [d] }
  | _ => none }
def FnBoundaryWrongFalsely : Prop := fnBoundaryRow.holds Tryz.pinned (OpenSpec.ofChange fnBoundaryWrong)

/-- 'laws.FnMsgCut': WHATEVER THE INPUT: true; the input reads as it did. -/
def fnMsgCutSpec : ChangeSpec := { name := "fnMsgCut", fn := fun _ => fun
  | [d] => { results := [.lit (.bool true)], args := [d] }
  | _ => none }
def fnMsgCutRow : OpenClaim := { program := "ytijacopaadmncaagreat", sum := "d07565638696e9b3691a1c063a86376d0901dabbed040a514599ae1034d40acb", func := "loop.example/g00498/laws.FnMsgCut", spec := "fnMsgCut", recurses := true, apart := false }
def FnMsgCutSaid : Prop := fnMsgCutRow.holds Tryz.pinned (OpenSpec.ofChange fnMsgCutSpec)

/-- ITS FALSE NEIGHBOUR: 'it returns false'. Refute it at one input. -/
def fnMsgCutWrong : ChangeSpec := { name := "fnMsgCut", fn := fun _ => fun
  | [d] => { results := [.lit (.bool false)], args := [d] }
  | _ => none }
def FnMsgCutWrongFalsely : Prop := fnMsgCutRow.holds Tryz.pinned (OpenSpec.ofChange fnMsgCutWrong)

/-- 'laws.FnWholeCut': WHATEVER THE INPUT: true; the input reads as it did. -/
def fnWholeCutSpec : ChangeSpec := { name := "fnWholeCut", fn := fun _ => fun
  | [d] => { results := [.lit (.bool true)], args := [d] }
  | _ => none }
def fnWholeCutRow : OpenClaim := { program := "ytijacopaadmncaagreat", sum := "d07565638696e9b3691a1c063a86376d0901dabbed040a514599ae1034d40acb", func := "loop.example/g00498/laws.FnWholeCut", spec := "fnWholeCut", recurses := true, apart := false }
def FnWholeCutSaid : Prop := fnWholeCutRow.holds Tryz.pinned (OpenSpec.ofChange fnWholeCutSpec)

/-- ITS FALSE NEIGHBOUR: 'it returns false'. Refute it at one input. -/
def fnWholeCutWrong : ChangeSpec := { name := "fnWholeCut", fn := fun _ => fun
  | [d] => { results := [.lit (.bool false)], args := [d] }
  | _ => none }
def FnWholeCutWrongFalsely : Prop := fnWholeCutRow.holds Tryz.pinned (OpenSpec.ofChange fnWholeCutWrong)

/-- 'laws.FnFormTold': WHATEVER THE INPUT: true; the input reads as it did. -/
def fnFormToldSpec : ChangeSpec := { name := "fnFormTold", fn := fun _ => fun
  | [d] => { results := [.lit (.bool true)], args := [d] }
  | _ => none }
def fnFormToldRow : OpenClaim := { program := "ytijacopaadmncaagreat", sum := "d07565638696e9b3691a1c063a86376d0901dabbed040a514599ae1034d40acb", func := "loop.example/g00498/laws.FnFormTold", spec := "fnFormTold", recurses := true, apart := false }
def FnFormToldSaid : Prop := fnFormToldRow.holds Tryz.pinned (OpenSpec.ofChange fnFormToldSpec)

/-- ITS FALSE NEIGHBOUR: 'it returns false'. Refute it at one input. -/
def fnFormToldWrong : ChangeSpec := { name := "fnFormTold", fn := fun _ => fun
  | [d] => { results := [.lit (.bool false)], args := [d] }
  | _ => none }
def FnFormToldWrongFalsely : Prop := fnFormToldRow.holds Tryz.pinned (OpenSpec.ofChange fnFormToldWrong)

/-- 'laws.FnFeedCut': WHATEVER THE INPUT: true; the input reads as it did. -/
def fnFeedCutSpec : ChangeSpec := { name := "fnFeedCut", fn := fun _ => fun
  | [d] => { results := [.lit (.bool true)], args := [d] }
  | _ => none }
def fnFeedCutRow : OpenClaim := { program := "ytijacopaadmncaagreat", sum := "d07565638696e9b3691a1c063a86376d0901dabbed040a514599ae1034d40acb", func := "loop.example/g00498/laws.FnFeedCut", spec := "fnFeedCut", inPlace := ["internal/abi.NoEscape", "internal/bytealg.MakeNoZero"], unfollowed := true, recurses := true, apart := false }
def FnFeedCutSaid : Prop := fnFeedCutRow.holds Tryz.pinned (OpenSpec.ofChange fnFeedCutSpec)

/-- ITS FALSE NEIGHBOUR: 'it returns false'. Refute it at one input. -/
def fnFeedCutWrong : ChangeSpec := { name := "fnFeedCut", fn := fun _ => fun
  | [d] => { results := [.lit (.bool false)], args := [d] }
  | _ => none }
def FnFeedCutWrongFalsely : Prop := fnFeedCutRow.holds Tryz.pinned (OpenSpec.ofChange fnFeedCutWrong)

/-- 'laws.FnStepWhole': WHATEVER THE INPUT: true; the input reads as it did. -/
def fnStepWholeSpec : ChangeSpec := { name := "fnStepWhole", fn := fun _ => fun
  | [d] => { results := [.lit (.bool true)], args := [d] }
  | _ => none }
def fnStepWholeRow : OpenClaim := { program := "ytijacopaadmncaagreat", sum := "d07565638696e9b3691a1c063a86376d0901dabbed040a514599ae1034d40acb", func := "loop.example/g00498/laws.FnStepWhole", spec := "fnStepWhole", unfollowed := true, recurses := true, apart := false }
def FnStepWholeSaid : Prop := fnStepWholeRow.holds Tryz.pinned (OpenSpec.ofChange fnStepWholeSpec)

/-- ITS FALSE NEIGHBOUR: 'it returns false'. Refute it at one input. -/
def fnStepWholeWrong : ChangeSpec := { name := "fnStepWhole", fn := fun _ => fun
  | [d] => { results := [.lit (.bool false)], args := [d] }
  | _ => none }
def FnStepWholeWrongFalsely : Prop := fnStepWholeRow.holds Tryz.pinned (OpenSpec.ofChange fnStepWholeWrong)

/-- 'laws.FnSizes': WHATEVER THE INPUT: true; the input reads as it did. -/
def fnSizesSpec : ChangeSpec := { name := "fnSizes", fn := fun _ => fun
  | [d] => { results := [.lit (.bool true)], args := [d] }
  | _ => none }
def fnSizesRow : OpenClaim := { program := "ytijacopaadmncaagreat", sum := "d07565638696e9b3691a1c063a86376d0901dabbed040a514599ae1034d40acb", func := "loop.example/g00498/laws.FnSizes", spec := "fnSizes", recurses := true, apart := false }
def FnSizesSaid : Prop := fnSizesRow.holds Tryz.pinned (OpenSpec.ofChange fnSizesSpec)

/-- ITS FALSE NEIGHBOUR: 'it returns false'. Refute it at one input. -/
def fnSizesWrong : ChangeSpec := { name := "fnSizes", fn := fun _ => fun
  | [d] => { results := [.lit (.bool false)], args := [d] }
  | _ => none }
def FnSizesWrongFalsely : Prop := fnSizesRow.holds Tryz.pinned (OpenSpec.ofChange fnSizesWrong)

/- THE SECOND FORM. 'bulk': how many values and letters a reading holds, each counted each time it is reached (what is shared counts as often as it is met; a slice's spare places count too). A statement '..UptoSaid' is the law's where the arguments, and the package variables that the reading takes, are together of bulk at most 1048576: NARROWER than '..Said'. Prove '..Said' where nothing that the law and all that it calls make is longer than what came in: it says more and counts as full. Else prove '..UptoSaid'. A law counts once. -/
mutual
def uptoBulk {H : Type} : DataW H → Nat
  | .lit (.string bytes) => bytes.length + 1
  | .lit _ => 1
  | .nil => 1
  | .ptr d => uptoBulk d + 1
  | .slice elems spare => uptoBulkAll elems + uptoBulkAll spare + 1
  | .agg parts => uptoBulkAll parts + 1
  | .iface _ d => uptoBulk d + 1
  | .map entries => uptoBulkEntries entries + 1
  | .held _ => 1
def uptoBulkAll {H : Type} : List (DataW H) → Nat
  | [] => 0
  | d :: r => uptoBulk d + uptoBulkAll r
def uptoBulkEntries {H : Type} : List (Lit × DataW H) → Nat
  | [] => 0
  | x :: r => uptoBulkEntry x + uptoBulkEntries r
def uptoBulkEntry {H : Type} : Lit × DataW H → Nat
  | (.string bytes, d) => bytes.length + uptoBulk d + 1
  | (_, d) => uptoBulk d + 1
 end
def uptoSmall : (H : Type) → List (DataW H) → Bool := fun _ ds => decide (uptoBulkAll ds ≤ 1048576)
def OpenSpec.upto (s : _root_.Go.ChangeSpec) : _root_.Go.OpenSpec := { _root_.Go.OpenSpec.ofChange s with cond := some uptoSmall }

/-- 'laws.FnBoundary', WHERE WHAT IT READS IS OF BULK AT MOST 1048576: true; the input reads as it did. -/
def fnBoundaryUptoRow : OpenClaim := { program := "ytijacopaadmncaagreat", sum := "d07565638696e9b3691a1c063a86376d0901dabbed040a514599ae1034d40acb", func := "loop.example/g00498/laws.FnBoundary", spec := "fnBoundary", recurses := true, apart := false, narrowed := true }
def FnBoundaryUptoSaid : Prop := fnBoundaryUptoRow.holds Tryz.pinned (OpenSpec.upto fnBoundarySpec)

/-- 'laws.FnMsgCut', WHERE WHAT IT READS IS OF BULK AT MOST 1048576: true; the input reads as it did. -/
def fnMsgCutUptoRow : OpenClaim := { program := "ytijacopaadmncaagreat", sum := "d07565638696e9b3691a1c063a86376d0901dabbed040a514599ae1034d40acb", func := "loop.example/g00498/laws.FnMsgCut", spec := "fnMsgCut", recurses := true, apart := false, narrowed := true }
def FnMsgCutUptoSaid : Prop := fnMsgCutUptoRow.holds Tryz.pinned (OpenSpec.upto fnMsgCutSpec)

/-- 'laws.FnWholeCut', WHERE WHAT IT READS IS OF BULK AT MOST 1048576: true; the input reads as it did. -/
def fnWholeCutUptoRow : OpenClaim := { program := "ytijacopaadmncaagreat", sum := "d07565638696e9b3691a1c063a86376d0901dabbed040a514599ae1034d40acb", func := "loop.example/g00498/laws.FnWholeCut", spec := "fnWholeCut", recurses := true, apart := false, narrowed := true }
def FnWholeCutUptoSaid : Prop := fnWholeCutUptoRow.holds Tryz.pinned (OpenSpec.upto fnWholeCutSpec)

/-- 'laws.FnFormTold', WHERE WHAT IT READS IS OF BULK AT MOST 1048576: true; the input reads as it did. -/
def fnFormToldUptoRow : OpenClaim := { program := "ytijacopaadmncaagreat", sum := "d07565638696e9b3691a1c063a86376d0901dabbed040a514599ae1034d40acb", func := "loop.example/g00498/laws.FnFormTold", spec := "fnFormTold", recurses := true, apart := false, narrowed := true }
def FnFormToldUptoSaid : Prop := fnFormToldUptoRow.holds Tryz.pinned (OpenSpec.upto fnFormToldSpec)

/-- 'laws.FnFeedCut', WHERE WHAT IT READS IS OF BULK AT MOST 1048576: true; the input reads as it did. -/
def fnFeedCutUptoRow : OpenClaim := { program := "ytijacopaadmncaagreat", sum := "d07565638696e9b3691a1c063a86376d0901dabbed040a514599ae1034d40acb", func := "loop.example/g00498/laws.FnFeedCut", spec := "fnFeedCut", inPlace := ["internal/abi.NoEscape", "internal/bytealg.MakeNoZero"], unfollowed := true, recurses := true, apart := false, narrowed := true }
def FnFeedCutUptoSaid : Prop := fnFeedCutUptoRow.holds Tryz.pinned (OpenSpec.upto fnFeedCutSpec)

/-- 'laws.FnStepWhole', WHERE WHAT IT READS IS OF BULK AT MOST 1048576: true; the input reads as it did. -/
def fnStepWholeUptoRow : OpenClaim := { program := "ytijacopaadmncaagreat", sum := "d07565638696e9b3691a1c063a86376d0901dabbed040a514599ae1034d40acb", func := "loop.example/g00498/laws.FnStepWhole", spec := "fnStepWhole", unfollowed := true, recurses := true, apart := false, narrowed := true }
def FnStepWholeUptoSaid : Prop := fnStepWholeUptoRow.holds Tryz.pinned (OpenSpec.upto fnStepWholeSpec)

/-- 'laws.FnSizes', WHERE WHAT IT READS IS OF BULK AT MOST 1048576: true; the input reads as it did. -/
def fnSizesUptoRow : OpenClaim := { program := "ytijacopaadmncaagreat", sum := "d07565638696e9b3691a1c063a86376d0901dabbed040a514599ae1034d40acb", func := "loop.example/g00498/laws.FnSizes", spec := "fnSizes", recurses := true, apart := false, narrowed := true }
def FnSizesUptoSaid : Prop := fnSizesUptoRow.holds Tryz.pinned (OpenSpec.upto fnSizesSpec)

end Rows
end Go.Proofs.YtijacopaadmncaaGreat

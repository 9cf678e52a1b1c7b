/-
  No cell of these rows narrows 'for every input' (looked for: loops, veiled, ifaces, maps, wideKeys, modest, calm, conditions, laid).
  DERIVED. THE GIVEN ROWS OF THIS SEAT. 6 by the template 'for every input the law returns true; each argument reads behind the call as it read before'; 0 by the template 'total and deterministic' (their statements: YtcmnedgnppnhoaaGreatTotals.lean).
  GIVEN WITH THE SEED: the statements are not yours to turn. If you find one false, say at which input.
  Laid BY PROGRAM, IN A SANDBOX (cutbox-rows.mjs): the forced cells as the released guide's own fill.sh prints them over the translation 332b922d5b4f7157… (all of the seat's roots in one cut). By AI agents, Wed Nov 11 2026. No macro, syntax, notation, axiom, sorry.
-/
import Derived.Test.YtcmnedgnppnhoaaGreatChecked
import GoSem.Claim
import GoSem.ClaimJoined
import GoSem.ClaimMapViews
import Derived.JoinedTies
import Derived.KernelRfl
namespace Go.Proofs.YtcmnedgnppnhoaaGreat
/- THE CELL 'sum', in the pinned program and in every row, IS THE sha256 OF THE DUMP (.gsa) THAT YtcmnedgnppnhoaaGreatProg.lean LOADS. Nothing in Lean hashes anything: it is a label: what it is worth is what the hold of that sum in a sandbox is worth. -/
noncomputable def Tryz.pinned : Pinned := { name := "ytcmnedgnppnhoaagreat", sum := "332b922d5b4f71577a4e18102c39bfa662e8a67d1e3f1ee55f51f9c8b8a1f6af", checked := Tryz.checked }
namespace Rows
def none {H : Type} : Left H := { results := [], args := [] }

/-- 'laws.FnWholeJoin': WHATEVER THE INPUT: true; the input reads as it did. -/
def fnWholeJoinSpec : ChangeSpec := { name := "fnWholeJoin", fn := fun _ => fun
  | [d] => { results := [.lit (.bool true)], args := [d] }
  | _ => none }
def fnWholeJoinRow : OpenClaim := { program := "ytcmnedgnppnhoaagreat", sum := "332b922d5b4f71577a4e18102c39bfa662e8a67d1e3f1ee55f51f9c8b8a1f6af", func := "loop.example/g00498/laws.FnWholeJoin", spec := "fnWholeJoin", recurses := true, apart := false }
def FnWholeJoinSaid : Prop := fnWholeJoinRow.holds Tryz.pinned (OpenSpec.ofChange fnWholeJoinSpec)

/-- ITS FALSE NEIGHBOUR: 'it returns false'. Refute it at one input. -/
def fnWholeJoinWrong : ChangeSpec := { name := "fnWholeJoin", fn := fun _ => fun
  | [d] => { results := [.lit (.bool false)], args := [d] }
  | _ => none }
def FnWholeJoinWrongFalsely : Prop := fnWholeJoinRow.holds Tryz.pinned (OpenSpec.ofChange fnWholeJoinWrong)

/-- 'laws.FnStepRight': WHATEVER THE INPUT: true; the input reads as it did. -/
def fnStepRightSpec : ChangeSpec := { name := "fnStepRight", fn := fun _ => fun
  | [d] => { results := [.lit (.bool true)], args := [d] }
  | _ => none }
def fnStepRightRow : OpenClaim := { program := "ytcmnedgnppnhoaagreat", sum := "332b922d5b4f71577a4e18102c39bfa662e8a67d1e3f1ee55f51f9c8b8a1f6af", func := "loop.example/g00498/laws.FnStepRight", spec := "fnStepRight", unfollowed := true, recurses := true, apart := false }
def FnStepRightSaid : Prop := fnStepRightRow.holds Tryz.pinned (OpenSpec.ofChange fnStepRightSpec)

/-- ITS FALSE NEIGHBOUR: 'it returns false'. Refute it at one input. -/
def fnStepRightWrong : ChangeSpec := { name := "fnStepRight", fn := fun _ => fun
  | [d] => { results := [.lit (.bool false)], args := [d] }
  | _ => none }
def FnStepRightWrongFalsely : Prop := fnStepRightRow.holds Tryz.pinned (OpenSpec.ofChange fnStepRightWrong)

/-- 'laws.FnStepLeft': WHATEVER THE INPUT: true; the input reads as it did. -/
def fnStepLeftSpec : ChangeSpec := { name := "fnStepLeft", fn := fun _ => fun
  | [d] => { results := [.lit (.bool true)], args := [d] }
  | _ => none }
def fnStepLeftRow : OpenClaim := { program := "ytcmnedgnppnhoaagreat", sum := "332b922d5b4f71577a4e18102c39bfa662e8a67d1e3f1ee55f51f9c8b8a1f6af", func := "loop.example/g00498/laws.FnStepLeft", spec := "fnStepLeft", unfollowed := true, recurses := true, apart := false }
def FnStepLeftSaid : Prop := fnStepLeftRow.holds Tryz.pinned (OpenSpec.ofChange fnStepLeftSpec)

/-- ITS FALSE NEIGHBOUR: 'it returns false'. Refute it at one input. -/
def fnStepLeftWrong : ChangeSpec := { name := "fnStepLeft", fn := fun _ => fun
  | [d] => { results := [.lit (.bool false)], args := [d] }
  | _ => none }
def FnStepLeftWrongFalsely : Prop := fnStepLeftRow.holds Tryz.pinned (OpenSpec.ofChange fnStepLeftWrong)

/-- 'laws.FnStopped': WHATEVER THE INPUT: true; the input reads as it did. -/
def fnStoppedSpec : ChangeSpec := { name := "fnStopped", fn := fun _ => fun
  | [d] => { results := [.lit (.bool true)], args := [d] }
  | _ => none }
def fnStoppedRow : OpenClaim := { program := "ytcmnedgnppnhoaagreat", sum := "332b922d5b4f71577a4e18102c39bfa662e8a67d1e3f1ee55f51f9c8b8a1f6af", func := "loop.example/g00498/laws.FnStopped", spec := "fnStopped", unfollowed := true, recurses := true, apart := false }
def FnStoppedSaid : Prop := fnStoppedRow.holds Tryz.pinned (OpenSpec.ofChange fnStoppedSpec)

/-- ITS FALSE NEIGHBOUR: 'it returns false'. Refute it at one input. -/
def fnStoppedWrong : ChangeSpec := { name := "fnStopped", fn := fun _ => fun
  | [d] => { results := [.lit (.bool false)], args := [d] }
  | _ => none }
def FnStoppedWrongFalsely : Prop := fnStoppedRow.holds Tryz.pinned (OpenSpec.ofChange fnStoppedWrong)

/-- 'laws.FnModes': WHATEVER THE INPUT: true; the input reads as it did. -/
def fnModesSpec : ChangeSpec := { name := "fnModes", fn := fun _ => fun
  | [d] => { results := [.lit (.bool true)], args := [d] }
  | _ => none }
def fnModesRow : OpenClaim := { program := "ytcmnedgnppnhoaagreat", sum := "332b922d5b4f71577a4e18102c39bfa662e8a67d1e3f1ee55f51f9c8b8a1f6af", func := "loop.example/g00498/laws.FnModes", spec := "fnModes", unfollowed := true, recurses := true, apart := false }
def FnModesSaid : Prop := fnModesRow.holds Tryz.pinned (OpenSpec.ofChange fnModesSpec)

/-- ITS FALSE NEIGHBOUR: 'it returns false'. Refute it at one input. -/
def fnModesWrong : ChangeSpec := { name := "fnModes", fn := fun _ => fun
  | [d] => { results := [.lit (.bool false)], args := [d] }
  | _ => none }
def FnModesWrongFalsely : Prop := fnModesRow.holds Tryz.pinned (OpenSpec.ofChange fnModesWrong)

/-- 'laws.FnFeedPart': WHATEVER THE INPUT: true; the input reads as it did. -/
def fnFeedPartSpec : ChangeSpec := { name := "fnFeedPart", fn := fun _ => fun
  | [d] => { results := [.lit (.bool true)], args := [d] }
  | _ => none }
def fnFeedPartRow : OpenClaim := { program := "ytcmnedgnppnhoaagreat", sum := "332b922d5b4f71577a4e18102c39bfa662e8a67d1e3f1ee55f51f9c8b8a1f6af", func := "loop.example/g00498/laws.FnFeedPart", spec := "fnFeedPart", unfollowed := true, recurses := true, apart := false }
def FnFeedPartSaid : Prop := fnFeedPartRow.holds Tryz.pinned (OpenSpec.ofChange fnFeedPartSpec)

/-- ITS FALSE NEIGHBOUR: 'it returns false'. Refute it at one input. -/
def fnFeedPartWrong : ChangeSpec := { name := "fnFeedPart", fn := fun _ => fun
  | [d] => { results := [.lit (.bool false)], args := [d] }
  | _ => none }
def FnFeedPartWrongFalsely : Prop := fnFeedPartRow.holds Tryz.pinned (OpenSpec.ofChange fnFeedPartWrong)

/- THE SECOND FORM. 'bulk': how many values and letters a reading holds, each counted each time it is reached (what is shared counts as often as it is met; a slice's spare places count too). A statement '..UptoSaid' is the law's where the arguments, and the package variables that the reading takes, are together of bulk at most 1048576: NARROWER than '..Said'. Prove '..Said' where nothing that the law and all that it calls make is longer than what came in: it says more and counts as full. Else prove '..UptoSaid'. A law counts once. -/
mutual
def uptoBulk {H : Type} : DataW H → Nat
  | .lit (.string bytes) => bytes.length + 1
  | .lit _ => 1
  | .nil => 1
  | .ptr d => uptoBulk d + 1
  | .slice elems spare => uptoBulkAll elems + uptoBulkAll spare + 1
  | .agg parts => uptoBulkAll parts + 1
  | .iface _ d => uptoBulk d + 1
  | .map entries => uptoBulkEntries entries + 1
  | .held _ => 1
def uptoBulkAll {H : Type} : List (DataW H) → Nat
  | [] => 0
  | d :: r => uptoBulk d + uptoBulkAll r
def uptoBulkEntries {H : Type} : List (Lit × DataW H) → Nat
  | [] => 0
  | x :: r => uptoBulkEntry x + uptoBulkEntries r
def uptoBulkEntry {H : Type} : Lit × DataW H → Nat
  | (.string bytes, d) => bytes.length + uptoBulk d + 1
  | (_, d) => uptoBulk d + 1
 end
def uptoSmall : (H : Type) → List (DataW H) → Bool := fun _ ds => decide (uptoBulkAll ds ≤ 1048576)
def OpenSpec.upto (s : _root_.Go.ChangeSpec) : _root_.Go.OpenSpec := { _root_.Go.OpenSpec.ofChange s with cond := some uptoSmall }

/-- 'laws.FnWholeJoin', WHERE WHAT IT READS IS OF BULK AT MOST 1048576: true; the input reads as it did. -/
def fnWholeJoinUptoRow : OpenClaim := { program := "ytcmnedgnppnhoaagreat", sum := "332b922d5b4f71577a4e18102c39bfa662e8a67d1e3f1ee55f51f9c8b8a1f6af", func := "loop.example/g00498/laws.FnWholeJoin", spec := "fnWholeJoin", recurses := true, apart := false, narrowed := true }
def FnWholeJoinUptoSaid : Prop := fnWholeJoinUptoRow.holds Tryz.pinned (OpenSpec.upto fnWholeJoinSpec)

/-- 'laws.FnStepRight', WHERE WHAT IT READS IS OF BULK AT MOST 1048576: true; the input reads as it did. -/
def fnStepRightUptoRow : OpenClaim := { program := "ytcmnedgnppnhoaagreat", sum := "332b922d5b4f71577a4e18102c39bfa662e8a67d1e3f1ee55f51f9c8b8a1f6af", func := "loop.example/g00498/laws.FnStepRight", spec := "fnStepRight", unfollowed := true, recurses := true, apart := false, narrowed := true }
def FnStepRightUptoSaid : Prop := fnStepRightUptoRow.holds Tryz.pinned (OpenSpec.upto fnStepRightSpec)

/-- 'laws.FnStepLeft', WHERE WHAT IT READS IS OF BULK AT MOST 1048576: true; the input reads as it did. -/
def fnStepLeftUptoRow : OpenClaim := { program := "ytcmnedgnppnhoaagreat", sum := "332b922d5b4f71577a4e18102c39bfa662e8a67d1e3f1ee55f51f9c8b8a1f6af", func := "loop.example/g00498/laws.FnStepLeft", spec := "fnStepLeft", unfollowed := true, recurses := true, apart := false, narrowed := true }
def FnStepLeftUptoSaid : Prop := fnStepLeftUptoRow.holds Tryz.pinned (OpenSpec.upto fnStepLeftSpec)

/-- 'laws.FnStopped', WHERE WHAT IT READS IS OF BULK AT MOST 1048576: true; the input reads as it did. -/
def fnStoppedUptoRow : OpenClaim := { program := "ytcmnedgnppnhoaagreat", sum := "332b922d5b4f71577a4e18102c39bfa662e8a67d1e3f1ee55f51f9c8b8a1f6af", func := "loop.example/g00498/laws.FnStopped", spec := "fnStopped", unfollowed := true, recurses := true, apart := false, narrowed := true }
def FnStoppedUptoSaid : Prop := fnStoppedUptoRow.holds Tryz.pinned (OpenSpec.upto fnStoppedSpec)

/-- 'laws.FnModes', WHERE WHAT IT READS IS OF BULK AT MOST 1048576: true; the input reads as it did. -/
def fnModesUptoRow : OpenClaim := { program := "ytcmnedgnppnhoaagreat", sum := "332b922d5b4f71577a4e18102c39bfa662e8a67d1e3f1ee55f51f9c8b8a1f6af", func := "loop.example/g00498/laws.FnModes", spec := "fnModes", unfollowed := true, recurses := true, apart := false, narrowed := true }
def FnModesUptoSaid : Prop := fnModesUptoRow.holds Tryz.pinned (OpenSpec.upto fnModesSpec)

/-- 'laws.FnFeedPart', WHERE WHAT IT READS IS OF BULK AT MOST 1048576: true; the input reads as it did. -/
def fnFeedPartUptoRow : OpenClaim := { program := "ytcmnedgnppnhoaagreat", sum := "332b922d5b4f71577a4e18102c39bfa662e8a67d1e3f1ee55f51f9c8b8a1f6af", func := "loop.example/g00498/laws.FnFeedPart", spec := "fnFeedPart", unfollowed := true, recurses := true, apart := false, narrowed := true }
def FnFeedPartUptoSaid : Prop := fnFeedPartUptoRow.holds Tryz.pinned (OpenSpec.upto fnFeedPartSpec)

end Rows
end Go.Proofs.YtcmnedgnppnhoaaGreat

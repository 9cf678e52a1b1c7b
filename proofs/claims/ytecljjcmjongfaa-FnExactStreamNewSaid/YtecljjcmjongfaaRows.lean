/-
  No cell of these rows narrows 'for every input' (looked for: loops, veiled, ifaces, maps, wideKeys, modest, calm, conditions, laid).
  DERIVED. THE GIVEN ROWS OF THIS SEAT. 5 by the template 'for every input the law returns true; each argument reads behind the call as it read before'; 0 by the template 'total and deterministic' (their statements: YtecljjcmjongfaaTotals.lean).
  GIVEN WITH THE SEED: the statements are not yours to turn. If you find one false, say at which input.
  Laid BY PROGRAM, IN A SANDBOX (cutbox-rows.mjs): the forced cells as the released guide's own fill.sh prints them over the translation 7389eb67a24d0c40… (all of the seat's roots in one cut). By AI agents, Wed Nov 11 2026. No macro, syntax, notation, axiom, sorry.
-/
import Derived.Test.YtecljjcmjongfaaChecked
import GoSem.Claim
import GoSem.ClaimJoined
import GoSem.ClaimMapViews
import Derived.JoinedTies
import Derived.KernelRfl
namespace Go.Proofs.Ytecljjcmjongfaa
/- THE CELL 'sum', in the pinned program and in every row, IS THE sha256 OF THE DUMP (.gsa) THAT YtecljjcmjongfaaProg.lean LOADS. Nothing in Lean hashes anything: it is a label: what it is worth is what the hold of that sum in a sandbox is worth. -/
noncomputable def Try.pinned : Pinned := { name := "ytecljjcmjongfaa", sum := "7389eb67a24d0c401493063c4c3d5114f74f9642d620c96e66a410f7b5ee8df6", checked := Try.checked }
namespace Rows
def none {H : Type} : Left H := { results := [], args := [] }

/-- 'laws.FnExactWhole': WHATEVER THE INPUT: true; the input reads as it did. -/
def fnExactWholeSpec : ChangeSpec := { name := "fnExactWhole", fn := fun _ => fun
  | [d1, d2] => { results := [.lit (.bool true)], args := [d1, d2] }
  | _ => none }
def fnExactWholeRow : OpenClaim := { program := "ytecljjcmjongfaa", sum := "7389eb67a24d0c401493063c4c3d5114f74f9642d620c96e66a410f7b5ee8df6", func := "loop.example/g00498/laws.FnExactWhole", spec := "fnExactWhole", recurses := true, apart := false }
def FnExactWholeSaid : Prop := fnExactWholeRow.holds Try.pinned (OpenSpec.ofChange fnExactWholeSpec)

/-- ITS FALSE NEIGHBOUR: 'it returns false'. Refute it at one input. -/
def fnExactWholeWrong : ChangeSpec := { name := "fnExactWhole", fn := fun _ => fun
  | [d1, d2] => { results := [.lit (.bool false)], args := [d1, d2] }
  | _ => none }
def FnExactWholeWrongFalsely : Prop := fnExactWholeRow.holds Try.pinned (OpenSpec.ofChange fnExactWholeWrong)

/-- 'laws.FnExactBoundaries': WHATEVER THE INPUT: true; the input reads as it did. -/
def fnExactBoundariesSpec : ChangeSpec := { name := "fnExactBoundaries", fn := fun _ => fun
  | [d1, d2] => { results := [.lit (.bool true)], args := [d1, d2] }
  | _ => none }
def fnExactBoundariesRow : OpenClaim := { program := "ytecljjcmjongfaa", sum := "7389eb67a24d0c401493063c4c3d5114f74f9642d620c96e66a410f7b5ee8df6", func := "loop.example/g00498/laws.FnExactBoundaries", spec := "fnExactBoundaries", recurses := true, apart := false }
def FnExactBoundariesSaid : Prop := fnExactBoundariesRow.holds Try.pinned (OpenSpec.ofChange fnExactBoundariesSpec)

/-- ITS FALSE NEIGHBOUR: 'it returns false'. Refute it at one input. -/
def fnExactBoundariesWrong : ChangeSpec := { name := "fnExactBoundaries", fn := fun _ => fun
  | [d1, d2] => { results := [.lit (.bool false)], args := [d1, d2] }
  | _ => none }
def FnExactBoundariesWrongFalsely : Prop := fnExactBoundariesRow.holds Try.pinned (OpenSpec.ofChange fnExactBoundariesWrong)

/-- 'laws.FnExactReadMsg': WHATEVER THE INPUT: true; the input reads as it did. -/
def fnExactReadMsgSpec : ChangeSpec := { name := "fnExactReadMsg", fn := fun _ => fun
  | [d1, d2, d3, d4, d5, d6] => { results := [.lit (.bool true)], args := [d1, d2, d3, d4, d5, d6] }
  | _ => none }
def fnExactReadMsgRow : OpenClaim := { program := "ytecljjcmjongfaa", sum := "7389eb67a24d0c401493063c4c3d5114f74f9642d620c96e66a410f7b5ee8df6", func := "loop.example/g00498/laws.FnExactReadMsg", spec := "fnExactReadMsg", recurses := true, apart := false }
def FnExactReadMsgSaid : Prop := fnExactReadMsgRow.holds Try.pinned (OpenSpec.ofChange fnExactReadMsgSpec)

/-- ITS FALSE NEIGHBOUR: 'it returns false'. Refute it at one input. -/
def fnExactReadMsgWrong : ChangeSpec := { name := "fnExactReadMsg", fn := fun _ => fun
  | [d1, d2, d3, d4, d5, d6] => { results := [.lit (.bool false)], args := [d1, d2, d3, d4, d5, d6] }
  | _ => none }
def FnExactReadMsgWrongFalsely : Prop := fnExactReadMsgRow.holds Try.pinned (OpenSpec.ofChange fnExactReadMsgWrong)

/-- 'laws.FnExactSizesOf': WHATEVER THE INPUT: true; the input reads as it did. -/
def fnExactSizesOfSpec : ChangeSpec := { name := "fnExactSizesOf", fn := fun _ => fun
  | [d1, d2] => { results := [.lit (.bool true)], args := [d1, d2] }
  | _ => none }
def fnExactSizesOfRow : OpenClaim := { program := "ytecljjcmjongfaa", sum := "7389eb67a24d0c401493063c4c3d5114f74f9642d620c96e66a410f7b5ee8df6", func := "loop.example/g00498/laws.FnExactSizesOf", spec := "fnExactSizesOf", recurses := true, apart := false }
def FnExactSizesOfSaid : Prop := fnExactSizesOfRow.holds Try.pinned (OpenSpec.ofChange fnExactSizesOfSpec)

/-- ITS FALSE NEIGHBOUR: 'it returns false'. Refute it at one input. -/
def fnExactSizesOfWrong : ChangeSpec := { name := "fnExactSizesOf", fn := fun _ => fun
  | [d1, d2] => { results := [.lit (.bool false)], args := [d1, d2] }
  | _ => none }
def FnExactSizesOfWrongFalsely : Prop := fnExactSizesOfRow.holds Try.pinned (OpenSpec.ofChange fnExactSizesOfWrong)

/-- 'laws.FnExactStreamNew': WHATEVER THE INPUT: true; the input reads as it did. -/
def fnExactStreamNewSpec : ChangeSpec := { name := "fnExactStreamNew", fn := fun _ => fun
  | [d1, d2, d3] => { results := [.lit (.bool true)], args := [d1, d2, d3] }
  | _ => none }
def fnExactStreamNewRow : OpenClaim := { program := "ytecljjcmjongfaa", sum := "7389eb67a24d0c401493063c4c3d5114f74f9642d620c96e66a410f7b5ee8df6", func := "loop.example/g00498/laws.FnExactStreamNew", spec := "fnExactStreamNew", apart := false }
def FnExactStreamNewSaid : Prop := fnExactStreamNewRow.holds Try.pinned (OpenSpec.ofChange fnExactStreamNewSpec)

/-- ITS FALSE NEIGHBOUR: 'it returns false'. Refute it at one input. -/
def fnExactStreamNewWrong : ChangeSpec := { name := "fnExactStreamNew", fn := fun _ => fun
  | [d1, d2, d3] => { results := [.lit (.bool false)], args := [d1, d2, d3] }
  | _ => none }
def FnExactStreamNewWrongFalsely : Prop := fnExactStreamNewRow.holds Try.pinned (OpenSpec.ofChange fnExactStreamNewWrong)

/- THE SECOND FORM. 'bulk': how many values and letters a reading holds, each counted each time it is reached (what is shared counts as often as it is met; a slice's spare places count too). A statement '..UptoSaid' is the law's where the arguments, and the package variables that the reading takes, are together of bulk at most 1048576: NARROWER than '..Said'. Prove '..Said' where nothing that the law and all that it calls make is longer than what came in: it says more and counts as full. Else prove '..UptoSaid'. A law counts once. -/
mutual
def uptoBulk {H : Type} : DataW H → Nat
  | .lit (.string bytes) => bytes.length + 1
  | .lit _ => 1
  | .nil => 1
  | .ptr d => uptoBulk d + 1
  | .slice elems spare => uptoBulkAll elems + uptoBulkAll spare + 1
  | .agg parts => uptoBulkAll parts + 1
  | .iface _ d => uptoBulk d + 1
  | .map entries => uptoBulkEntries entries + 1
  | .held _ => 1
def uptoBulkAll {H : Type} : List (DataW H) → Nat
  | [] => 0
  | d :: r => uptoBulk d + uptoBulkAll r
def uptoBulkEntries {H : Type} : List (Lit × DataW H) → Nat
  | [] => 0
  | x :: r => uptoBulkEntry x + uptoBulkEntries r
def uptoBulkEntry {H : Type} : Lit × DataW H → Nat
  | (.string bytes, d) => bytes.length + uptoBulk d + 1
  | (_, d) => uptoBulk d + 1
 end
def uptoSmall : (H : Type) → List (DataW H) → Bool := fun _ ds => decide (uptoBulkAll ds ≤ 1048576)
def OpenSpec.upto (s : _root_.Go.ChangeSpec) : _root_.Go.OpenSpec := { _root_.Go.OpenSpec.ofChange s with cond := some uptoSmall }

/-- 'laws.FnExactWhole', WHERE WHAT IT READS IS OF BULK AT MOST 1048576: true; the input reads as it did. -/
def fnExactWholeUptoRow : OpenClaim := { program := "ytecljjcmjongfaa", sum := "7389eb67a24d0c401493063c4c3d5114f74f9642d620c96e66a410f7b5ee8df6", func := "loop.example/g00498/laws.FnExactWhole", spec := "fnExactWhole", recurses := true, apart := false, narrowed := true }
def FnExactWholeUptoSaid : Prop := fnExactWholeUptoRow.holds Try.pinned (OpenSpec.upto fnExactWholeSpec)

/-- 'laws.FnExactBoundaries', WHERE WHAT IT READS IS OF BULK AT MOST 1048576: true; the input reads as it did. -/
def fnExactBoundariesUptoRow : OpenClaim := { program := "ytecljjcmjongfaa", sum := "7389eb67a24d0c401493063c4c3d5114f74f9642d620c96e66a410f7b5ee8df6", func := "loop.example/g00498/laws.FnExactBoundaries", spec := "fnExactBoundaries", recurses := true, apart := false, narrowed := true }
def FnExactBoundariesUptoSaid : Prop := fnExactBoundariesUptoRow.holds Try.pinned (OpenSpec.upto fnExactBoundariesSpec)

/-- 'laws.FnExactReadMsg', WHERE WHAT IT READS IS OF BULK AT MOST 1048576: true; the input reads as it did. -/
def fnExactReadMsgUptoRow : OpenClaim := { program := "ytecljjcmjongfaa", sum := "7389eb67a24d0c401493063c4c3d5114f74f9642d620c96e66a410f7b5ee8df6", func := "loop.example/g00498/laws.FnExactReadMsg", spec := "fnExactReadMsg", recurses := true, apart := false, narrowed := true }
def FnExactReadMsgUptoSaid : Prop := fnExactReadMsgUptoRow.holds Try.pinned (OpenSpec.upto fnExactReadMsgSpec)

/-- 'laws.FnExactSizesOf', WHERE WHAT IT READS IS OF BULK AT MOST 1048576: true; the input reads as it did. -/
def fnExactSizesOfUptoRow : OpenClaim := { program := "ytecljjcmjongfaa", sum := "7389eb67a24d0c401493063c4c3d5114f74f9642d620c96e66a410f7b5ee8df6", func := "loop.example/g00498/laws.FnExactSizesOf", spec := "fnExactSizesOf", recurses := true, apart := false, narrowed := true }
def FnExactSizesOfUptoSaid : Prop := fnExactSizesOfUptoRow.holds Try.pinned (OpenSpec.upto fnExactSizesOfSpec)

/-- 'laws.FnExactStreamNew', WHERE WHAT IT READS IS OF BULK AT MOST 1048576: true; the input reads as it did. -/
def fnExactStreamNewUptoRow : OpenClaim := { program := "ytecljjcmjongfaa", sum := "7389eb67a24d0c401493063c4c3d5114f74f9642d620c96e66a410f7b5ee8df6", func := "loop.example/g00498/laws.FnExactStreamNew", spec := "fnExactStreamNew", apart := false, narrowed := true }
def FnExactStreamNewUptoSaid : Prop := fnExactStreamNewUptoRow.holds Try.pinned (OpenSpec.upto fnExactStreamNewSpec)

end Rows
end Go.Proofs.Ytecljjcmjongfaa

/-
  No cell of these rows narrows 'for every input' (looked for: loops, veiled, ifaces, maps, wideKeys, modest, calm, conditions, laid).
  DERIVED. THE GIVEN ROWS OF THIS SEAT. 7 by the template 'for every input the law returns true; each argument reads behind the call as it read before'; 0 by the template 'total and deterministic' (their statements: YthmhekbmhpljcaaTotals.lean).
  GIVEN WITH THE SEED: the statements are not yours to turn. If you find one false, say at which input.
  Laid BY PROGRAM, IN A SANDBOX (cutbox-rows.mjs): the forced cells as the released guide's own fill.sh prints them over the translation 00a5235ff4b02d7f… (all of the seat's roots in one cut). By AI agents, Wed Nov 11 2026. No macro, syntax, notation, axiom, sorry.
-/
import Derived.Test.YthmhekbmhpljcaaChecked
import GoSem.Claim
import GoSem.ClaimJoined
import GoSem.ClaimMapViews
import Derived.JoinedTies
import Derived.KernelRfl
namespace Go.Proofs.Ythmhekbmhpljcaa
/- THE CELL 'sum', in the pinned program and in every row, IS THE sha256 OF THE DUMP (.gsa) THAT YthmhekbmhpljcaaProg.lean LOADS. Nothing in Lean hashes anything: it is a label: what it is worth is what the hold of that sum in a sandbox is worth. -/
noncomputable def Try.pinned : Pinned := { name := "ythmhekbmhpljcaa", sum := "00a5235ff4b02d7f5379870940c946c4f6f5dbae8cb7cb9435501e9d8cbfc605", checked := Try.checked }
namespace Rows
def none {H : Type} : Left H := { results := [], args := [] }

/-- 'laws.FnExactFrameCode': WHATEVER THE INPUT: true; the input reads as it did. -/
def fnExactFrameCodeSpec : ChangeSpec := { name := "fnExactFrameCode", fn := fun _ => fun
  | [d1, d2] => { results := [.lit (.bool true)], args := [d1, d2] }
  | _ => none }
def fnExactFrameCodeRow : OpenClaim := { program := "ythmhekbmhpljcaa", sum := "00a5235ff4b02d7f5379870940c946c4f6f5dbae8cb7cb9435501e9d8cbfc605", func := "loop.example/g00498/laws.FnExactFrameCode", spec := "fnExactFrameCode", apart := false }
def FnExactFrameCodeSaid : Prop := fnExactFrameCodeRow.holds Try.pinned (OpenSpec.ofChange fnExactFrameCodeSpec)

/-- ITS FALSE NEIGHBOUR: 'it returns false'. Refute it at one input. -/
def fnExactFrameCodeWrong : ChangeSpec := { name := "fnExactFrameCode", fn := fun _ => fun
  | [d1, d2] => { results := [.lit (.bool false)], args := [d1, d2] }
  | _ => none }
def FnExactFrameCodeWrongFalsely : Prop := fnExactFrameCodeRow.holds Try.pinned (OpenSpec.ofChange fnExactFrameCodeWrong)

/-- 'laws.FnExactFramesIn': WHATEVER THE INPUT: true; the input reads as it did. -/
def fnExactFramesInSpec : ChangeSpec := { name := "fnExactFramesIn", fn := fun _ => fun
  | [d1, d2] => { results := [.lit (.bool true)], args := [d1, d2] }
  | _ => none }
def fnExactFramesInRow : OpenClaim := { program := "ythmhekbmhpljcaa", sum := "00a5235ff4b02d7f5379870940c946c4f6f5dbae8cb7cb9435501e9d8cbfc605", func := "loop.example/g00498/laws.FnExactFramesIn", spec := "fnExactFramesIn", recurses := true, apart := false }
def FnExactFramesInSaid : Prop := fnExactFramesInRow.holds Try.pinned (OpenSpec.ofChange fnExactFramesInSpec)

/-- ITS FALSE NEIGHBOUR: 'it returns false'. Refute it at one input. -/
def fnExactFramesInWrong : ChangeSpec := { name := "fnExactFramesIn", fn := fun _ => fun
  | [d1, d2] => { results := [.lit (.bool false)], args := [d1, d2] }
  | _ => none }
def FnExactFramesInWrongFalsely : Prop := fnExactFramesInRow.holds Try.pinned (OpenSpec.ofChange fnExactFramesInWrong)

/-- 'laws.FnExactBodyOf': WHATEVER THE INPUT: true; the input reads as it did. -/
def fnExactBodyOfSpec : ChangeSpec := { name := "fnExactBodyOf", fn := fun _ => fun
  | [d1, d2] => { results := [.lit (.bool true)], args := [d1, d2] }
  | _ => none }
def fnExactBodyOfRow : OpenClaim := { program := "ythmhekbmhpljcaa", sum := "00a5235ff4b02d7f5379870940c946c4f6f5dbae8cb7cb9435501e9d8cbfc605", func := "loop.example/g00498/laws.FnExactBodyOf", spec := "fnExactBodyOf", recurses := true, apart := false }
def FnExactBodyOfSaid : Prop := fnExactBodyOfRow.holds Try.pinned (OpenSpec.ofChange fnExactBodyOfSpec)

/-- ITS FALSE NEIGHBOUR: 'it returns false'. Refute it at one input. -/
def fnExactBodyOfWrong : ChangeSpec := { name := "fnExactBodyOf", fn := fun _ => fun
  | [d1, d2] => { results := [.lit (.bool false)], args := [d1, d2] }
  | _ => none }
def FnExactBodyOfWrongFalsely : Prop := fnExactBodyOfRow.holds Try.pinned (OpenSpec.ofChange fnExactBodyOfWrong)

/-- 'laws.FnExactFrameSize': WHATEVER THE INPUT: true; the input reads as it did. -/
def fnExactFrameSizeSpec : ChangeSpec := { name := "fnExactFrameSize", fn := fun _ => fun
  | [d1, d2] => { results := [.lit (.bool true)], args := [d1, d2] }
  | _ => none }
def fnExactFrameSizeRow : OpenClaim := { program := "ythmhekbmhpljcaa", sum := "00a5235ff4b02d7f5379870940c946c4f6f5dbae8cb7cb9435501e9d8cbfc605", func := "loop.example/g00498/laws.FnExactFrameSize", spec := "fnExactFrameSize", recurses := true, apart := false }
def FnExactFrameSizeSaid : Prop := fnExactFrameSizeRow.holds Try.pinned (OpenSpec.ofChange fnExactFrameSizeSpec)

/-- ITS FALSE NEIGHBOUR: 'it returns false'. Refute it at one input. -/
def fnExactFrameSizeWrong : ChangeSpec := { name := "fnExactFrameSize", fn := fun _ => fun
  | [d1, d2] => { results := [.lit (.bool false)], args := [d1, d2] }
  | _ => none }
def FnExactFrameSizeWrongFalsely : Prop := fnExactFrameSizeRow.holds Try.pinned (OpenSpec.ofChange fnExactFrameSizeWrong)

/-- 'laws.FnExactFrameBytes': WHATEVER THE INPUT: true; the input reads as it did. -/
def fnExactFrameBytesSpec : ChangeSpec := { name := "fnExactFrameBytes", fn := fun _ => fun
  | [d1, d2] => { results := [.lit (.bool true)], args := [d1, d2] }
  | _ => none }
def fnExactFrameBytesRow : OpenClaim := { program := "ythmhekbmhpljcaa", sum := "00a5235ff4b02d7f5379870940c946c4f6f5dbae8cb7cb9435501e9d8cbfc605", func := "loop.example/g00498/laws.FnExactFrameBytes", spec := "fnExactFrameBytes", recurses := true, apart := false }
def FnExactFrameBytesSaid : Prop := fnExactFrameBytesRow.holds Try.pinned (OpenSpec.ofChange fnExactFrameBytesSpec)

/-- ITS FALSE NEIGHBOUR: 'it returns false'. Refute it at one input. -/
def fnExactFrameBytesWrong : ChangeSpec := { name := "fnExactFrameBytes", fn := fun _ => fun
  | [d1, d2] => { results := [.lit (.bool false)], args := [d1, d2] }
  | _ => none }
def FnExactFrameBytesWrongFalsely : Prop := fnExactFrameBytesRow.holds Try.pinned (OpenSpec.ofChange fnExactFrameBytesWrong)

/-- 'laws.FnExactFormed': WHATEVER THE INPUT: true; the input reads as it did. -/
def fnExactFormedSpec : ChangeSpec := { name := "fnExactFormed", fn := fun _ => fun
  | [d1, d2] => { results := [.lit (.bool true)], args := [d1, d2] }
  | _ => none }
def fnExactFormedRow : OpenClaim := { program := "ythmhekbmhpljcaa", sum := "00a5235ff4b02d7f5379870940c946c4f6f5dbae8cb7cb9435501e9d8cbfc605", func := "loop.example/g00498/laws.FnExactFormed", spec := "fnExactFormed", recurses := true, apart := false }
def FnExactFormedSaid : Prop := fnExactFormedRow.holds Try.pinned (OpenSpec.ofChange fnExactFormedSpec)

/-- ITS FALSE NEIGHBOUR: 'it returns false'. Refute it at one input. -/
def fnExactFormedWrong : ChangeSpec := { name := "fnExactFormed", fn := fun _ => fun
  | [d1, d2] => { results := [.lit (.bool false)], args := [d1, d2] }
  | _ => none }
def FnExactFormedWrongFalsely : Prop := fnExactFormedRow.holds Try.pinned (OpenSpec.ofChange fnExactFormedWrong)

/-- 'laws.FnExactGoodFrames': WHATEVER THE INPUT: true; the input reads as it did. -/
def fnExactGoodFramesSpec : ChangeSpec := { name := "fnExactGoodFrames", fn := fun _ => fun
  | [d1, d2] => { results := [.lit (.bool true)], args := [d1, d2] }
  | _ => none }
def fnExactGoodFramesRow : OpenClaim := { program := "ythmhekbmhpljcaa", sum := "00a5235ff4b02d7f5379870940c946c4f6f5dbae8cb7cb9435501e9d8cbfc605", func := "loop.example/g00498/laws.FnExactGoodFrames", spec := "fnExactGoodFrames", recurses := true, apart := false }
def FnExactGoodFramesSaid : Prop := fnExactGoodFramesRow.holds Try.pinned (OpenSpec.ofChange fnExactGoodFramesSpec)

/-- ITS FALSE NEIGHBOUR: 'it returns false'. Refute it at one input. -/
def fnExactGoodFramesWrong : ChangeSpec := { name := "fnExactGoodFrames", fn := fun _ => fun
  | [d1, d2] => { results := [.lit (.bool false)], args := [d1, d2] }
  | _ => none }
def FnExactGoodFramesWrongFalsely : Prop := fnExactGoodFramesRow.holds Try.pinned (OpenSpec.ofChange fnExactGoodFramesWrong)

/- THE SECOND FORM. 'bulk': how many values and letters a reading holds, each counted each time it is reached (what is shared counts as often as it is met; a slice's spare places count too). A statement '..UptoSaid' is the law's where the arguments, and the package variables that the reading takes, are together of bulk at most 1048576: NARROWER than '..Said'. Prove '..Said' where nothing that the law and all that it calls make is longer than what came in: it says more and counts as full. Else prove '..UptoSaid'. A law counts once. -/
mutual
def uptoBulk {H : Type} : DataW H → Nat
  | .lit (.string bytes) => bytes.length + 1
  | .lit _ => 1
  | .nil => 1
  | .ptr d => uptoBulk d + 1
  | .slice elems spare => uptoBulkAll elems + uptoBulkAll spare + 1
  | .agg parts => uptoBulkAll parts + 1
  | .iface _ d => uptoBulk d + 1
  | .map entries => uptoBulkEntries entries + 1
  | .held _ => 1
def uptoBulkAll {H : Type} : List (DataW H) → Nat
  | [] => 0
  | d :: r => uptoBulk d + uptoBulkAll r
def uptoBulkEntries {H : Type} : List (Lit × DataW H) → Nat
  | [] => 0
  | x :: r => uptoBulkEntry x + uptoBulkEntries r
def uptoBulkEntry {H : Type} : Lit × DataW H → Nat
  | (.string bytes, d) => bytes.length + uptoBulk d + 1
  | (_, d) => uptoBulk d + 1
 end
def uptoSmall : (H : Type) → List (DataW H) → Bool := fun _ ds => decide (uptoBulkAll ds ≤ 1048576)
def OpenSpec.upto (s : _root_.Go.ChangeSpec) : _root_.Go.OpenSpec := { _root_.Go.OpenSpec.ofChange s with cond := some uptoSmall }

/-- 'laws.FnExactFrameCode', WHERE WHAT IT READS IS OF BULK AT MOST 1048576: true; the input reads as it did. -/
def fnExactFrameCodeUptoRow : OpenClaim := { program := "ythmhekbmhpljcaa", sum := "00a5235ff4b02d7f5379870940c946c4f6f5dbae8cb7cb9435501e9d8cbfc605", func := "loop.example/g00498/laws.FnExactFrameCode", spec := "fnExactFrameCode", apart := false, narrowed := true }
def FnExactFrameCodeUptoSaid : Prop := fnExactFrameCodeUptoRow.holds Try.pinned (OpenSpec.upto fnExactFrameCodeSpec)

/-- 'laws.FnExactFramesIn', WHERE WHAT IT READS IS OF BULK AT MOST 1048576: true; the input reads as it did. -/
def fnExactFramesInUptoRow : OpenClaim := { program := "ythmhekbmhpljcaa", sum := "00a5235ff4b02d7f5379870940c946c4f6f5dbae8cb7cb9435501e9d8cbfc605", func := "loop.example/g00498/laws.FnExactFramesIn", spec := "fnExactFramesIn", recurses := true, apart := false, narrowed := true }
def FnExactFramesInUptoSaid : Prop := fnExactFramesInUptoRow.holds Try.pinned (OpenSpec.upto fnExactFramesInSpec)

/-- 'laws.FnExactBodyOf', WHERE WHAT IT READS IS OF BULK AT MOST 1048576: true; the input reads as it did. -/
def fnExactBodyOfUptoRow : OpenClaim := { program := "ythmhekbmhpljcaa", sum := "00a5235ff4b02d7f5379870940c946c4f6f5dbae8cb7cb9435501e9d8cbfc605", func := "loop.example/g00498/laws.FnExactBodyOf", spec := "fnExactBodyOf", recurses := true, apart := false, narrowed := true }
def FnExactBodyOfUptoSaid : Prop := fnExactBodyOfUptoRow.holds Try.pinned (OpenSpec.upto fnExactBodyOfSpec)

/-- 'laws.FnExactFrameSize', WHERE WHAT IT READS IS OF BULK AT MOST 1048576: true; the input reads as it did. -/
def fnExactFrameSizeUptoRow : OpenClaim := { program := "ythmhekbmhpljcaa", sum := "00a5235ff4b02d7f5379870940c946c4f6f5dbae8cb7cb9435501e9d8cbfc605", func := "loop.example/g00498/laws.FnExactFrameSize", spec := "fnExactFrameSize", recurses := true, apart := false, narrowed := true }
def FnExactFrameSizeUptoSaid : Prop := fnExactFrameSizeUptoRow.holds Try.pinned (OpenSpec.upto fnExactFrameSizeSpec)

/-- 'laws.FnExactFrameBytes', WHERE WHAT IT READS IS OF BULK AT MOST 1048576: true; the input reads as it did. -/
def fnExactFrameBytesUptoRow : OpenClaim := { program := "ythmhekbmhpljcaa", sum := "00a5235ff4b02d7f5379870940c946c4f6f5dbae8cb7cb9435501e9d8cbfc605", func := "loop.example/g00498/laws.FnExactFrameBytes", spec := "fnExactFrameBytes", recurses := true, apart := false, narrowed := true }
def FnExactFrameBytesUptoSaid : Prop := fnExactFrameBytesUptoRow.holds Try.pinned (OpenSpec.upto fnExactFrameBytesSpec)

/-- 'laws.FnExactFormed', WHERE WHAT IT READS IS OF BULK AT MOST 1048576: true; the input reads as it did. -/
def fnExactFormedUptoRow : OpenClaim := { program := "ythmhekbmhpljcaa", sum := "00a5235ff4b02d7f5379870940c946c4f6f5dbae8cb7cb9435501e9d8cbfc605", func := "loop.example/g00498/laws.FnExactFormed", spec := "fnExactFormed", recurses := true, apart := false, narrowed := true }
def FnExactFormedUptoSaid : Prop := fnExactFormedUptoRow.holds Try.pinned (OpenSpec.upto fnExactFormedSpec)

/-- 'laws.FnExactGoodFrames', WHERE WHAT IT READS IS OF BULK AT MOST 1048576: true; the input reads as it did. -/
def fnExactGoodFramesUptoRow : OpenClaim := { program := "ythmhekbmhpljcaa", sum := "00a5235ff4b02d7f5379870940c946c4f6f5dbae8cb7cb9435501e9d8cbfc605", func := "loop.example/g00498/laws.FnExactGoodFrames", spec := "fnExactGoodFrames", recurses := true, apart := false, narrowed := true }
def FnExactGoodFramesUptoSaid : Prop := fnExactGoodFramesUptoRow.holds Try.pinned (OpenSpec.upto fnExactGoodFramesSpec)

end Rows
end Go.Proofs.Ythmhekbmhpljcaa

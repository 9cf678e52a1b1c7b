/-
  No cell of these rows narrows 'for every input' (looked for: loops, veiled, ifaces, maps, wideKeys, modest, calm, conditions, laid).
  DERIVED. THE GIVEN ROWS OF THIS SEAT. 8 by the template 'for every input the law returns true; each argument reads behind the call as it read before'; 0 by the template 'total and deterministic' (their statements: YtekndgfiedmhoaaTotals.lean).
  GIVEN WITH THE SEED: the statements are not yours to turn. If you find one false, say at which input.
  Laid BY PROGRAM, IN A SANDBOX (cutbox-rows.mjs): the forced cells as the released guide's own fill.sh prints them over the translation 90adaa8696c9ff81… (all of the seat's roots in one cut). By AI agents, Wed Nov 11 2026. No macro, syntax, notation, axiom, sorry.
-/
import Derived.Test.YtekndgfiedmhoaaChecked
import GoSem.Claim
import GoSem.ClaimJoined
import GoSem.ClaimMapViews
import Derived.JoinedTies
import Derived.KernelRfl
namespace Go.Proofs.Ytekndgfiedmhoaa
/- THE CELL 'sum', in the pinned program and in every row, IS THE sha256 OF THE DUMP (.gsa) THAT YtekndgfiedmhoaaProg.lean LOADS. Nothing in Lean hashes anything: it is a label: what it is worth is what the hold of that sum in a sandbox is worth. -/
noncomputable def Try.pinned : Pinned := { name := "ytekndgfiedmhoaa", sum := "90adaa8696c9ff819e33430f77728c44749d076851cce14fa508a2b20c62c17c", checked := Try.checked }
namespace Rows
def none {H : Type} : Left H := { results := [], args := [] }

/-- 'laws.FnExactFormWord': WHATEVER THE INPUT: true; the input reads as it did. -/
def fnExactFormWordSpec : ChangeSpec := { name := "fnExactFormWord", fn := fun _ => fun
  | [d] => { results := [.lit (.bool true)], args := [d] }
  | _ => none }
def fnExactFormWordRow : OpenClaim := { program := "ytekndgfiedmhoaa", sum := "90adaa8696c9ff819e33430f77728c44749d076851cce14fa508a2b20c62c17c", func := "loop.example/g00498/laws.FnExactFormWord", spec := "fnExactFormWord", apart := false }
def FnExactFormWordSaid : Prop := fnExactFormWordRow.holds Try.pinned (OpenSpec.ofChange fnExactFormWordSpec)

/-- ITS FALSE NEIGHBOUR: 'it returns false'. Refute it at one input. -/
def fnExactFormWordWrong : ChangeSpec := { name := "fnExactFormWord", fn := fun _ => fun
  | [d] => { results := [.lit (.bool false)], args := [d] }
  | _ => none }
def FnExactFormWordWrongFalsely : Prop := fnExactFormWordRow.holds Try.pinned (OpenSpec.ofChange fnExactFormWordWrong)

/-- 'laws.FnExactFrameStop': WHATEVER THE INPUT: true; the input reads as it did. -/
def fnExactFrameStopSpec : ChangeSpec := { name := "fnExactFrameStop", fn := fun _ => fun
  | [d1, d2] => { results := [.lit (.bool true)], args := [d1, d2] }
  | _ => none }
def fnExactFrameStopRow : OpenClaim := { program := "ytekndgfiedmhoaa", sum := "90adaa8696c9ff819e33430f77728c44749d076851cce14fa508a2b20c62c17c", func := "loop.example/g00498/laws.FnExactFrameStop", spec := "fnExactFrameStop", apart := false }
def FnExactFrameStopSaid : Prop := fnExactFrameStopRow.holds Try.pinned (OpenSpec.ofChange fnExactFrameStopSpec)

/-- ITS FALSE NEIGHBOUR: 'it returns false'. Refute it at one input. -/
def fnExactFrameStopWrong : ChangeSpec := { name := "fnExactFrameStop", fn := fun _ => fun
  | [d1, d2] => { results := [.lit (.bool false)], args := [d1, d2] }
  | _ => none }
def FnExactFrameStopWrongFalsely : Prop := fnExactFrameStopRow.holds Try.pinned (OpenSpec.ofChange fnExactFrameStopWrong)

/-- 'laws.FnExactLeftOf': WHATEVER THE INPUT: true; the input reads as it did. -/
def fnExactLeftOfSpec : ChangeSpec := { name := "fnExactLeftOf", fn := fun _ => fun
  | [d] => { results := [.lit (.bool true)], args := [d] }
  | _ => none }
def fnExactLeftOfRow : OpenClaim := { program := "ytekndgfiedmhoaa", sum := "90adaa8696c9ff819e33430f77728c44749d076851cce14fa508a2b20c62c17c", func := "loop.example/g00498/laws.FnExactLeftOf", spec := "fnExactLeftOf", apart := false }
def FnExactLeftOfSaid : Prop := fnExactLeftOfRow.holds Try.pinned (OpenSpec.ofChange fnExactLeftOfSpec)

/-- ITS FALSE NEIGHBOUR: 'it returns false'. Refute it at one input. -/
def fnExactLeftOfWrong : ChangeSpec := { name := "fnExactLeftOf", fn := fun _ => fun
  | [d] => { results := [.lit (.bool false)], args := [d] }
  | _ => none }
def FnExactLeftOfWrongFalsely : Prop := fnExactLeftOfRow.holds Try.pinned (OpenSpec.ofChange fnExactLeftOfWrong)

/-- 'laws.FnExactReaderNew': WHATEVER THE INPUT: true; the input reads as it did. -/
def fnExactReaderNewSpec : ChangeSpec := { name := "fnExactReaderNew", fn := fun _ => fun
  | [d1, d2] => { results := [.lit (.bool true)], args := [d1, d2] }
  | _ => none }
def fnExactReaderNewRow : OpenClaim := { program := "ytekndgfiedmhoaa", sum := "90adaa8696c9ff819e33430f77728c44749d076851cce14fa508a2b20c62c17c", func := "loop.example/g00498/laws.FnExactReaderNew", spec := "fnExactReaderNew", apart := false }
def FnExactReaderNewSaid : Prop := fnExactReaderNewRow.holds Try.pinned (OpenSpec.ofChange fnExactReaderNewSpec)

/-- ITS FALSE NEIGHBOUR: 'it returns false'. Refute it at one input. -/
def fnExactReaderNewWrong : ChangeSpec := { name := "fnExactReaderNew", fn := fun _ => fun
  | [d1, d2] => { results := [.lit (.bool false)], args := [d1, d2] }
  | _ => none }
def FnExactReaderNewWrongFalsely : Prop := fnExactReaderNewRow.holds Try.pinned (OpenSpec.ofChange fnExactReaderNewWrong)

/-- 'laws.FnReadAgain': WHATEVER THE INPUT: true; the input reads as it did. -/
def fnReadAgainSpec : ChangeSpec := { name := "fnReadAgain", fn := fun _ => fun
  | [d] => { results := [.lit (.bool true)], args := [d] }
  | _ => none }
def fnReadAgainRow : OpenClaim := { program := "ytekndgfiedmhoaa", sum := "90adaa8696c9ff819e33430f77728c44749d076851cce14fa508a2b20c62c17c", func := "loop.example/g00498/laws.FnReadAgain", spec := "fnReadAgain", apart := false }
def FnReadAgainSaid : Prop := fnReadAgainRow.holds Try.pinned (OpenSpec.ofChange fnReadAgainSpec)

/-- ITS FALSE NEIGHBOUR: 'it returns false'. Refute it at one input. -/
def fnReadAgainWrong : ChangeSpec := { name := "fnReadAgain", fn := fun _ => fun
  | [d] => { results := [.lit (.bool false)], args := [d] }
  | _ => none }
def FnReadAgainWrongFalsely : Prop := fnReadAgainRow.holds Try.pinned (OpenSpec.ofChange fnReadAgainWrong)

/-- 'laws.FnExactReadSome': WHATEVER THE INPUT: true; the input reads as it did. -/
def fnExactReadSomeSpec : ChangeSpec := { name := "fnExactReadSome", fn := fun _ => fun
  | [d1, d2] => { results := [.lit (.bool true)], args := [d1, d2] }
  | _ => none }
def fnExactReadSomeRow : OpenClaim := { program := "ytekndgfiedmhoaa", sum := "90adaa8696c9ff819e33430f77728c44749d076851cce14fa508a2b20c62c17c", func := "loop.example/g00498/laws.FnExactReadSome", spec := "fnExactReadSome", apart := false }
def FnExactReadSomeSaid : Prop := fnExactReadSomeRow.holds Try.pinned (OpenSpec.ofChange fnExactReadSomeSpec)

/-- ITS FALSE NEIGHBOUR: 'it returns false'. Refute it at one input. -/
def fnExactReadSomeWrong : ChangeSpec := { name := "fnExactReadSome", fn := fun _ => fun
  | [d1, d2] => { results := [.lit (.bool false)], args := [d1, d2] }
  | _ => none }
def FnExactReadSomeWrongFalsely : Prop := fnExactReadSomeRow.holds Try.pinned (OpenSpec.ofChange fnExactReadSomeWrong)

/-- 'laws.FnReader': WHATEVER THE INPUT: true; the input reads as it did. -/
def fnReaderSpec : ChangeSpec := { name := "fnReader", fn := fun _ => fun
  | [d] => { results := [.lit (.bool true)], args := [d] }
  | _ => none }
def fnReaderRow : OpenClaim := { program := "ytekndgfiedmhoaa", sum := "90adaa8696c9ff819e33430f77728c44749d076851cce14fa508a2b20c62c17c", func := "loop.example/g00498/laws.FnReader", spec := "fnReader", apart := false }
def FnReaderSaid : Prop := fnReaderRow.holds Try.pinned (OpenSpec.ofChange fnReaderSpec)

/-- ITS FALSE NEIGHBOUR: 'it returns false'. Refute it at one input. -/
def fnReaderWrong : ChangeSpec := { name := "fnReader", fn := fun _ => fun
  | [d] => { results := [.lit (.bool false)], args := [d] }
  | _ => none }
def FnReaderWrongFalsely : Prop := fnReaderRow.holds Try.pinned (OpenSpec.ofChange fnReaderWrong)

/-- 'laws.FnExactReadAll': WHATEVER THE INPUT: true; the input reads as it did. -/
def fnExactReadAllSpec : ChangeSpec := { name := "fnExactReadAll", fn := fun _ => fun
  | [d1, d2] => { results := [.lit (.bool true)], args := [d1, d2] }
  | _ => none }
def fnExactReadAllRow : OpenClaim := { program := "ytekndgfiedmhoaa", sum := "90adaa8696c9ff819e33430f77728c44749d076851cce14fa508a2b20c62c17c", func := "loop.example/g00498/laws.FnExactReadAll", spec := "fnExactReadAll", apart := false }
def FnExactReadAllSaid : Prop := fnExactReadAllRow.holds Try.pinned (OpenSpec.ofChange fnExactReadAllSpec)

/-- ITS FALSE NEIGHBOUR: 'it returns false'. Refute it at one input. -/
def fnExactReadAllWrong : ChangeSpec := { name := "fnExactReadAll", fn := fun _ => fun
  | [d1, d2] => { results := [.lit (.bool false)], args := [d1, d2] }
  | _ => none }
def FnExactReadAllWrongFalsely : Prop := fnExactReadAllRow.holds Try.pinned (OpenSpec.ofChange fnExactReadAllWrong)

/- THE SECOND FORM. 'bulk': how many values and letters a reading holds, each counted each time it is reached (what is shared counts as often as it is met; a slice's spare places count too). A statement '..UptoSaid' is the law's where the arguments, and the package variables that the reading takes, are together of bulk at most 1048576: NARROWER than '..Said'. Prove '..Said' where nothing that the law and all that it calls make is longer than what came in: it says more and counts as full. Else prove '..UptoSaid'. A law counts once. -/
mutual
def uptoBulk {H : Type} : DataW H → Nat
  | .lit (.string bytes) => bytes.length + 1
  | .lit _ => 1
  | .nil => 1
  | .ptr d => uptoBulk d + 1
  | .slice elems spare => uptoBulkAll elems + uptoBulkAll spare + 1
  | .agg parts => uptoBulkAll parts + 1
  | .iface _ d => uptoBulk d + 1
  | .map entries => uptoBulkEntries entries + 1
  | .held _ => 1
def uptoBulkAll {H : Type} : List (DataW H) → Nat
  | [] => 0
  | d :: r => uptoBulk d + uptoBulkAll r
def uptoBulkEntries {H : Type} : List (Lit × DataW H) → Nat
  | [] => 0
  | x :: r => uptoBulkEntry x + uptoBulkEntries r
def uptoBulkEntry {H : Type} : Lit × DataW H → Nat
  | (.string bytes, d) => bytes.length + uptoBulk d + 1
  | (_, d) => uptoBulk d + 1
 end
def uptoSmall : (H : Type) → List (DataW H) → Bool := fun _ ds => decide (uptoBulkAll ds ≤ 1048576)
def OpenSpec.upto (s : _root_.Go.ChangeSpec) : _root_.Go.OpenSpec := { _root_.Go.OpenSpec.ofChange s with cond := some uptoSmall }

/-- 'laws.FnExactFormWord', WHERE WHAT IT READS IS OF BULK AT MOST 1048576: true; the input reads as it did. -/
def fnExactFormWordUptoRow : OpenClaim := { program := "ytekndgfiedmhoaa", sum := "90adaa8696c9ff819e33430f77728c44749d076851cce14fa508a2b20c62c17c", func := "loop.example/g00498/laws.FnExactFormWord", spec := "fnExactFormWord", apart := false, narrowed := true }
def FnExactFormWordUptoSaid : Prop := fnExactFormWordUptoRow.holds Try.pinned (OpenSpec.upto fnExactFormWordSpec)

/-- 'laws.FnExactFrameStop', WHERE WHAT IT READS IS OF BULK AT MOST 1048576: true; the input reads as it did. -/
def fnExactFrameStopUptoRow : OpenClaim := { program := "ytekndgfiedmhoaa", sum := "90adaa8696c9ff819e33430f77728c44749d076851cce14fa508a2b20c62c17c", func := "loop.example/g00498/laws.FnExactFrameStop", spec := "fnExactFrameStop", apart := false, narrowed := true }
def FnExactFrameStopUptoSaid : Prop := fnExactFrameStopUptoRow.holds Try.pinned (OpenSpec.upto fnExactFrameStopSpec)

/-- 'laws.FnExactLeftOf', WHERE WHAT IT READS IS OF BULK AT MOST 1048576: true; the input reads as it did. -/
def fnExactLeftOfUptoRow : OpenClaim := { program := "ytekndgfiedmhoaa", sum := "90adaa8696c9ff819e33430f77728c44749d076851cce14fa508a2b20c62c17c", func := "loop.example/g00498/laws.FnExactLeftOf", spec := "fnExactLeftOf", apart := false, narrowed := true }
def FnExactLeftOfUptoSaid : Prop := fnExactLeftOfUptoRow.holds Try.pinned (OpenSpec.upto fnExactLeftOfSpec)

/-- 'laws.FnExactReaderNew', WHERE WHAT IT READS IS OF BULK AT MOST 1048576: true; the input reads as it did. -/
def fnExactReaderNewUptoRow : OpenClaim := { program := "ytekndgfiedmhoaa", sum := "90adaa8696c9ff819e33430f77728c44749d076851cce14fa508a2b20c62c17c", func := "loop.example/g00498/laws.FnExactReaderNew", spec := "fnExactReaderNew", apart := false, narrowed := true }
def FnExactReaderNewUptoSaid : Prop := fnExactReaderNewUptoRow.holds Try.pinned (OpenSpec.upto fnExactReaderNewSpec)

/-- 'laws.FnReadAgain', WHERE WHAT IT READS IS OF BULK AT MOST 1048576: true; the input reads as it did. -/
def fnReadAgainUptoRow : OpenClaim := { program := "ytekndgfiedmhoaa", sum := "90adaa8696c9ff819e33430f77728c44749d076851cce14fa508a2b20c62c17c", func := "loop.example/g00498/laws.FnReadAgain", spec := "fnReadAgain", apart := false, narrowed := true }
def FnReadAgainUptoSaid : Prop := fnReadAgainUptoRow.holds Try.pinned (OpenSpec.upto fnReadAgainSpec)

/-- 'laws.FnExactReadSome', WHERE WHAT IT READS IS OF BULK AT MOST 1048576: true; the input reads as it did. -/
def fnExactReadSomeUptoRow : OpenClaim := { program := "ytekndgfiedmhoaa", sum := "90adaa8696c9ff819e33430f77728c44749d076851cce14fa508a2b20c62c17c", func := "loop.example/g00498/laws.FnExactReadSome", spec := "fnExactReadSome", apart := false, narrowed := true }
def FnExactReadSomeUptoSaid : Prop := fnExactReadSomeUptoRow.holds Try.pinned (OpenSpec.upto fnExactReadSomeSpec)

/-- 'laws.FnReader', WHERE WHAT IT READS IS OF BULK AT MOST 1048576: true; the input reads as it did. -/
def fnReaderUptoRow : OpenClaim := { program := "ytekndgfiedmhoaa", sum := "90adaa8696c9ff819e33430f77728c44749d076851cce14fa508a2b20c62c17c", func := "loop.example/g00498/laws.FnReader", spec := "fnReader", apart := false, narrowed := true }
def FnReaderUptoSaid : Prop := fnReaderUptoRow.holds Try.pinned (OpenSpec.upto fnReaderSpec)

/-- 'laws.FnExactReadAll', WHERE WHAT IT READS IS OF BULK AT MOST 1048576: true; the input reads as it did. -/
def fnExactReadAllUptoRow : OpenClaim := { program := "ytekndgfiedmhoaa", sum := "90adaa8696c9ff819e33430f77728c44749d076851cce14fa508a2b20c62c17c", func := "loop.example/g00498/laws.FnExactReadAll", spec := "fnExactReadAll", apart := false, narrowed := true }
def FnExactReadAllUptoSaid : Prop := fnExactReadAllUptoRow.holds Try.pinned (OpenSpec.upto fnExactReadAllSpec)

end Rows
end Go.Proofs.Ytekndgfiedmhoaa

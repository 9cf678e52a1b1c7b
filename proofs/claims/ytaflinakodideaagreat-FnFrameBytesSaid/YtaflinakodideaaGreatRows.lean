/-
  No cell of these rows narrows 'for every input' (looked for: loops, veiled, ifaces, maps, wideKeys, modest, calm, conditions, laid).
  DERIVED. THE GIVEN ROWS OF THIS SEAT. 5 by the template 'for every input the law returns true; each argument reads behind the call as it read before'; 0 by the template 'total and deterministic' (their statements: YtaflinakodideaaGreatTotals.lean).
  GIVEN WITH THE SEED: the statements are not yours to turn. If you find one false, say at which input.
  Laid BY PROGRAM, IN A SANDBOX (cutbox-rows.mjs): the forced cells as the released guide's own fill.sh prints them over the translation 5fa08e94625a3db4… (all of the seat's roots in one cut). By AI agents, Wed Nov 11 2026. No macro, syntax, notation, axiom, sorry.
-/
import Derived.Test.YtaflinakodideaaGreatChecked
import GoSem.Claim
import GoSem.ClaimJoined
import GoSem.ClaimMapViews
import Derived.JoinedTies
import Derived.KernelRfl
namespace Go.Proofs.YtaflinakodideaaGreat
/- THE CELL 'sum', in the pinned program and in every row, IS THE sha256 OF THE DUMP (.gsa) THAT YtaflinakodideaaGreatProg.lean LOADS. Nothing in Lean hashes anything: it is a label: what it is worth is what the hold of that sum in a sandbox is worth. -/
noncomputable def Tryz.pinned : Pinned := { name := "ytaflinakodideaagreat", sum := "5fa08e94625a3db448a310e9cb5bffbd1d0e6de8cd2cafbd0fcc39046e0bc700", checked := Tryz.checked }
namespace Rows
def none {H : Type} : Left H := { results := [], args := [] }

/-- 'laws.FnFrameBytes': WHATEVER THE INPUT: true; the input reads as it did. -/
def fnFrameBytesSpec : ChangeSpec := { name := "fnFrameBytes", fn := fun _ => fun
  | [d] => { results := [.lit (.bool true)], args := [d] }
  | _ => none }
def fnFrameBytesRow : OpenClaim := { program := "ytaflinakodideaagreat", sum := "5fa08e94625a3db448a310e9cb5bffbd1d0e6de8cd2cafbd0fcc39046e0bc700", func := "loop.example/g00498/laws.FnFrameBytes", spec := "fnFrameBytes", inPlace := ["internal/abi.NoEscape", "internal/bytealg.MakeNoZero"], recurses := true, apart := false }
def FnFrameBytesSaid : Prop := fnFrameBytesRow.holds Tryz.pinned (OpenSpec.ofChange fnFrameBytesSpec)

/-- ITS FALSE NEIGHBOUR: 'it returns false'. Refute it at one input. -/
def fnFrameBytesWrong : ChangeSpec := { name := "fnFrameBytes", fn := fun _ => fun
  | [d] => { results := [.lit (.bool false)], args := [d] }
  | _ => none }
def FnFrameBytesWrongFalsely : Prop := fnFrameBytesRow.holds Tryz.pinned (OpenSpec.ofChange fnFrameBytesWrong)

/-- 'laws.FnMsgDeep': WHATEVER THE INPUT: true; the input reads as it did. -/
def fnMsgDeepSpec : ChangeSpec := { name := "fnMsgDeep", fn := fun _ => fun
  | [d] => { results := [.lit (.bool true)], args := [d] }
  | _ => none }
def fnMsgDeepRow : OpenClaim := { program := "ytaflinakodideaagreat", sum := "5fa08e94625a3db448a310e9cb5bffbd1d0e6de8cd2cafbd0fcc39046e0bc700", func := "loop.example/g00498/laws.FnMsgDeep", spec := "fnMsgDeep", recurses := true, apart := false }
def FnMsgDeepSaid : Prop := fnMsgDeepRow.holds Tryz.pinned (OpenSpec.ofChange fnMsgDeepSpec)

/-- ITS FALSE NEIGHBOUR: 'it returns false'. Refute it at one input. -/
def fnMsgDeepWrong : ChangeSpec := { name := "fnMsgDeep", fn := fun _ => fun
  | [d] => { results := [.lit (.bool false)], args := [d] }
  | _ => none }
def FnMsgDeepWrongFalsely : Prop := fnMsgDeepRow.holds Tryz.pinned (OpenSpec.ofChange fnMsgDeepWrong)

/-- 'laws.FnDeeper': WHATEVER THE INPUT: true; the input reads as it did. -/
def fnDeeperSpec : ChangeSpec := { name := "fnDeeper", fn := fun _ => fun
  | [d] => { results := [.lit (.bool true)], args := [d] }
  | _ => none }
def fnDeeperRow : OpenClaim := { program := "ytaflinakodideaagreat", sum := "5fa08e94625a3db448a310e9cb5bffbd1d0e6de8cd2cafbd0fcc39046e0bc700", func := "loop.example/g00498/laws.FnDeeper", spec := "fnDeeper", recurses := true, apart := false }
def FnDeeperSaid : Prop := fnDeeperRow.holds Tryz.pinned (OpenSpec.ofChange fnDeeperSpec)

/-- ITS FALSE NEIGHBOUR: 'it returns false'. Refute it at one input. -/
def fnDeeperWrong : ChangeSpec := { name := "fnDeeper", fn := fun _ => fun
  | [d] => { results := [.lit (.bool false)], args := [d] }
  | _ => none }
def FnDeeperWrongFalsely : Prop := fnDeeperRow.holds Tryz.pinned (OpenSpec.ofChange fnDeeperWrong)

/-- 'laws.FnMsgTwice': WHATEVER THE INPUT: true; the input reads as it did. -/
def fnMsgTwiceSpec : ChangeSpec := { name := "fnMsgTwice", fn := fun _ => fun
  | [d] => { results := [.lit (.bool true)], args := [d] }
  | _ => none }
def fnMsgTwiceRow : OpenClaim := { program := "ytaflinakodideaagreat", sum := "5fa08e94625a3db448a310e9cb5bffbd1d0e6de8cd2cafbd0fcc39046e0bc700", func := "loop.example/g00498/laws.FnMsgTwice", spec := "fnMsgTwice", recurses := true, apart := false }
def FnMsgTwiceSaid : Prop := fnMsgTwiceRow.holds Tryz.pinned (OpenSpec.ofChange fnMsgTwiceSpec)

/-- ITS FALSE NEIGHBOUR: 'it returns false'. Refute it at one input. -/
def fnMsgTwiceWrong : ChangeSpec := { name := "fnMsgTwice", fn := fun _ => fun
  | [d] => { results := [.lit (.bool false)], args := [d] }
  | _ => none }
def FnMsgTwiceWrongFalsely : Prop := fnMsgTwiceRow.holds Tryz.pinned (OpenSpec.ofChange fnMsgTwiceWrong)

/-- 'laws.FnFrameOf': WHATEVER THE INPUT: true; the input reads as it did. -/
def fnFrameOfSpec : ChangeSpec := { name := "fnFrameOf", fn := fun _ => fun
  | [d] => { results := [.lit (.bool true)], args := [d] }
  | _ => none }
def fnFrameOfRow : OpenClaim := { program := "ytaflinakodideaagreat", sum := "5fa08e94625a3db448a310e9cb5bffbd1d0e6de8cd2cafbd0fcc39046e0bc700", func := "loop.example/g00498/laws.FnFrameOf", spec := "fnFrameOf", recurses := true, apart := false }
def FnFrameOfSaid : Prop := fnFrameOfRow.holds Tryz.pinned (OpenSpec.ofChange fnFrameOfSpec)

/-- ITS FALSE NEIGHBOUR: 'it returns false'. Refute it at one input. -/
def fnFrameOfWrong : ChangeSpec := { name := "fnFrameOf", fn := fun _ => fun
  | [d] => { results := [.lit (.bool false)], args := [d] }
  | _ => none }
def FnFrameOfWrongFalsely : Prop := fnFrameOfRow.holds Tryz.pinned (OpenSpec.ofChange fnFrameOfWrong)

/- THE SECOND FORM. 'bulk': how many values and letters a reading holds, each counted each time it is reached (what is shared counts as often as it is met; a slice's spare places count too). A statement '..UptoSaid' is the law's where the arguments, and the package variables that the reading takes, are together of bulk at most 1048576: NARROWER than '..Said'. Prove '..Said' where nothing that the law and all that it calls make is longer than what came in: it says more and counts as full. Else prove '..UptoSaid'. A law counts once. -/
mutual
def uptoBulk {H : Type} : DataW H → Nat
  | .lit (.string bytes) => bytes.length + 1
  | .lit _ => 1
  | .nil => 1
  | .ptr d => uptoBulk d + 1
  | .slice elems spare => uptoBulkAll elems + uptoBulkAll spare + 1
  | .agg parts => uptoBulkAll parts + 1
  | .iface _ d => uptoBulk d + 1
  | .map entries => uptoBulkEntries entries + 1
  | .held _ => 1
def uptoBulkAll {H : Type} : List (DataW H) → Nat
  | [] => 0
  | d :: r => uptoBulk d + uptoBulkAll r
def uptoBulkEntries {H : Type} : List (Lit × DataW H) → Nat
  | [] => 0
  | x :: r => uptoBulkEntry x + uptoBulkEntries r
def uptoBulkEntry {H : Type} : Lit × DataW H → Nat
  | (.string bytes, d) => bytes.length + uptoBulk d + 1
  | (_, d) => uptoBulk d + 1
 end
def uptoSmall : (H : Type) → List (DataW H) → Bool := fun _ ds => decide (uptoBulkAll ds ≤ 1048576)
def OpenSpec.upto (s : _root_.Go.ChangeSpec) : _root_.Go.OpenSpec := { _root_.Go.OpenSpec.ofChange s with cond := some uptoSmall }

/-- 'laws.FnFrameBytes', WHERE WHAT IT READS IS OF BULK AT MOST 1048576: true; the input reads as it did. -/
def fnFrameBytesUptoRow : OpenClaim := { program := "ytaflinakodideaagreat", sum := "5fa08e94625a3db448a310e9cb5bffbd1d0e6de8cd2cafbd0fcc39046e0bc700", func := "loop.example/g00498/laws.FnFrameBytes", spec := "fnFrameBytes", inPlace := ["internal/abi.NoEscape", "internal/bytealg.MakeNoZero"], recurses := true, apart := false, narrowed := true }
def FnFrameBytesUptoSaid : Prop := fnFrameBytesUptoRow.holds Tryz.pinned (OpenSpec.upto fnFrameBytesSpec)

/-- 'laws.FnMsgDeep', WHERE WHAT IT READS IS OF BULK AT MOST 1048576: true; the input reads as it did. -/
def fnMsgDeepUptoRow : OpenClaim := { program := "ytaflinakodideaagreat", sum := "5fa08e94625a3db448a310e9cb5bffbd1d0e6de8cd2cafbd0fcc39046e0bc700", func := "loop.example/g00498/laws.FnMsgDeep", spec := "fnMsgDeep", recurses := true, apart := false, narrowed := true }
def FnMsgDeepUptoSaid : Prop := fnMsgDeepUptoRow.holds Tryz.pinned (OpenSpec.upto fnMsgDeepSpec)

/-- 'laws.FnDeeper', WHERE WHAT IT READS IS OF BULK AT MOST 1048576: true; the input reads as it did. -/
def fnDeeperUptoRow : OpenClaim := { program := "ytaflinakodideaagreat", sum := "5fa08e94625a3db448a310e9cb5bffbd1d0e6de8cd2cafbd0fcc39046e0bc700", func := "loop.example/g00498/laws.FnDeeper", spec := "fnDeeper", recurses := true, apart := false, narrowed := true }
def FnDeeperUptoSaid : Prop := fnDeeperUptoRow.holds Tryz.pinned (OpenSpec.upto fnDeeperSpec)

/-- 'laws.FnMsgTwice', WHERE WHAT IT READS IS OF BULK AT MOST 1048576: true; the input reads as it did. -/
def fnMsgTwiceUptoRow : OpenClaim := { program := "ytaflinakodideaagreat", sum := "5fa08e94625a3db448a310e9cb5bffbd1d0e6de8cd2cafbd0fcc39046e0bc700", func := "loop.example/g00498/laws.FnMsgTwice", spec := "fnMsgTwice", recurses := true, apart := false, narrowed := true }
def FnMsgTwiceUptoSaid : Prop := fnMsgTwiceUptoRow.holds Tryz.pinned (OpenSpec.upto fnMsgTwiceSpec)

/-- 'laws.FnFrameOf', WHERE WHAT IT READS IS OF BULK AT MOST 1048576: true; the input reads as it did. -/
def fnFrameOfUptoRow : OpenClaim := { program := "ytaflinakodideaagreat", sum := "5fa08e94625a3db448a310e9cb5bffbd1d0e6de8cd2cafbd0fcc39046e0bc700", func := "loop.example/g00498/laws.FnFrameOf", spec := "fnFrameOf", recurses := true, apart := false, narrowed := true }
def FnFrameOfUptoSaid : Prop := fnFrameOfUptoRow.holds Tryz.pinned (OpenSpec.upto fnFrameOfSpec)

end Rows
end Go.Proofs.YtaflinakodideaaGreat

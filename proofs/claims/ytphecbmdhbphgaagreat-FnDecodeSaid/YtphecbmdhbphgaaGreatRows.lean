/-
  No cell of these rows narrows 'for every input' (looked for: loops, veiled, ifaces, maps, wideKeys, modest, calm, conditions, laid).
  DERIVED. THE GIVEN ROWS OF THIS SEAT. 5 by the template 'for every input the law returns true; each argument reads behind the call as it read before'; 0 by the template 'total and deterministic' (their statements: YtphecbmdhbphgaaGreatTotals.lean).
  GIVEN WITH THE SEED: the statements are not yours to turn. If you find one false, say at which input.
  Laid BY PROGRAM, IN A SANDBOX (cutbox-rows.mjs): the forced cells as the released guide's own fill.sh prints them over the translation e12beccc89b6b78d… (all of the seat's roots in one cut). By AI agents, Wed Nov 11 2026. No macro, syntax, notation, axiom, sorry.
-/
import Derived.Test.YtphecbmdhbphgaaGreatChecked
import GoSem.Claim
import GoSem.ClaimJoined
import GoSem.ClaimMapViews
import Derived.JoinedTies
import Derived.KernelRfl
namespace Go.Proofs.YtphecbmdhbphgaaGreat
/- THE CELL 'sum', in the pinned program and in every row, IS THE sha256 OF THE DUMP (.gsa) THAT YtphecbmdhbphgaaGreatProg.lean LOADS. Nothing in Lean hashes anything: it is a label: what it is worth is what the hold of that sum in a sandbox is worth. -/
noncomputable def Tryz.pinned : Pinned := { name := "ytphecbmdhbphgaagreat", sum := "e12beccc89b6b78d7707ef961dd1de718c21a6f13c085588d079176a063b8fb6", checked := Tryz.checked }
namespace Rows
def none {H : Type} : Left H := { results := [], args := [] }

/-- 'laws.FnDecode': WHATEVER THE INPUT: true; the input reads as it did. -/
def fnDecodeSpec : ChangeSpec := { name := "fnDecode", fn := fun _ => fun
  | [d] => { results := [.lit (.bool true)], args := [d] }
  | _ => none }
def fnDecodeRow : OpenClaim := { program := "ytphecbmdhbphgaagreat", sum := "e12beccc89b6b78d7707ef961dd1de718c21a6f13c085588d079176a063b8fb6", func := "loop.example/g00498/laws.FnDecode", spec := "fnDecode", unfollowed := true, recurses := true, apart := false }
def FnDecodeSaid : Prop := fnDecodeRow.holds Tryz.pinned (OpenSpec.ofChange fnDecodeSpec)

/-- ITS FALSE NEIGHBOUR: 'it returns false'. Refute it at one input. -/
def fnDecodeWrong : ChangeSpec := { name := "fnDecode", fn := fun _ => fun
  | [d] => { results := [.lit (.bool false)], args := [d] }
  | _ => none }
def FnDecodeWrongFalsely : Prop := fnDecodeRow.holds Tryz.pinned (OpenSpec.ofChange fnDecodeWrong)

/-- 'laws.FnBroken': WHATEVER THE INPUT: true; the input reads as it did. -/
def fnBrokenSpec : ChangeSpec := { name := "fnBroken", fn := fun _ => fun
  | [d] => { results := [.lit (.bool true)], args := [d] }
  | _ => none }
def fnBrokenRow : OpenClaim := { program := "ytphecbmdhbphgaagreat", sum := "e12beccc89b6b78d7707ef961dd1de718c21a6f13c085588d079176a063b8fb6", func := "loop.example/g00498/laws.FnBroken", spec := "fnBroken", unfollowed := true, recurses := true, apart := false }
def FnBrokenSaid : Prop := fnBrokenRow.holds Tryz.pinned (OpenSpec.ofChange fnBrokenSpec)

/-- ITS FALSE NEIGHBOUR: 'it returns false'. Refute it at one input. -/
def fnBrokenWrong : ChangeSpec := { name := "fnBroken", fn := fun _ => fun
  | [d] => { results := [.lit (.bool false)], args := [d] }
  | _ => none }
def FnBrokenWrongFalsely : Prop := fnBrokenRow.holds Tryz.pinned (OpenSpec.ofChange fnBrokenWrong)

/-- 'laws.FnPure': WHATEVER THE INPUT: true; the input reads as it did. -/
def fnPureSpec : ChangeSpec := { name := "fnPure", fn := fun _ => fun
  | [d] => { results := [.lit (.bool true)], args := [d] }
  | _ => none }
def fnPureRow : OpenClaim := { program := "ytphecbmdhbphgaagreat", sum := "e12beccc89b6b78d7707ef961dd1de718c21a6f13c085588d079176a063b8fb6", func := "loop.example/g00498/laws.FnPure", spec := "fnPure", unfollowed := true, recurses := true, apart := false }
def FnPureSaid : Prop := fnPureRow.holds Tryz.pinned (OpenSpec.ofChange fnPureSpec)

/-- ITS FALSE NEIGHBOUR: 'it returns false'. Refute it at one input. -/
def fnPureWrong : ChangeSpec := { name := "fnPure", fn := fun _ => fun
  | [d] => { results := [.lit (.bool false)], args := [d] }
  | _ => none }
def FnPureWrongFalsely : Prop := fnPureRow.holds Tryz.pinned (OpenSpec.ofChange fnPureWrong)

/-- 'laws.FnPullAgain': WHATEVER THE INPUT: true; the input reads as it did. -/
def fnPullAgainSpec : ChangeSpec := { name := "fnPullAgain", fn := fun _ => fun
  | [d] => { results := [.lit (.bool true)], args := [d] }
  | _ => none }
def fnPullAgainRow : OpenClaim := { program := "ytphecbmdhbphgaagreat", sum := "e12beccc89b6b78d7707ef961dd1de718c21a6f13c085588d079176a063b8fb6", func := "loop.example/g00498/laws.FnPullAgain", spec := "fnPullAgain", unfollowed := true, recurses := true, apart := false }
def FnPullAgainSaid : Prop := fnPullAgainRow.holds Tryz.pinned (OpenSpec.ofChange fnPullAgainSpec)

/-- ITS FALSE NEIGHBOUR: 'it returns false'. Refute it at one input. -/
def fnPullAgainWrong : ChangeSpec := { name := "fnPullAgain", fn := fun _ => fun
  | [d] => { results := [.lit (.bool false)], args := [d] }
  | _ => none }
def FnPullAgainWrongFalsely : Prop := fnPullAgainRow.holds Tryz.pinned (OpenSpec.ofChange fnPullAgainWrong)

/-- 'laws.FnPullOne': WHATEVER THE INPUT: true; the input reads as it did. -/
def fnPullOneSpec : ChangeSpec := { name := "fnPullOne", fn := fun _ => fun
  | [d] => { results := [.lit (.bool true)], args := [d] }
  | _ => none }
def fnPullOneRow : OpenClaim := { program := "ytphecbmdhbphgaagreat", sum := "e12beccc89b6b78d7707ef961dd1de718c21a6f13c085588d079176a063b8fb6", func := "loop.example/g00498/laws.FnPullOne", spec := "fnPullOne", unfollowed := true, recurses := true, apart := false }
def FnPullOneSaid : Prop := fnPullOneRow.holds Tryz.pinned (OpenSpec.ofChange fnPullOneSpec)

/-- ITS FALSE NEIGHBOUR: 'it returns false'. Refute it at one input. -/
def fnPullOneWrong : ChangeSpec := { name := "fnPullOne", fn := fun _ => fun
  | [d] => { results := [.lit (.bool false)], args := [d] }
  | _ => none }
def FnPullOneWrongFalsely : Prop := fnPullOneRow.holds Tryz.pinned (OpenSpec.ofChange fnPullOneWrong)

/- THE SECOND FORM. 'bulk': how many values and letters a reading holds, each counted each time it is reached (what is shared counts as often as it is met; a slice's spare places count too). A statement '..UptoSaid' is the law's where the arguments, and the package variables that the reading takes, are together of bulk at most 1048576: NARROWER than '..Said'. Prove '..Said' where nothing that the law and all that it calls make is longer than what came in: it says more and counts as full. Else prove '..UptoSaid'. A law counts once. -/
mutual
def uptoBulk {H : Type} : DataW H → Nat
  | .lit (.string bytes) => bytes.length + 1
  | .lit _ => 1
  | .nil => 1
  | .ptr d => uptoBulk d + 1
  | .slice elems spare => uptoBulkAll elems + uptoBulkAll spare + 1
  | .agg parts => uptoBulkAll parts + 1
  | .iface _ d => uptoBulk d + 1
  | .map entries => uptoBulkEntries entries + 1
  | .held _ => 1
def uptoBulkAll {H : Type} : List (DataW H) → Nat
  | [] => 0
  | d :: r => uptoBulk d + uptoBulkAll r
def uptoBulkEntries {H : Type} : List (Lit × DataW H) → Nat
  | [] => 0
  | x :: r => uptoBulkEntry x + uptoBulkEntries r
def uptoBulkEntry {H : Type} : Lit × DataW H → Nat
  | (.string bytes, d) => bytes.length + uptoBulk d + 1
  | (_, d) => uptoBulk d + 1
 end
def uptoSmall : (H : Type) → List (DataW H) → Bool := fun _ ds => decide (uptoBulkAll ds ≤ 1048576)
def OpenSpec.upto (s : _root_.Go.ChangeSpec) : _root_.Go.OpenSpec := { _root_.Go.OpenSpec.ofChange s with cond := some uptoSmall }

/-- 'laws.FnDecode', WHERE WHAT IT READS IS OF BULK AT MOST 1048576: true; the input reads as it did. -/
def fnDecodeUptoRow : OpenClaim := { program := "ytphecbmdhbphgaagreat", sum := "e12beccc89b6b78d7707ef961dd1de718c21a6f13c085588d079176a063b8fb6", func := "loop.example/g00498/laws.FnDecode", spec := "fnDecode", unfollowed := true, recurses := true, apart := false, narrowed := true }
def FnDecodeUptoSaid : Prop := fnDecodeUptoRow.holds Tryz.pinned (OpenSpec.upto fnDecodeSpec)

/-- 'laws.FnBroken', WHERE WHAT IT READS IS OF BULK AT MOST 1048576: true; the input reads as it did. -/
def fnBrokenUptoRow : OpenClaim := { program := "ytphecbmdhbphgaagreat", sum := "e12beccc89b6b78d7707ef961dd1de718c21a6f13c085588d079176a063b8fb6", func := "loop.example/g00498/laws.FnBroken", spec := "fnBroken", unfollowed := true, recurses := true, apart := false, narrowed := true }
def FnBrokenUptoSaid : Prop := fnBrokenUptoRow.holds Tryz.pinned (OpenSpec.upto fnBrokenSpec)

/-- 'laws.FnPure', WHERE WHAT IT READS IS OF BULK AT MOST 1048576: true; the input reads as it did. -/
def fnPureUptoRow : OpenClaim := { program := "ytphecbmdhbphgaagreat", sum := "e12beccc89b6b78d7707ef961dd1de718c21a6f13c085588d079176a063b8fb6", func := "loop.example/g00498/laws.FnPure", spec := "fnPure", unfollowed := true, recurses := true, apart := false, narrowed := true }
def FnPureUptoSaid : Prop := fnPureUptoRow.holds Tryz.pinned (OpenSpec.upto fnPureSpec)

/-- 'laws.FnPullAgain', WHERE WHAT IT READS IS OF BULK AT MOST 1048576: true; the input reads as it did. -/
def fnPullAgainUptoRow : OpenClaim := { program := "ytphecbmdhbphgaagreat", sum := "e12beccc89b6b78d7707ef961dd1de718c21a6f13c085588d079176a063b8fb6", func := "loop.example/g00498/laws.FnPullAgain", spec := "fnPullAgain", unfollowed := true, recurses := true, apart := false, narrowed := true }
def FnPullAgainUptoSaid : Prop := fnPullAgainUptoRow.holds Tryz.pinned (OpenSpec.upto fnPullAgainSpec)

/-- 'laws.FnPullOne', WHERE WHAT IT READS IS OF BULK AT MOST 1048576: true; the input reads as it did. -/
def fnPullOneUptoRow : OpenClaim := { program := "ytphecbmdhbphgaagreat", sum := "e12beccc89b6b78d7707ef961dd1de718c21a6f13c085588d079176a063b8fb6", func := "loop.example/g00498/laws.FnPullOne", spec := "fnPullOne", unfollowed := true, recurses := true, apart := false, narrowed := true }
def FnPullOneUptoSaid : Prop := fnPullOneUptoRow.holds Tryz.pinned (OpenSpec.upto fnPullOneSpec)

end Rows
end Go.Proofs.YtphecbmdhbphgaaGreat

/-
  No cell of these rows narrows 'for every input' (looked for: loops, veiled, ifaces, maps, wideKeys, modest, calm, conditions, laid).
  DERIVED. THE GIVEN ROWS OF THIS SEAT. 7 by the template 'for every input the law returns true; each argument reads behind the call as it read before'; 0 by the template 'total and deterministic' (their statements: YtecljjcmjongfaaGreatTotals.lean).
  GIVEN WITH THE SEED: the statements are not yours to turn. If you find one false, say at which input.
  Laid BY PROGRAM, IN A SANDBOX (cutbox-rows.mjs): the forced cells as the released guide's own fill.sh prints them over the translation d48135c2fe831ca3… (all of the seat's roots in one cut). By AI agents, Wed Nov 11 2026. No macro, syntax, notation, axiom, sorry.
-/
import Derived.Test.YtecljjcmjongfaaGreatChecked
import GoSem.Claim
import GoSem.ClaimJoined
import GoSem.ClaimMapViews
import Derived.JoinedTies
import Derived.KernelRfl
namespace Go.Proofs.YtecljjcmjongfaaGreat
/- THE CELL 'sum', in the pinned program and in every row, IS THE sha256 OF THE DUMP (.gsa) THAT YtecljjcmjongfaaGreatProg.lean LOADS. Nothing in Lean hashes anything: it is a label: what it is worth is what the hold of that sum in a sandbox is worth. -/
noncomputable def Tryz.pinned : Pinned := { name := "ytecljjcmjongfaagreat", sum := "d48135c2fe831ca349dcdaf3b8034607d22e92366763643a94bc8637daba38bb", checked := Tryz.checked }
namespace Rows
def none {H : Type} : Left H := { results := [], args := [] }

/-- 'laws.FnExactNormal': WHATEVER THE INPUT: true; the input reads as it did. -/
def fnExactNormalSpec : ChangeSpec := { name := "fnExactNormal", fn := fun _ => fun
  | [d1, d2] => { results := [.lit (.bool true)], args := [d1, d2] }
  | _ => none }
def fnExactNormalRow : OpenClaim := { program := "ytecljjcmjongfaagreat", sum := "d48135c2fe831ca349dcdaf3b8034607d22e92366763643a94bc8637daba38bb", func := "loop.example/g00498/laws.FnExactNormal", spec := "fnExactNormal", recurses := true, apart := false }
def FnExactNormalSaid : Prop := fnExactNormalRow.holds Tryz.pinned (OpenSpec.ofChange fnExactNormalSpec)

/-- ITS FALSE NEIGHBOUR: 'it returns false'. Refute it at one input. -/
def fnExactNormalWrong : ChangeSpec := { name := "fnExactNormal", fn := fun _ => fun
  | [d1, d2] => { results := [.lit (.bool false)], args := [d1, d2] }
  | _ => none }
def FnExactNormalWrongFalsely : Prop := fnExactNormalRow.holds Tryz.pinned (OpenSpec.ofChange fnExactNormalWrong)

/-- 'laws.FnExactModesOf': WHATEVER THE INPUT: true; the input reads as it did. -/
def fnExactModesOfSpec : ChangeSpec := { name := "fnExactModesOf", fn := fun _ => fun
  | [d1, d2] => { results := [.lit (.bool true)], args := [d1, d2] }
  | _ => none }
def fnExactModesOfRow : OpenClaim := { program := "ytecljjcmjongfaagreat", sum := "d48135c2fe831ca349dcdaf3b8034607d22e92366763643a94bc8637daba38bb", func := "loop.example/g00498/laws.FnExactModesOf", spec := "fnExactModesOf", unfollowed := true, recurses := true, apart := false }
def FnExactModesOfSaid : Prop := fnExactModesOfRow.holds Tryz.pinned (OpenSpec.ofChange fnExactModesOfSpec)

/-- ITS FALSE NEIGHBOUR: 'it returns false'. Refute it at one input. -/
def fnExactModesOfWrong : ChangeSpec := { name := "fnExactModesOf", fn := fun _ => fun
  | [d1, d2] => { results := [.lit (.bool false)], args := [d1, d2] }
  | _ => none }
def FnExactModesOfWrongFalsely : Prop := fnExactModesOfRow.holds Tryz.pinned (OpenSpec.ofChange fnExactModesOfWrong)

/-- 'laws.FnExactDecode': WHATEVER THE INPUT: true; the input reads as it did. -/
def fnExactDecodeSpec : ChangeSpec := { name := "fnExactDecode", fn := fun _ => fun
  | [d1, d2] => { results := [.lit (.bool true)], args := [d1, d2] }
  | _ => none }
def fnExactDecodeRow : OpenClaim := { program := "ytecljjcmjongfaagreat", sum := "d48135c2fe831ca349dcdaf3b8034607d22e92366763643a94bc8637daba38bb", func := "loop.example/g00498/laws.FnExactDecode", spec := "fnExactDecode", unfollowed := true, recurses := true, apart := false }
def FnExactDecodeSaid : Prop := fnExactDecodeRow.holds Tryz.pinned (OpenSpec.ofChange fnExactDecodeSpec)

/-- ITS FALSE NEIGHBOUR: 'it returns false'. Refute it at one input. -/
def fnExactDecodeWrong : ChangeSpec := { name := "fnExactDecode", fn := fun _ => fun
  | [d1, d2] => { results := [.lit (.bool false)], args := [d1, d2] }
  | _ => none }
def FnExactDecodeWrongFalsely : Prop := fnExactDecodeRow.holds Tryz.pinned (OpenSpec.ofChange fnExactDecodeWrong)

/-- 'laws.FnExactDecodeIn': WHATEVER THE INPUT: true; the input reads as it did. -/
def fnExactDecodeInSpec : ChangeSpec := { name := "fnExactDecodeIn", fn := fun _ => fun
  | [d1, d2] => { results := [.lit (.bool true)], args := [d1, d2] }
  | _ => none }
def fnExactDecodeInRow : OpenClaim := { program := "ytecljjcmjongfaagreat", sum := "d48135c2fe831ca349dcdaf3b8034607d22e92366763643a94bc8637daba38bb", func := "loop.example/g00498/laws.FnExactDecodeIn", spec := "fnExactDecodeIn", unfollowed := true, recurses := true, apart := false }
def FnExactDecodeInSaid : Prop := fnExactDecodeInRow.holds Tryz.pinned (OpenSpec.ofChange fnExactDecodeInSpec)

/-- ITS FALSE NEIGHBOUR: 'it returns false'. Refute it at one input. -/
def fnExactDecodeInWrong : ChangeSpec := { name := "fnExactDecodeIn", fn := fun _ => fun
  | [d1, d2] => { results := [.lit (.bool false)], args := [d1, d2] }
  | _ => none }
def FnExactDecodeInWrongFalsely : Prop := fnExactDecodeInRow.holds Tryz.pinned (OpenSpec.ofChange fnExactDecodeInWrong)

/-- 'laws.FnExactStepByte': WHATEVER THE INPUT: true; the input reads as it did. -/
def fnExactStepByteSpec : ChangeSpec := { name := "fnExactStepByte", fn := fun _ => fun
  | [d1, d2] => { results := [.lit (.bool true)], args := [d1, d2] }
  | _ => none }
def fnExactStepByteRow : OpenClaim := { program := "ytecljjcmjongfaagreat", sum := "d48135c2fe831ca349dcdaf3b8034607d22e92366763643a94bc8637daba38bb", func := "loop.example/g00498/laws.FnExactStepByte", spec := "fnExactStepByte", unfollowed := true, recurses := true, apart := false }
def FnExactStepByteSaid : Prop := fnExactStepByteRow.holds Tryz.pinned (OpenSpec.ofChange fnExactStepByteSpec)

/-- ITS FALSE NEIGHBOUR: 'it returns false'. Refute it at one input. -/
def fnExactStepByteWrong : ChangeSpec := { name := "fnExactStepByte", fn := fun _ => fun
  | [d1, d2] => { results := [.lit (.bool false)], args := [d1, d2] }
  | _ => none }
def FnExactStepByteWrongFalsely : Prop := fnExactStepByteRow.holds Tryz.pinned (OpenSpec.ofChange fnExactStepByteWrong)

/-- 'laws.FnExactStepAll': WHATEVER THE INPUT: true; the input reads as it did. -/
def fnExactStepAllSpec : ChangeSpec := { name := "fnExactStepAll", fn := fun _ => fun
  | [d1, d2] => { results := [.lit (.bool true)], args := [d1, d2] }
  | _ => none }
def fnExactStepAllRow : OpenClaim := { program := "ytecljjcmjongfaagreat", sum := "d48135c2fe831ca349dcdaf3b8034607d22e92366763643a94bc8637daba38bb", func := "loop.example/g00498/laws.FnExactStepAll", spec := "fnExactStepAll", unfollowed := true, recurses := true, apart := false }
def FnExactStepAllSaid : Prop := fnExactStepAllRow.holds Tryz.pinned (OpenSpec.ofChange fnExactStepAllSpec)

/-- ITS FALSE NEIGHBOUR: 'it returns false'. Refute it at one input. -/
def fnExactStepAllWrong : ChangeSpec := { name := "fnExactStepAll", fn := fun _ => fun
  | [d1, d2] => { results := [.lit (.bool false)], args := [d1, d2] }
  | _ => none }
def FnExactStepAllWrongFalsely : Prop := fnExactStepAllRow.holds Tryz.pinned (OpenSpec.ofChange fnExactStepAllWrong)

/-- 'laws.FnExactFeed': WHATEVER THE INPUT: true; the input reads as it did. -/
def fnExactFeedSpec : ChangeSpec := { name := "fnExactFeed", fn := fun _ => fun
  | [d1, d2] => { results := [.lit (.bool true)], args := [d1, d2] }
  | _ => none }
def fnExactFeedRow : OpenClaim := { program := "ytecljjcmjongfaagreat", sum := "d48135c2fe831ca349dcdaf3b8034607d22e92366763643a94bc8637daba38bb", func := "loop.example/g00498/laws.FnExactFeed", spec := "fnExactFeed", unfollowed := true, recurses := true, apart := false }
def FnExactFeedSaid : Prop := fnExactFeedRow.holds Tryz.pinned (OpenSpec.ofChange fnExactFeedSpec)

/-- ITS FALSE NEIGHBOUR: 'it returns false'. Refute it at one input. -/
def fnExactFeedWrong : ChangeSpec := { name := "fnExactFeed", fn := fun _ => fun
  | [d1, d2] => { results := [.lit (.bool false)], args := [d1, d2] }
  | _ => none }
def FnExactFeedWrongFalsely : Prop := fnExactFeedRow.holds Tryz.pinned (OpenSpec.ofChange fnExactFeedWrong)

/- THE SECOND FORM. 'bulk': how many values and letters a reading holds, each counted each time it is reached (what is shared counts as often as it is met; a slice's spare places count too). A statement '..UptoSaid' is the law's where the arguments, and the package variables that the reading takes, are together of bulk at most 1048576: NARROWER than '..Said'. Prove '..Said' where nothing that the law and all that it calls make is longer than what came in: it says more and counts as full. Else prove '..UptoSaid'. A law counts once. -/
mutual
def uptoBulk {H : Type} : DataW H → Nat
  | .lit (.string bytes) => bytes.length + 1
  | .lit _ => 1
  | .nil => 1
  | .ptr d => uptoBulk d + 1
  | .slice elems spare => uptoBulkAll elems + uptoBulkAll spare + 1
  | .agg parts => uptoBulkAll parts + 1
  | .iface _ d => uptoBulk d + 1
  | .map entries => uptoBulkEntries entries + 1
  | .held _ => 1
def uptoBulkAll {H : Type} : List (DataW H) → Nat
  | [] => 0
  | d :: r => uptoBulk d + uptoBulkAll r
def uptoBulkEntries {H : Type} : List (Lit × DataW H) → Nat
  | [] => 0
  | x :: r => uptoBulkEntry x + uptoBulkEntries r
def uptoBulkEntry {H : Type} : Lit × DataW H → Nat
  | (.string bytes, d) => bytes.length + uptoBulk d + 1
  | (_, d) => uptoBulk d + 1
 end
def uptoSmall : (H : Type) → List (DataW H) → Bool := fun _ ds => decide (uptoBulkAll ds ≤ 1048576)
def OpenSpec.upto (s : _root_.Go.ChangeSpec) : _root_.Go.OpenSpec := { _root_.Go.OpenSpec.ofChange s with cond := some uptoSmall }

/-- 'laws.FnExactNormal', WHERE WHAT IT READS IS OF BULK AT MOST 1048576: true; the input reads as it did. -/
def fnExactNormalUptoRow : OpenClaim := { program := "ytecljjcmjongfaagreat", sum := "d48135c2fe831ca349dcdaf3b8034607d22e92366763643a94bc8637daba38bb", func := "loop.example/g00498/laws.FnExactNormal", spec := "fnExactNormal", recurses := true, apart := false, narrowed := true }
def FnExactNormalUptoSaid : Prop := fnExactNormalUptoRow.holds Tryz.pinned (OpenSpec.upto fnExactNormalSpec)

/-- 'laws.FnExactModesOf', WHERE WHAT IT READS IS OF BULK AT MOST 1048576: true; the input reads as it did. -/
def fnExactModesOfUptoRow : OpenClaim := { program := "ytecljjcmjongfaagreat", sum := "d48135c2fe831ca349dcdaf3b8034607d22e92366763643a94bc8637daba38bb", func := "loop.example/g00498/laws.FnExactModesOf", spec := "fnExactModesOf", unfollowed := true, recurses := true, apart := false, narrowed := true }
def FnExactModesOfUptoSaid : Prop := fnExactModesOfUptoRow.holds Tryz.pinned (OpenSpec.upto fnExactModesOfSpec)

/-- 'laws.FnExactDecode', WHERE WHAT IT READS IS OF BULK AT MOST 1048576: true; the input reads as it did. -/
def fnExactDecodeUptoRow : OpenClaim := { program := "ytecljjcmjongfaagreat", sum := "d48135c2fe831ca349dcdaf3b8034607d22e92366763643a94bc8637daba38bb", func := "loop.example/g00498/laws.FnExactDecode", spec := "fnExactDecode", unfollowed := true, recurses := true, apart := false, narrowed := true }
def FnExactDecodeUptoSaid : Prop := fnExactDecodeUptoRow.holds Tryz.pinned (OpenSpec.upto fnExactDecodeSpec)

/-- 'laws.FnExactDecodeIn', WHERE WHAT IT READS IS OF BULK AT MOST 1048576: true; the input reads as it did. -/
def fnExactDecodeInUptoRow : OpenClaim := { program := "ytecljjcmjongfaagreat", sum := "d48135c2fe831ca349dcdaf3b8034607d22e92366763643a94bc8637daba38bb", func := "loop.example/g00498/laws.FnExactDecodeIn", spec := "fnExactDecodeIn", unfollowed := true, recurses := true, apart := false, narrowed := true }
def FnExactDecodeInUptoSaid : Prop := fnExactDecodeInUptoRow.holds Tryz.pinned (OpenSpec.upto fnExactDecodeInSpec)

/-- 'laws.FnExactStepByte', WHERE WHAT IT READS IS OF BULK AT MOST 1048576: true; the input reads as it did. -/
def fnExactStepByteUptoRow : OpenClaim := { program := "ytecljjcmjongfaagreat", sum := "d48135c2fe831ca349dcdaf3b8034607d22e92366763643a94bc8637daba38bb", func := "loop.example/g00498/laws.FnExactStepByte", spec := "fnExactStepByte", unfollowed := true, recurses := true, apart := false, narrowed := true }
def FnExactStepByteUptoSaid : Prop := fnExactStepByteUptoRow.holds Tryz.pinned (OpenSpec.upto fnExactStepByteSpec)

/-- 'laws.FnExactStepAll', WHERE WHAT IT READS IS OF BULK AT MOST 1048576: true; the input reads as it did. -/
def fnExactStepAllUptoRow : OpenClaim := { program := "ytecljjcmjongfaagreat", sum := "d48135c2fe831ca349dcdaf3b8034607d22e92366763643a94bc8637daba38bb", func := "loop.example/g00498/laws.FnExactStepAll", spec := "fnExactStepAll", unfollowed := true, recurses := true, apart := false, narrowed := true }
def FnExactStepAllUptoSaid : Prop := fnExactStepAllUptoRow.holds Tryz.pinned (OpenSpec.upto fnExactStepAllSpec)

/-- 'laws.FnExactFeed', WHERE WHAT IT READS IS OF BULK AT MOST 1048576: true; the input reads as it did. -/
def fnExactFeedUptoRow : OpenClaim := { program := "ytecljjcmjongfaagreat", sum := "d48135c2fe831ca349dcdaf3b8034607d22e92366763643a94bc8637daba38bb", func := "loop.example/g00498/laws.FnExactFeed", spec := "fnExactFeed", unfollowed := true, recurses := true, apart := false, narrowed := true }
def FnExactFeedUptoSaid : Prop := fnExactFeedUptoRow.holds Tryz.pinned (OpenSpec.upto fnExactFeedSpec)

end Rows
end Go.Proofs.YtecljjcmjongfaaGreat

/-
  No cell of these rows narrows 'for every input' (looked for: loops, veiled, ifaces, maps, wideKeys, modest, calm, conditions, laid).
  DERIVED. THE GIVEN ROWS OF THIS SEAT. 7 by the template 'for every input the law returns true; each argument reads behind the call as it read before'; 0 by the template 'total and deterministic' (their statements: YtpchkcpcdbdhdaaGreatTotals.lean).
  GIVEN WITH THE SEED: the statements are not yours to turn. If you find one false, say at which input.
  Laid BY PROGRAM, IN A SANDBOX (cutbox-rows.mjs): the forced cells as the released guide's own fill.sh prints them over the translation 455481b820c1e8e3… (all of the seat's roots in one cut). By AI agents, Wed Nov 11 2026. No macro, syntax, notation, axiom, sorry.
-/
import Derived.Test.YtpchkcpcdbdhdaaGreatChecked
import GoSem.Claim
import GoSem.ClaimJoined
import GoSem.ClaimMapViews
import Derived.JoinedTies
import Derived.KernelRfl
namespace Go.Proofs.YtpchkcpcdbdhdaaGreat
/- THE CELL 'sum', in the pinned program and in every row, IS THE sha256 OF THE DUMP (.gsa) THAT YtpchkcpcdbdhdaaGreatProg.lean LOADS. Nothing in Lean hashes anything: it is a label: what it is worth is what the hold of that sum in a sandbox is worth. -/
noncomputable def Tryz.pinned : Pinned := { name := "ytpchkcpcdbdhdaagreat", sum := "455481b820c1e8e3960476ccc2976ed7106f349f9184a24f3793abfad1730fd2", checked := Tryz.checked }
namespace Rows
def none {H : Type} : Left H := { results := [], args := [] }

/-- 'laws.FnExactDeepest': WHATEVER THE INPUT: true; the input reads as it did. -/
def fnExactDeepestSpec : ChangeSpec := { name := "fnExactDeepest", fn := fun _ => fun
  | [d1, d2] => { results := [.lit (.bool true)], args := [d1, d2] }
  | _ => none }
def fnExactDeepestRow : OpenClaim := { program := "ytpchkcpcdbdhdaagreat", sum := "455481b820c1e8e3960476ccc2976ed7106f349f9184a24f3793abfad1730fd2", func := "loop.example/g00498/laws.FnExactDeepest", spec := "fnExactDeepest", unfollowed := true, recurses := true, apart := false }
def FnExactDeepestSaid : Prop := fnExactDeepestRow.holds Tryz.pinned (OpenSpec.ofChange fnExactDeepestSpec)

/-- ITS FALSE NEIGHBOUR: 'it returns false'. Refute it at one input. -/
def fnExactDeepestWrong : ChangeSpec := { name := "fnExactDeepest", fn := fun _ => fun
  | [d1, d2] => { results := [.lit (.bool false)], args := [d1, d2] }
  | _ => none }
def FnExactDeepestWrongFalsely : Prop := fnExactDeepestRow.holds Tryz.pinned (OpenSpec.ofChange fnExactDeepestWrong)

/-- 'laws.FnExactMostRetained': WHATEVER THE INPUT: true; the input reads as it did. -/
def fnExactMostRetainedSpec : ChangeSpec := { name := "fnExactMostRetained", fn := fun _ => fun
  | [d1, d2] => { results := [.lit (.bool true)], args := [d1, d2] }
  | _ => none }
def fnExactMostRetainedRow : OpenClaim := { program := "ytpchkcpcdbdhdaagreat", sum := "455481b820c1e8e3960476ccc2976ed7106f349f9184a24f3793abfad1730fd2", func := "loop.example/g00498/laws.FnExactMostRetained", spec := "fnExactMostRetained", unfollowed := true, recurses := true, apart := false }
def FnExactMostRetainedSaid : Prop := fnExactMostRetainedRow.holds Tryz.pinned (OpenSpec.ofChange fnExactMostRetainedSpec)

/-- ITS FALSE NEIGHBOUR: 'it returns false'. Refute it at one input. -/
def fnExactMostRetainedWrong : ChangeSpec := { name := "fnExactMostRetained", fn := fun _ => fun
  | [d1, d2] => { results := [.lit (.bool false)], args := [d1, d2] }
  | _ => none }
def FnExactMostRetainedWrongFalsely : Prop := fnExactMostRetainedRow.holds Tryz.pinned (OpenSpec.ofChange fnExactMostRetainedWrong)

/-- 'laws.FnExactFeedAll': WHATEVER THE INPUT: true; the input reads as it did. -/
def fnExactFeedAllSpec : ChangeSpec := { name := "fnExactFeedAll", fn := fun _ => fun
  | [d1, d2] => { results := [.lit (.bool true)], args := [d1, d2] }
  | _ => none }
def fnExactFeedAllRow : OpenClaim := { program := "ytpchkcpcdbdhdaagreat", sum := "455481b820c1e8e3960476ccc2976ed7106f349f9184a24f3793abfad1730fd2", func := "loop.example/g00498/laws.FnExactFeedAll", spec := "fnExactFeedAll", unfollowed := true, recurses := true, apart := false }
def FnExactFeedAllSaid : Prop := fnExactFeedAllRow.holds Tryz.pinned (OpenSpec.ofChange fnExactFeedAllSpec)

/-- ITS FALSE NEIGHBOUR: 'it returns false'. Refute it at one input. -/
def fnExactFeedAllWrong : ChangeSpec := { name := "fnExactFeedAll", fn := fun _ => fun
  | [d1, d2] => { results := [.lit (.bool false)], args := [d1, d2] }
  | _ => none }
def FnExactFeedAllWrongFalsely : Prop := fnExactFeedAllRow.holds Tryz.pinned (OpenSpec.ofChange fnExactFeedAllWrong)

/-- 'laws.FnExactPlay': WHATEVER THE INPUT: true; the input reads as it did. -/
def fnExactPlaySpec : ChangeSpec := { name := "fnExactPlay", fn := fun _ => fun
  | [d1, d2, d3] => { results := [.lit (.bool true)], args := [d1, d2, d3] }
  | _ => none }
def fnExactPlayRow : OpenClaim := { program := "ytpchkcpcdbdhdaagreat", sum := "455481b820c1e8e3960476ccc2976ed7106f349f9184a24f3793abfad1730fd2", func := "loop.example/g00498/laws.FnExactPlay", spec := "fnExactPlay", unfollowed := true, recurses := true, apart := false }
def FnExactPlaySaid : Prop := fnExactPlayRow.holds Tryz.pinned (OpenSpec.ofChange fnExactPlaySpec)

/-- ITS FALSE NEIGHBOUR: 'it returns false'. Refute it at one input. -/
def fnExactPlayWrong : ChangeSpec := { name := "fnExactPlay", fn := fun _ => fun
  | [d1, d2, d3] => { results := [.lit (.bool false)], args := [d1, d2, d3] }
  | _ => none }
def FnExactPlayWrongFalsely : Prop := fnExactPlayRow.holds Tryz.pinned (OpenSpec.ofChange fnExactPlayWrong)

/-- 'laws.FnExactPullAll': WHATEVER THE INPUT: true; the input reads as it did. -/
def fnExactPullAllSpec : ChangeSpec := { name := "fnExactPullAll", fn := fun _ => fun
  | [d] => { results := [.lit (.bool true)], args := [d] }
  | _ => none }
def fnExactPullAllRow : OpenClaim := { program := "ytpchkcpcdbdhdaagreat", sum := "455481b820c1e8e3960476ccc2976ed7106f349f9184a24f3793abfad1730fd2", func := "loop.example/g00498/laws.FnExactPullAll", spec := "fnExactPullAll", unfollowed := true, recurses := true, apart := false }
def FnExactPullAllSaid : Prop := fnExactPullAllRow.holds Tryz.pinned (OpenSpec.ofChange fnExactPullAllSpec)

/-- ITS FALSE NEIGHBOUR: 'it returns false'. Refute it at one input. -/
def fnExactPullAllWrong : ChangeSpec := { name := "fnExactPullAll", fn := fun _ => fun
  | [d] => { results := [.lit (.bool false)], args := [d] }
  | _ => none }
def FnExactPullAllWrongFalsely : Prop := fnExactPullAllRow.holds Tryz.pinned (OpenSpec.ofChange fnExactPullAllWrong)

/-- 'laws.FnExactPull': WHATEVER THE INPUT: true; the input reads as it did. -/
def fnExactPullSpec : ChangeSpec := { name := "fnExactPull", fn := fun _ => fun
  | [d] => { results := [.lit (.bool true)], args := [d] }
  | _ => none }
def fnExactPullRow : OpenClaim := { program := "ytpchkcpcdbdhdaagreat", sum := "455481b820c1e8e3960476ccc2976ed7106f349f9184a24f3793abfad1730fd2", func := "loop.example/g00498/laws.FnExactPull", spec := "fnExactPull", unfollowed := true, recurses := true, apart := false }
def FnExactPullSaid : Prop := fnExactPullRow.holds Tryz.pinned (OpenSpec.ofChange fnExactPullSpec)

/-- ITS FALSE NEIGHBOUR: 'it returns false'. Refute it at one input. -/
def fnExactPullWrong : ChangeSpec := { name := "fnExactPull", fn := fun _ => fun
  | [d] => { results := [.lit (.bool false)], args := [d] }
  | _ => none }
def FnExactPullWrongFalsely : Prop := fnExactPullRow.holds Tryz.pinned (OpenSpec.ofChange fnExactPullWrong)

/-- 'laws.FnExactReadsFor': WHATEVER THE INPUT: true; the input reads as it did. -/
def fnExactReadsForSpec : ChangeSpec := { name := "fnExactReadsFor", fn := fun _ => fun
  | [d1, d2, d3] => { results := [.lit (.bool true)], args := [d1, d2, d3] }
  | _ => none }
def fnExactReadsForRow : OpenClaim := { program := "ytpchkcpcdbdhdaagreat", sum := "455481b820c1e8e3960476ccc2976ed7106f349f9184a24f3793abfad1730fd2", func := "loop.example/g00498/laws.FnExactReadsFor", spec := "fnExactReadsFor", unfollowed := true, recurses := true, apart := false }
def FnExactReadsForSaid : Prop := fnExactReadsForRow.holds Tryz.pinned (OpenSpec.ofChange fnExactReadsForSpec)

/-- ITS FALSE NEIGHBOUR: 'it returns false'. Refute it at one input. -/
def fnExactReadsForWrong : ChangeSpec := { name := "fnExactReadsFor", fn := fun _ => fun
  | [d1, d2, d3] => { results := [.lit (.bool false)], args := [d1, d2, d3] }
  | _ => none }
def FnExactReadsForWrongFalsely : Prop := fnExactReadsForRow.holds Tryz.pinned (OpenSpec.ofChange fnExactReadsForWrong)

/- THE SECOND FORM. 'bulk': how many values and letters a reading holds, each counted each time it is reached (what is shared counts as often as it is met; a slice's spare places count too). A statement '..UptoSaid' is the law's where the arguments, and the package variables that the reading takes, are together of bulk at most 1048576: NARROWER than '..Said'. Prove '..Said' where nothing that the law and all that it calls make is longer than what came in: it says more and counts as full. Else prove '..UptoSaid'. A law counts once. -/
mutual
def uptoBulk {H : Type} : DataW H → Nat
  | .lit (.string bytes) => bytes.length + 1
  | .lit _ => 1
  | .nil => 1
  | .ptr d => uptoBulk d + 1
  | .slice elems spare => uptoBulkAll elems + uptoBulkAll spare + 1
  | .agg parts => uptoBulkAll parts + 1
  | .iface _ d => uptoBulk d + 1
  | .map entries => uptoBulkEntries entries + 1
  | .held _ => 1
def uptoBulkAll {H : Type} : List (DataW H) → Nat
  | [] => 0
  | d :: r => uptoBulk d + uptoBulkAll r
def uptoBulkEntries {H : Type} : List (Lit × DataW H) → Nat
  | [] => 0
  | x :: r => uptoBulkEntry x + uptoBulkEntries r
def uptoBulkEntry {H : Type} : Lit × DataW H → Nat
  | (.string bytes, d) => bytes.length + uptoBulk d + 1
  | (_, d) => uptoBulk d + 1
 end
def uptoSmall : (H : Type) → List (DataW H) → Bool := fun _ ds => decide (uptoBulkAll ds ≤ 1048576)
def OpenSpec.upto (s : _root_.Go.ChangeSpec) : _root_.Go.OpenSpec := { _root_.Go.OpenSpec.ofChange s with cond := some uptoSmall }

/-- 'laws.FnExactDeepest', WHERE WHAT IT READS IS OF BULK AT MOST 1048576: true; the input reads as it did. -/
def fnExactDeepestUptoRow : OpenClaim := { program := "ytpchkcpcdbdhdaagreat", sum := "455481b820c1e8e3960476ccc2976ed7106f349f9184a24f3793abfad1730fd2", func := "loop.example/g00498/laws.FnExactDeepest", spec := "fnExactDeepest", unfollowed := true, recurses := true, apart := false, narrowed := true }
def FnExactDeepestUptoSaid : Prop := fnExactDeepestUptoRow.holds Tryz.pinned (OpenSpec.upto fnExactDeepestSpec)

/-- 'laws.FnExactMostRetained', WHERE WHAT IT READS IS OF BULK AT MOST 1048576: true; the input reads as it did. -/
def fnExactMostRetainedUptoRow : OpenClaim := { program := "ytpchkcpcdbdhdaagreat", sum := "455481b820c1e8e3960476ccc2976ed7106f349f9184a24f3793abfad1730fd2", func := "loop.example/g00498/laws.FnExactMostRetained", spec := "fnExactMostRetained", unfollowed := true, recurses := true, apart := false, narrowed := true }
def FnExactMostRetainedUptoSaid : Prop := fnExactMostRetainedUptoRow.holds Tryz.pinned (OpenSpec.upto fnExactMostRetainedSpec)

/-- 'laws.FnExactFeedAll', WHERE WHAT IT READS IS OF BULK AT MOST 1048576: true; the input reads as it did. -/
def fnExactFeedAllUptoRow : OpenClaim := { program := "ytpchkcpcdbdhdaagreat", sum := "455481b820c1e8e3960476ccc2976ed7106f349f9184a24f3793abfad1730fd2", func := "loop.example/g00498/laws.FnExactFeedAll", spec := "fnExactFeedAll", unfollowed := true, recurses := true, apart := false, narrowed := true }
def FnExactFeedAllUptoSaid : Prop := fnExactFeedAllUptoRow.holds Tryz.pinned (OpenSpec.upto fnExactFeedAllSpec)

/-- 'laws.FnExactPlay', WHERE WHAT IT READS IS OF BULK AT MOST 1048576: true; the input reads as it did. -/
def fnExactPlayUptoRow : OpenClaim := { program := "ytpchkcpcdbdhdaagreat", sum := "455481b820c1e8e3960476ccc2976ed7106f349f9184a24f3793abfad1730fd2", func := "loop.example/g00498/laws.FnExactPlay", spec := "fnExactPlay", unfollowed := true, recurses := true, apart := false, narrowed := true }
def FnExactPlayUptoSaid : Prop := fnExactPlayUptoRow.holds Tryz.pinned (OpenSpec.upto fnExactPlaySpec)

/-- 'laws.FnExactPullAll', WHERE WHAT IT READS IS OF BULK AT MOST 1048576: true; the input reads as it did. -/
def fnExactPullAllUptoRow : OpenClaim := { program := "ytpchkcpcdbdhdaagreat", sum := "455481b820c1e8e3960476ccc2976ed7106f349f9184a24f3793abfad1730fd2", func := "loop.example/g00498/laws.FnExactPullAll", spec := "fnExactPullAll", unfollowed := true, recurses := true, apart := false, narrowed := true }
def FnExactPullAllUptoSaid : Prop := fnExactPullAllUptoRow.holds Tryz.pinned (OpenSpec.upto fnExactPullAllSpec)

/-- 'laws.FnExactPull', WHERE WHAT IT READS IS OF BULK AT MOST 1048576: true; the input reads as it did. -/
def fnExactPullUptoRow : OpenClaim := { program := "ytpchkcpcdbdhdaagreat", sum := "455481b820c1e8e3960476ccc2976ed7106f349f9184a24f3793abfad1730fd2", func := "loop.example/g00498/laws.FnExactPull", spec := "fnExactPull", unfollowed := true, recurses := true, apart := false, narrowed := true }
def FnExactPullUptoSaid : Prop := fnExactPullUptoRow.holds Tryz.pinned (OpenSpec.upto fnExactPullSpec)

/-- 'laws.FnExactReadsFor', WHERE WHAT IT READS IS OF BULK AT MOST 1048576: true; the input reads as it did. -/
def fnExactReadsForUptoRow : OpenClaim := { program := "ytpchkcpcdbdhdaagreat", sum := "455481b820c1e8e3960476ccc2976ed7106f349f9184a24f3793abfad1730fd2", func := "loop.example/g00498/laws.FnExactReadsFor", spec := "fnExactReadsFor", unfollowed := true, recurses := true, apart := false, narrowed := true }
def FnExactReadsForUptoSaid : Prop := fnExactReadsForUptoRow.holds Tryz.pinned (OpenSpec.upto fnExactReadsForSpec)

end Rows
end Go.Proofs.YtpchkcpcdbdhdaaGreat

/- Operations that only compute, over the abstract memory: what they yield. -/
import Derived.Test.YtecljjcmjongfaaAx3
namespace Go.Proofs.Ytecljjcmjongfaa.Ax
open Go.RowKit

def i64max : Int := 9223372036854775807

def toB : C → Option Bool
  | .bool b => some b
  | .lit b => some b
  | _ => none
def xbin (P : Program) (op : BinOp) (ty : TypeId) (x y : S) : Option (S × List Prop) :=
  match op, x, y with
  | .shl, .v (.c (.int k a)), .v (.c (.int _ b)) => some (V1 (.int k (k.wrap (a * 2 ^ min b.toNat k.bits))), [0 ≤ b])
  | .shr, .v (.c (.int k a)), .v (.c (.int _ b)) => some (V1 (.int k (a.fdiv (2 ^ min b.toNat k.bits))), [0 ≤ b])
  | op, .v (.c (.int k a)), .v (.c (.int k' b)) =>
    if k = k' then match op with
      | .add => some (V1 (.int k (k.wrap (a + b))), [])
      | .sub => some (V1 (.int k (k.wrap (a - b))), [])
      | .mul => some (V1 (.int k (k.wrap (a * b))), [])
      | .quo => some (V1 (.int k (k.wrap (a.tdiv b))), [b ≠ 0])
      | .rem => some (V1 (.int k (a.tmod b)), [b ≠ 0])
      | .and => some (V1 (.int k (k.wrap ((BitVec.ofInt k.bits a &&& BitVec.ofInt k.bits b).toNat : Nat))), [])
      | .or => some (V1 (.int k (k.wrap ((BitVec.ofInt k.bits a ||| BitVec.ofInt k.bits b).toNat : Nat))), [])
      | .xor => some (V1 (.int k (k.wrap ((BitVec.ofInt k.bits a ^^^ BitVec.ofInt k.bits b).toNat : Nat))), [])
      | .eql => some (V1 (.bool (decide (a = b))), [])
      | .neq => some (V1 (.bool (!decide (a = b))), [])
      | .lss => some (V1 (.bool (decide (a < b))), [])
      | .leq => some (V1 (.bool (decide (a ≤ b))), [])
      | .gtr => some (V1 (.bool (decide (b < a))), [])
      | .geq => some (V1 (.bool (decide (b ≤ a))), [])
      | _ => none
    else none
  | .add, .v (.c (.str a)), .v (.c (.str b)) => some (V1 (.str (a ++ b)), [((a.length + b.length : Nat) : Int) ≤ i64max])
  | .eql, .v (.c (.str a)), .v (.c (.str b)) => some (V1 (.bool (decide (a = b))), [])
  | .neq, .v (.c (.str a)), .v (.c (.str b)) => some (V1 (.bool (!decide (a = b))), [])
  | .eql, .v (.agg a), .v (.agg b) => if P.eqGuardType P.depth ty then none else match eqV P 12 ty (.agg a) (.agg b) with
    | some c => some (V1 (.bool c), [])
    | none => none
  | .neq, .v (.agg a), .v (.agg b) => if P.eqGuardType P.depth ty then none else match eqV P 12 ty (.agg a) (.agg b) with
    | some c => some (V1 (.bool (!c)), [])
    | none => none
  | .eql, .v (.c a), .v (.c b) => match P.underlying ty, toB a, toB b with
    | some .bool, some x, some y => some (V1 (.bool (decide (x = y))), [])
    | _, _, _ => none
  | .neq, .v (.c a), .v (.c b) => match P.underlying ty, toB a, toB b with
    | some .bool, some x, some y => some (V1 (.bool (!decide (x = y))), [])
    | _, _, _ => none
  | _, _, _ => none

def All (l : List Prop) : Prop := match l with
  | [] => True
  | p :: r => p ∧ All r

section
variable {H : List Blk} {π : Nat → Pl} {R : Nat → Prop} {w : World} {P : Program}

theorem toB_rep {c : C} {b : Bool} {v : Value} (h : toB c = some b) (hr : RepC H π w R c v) : v = .bool b := by
  cases c <;> cases h <;> exact hr
theorem run_equal_bool {ty : TypeId} (hu : P.underlying ty = some .bool) (a b : Bool) (w' : World) : (Op.equal ty (.bool a) (.bool b)).run P w' = .ok (decide (a = b)) w' :=
  eqV_sound (P := P) (H := []) (π := fun _ => ⟨0, 0, noIns⟩) (R := fun _ => False) (w := w') w' 12 ty (.c (.bool a)) (.c (.bool b)) _ _ _ Op.maxDepth (by decide) (by unfold eqV; rw [hu]) rfl rfl
theorem run_program (w' : World) : (program).run P w' = .ok P w' := rfl
theorem xbin_sound {op : BinOp} {ty : TypeId} {x y : S} {s : S} {ob : List Prop} (h : xbin P op ty x y = some (s, ob)) (hob : All ob) {vx vy : Value} (hx : RepS H π w R x vx) (hy : RepS H π w R y vy) (ox oy : Operand) :
    ∃ v, (∀ w', (do eqGuard op ty ox oy vx vy; binOp op ty vx vy).run P w' = .ok v w') ∧ RepS H π w R s v := by
  unfold xbin at h
  split at h
  case h_1 =>
    cases h; cases hx; cases hy
    obtain ⟨h0, _⟩ := hob
    exact ⟨_, fun w' => by simp [eqGuard, binOp, Op.shift, show ¬ (_ : Int) < 0 from Int.not_lt.2 h0], rfl⟩
  case h_2 =>
    cases h; cases hx; cases hy
    obtain ⟨h0, _⟩ := hob
    exact ⟨_, fun w' => by simp [eqGuard, binOp, Op.shift, show ¬ (_ : Int) < 0 from Int.not_lt.2 h0], rfl⟩
  case h_3 op k a k' b n1 n2 =>
    split at h
    · rename_i hk
      subst hk
      cases hx; cases hy
      split at h <;> first
        | (cases h; obtain ⟨h0, _⟩ := hob; refine ⟨_, fun w' => ?_, rfl⟩; simp [eqGuard, binOp, Op.intDiv, h0]; done)
        | (cases h; refine ⟨_, fun w' => ?_, rfl⟩; simp [eqGuard, binOp, Op.intArith, Op.intBits, Op.intCmp, Bool.beq_eq_decide_eq, bne]; done)
        | cases h
    · cases h
  case h_4 a b =>
    cases h; cases hx; cases hy
    obtain ⟨h0, _⟩ := hob
    refine ⟨.string (⟨a.toArray⟩ ++ ⟨b.toArray⟩), fun w' => ?_, ?_⟩
    · have h2 : ¬ (9223372036854775807 < ((⟨a.toArray⟩ : ByteArray).size : Int) + ((⟨b.toArray⟩ : ByteArray).size : Int)) := by
        simp only [ByteArray.size, List.size_toArray]
        simp only [i64max] at h0
        omega
      simp [eqGuard, binOp, Op.stringOp, h2]
    · show Value.string _ = Value.string _
      refine congrArg _ (ByteArray.ext ?_)
      simp
  case h_5 => cases h; cases hx; cases hy; exact ⟨_, fun w' => by simp [eqGuard, binOp, Op.stringOp, Bool.beq_eq_decide_eq], rfl⟩
  case h_6 => cases h; cases hx; cases hy; exact ⟨_, fun w' => by simp [eqGuard, binOp, Op.stringOp, Bool.beq_eq_decide_eq], rfl⟩
  case h_7 a b =>
    split at h
    · cases h
    rename_i hg
    split at h
    · rename_i c hc
      cases h
      obtain ⟨ua, rfl, ha⟩ := hx
      obtain ⟨ub, rfl, hb⟩ := hy
      have hg' : P.eqGuardType P.depth ty = false := by simpa using hg
      refine ⟨_, fun w' => ?_, rfl⟩
      have hq := eqV_sound (P := P) w' 12 ty _ _ c _ _ Op.maxDepth (by decide) hc (show RepV H π w R (.agg a) (.agg ua.toArray) from ⟨ua, rfl, ha⟩) (show RepV H π w R (.agg b) (.agg ub.toArray) from ⟨ub, rfl, hb⟩)
      simp [eqGuard, binOp, Op.equal, hq, hg', run_program]
    · cases h
  case h_8 a b =>
    split at h
    · cases h
    rename_i hg
    split at h
    · rename_i c hc
      cases h
      obtain ⟨ua, rfl, ha⟩ := hx
      obtain ⟨ub, rfl, hb⟩ := hy
      have hg' : P.eqGuardType P.depth ty = false := by simpa using hg
      refine ⟨_, fun w' => ?_, rfl⟩
      have hq := eqV_sound (P := P) w' 12 ty _ _ c _ _ Op.maxDepth (by decide) hc (show RepV H π w R (.agg a) (.agg ua.toArray) from ⟨ua, rfl, ha⟩) (show RepV H π w R (.agg b) (.agg ub.toArray) from ⟨ub, rfl, hb⟩)
      simp [eqGuard, binOp, Op.equal, hq, hg', run_program]
    · cases h
  case h_9 a b _ _ =>
    split at h
    · rename_i x y hu h1 h2
      cases h
      obtain rfl := toB_rep h1 hx
      obtain rfl := toB_rep h2 hy
      refine ⟨_, fun w' => ?_, rfl⟩
      simp [eqGuard, binOp, run_equal_bool hu]
    · cases h
  case h_10 a b _ _ =>
    split at h
    · rename_i x y hu h1 h2
      cases h
      obtain rfl := toB_rep h1 hx
      obtain rfl := toB_rep h2 hy
      refine ⟨_, fun w' => ?_, rfl⟩
      simp [eqGuard, binOp, run_equal_bool hu]
    · cases h
  case h_11 => cases h
end
end Go.Proofs.Ytecljjcmjongfaa.Ax

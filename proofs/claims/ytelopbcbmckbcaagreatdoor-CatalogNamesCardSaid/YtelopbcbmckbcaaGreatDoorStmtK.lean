/- Texts of statements, read once, told again. No condition. -/
import Derived.Test.YtelopbcbmckbcaaGreatDoorQ11
import Derived.Test.YtelopbcbmckbcaaGreatDoorMemo
import Derived.Test.YtelopbcbmckbcaaGreatDoorFork
set_option linter.all false
namespace Go.Proofs.YtelopbcbmckbcaaGreatDoor
open Go.RowKit

namespace Ev
noncomputable section
def ofT : List (Option Blk) → Nat → Tr Blk → Tr Blk
  | [], _, t => t
  | none :: l, i, t => ofT l (Nat.succ i) t
  | some b :: l, i, t => ofT l (Nat.succ i) (t.put i (some b))
def ofL (l : List (Option Blk)) : Mem := ⟨l.length, ofT l 0 .nil, []⟩
abbrev StmtE := List UInt8 × AV × Mem
def ReadS (q : StmtE) : Prop := cx1.call 9 [.str q.1] Mem.empty = some (q.2.1, q.2.2)
def GoodS : List StmtE → Prop
  | [] => True
  | q :: l => ReadS q ∧ GoodS l
def findS : List StmtE → List UInt8 → Option (AV × Mem)
  | [], _ => none
  | q :: l, s => bif eqS q.1 s then some q.2 else findS l s
theorem findS_ok : ∀ {l : List StmtE} {s : List UInt8} {r : AV × Mem}, GoodS l → findS l s = some r → cx1.call 9 [.str s] Mem.empty = some (r.1, r.2)
  | [], _, _, _, h => by cases h
  | q :: l, s, r, hg, h => by
    unfold findS at h
    cases hb : eqS q.1 s with
    | false => rw [hb, cond_false] at h; exact findS_ok hg.2 h
    | true =>
      rw [hb, cond_true] at h
      cases h
      rw [eqS_eq, beq_iff_eq] at hb
      rw [← hb]
      exact hg.1
def specS (tb : List StmtE) (g : FuncId) (args : List AV) (m : Mem) : Option (AV × Mem) := match spec1 g args m with
  | some r => some r
  | none => bif Nat.beq g 9 then (match args with
    | [v] => (match v with | .str s => ob (findS tb s) fun q => some (mvA m.next q.1, m.add q.2) | _ => none)
    | _ => none) else none
theorem specS_ok {tb : List StmtE} (ht : GoodS tb) : CallSound Tryz.prog (specS tb) := by
  intro g args m r m' h
  unfold specS at h
  split at h
  · rename_i q hq; cases h; exact spec1_ok g args m r m' hq
  · cases hg : Nat.beq g 9 with
    | false => rw [hg, cond_false] at h; cases h
    | true =>
      rw [hg, cond_true] at h
      rw [Nat.beq_eq] at hg
      subst hg
      split at h
      case h_2 => cases h
      split at h
      case h_2 => cases h
      obtain ⟨q, hq, h⟩ := ob_some.1 h
      cases h
      exact cx1_ok.again (findS_ok ht hq) (fun _ _ => rfl) m
end
end Ev
end Go.Proofs.YtelopbcbmckbcaaGreatDoor

/- slices.Delete of one element: the walk, and what it does to a block. No condition. -/
import Derived.Test.YtelopbcbmckbcaaGreatDoorCanon
import Derived.OwnWalk
import Derived.StillTailTactics
import Derived.Stop.Asserts
import Derived.WalkKit
import Derived.Maps.AppendAt
set_option linter.all false
namespace Go.Proofs.YtelopbcbmckbcaaGreatDoor
open Go.RowKit

section
variable {P : Program} {w : World}
theorem wpList_append_run {ops : Array Oper} {rest : List Oper} {o : Oper} {a : Act} {Q : Exit → Act → World → Prop} (hgd : o.guard = none) (s x : Operand) (t u : TypeId)
    (ho : o.op = .call { callee := .builtin .append, args := #[s, x], argTypes := #[t, u] }) (S X z : Value) (w' : World) (hs : a.eval s = S) (hx : a.eval x = X)
    (hr : (Builtin.append_ #[t, u] o.type #[S, X]).run P w = .ok z w') (h : wpList P ops Q rest (a.put o.dst z) w') : wpList P ops Q (o :: rest) a w := by
  refine wpList_plain hgd fun K hK => ?_
  unfold Oper.wp execOp
  simp only [ho, resolve, invoke, builtin, Sem.run_bind, Sem.run_pure, Result.andThen_ok, List.map_toArray, List.map_cons, List.map_nil, hs, hx, hr]
  exact hK _ _ h
theorem wpList_clear_run {ops : Array Oper} {rest : List Oper} {o : Oper} {a : Act} {Q : Exit → Act → World → Prop} (hgd : o.guard = none) (x : Operand) (t : TypeId)
    (ho : o.op = .call { callee := .builtin .clear, args := #[x], argTypes := #[t] }) (X z : Value) (w' : World) (hx : a.eval x = X)
    (hr : (Builtin.clear_ #[t] o.type #[X]).run P w = .ok z w') (h : wpList P ops Q rest (a.put o.dst z) w') : wpList P ops Q (o :: rest) a w := by
  refine wpList_plain hgd fun K hK => ?_
  unfold Oper.wp execOp
  simp only [ho, resolve, invoke, builtin, Sem.run_bind, Sem.run_pure, Result.andThen_ok, List.map_toArray, List.map_cons, List.map_nil, hx, hr]
  exact hK _ _ h
end
set_option maxRecDepth 100000 in
set_option maxHeartbeats 1000000 in
theorem delT (g n C i : Nat) (w w1 w2 : World) (hC : n ≤ C) (hi : i + 1 ≤ n) (hn : n ≤ 9223372036854775807)
    (h1 : ∀ ty, (Builtin.append_ #[25, 25] ty #[.slice (some ⟨g, 0, none⟩) i C, .slice (if C = i + 1 then some ⟨g, 0, none⟩ else some ⟨g, (i + 1) * 3, none⟩) (n - (i + 1)) (C - (i + 1))]).run Tryz.prog w.drew = .ok (.slice (some ⟨g, 0, none⟩) (n - 1) C) w1)
    (h2 : ∀ ty, (Builtin.clear_ #[25] ty #[.slice (some ⟨g, (n - 1) * 3, none⟩) (n - (n - 1)) (C - (n - 1))]).run Tryz.prog w1 = .ok (.tuple #[]) w2) :
    Calls Tryz.prog 30 #[.slice (some ⟨g, 0, none⟩) n C, .int .i64 (i : Int), .int .i64 ((i : Int) + 1)] w fun e w' => e = .returned (.slice (some ⟨g, 0, none⟩) (n - 1) C) ∧ w' = w2 := by
  have q1 : ((i : Int) == (i : Int) + 1) = false := by rw [beq_eq_false_iff_ne]; omega
  have hiC : i ≤ C := by omega
  have hiC' : (i : Int) ≤ (C : Int) := by omega
  have hjn : (i : Int) + 1 ≤ (n : Int) := by omega
  have h0 : (0 : Int) ≤ (i : Int) := by omega
  have h01 : (0 : Int) ≤ (i : Int) + 1 := by omega
  have H1 := hide h1
  have H2 := hide h2
  clear h1 h2
  go_enter Tryz.func30, Tryz.ntmps30
  go_wp2_with fail
  go_still_tail 6, (by kernel_rfl)
  refine wpList_append_run (w := w.drew) rfl _ _ _ _ rfl _ _ _ _ rfl rfl (unhide H1 _) ?_
  have h2 := unhide H2 0
  clear H1 H2
  go_wp2
  all_goals go_ret
  all_goals exact ⟨rfl, rfl⟩
set_option maxRecDepth 100000 in
set_option maxHeartbeats 1000000 in
theorem delK (g n C i : Nat) (w w1 w2 : World) (hC : n ≤ C) (hi : i + 1 ≤ n) (hn : n ≤ 9223372036854775807)
    (h1 : ∀ ty, (Builtin.append_ #[29, 29] ty #[.slice (some ⟨g, 0, none⟩) i C, .slice (if C = i + 1 then some ⟨g, 0, none⟩ else some ⟨g, (i + 1) * 4, none⟩) (n - (i + 1)) (C - (i + 1))]).run Tryz.prog w.drew = .ok (.slice (some ⟨g, 0, none⟩) (n - 1) C) w1)
    (h2 : ∀ ty, (Builtin.clear_ #[29] ty #[.slice (some ⟨g, (n - 1) * 4, none⟩) (n - (n - 1)) (C - (n - 1))]).run Tryz.prog w1 = .ok (.tuple #[]) w2) :
    Calls Tryz.prog 31 #[.slice (some ⟨g, 0, none⟩) n C, .int .i64 (i : Int), .int .i64 ((i : Int) + 1)] w fun e w' => e = .returned (.slice (some ⟨g, 0, none⟩) (n - 1) C) ∧ w' = w2 := by
  have q1 : ((i : Int) == (i : Int) + 1) = false := by rw [beq_eq_false_iff_ne]; omega
  have hiC : i ≤ C := by omega
  have hiC' : (i : Int) ≤ (C : Int) := by omega
  have hjn : (i : Int) + 1 ≤ (n : Int) := by omega
  have h0 : (0 : Int) ≤ (i : Int) := by omega
  have h01 : (0 : Int) ≤ (i : Int) + 1 := by omega
  have H1 := hide h1
  have H2 := hide h2
  clear h1 h2
  go_enter Tryz.func31, Tryz.ntmps31
  go_wp2_with fail
  go_still_tail 6, (by kernel_rfl)
  refine wpList_append_run (w := w.drew) rfl _ _ _ _ rfl _ _ _ _ rfl rfl (unhide H1 _) ?_
  have h2 := unhide H2 0
  clear H1 H2
  go_wp2
  all_goals go_ret
  all_goals exact ⟨rfl, rfl⟩
end Go.Proofs.YtelopbcbmckbcaaGreatDoor

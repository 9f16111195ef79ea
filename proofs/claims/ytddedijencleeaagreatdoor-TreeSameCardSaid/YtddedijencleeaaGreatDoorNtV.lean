/- What the evaluator tells of calls with plain arguments: names, values, their prints, empty statements. -/
import Derived.Test.YtddedijencleeaaGreatDoorFlat
set_option linter.all false
namespace Go.Proofs.YtddedijencleeaaGreatDoor
open Go.RowKit

namespace Ev
noncomputable section
abbrev cx0 : Ctx := cxS Tryz.prog tab clsSpec 3000
theorem cx0_ok : CallSound Tryz.prog cx0.call := (cxS_sound mixed tab_ok clsSpec_ok 3000).1
def strIs (call : FuncId → List AV → Mem → Option (AV × Mem)) (g : FuncId) (args : List AV) (s : List UInt8) : Bool := match call g args Mem.empty with
  | some (.str t, _) => eqS s t
  | _ => false
theorem strIs_ok {call : FuncId → List AV → Mem → Option (AV × Mem)} (hc : CallSound Tryz.prog call) {g : FuncId} {args : List AV} {s : List UInt8} (h : strIs call g args s = true) {fn : Func} {c : Code} (hg : Tryz.prog.funcs[g]? = some fn) (hb : fn.body = some c)
    (hname : (fn.name == "runtime.NumGoroutine") = false) {xs : List Value} (hxs : ∀ ρ : Env, concL ρ args = some xs) (w : World) (hw : OkW w) :
    Calls Tryz.prog g xs.toArray w fun e w' => e = .returned (.string ⟨s.toArray⟩) ∧ Below w.heap.size w w' := by
  unfold strIs at h
  split at h
  case h_2 => cases h
  rename_i t m hm
  rw [eqS_eq, beq_iff_eq] at h
  subst h
  rcases hc.plain hm (fun _ => 0) (fun ρ _ => hxs ρ) (z := .string ⟨s.toArray⟩) (fun ρ => rfl) w hw with ⟨_, h2⟩ | ⟨v, w', h2, _⟩
  · exact h2.mono fun e w' ⟨v, hv, h1, h2⟩ => ⟨by rw [hv, h1], h2⟩
  · rw [enters hg hb hname] at h2
    cases h2
def e0 : List AV := [.int .i64 0, .int .i64 0, .int .i64 0, .int .i64 0, .str [], .str [], .str [], .slice none 0 (.known 0), .int .i64 0, .int .i64 0]
def st0 (k : Int) (nm : List UInt8) : List AV := [.int .i64 k, .str [], .slice none 0 (.known 0), .slice none 0 (.known 0), .slice none 0 (.known 0), .str nm, .str [], .bool false, .slice none 0 (.known 0), .slice none 0 (.known 0), .slice none 0 (.known 0)] ++ e0 ++ [.bool false, .slice none 0 (.known 0), .slice none 0 (.known 0), .slice none 0 (.known 0)] ++ e0 ++ [.slice none 0 (.known 0), .int .i64 0]
end
noncomputable section
set_option maxRecDepth 1000000
theorem printF_run : strIs cx0.call 120 [.agg [.int .i64 1, .int .i64 0, .str []]] [70, 65, 76, 83, 69] = true := by kernel_rfl
theorem print1_run : strIs cx0.call 120 [.agg [.int .i64 2, .int .i64 1, .str []]] [49] = true := by kernel_rfl
theorem nameA_run : okTrue cx0.call 44 [.str [97]] = true := by kernel_rfl
theorem nameB_run : okTrue cx0.call 44 [.str [98]] = true := by kernel_rfl
theorem nameT_run : okTrue cx0.call 44 [.str [116]] = true := by kernel_rfl
theorem isF_run : okTrue cx0.call 43 [.agg [.int .i64 1, .int .i64 0, .str []]] = true := by kernel_rfl
theorem is1_run : okTrue cx0.call 43 [.agg [.int .i64 2, .int .i64 1, .str []]] = true := by kernel_rfl
theorem nothing_run : okTrue cx0.call 102 [.agg (st0 7 [])] = true := by kernel_rfl
end
end Ev
theorem OkW.belowB {B : Nat} {w w' : World} (h : OkW w) (hg : 0 < B) (hb : Below B w w') : OkW w' := (hb.cell (p := ⟨0, 0, none⟩) hg).trans h
theorem printF (w : World) (hw : OkW w) : Calls Tryz.prog 120 #[.agg #[.int .i64 1, .int .i64 0, .string ⟨#[]⟩]] w fun e w' => e = .returned (.string ⟨#[70, 65, 76, 83, 69]⟩) ∧ Below w.heap.size w w' :=
  Ev.strIs_ok Ev.cx0_ok Ev.printF_run (c := Ev.bodyOf Tryz.f120) Tryz.func120 rfl (by kernel_rfl) (xs := [.agg #[.int .i64 1, .int .i64 0, .string ⟨#[]⟩]]) (fun _ => rfl) w hw
theorem print1 (w : World) (hw : OkW w) : Calls Tryz.prog 120 #[.agg #[.int .i64 2, .int .i64 1, .string ⟨#[]⟩]] w fun e w' => e = .returned (.string ⟨#[49]⟩) ∧ Below w.heap.size w w' :=
  Ev.strIs_ok Ev.cx0_ok Ev.print1_run (c := Ev.bodyOf Tryz.f120) Tryz.func120 rfl (by kernel_rfl) (xs := [.agg #[.int .i64 2, .int .i64 1, .string ⟨#[]⟩]]) (fun _ => rfl) w hw
theorem name_ok (k : UInt8) (hk : k = 97 ∨ k = 98 ∨ k = 116) (w : World) (hw : OkW w) : Calls Tryz.prog 44 #[.string ⟨#[k]⟩] w fun e w' => e = .returned (.bool true) ∧ Below w.heap.size w w' := by
  rcases hk with rfl | rfl | rfl
  · exact Ev.okTrue_ok Ev.cx0_ok Ev.nameA_run (c := Ev.bodyOf Tryz.f44) Tryz.func44 rfl (by kernel_rfl) (xs := [.string ⟨#[97]⟩]) (fun _ => 0) (fun _ _ => rfl) w hw
  · exact Ev.okTrue_ok Ev.cx0_ok Ev.nameB_run (c := Ev.bodyOf Tryz.f44) Tryz.func44 rfl (by kernel_rfl) (xs := [.string ⟨#[98]⟩]) (fun _ => 0) (fun _ _ => rfl) w hw
  · exact Ev.okTrue_ok Ev.cx0_ok Ev.nameT_run (c := Ev.bodyOf Tryz.f44) Tryz.func44 rfl (by kernel_rfl) (xs := [.string ⟨#[116]⟩]) (fun _ => 0) (fun _ _ => rfl) w hw
theorem valIs (k n : Int) (hk : (k = 1 ∧ n = 0) ∨ (k = 2 ∧ n = 1)) (w : World) (hw : OkW w) : Calls Tryz.prog 43 #[.agg #[.int .i64 k, .int .i64 n, .string ⟨#[]⟩]] w fun e w' => e = .returned (.bool true) ∧ Below w.heap.size w w' := by
  rcases hk with ⟨rfl, rfl⟩ | ⟨rfl, rfl⟩
  · exact Ev.okTrue_ok Ev.cx0_ok Ev.isF_run (c := Ev.bodyOf Tryz.f43) Tryz.func43 rfl (by kernel_rfl) (xs := [.agg #[.int .i64 1, .int .i64 0, .string ⟨#[]⟩]]) (fun _ => 0) (fun _ _ => rfl) w hw
  · exact Ev.okTrue_ok Ev.cx0_ok Ev.is1_run (c := Ev.bodyOf Tryz.f43) Tryz.func43 rfl (by kernel_rfl) (xs := [.agg #[.int .i64 2, .int .i64 1, .string ⟨#[]⟩]]) (fun _ => 0) (fun _ _ => rfl) w hw
/-- An empty expression's cells; a statement of a kind, a name, a condition. -/
def x0 : List Value := [.int .i64 0, .int .i64 0, .int .i64 0, .int .i64 0, .string ⟨#[]⟩, .string ⟨#[]⟩, .string ⟨#[]⟩, .slice none 0 0, .int .i64 0, .int .i64 0]
theorem nothing_ok (w : World) (hw : OkW w) : Calls Tryz.prog 102 #[.agg #[.int .i64 7, .string ⟨#[]⟩, .slice none 0 0, .slice none 0 0, .slice none 0 0, .string ⟨#[]⟩, .string ⟨#[]⟩, .bool false, .slice none 0 0, .slice none 0 0, .slice none 0 0,
    .int .i64 0, .int .i64 0, .int .i64 0, .int .i64 0, .string ⟨#[]⟩, .string ⟨#[]⟩, .string ⟨#[]⟩, .slice none 0 0, .int .i64 0, .int .i64 0, .bool false, .slice none 0 0, .slice none 0 0, .slice none 0 0,
    .int .i64 0, .int .i64 0, .int .i64 0, .int .i64 0, .string ⟨#[]⟩, .string ⟨#[]⟩, .string ⟨#[]⟩, .slice none 0 0, .int .i64 0, .int .i64 0, .slice none 0 0, .int .i64 0]] w fun e w' => e = .returned (.bool true) ∧ Below w.heap.size w w' :=
  Ev.okTrue_ok Ev.cx0_ok Ev.nothing_run (c := Ev.bodyOf Tryz.f102) Tryz.func102 rfl (by kernel_rfl) (xs := [_]) (fun _ => 0) (fun _ _ => rfl) w hw
end Go.Proofs.YtddedijencleeaaGreatDoor

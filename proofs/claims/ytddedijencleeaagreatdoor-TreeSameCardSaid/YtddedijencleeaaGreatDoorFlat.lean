/- Tables of what functions of plain values yield, as the evaluator takes them. No condition. -/
import Derived.Test.YtddedijencleeaaGreatDoorSpec
set_option linter.all false
namespace Go.Proofs.YtddedijencleeaaGreatDoor
open Go.RowKit

namespace Ev
noncomputable section
/-- Plain values that are the same. -/
def eq1 (a b : AV) : Bool := match a, b with
  | .str s, .str t => eqS s t
  | .bool x, .bool y => (bif x then y else !y)
  | .int k n, .int k' n' => kEq k k' && eqF n n'
  | _, _ => false
def eq1s : List AV → List AV → Bool
  | [], [] => true
  | a :: l, b :: r => bif eq1 a b then eq1s l r else false
  | _, _ => false
theorem eq1_ok {a b : AV} (h : eq1 a b = true) : a = b ∧ ∀ ρ ρ' : Env, conc ρ a = conc ρ' a := by
  unfold eq1 at h
  split at h
  · rw [eqS_eq, beq_iff_eq] at h; subst h; exact ⟨rfl, fun _ _ => rfl⟩
  · rename_i x y; cases x <;> cases y <;> first | exact ⟨rfl, fun _ _ => rfl⟩ | cases h
  · rw [Bool.and_eq_true, eqF_eq, beq_iff_eq] at h
    obtain ⟨h1, rfl⟩ := h
    have := kEq_eq h1
    subst this
    exact ⟨rfl, fun _ _ => rfl⟩
  · cases h
theorem eq1s_ok : ∀ {a b : List AV}, eq1s a b = true → a = b ∧ ∀ ρ ρ' : Env, concL ρ a = concL ρ' a
  | [], [], _ => ⟨rfl, fun _ _ => rfl⟩
  | a :: l, b :: r, h => by
    unfold eq1s at h
    cases hb : eq1 a b with
    | false => rw [hb, cond_false] at h; cases h
    | true =>
      rw [hb, cond_true] at h
      obtain ⟨e1, c1⟩ := eq1_ok hb
      obtain ⟨e2, c2⟩ := eq1s_ok h
      subst e1 e2
      exact ⟨rfl, fun ρ ρ' => by simp only [concL, c1 ρ ρ', c2 ρ ρ']⟩
  | [], _ :: _, h => by cases h
  | _ :: _, [], h => by cases h
abbrev FlatT := List (List AV × AV)
def findW : FlatT → List AV → Option AV
  | [], _ => none
  | (k, r) :: t, l => bif eq1s k l then some r else findW t l
def goodW (call : FuncId → List AV → Mem → Option (AV × Mem)) (g : FuncId) (t : FlatT) : Bool := t.all fun q => match call g q.1 Mem.empty with
  | some (v, _) => eq1 v q.2
  | none => false
theorem findW_ok : ∀ {t : FlatT} {l : List AV} {r : AV}, findW t l = some r → (l, r) ∈ t ∧ ∀ ρ ρ' : Env, concL ρ l = concL ρ' l
  | [], _, _, h => by cases h
  | (k, r') :: t, l, r, h => by
    unfold findW at h
    cases hb : eq1s k l with
    | false => rw [hb, cond_false] at h; obtain ⟨h1, h2⟩ := findW_ok h; exact ⟨List.mem_cons_of_mem _ h1, h2⟩
    | true =>
      rw [hb, cond_true] at h
      cases h
      obtain ⟨rfl, h2⟩ := eq1s_ok hb
      exact ⟨List.mem_cons_self .., h2⟩
/-- A table that was reckoned is sound, in every memory. -/
theorem flat_ok {call : FuncId → List AV → Mem → Option (AV × Mem)} (hc : CallSound Tryz.prog call) {g : FuncId} {t : FlatT} (ht : goodW call g t = true) {args : List AV} {r : AV} (h : findW t args = some r) (m : Mem) :
    ∃ L, Lg m m L ∧ ∀ ρ w xs, Rep ρ m w → concL ρ args = some xs → CallsTo Tryz.prog g xs.toArray w (fun z w' => ∃ ρ', Stp ρ m w ρ' m w' L ∧ conc ρ' r = some z) := by
  obtain ⟨hm, hargs⟩ := findW_ok h
  have hq := List.all_eq_true.1 ht _ hm
  simp only at hq
  split at hq
  case h_2 => cases hq
  rename_i v m' hcall
  obtain ⟨rfl, hconst⟩ := eq1_ok hq
  refine ⟨[], Lg.refl m, fun ρ w xs hr hxs => ?_⟩
  obtain ⟨L, _, H⟩ := hc g args Mem.empty v m' hcall
  have key : ∀ z w', (∃ ρ', Stp ⟨fun _ => none, fun _ => 0, ρ.y⟩ Mem.empty w ρ' m' w' L ∧ conc ρ' v = some z) → ∃ ρ', Stp ρ m w ρ' m w' [] ∧ conc ρ' v = some z := by
    rintro z w' ⟨ρ1, k1, k2⟩
    exact ⟨ρ, Stp.below hr ⟨k1.os, k1.tape, k1.output, k1.size, fun i hi => k1.frame i hi fun _ _ e => by cases e⟩, by rw [hconst ρ ρ1]; exact k2⟩
  rcases H _ w xs (Rep.empty ρ.y hr.ok) (by rw [hargs _ ρ]; exact hxs) with ⟨h1, h2⟩ | ⟨z, w', h1, h2⟩
  · exact .inl ⟨h1, h2.mono fun e w' ⟨v, hv, q⟩ => ⟨v, hv, key v w' q⟩⟩
  · exact .inr ⟨z, w', h1, key z w' h2⟩
end
end Ev
end Go.Proofs.YtddedijencleeaaGreatDoor

/- The evaluator, part 14: control and loops. No condition. -/
import Derived.Test.YtmolojjhnbchbaaGreatDoorEv13
set_option linter.all false
namespace Go.Proofs.YtmolojjhnbchbaaGreatDoor
open Go.RowKit

namespace Ev
noncomputable section

/-- A loop's name: the number of its first region, and one. -/
def keyOf : Code → Nat
  | .region id _ _ => Nat.succ id
  | .seq a b => match keyOf a with | 0 => keyOf b | k + 1 => k + 1
  | .cond _ a b => match keyOf a with | 0 => keyOf b | k + 1 => k + 1
  | .block _ b => keyOf b
  | .loop b => keyOf b
  | .scope b => keyOf b
  | _ => 0
/-- What may be told of functions and loops. -/
structure Ctx where
  call : FuncId → List AV → Mem → Option (AV × Mem)
  loop : Nat → Nat → Code → Tr AV → Mem → Option (AExit × Tr AV × Mem)
def evC (P : Program) (cx : Ctx) (n : Nat) : Code → Tr AV → Mem → Option (AExit × Tr AV × Mem)
  | .skip, e, m => some (.nrm, e, m)
  | .label _, e, m => some (.nrm, e, m)
  | .region _ ops draw, e, m => bif draw then (match evD P cx.call n ops e m with | some (e', m') => some (.nrm, e', m') | none => none) else
      (match evL P cx.call n ops ops.toList e m with | some (e', m') => some (.nrm, e', m') | none => none)
  | .seq a b, e, m => match evC P cx n a e m with
    | none => none
    | some (x, e', m') => match x with
      | .nrm => evC P cx n b e' m'
      | .ex i => some (.ex i, e', m')
      | .ret => some (.ret, e', m')
  | .cond c a b, e, m => match evalO e c with
    | some (.bool t) => bif t then evC P cx n a e m else evC P cx n b e m
    | _ => none
  | .block id b, e, m => match evC P cx n b e m with
    | none => none
    | some (x, e', m') => match x with
      | .nrm => some (.nrm, e', m')
      | .ex i => bif Nat.beq i id then some (.nrm, e', m') else some (.ex i, e', m')
      | .ret => some (.ret, e', m')
  | .loop b, e, m => cx.loop n (keyOf b) b e m
  | .scope b, e, m => evC P cx n b e m
  | .exit i, e, m => some (.ex i, e, m)
  | .ret, e, m => some (.ret, e, m)
  | _, _, _ => none

/-- What it says of the code. -/
def CodeSound (P : Program) (n : Nat) (c : Code) (e : Tr AV) (m : Mem) (x : AExit) (e' : Tr AV) (m' : Mem) : Prop :=
  ∃ L, Lg m m' L ∧ ∀ ρ w a, Rep ρ m w → EnvOK ρ n e a → ∀ Q : Exit → Act → World → Prop, (∀ ρ' a' w', Stp ρ m w ρ' m' w' L → EnvOK ρ' n e' a' → Q x.conc a' w') → c.wp P Q a w
def LoopSound (P : Program) (n : Nat) (b : Code) (e : Tr AV) (m : Mem) (x : AExit) (e' : Tr AV) (m' : Mem) : Prop :=
  ∃ L, Lg m m' L ∧ ∃ N, ∀ ρ w a, Rep ρ m w → EnvOK ρ n e a → ∀ Q : Exit → Act → World → Prop, (∀ ρ' a' w', Stp ρ m w ρ' m' w' L → EnvOK ρ' n e' a' → Q x.conc a' w') → Code.rounds P b Q N a w
def loopsOf : Code → List Code
  | .seq a b => loopsOf a ++ loopsOf b
  | .cond _ a b => loopsOf a ++ loopsOf b
  | .block _ b => loopsOf b
  | .scope b => loopsOf b
  | .loop b => [b]
  | _ => []
def LoopOK (P : Program) (cx : Ctx) (n : Nat) (b : Code) : Prop := ∀ e m x e' m', cx.loop n (keyOf b) b e m = some (x, e', m') → LoopSound P n b e m x e' m'

theorem evC_sound {P : Program} (hm : P.follows .mixedOrders = true) {cx : Ctx} (hc : CallSound P cx.call) {n : Nat} : ∀ (c : Code), (∀ b ∈ loopsOf c, LoopOK P cx n b) → ∀ e m x e' m', evC P cx n c e m = some (x, e', m') → CodeSound P n c e m x e' m'
  | .skip, _, e, m, x, e', m', h => by
    simp only [evC, Option.some.injEq, Prod.mk.injEq] at h
    obtain ⟨rfl, rfl, rfl⟩ := h
    exact ⟨[], Lg.refl m, fun ρ w a hr he Q hq => wp_skip (hq ρ a w (Stp.refl hr) he)⟩
  | .label l, _, e, m, x, e', m', h => by
    simp only [evC, Option.some.injEq, Prod.mk.injEq] at h
    obtain ⟨rfl, rfl, rfl⟩ := h
    exact ⟨[], Lg.refl m, fun ρ w a hr he Q hq => wp_label (hq ρ a w (Stp.refl hr) he)⟩
  | .exit i, _, e, m, x, e', m', h => by
    simp only [evC, Option.some.injEq, Prod.mk.injEq] at h
    obtain ⟨rfl, rfl, rfl⟩ := h
    exact ⟨[], Lg.refl m, fun ρ w a hr he Q hq => wp_exit (hq ρ a w (Stp.refl hr) he)⟩
  | .ret, _, e, m, x, e', m', h => by
    simp only [evC, Option.some.injEq, Prod.mk.injEq] at h
    obtain ⟨rfl, rfl, rfl⟩ := h
    exact ⟨[], Lg.refl m, fun ρ w a hr he Q hq => wp_ret (hq ρ a w (Stp.refl hr) he)⟩
  | .region id ops draw, _, e, m, x, e', m', h => by
    unfold evC at h
    cases draw with
    | true =>
      rw [cond_true] at h
      split at h
      · rename_i e1 m1 h1
        cases h
        exact evD_wp hm hc h1
      · cases h
    | false =>
      rw [cond_false] at h
      split at h
      · rename_i e1 m1 h1
        cases h
        exact evR_wp hc h1
      · cases h
  | .seq a b, hl, e, m, x, e', m', h => by
    unfold evC at h
    split at h
    · cases h
    · rename_i x1 e1 m1 h1
      obtain ⟨L, hL, H⟩ := evC_sound hm hc a (fun b hb => hl b (List.mem_append.2 (.inl hb))) _ _ _ _ _ h1
      split at h
      · obtain ⟨L2, hL2, H2⟩ := evC_sound hm hc b (fun b hb => hl b (List.mem_append.2 (.inr hb))) _ _ _ _ _ h
        refine ⟨L2 ++ L, hL.trans hL2, fun ρ w a hr he Q hq => wp_seq (H ρ w a hr he _ fun ρ1 a1 w1 k1 k2 => ?_)⟩
        exact H2 ρ1 w1 a1 k1.rep k2 Q fun ρ2 a2 w2 q1 q2 => hq ρ2 a2 w2 (k1.trans q1) q2
      · cases h; exact ⟨L, hL, fun ρ w a hr he Q hq => wp_seq (H ρ w a hr he _ fun ρ1 a1 w1 k1 k2 => hq ρ1 a1 w1 k1 k2)⟩
      · cases h; exact ⟨L, hL, fun ρ w a hr he Q hq => wp_seq (H ρ w a hr he _ fun ρ1 a1 w1 k1 k2 => hq ρ1 a1 w1 k1 k2)⟩
  | .cond c a b, hl, e, m, x, e', m', h => by
    unfold evC at h
    split at h
    · rename_i t ht
      have hcnd : ∀ ρ a, EnvOK ρ n e a → a.eval c = .bool t := fun ρ a he => by
        have := he.eval c _ ht
        simp only [conc, Option.some.injEq] at this
        exact this.symm
      cases t with
      | true =>
        rw [cond_true] at h
        obtain ⟨L, hL, H⟩ := evC_sound hm hc a (fun b hb => hl b (List.mem_append.2 (.inl hb))) _ _ _ _ _ h
        exact ⟨L, hL, fun ρ w a hr he Q hq => wp_cond_true (hcnd ρ a he) (H ρ w a hr he Q hq)⟩
      | false =>
        rw [cond_false] at h
        obtain ⟨L, hL, H⟩ := evC_sound hm hc b (fun b hb => hl b (List.mem_append.2 (.inr hb))) _ _ _ _ _ h
        exact ⟨L, hL, fun ρ w a hr he Q hq => wp_cond_false (hcnd ρ a he) (H ρ w a hr he Q hq)⟩
    · cases h
  | .block id b, hl, e, m, x, e', m', h => by
    unfold evC at h
    split at h
    · cases h
    · rename_i x1 e1 m1 h1
      obtain ⟨L, hL, H⟩ := evC_sound hm hc b hl _ _ _ _ _ h1
      split at h
      · cases h; exact ⟨L, hL, fun ρ w a hr he Q hq => wp_block (H ρ w a hr he _ fun ρ1 a1 w1 k1 k2 => hq ρ1 a1 w1 k1 k2)⟩
      · rename_i i
        by_cases hi : i = id
        · subst hi
          rw [show Nat.beq i i = true by simp, cond_true] at h
          cases h
          exact ⟨L, hL, fun ρ w a hr he Q hq => wp_block (H ρ w a hr he _ fun ρ1 a1 w1 k1 k2 => by
            have := hq ρ1 a1 w1 k1 k2
            simpa [AExit.conc, Exit.inBlock] using this)⟩
        · rw [show Nat.beq i id = false by rw [← Bool.not_eq_true, Nat.beq_eq]; exact hi, cond_false] at h
          cases h
          exact ⟨L, hL, fun ρ w a hr he Q hq => wp_block (H ρ w a hr he _ fun ρ1 a1 w1 k1 k2 => by
            have := hq ρ1 a1 w1 k1 k2
            simpa [AExit.conc, Exit.inBlock, hi] using this)⟩
      · cases h; exact ⟨L, hL, fun ρ w a hr he Q hq => wp_block (H ρ w a hr he _ fun ρ1 a1 w1 k1 k2 => hq ρ1 a1 w1 k1 k2)⟩
  | .loop b, hl, e, m, x, e', m', h => by
    unfold evC at h
    obtain ⟨L, hL, N, H⟩ := hl b (List.mem_singleton.2 rfl) _ _ _ _ _ h
    exact ⟨L, hL, fun ρ w a hr he Q hq => wp_loop_rounds N (H ρ w a hr he Q hq)⟩
  | .scope b, hl, e, m, x, e', m', h => by
    unfold evC at h
    obtain ⟨L, hL, H⟩ := evC_sound hm hc b hl _ _ _ _ _ h
    refine ⟨L, hL, fun ρ w a hr he Q hq => wp_scope_straight (H ρ w a hr he _ fun ρ1 a1 w1 k1 k2 => ?_)⟩
    have := hq ρ1 a1 w1 k1 k2
    cases x <;> exact this
  | .rangeFunc _ _ _ _, _, _, _, _, _, _, h => by simp [evC] at h
  | .goto _, _, _, _, _, _, _, h => by simp [evC] at h
  | .refuse _, _, _, _, _, _, _, h => by simp [evC] at h

/-- One more round of a loop. -/
theorem loop_more {P : Program} {n : Nat} {b : Code} {e e1 e' : Tr AV} {m m1 m' : Mem} {x : AExit} (h1 : CodeSound P n b e m .nrm e1 m1) (h2 : LoopSound P n b e1 m1 x e' m') : LoopSound P n b e m x e' m' := by
  obtain ⟨L1, hL1, H1⟩ := h1
  obtain ⟨L2, hL2, N, H2⟩ := h2
  refine ⟨L2 ++ L1, hL1.trans hL2, N + 1, fun ρ w a hr he Q hq => ?_⟩
  rw [rounds_succ]
  refine H1 ρ w a hr he _ fun ρ1 a1 w1 k1 k2 => ?_
  exact H2 ρ1 w1 a1 k1.rep k2 Q fun ρ2 a2 w2 q1 q2 => hq ρ2 a2 w2 (k1.trans q1) q2
theorem loop_out {P : Program} {n : Nat} {b : Code} {e e' : Tr AV} {m m' : Mem} {x : AExit} (hx : x ≠ .nrm) (h1 : CodeSound P n b e m x e' m') : LoopSound P n b e m x e' m' := by
  obtain ⟨L1, hL1, H1⟩ := h1
  refine ⟨L1, hL1, 1, fun ρ w a hr he Q hq => ?_⟩
  rw [rounds_succ]
  refine H1 ρ w a hr he _ fun ρ1 a1 w1 k1 k2 => ?_
  have := hq ρ1 a1 w1 k1 k2
  cases x with
  | nrm => exact absurd rfl hx
  | ex i => exact this
  | ret => exact this
/-- Of a frame less may be known. -/
theorem EnvOK.less {ρ : Env} {n : Nat} {e e' : Tr AV} {a : Act} (h : EnvOK ρ n e a) (hs : ∀ s v, e'.get s = some v → e.get s = some v) : EnvOK ρ n e' a := ⟨h.defers, h.size, fun s v hv => h.get s v (hs s v hv)⟩
theorem LoopSound.less {P : Program} {n : Nat} {b : Code} {e e0 e' e1 : Tr AV} {m m' : Mem} {x : AExit} (h : LoopSound P n b e m x e' m') (h0 : ∀ s v, e.get s = some v → e0.get s = some v) (h1 : ∀ s v, e1.get s = some v → e'.get s = some v) : LoopSound P n b e0 m x e1 m' := by
  obtain ⟨L, hL, N, H⟩ := h
  exact ⟨L, hL, N, fun ρ w a hr he Q hq => H ρ w a hr (he.less h0) Q fun ρ' a' w' k1 k2 => hq ρ' a' w' k1 (k2.less h1)⟩
end
end Ev
end Go.Proofs.YtmolojjhnbchbaaGreatDoor

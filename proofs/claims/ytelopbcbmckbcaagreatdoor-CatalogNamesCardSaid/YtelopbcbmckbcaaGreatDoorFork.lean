/- A function's code, run with truths that are not told: both ways. No condition. -/
import Derived.Test.YtelopbcbmckbcaaGreatDoorSpec
set_option linter.all false
namespace Go.Proofs.YtelopbcbmckbcaaGreatDoor
open Go.RowKit

namespace Ev
noncomputable section
abbrev Kont := AExit → Tr AV → Mem → Bool
section
variable (P : Program) (cx : Ctx) (n : Nat) (lp : Code → Tr AV → Mem → Kont → Bool)
def evK : Code → Tr AV → Mem → Kont → Bool
  | .skip, e, m, k => k .nrm e m
  | .label _, e, m, k => k .nrm e m
  | .region _ ops draw, e, m, k => match (bif draw then (stD P n ops).run cx.call e m else (stL P n ops ops.toList).run cx.call e m) with
    | none => false
    | some (e', m') => k .nrm e' m'
  | .seq a b, e, m, k => evK a e m fun x e' m' => match x with
    | .nrm => evK b e' m' k
    | .ex i => k (.ex i) e' m'
    | .ret => k .ret e' m'
  | .cond c a b, e, m, k => match evalO e c with
    | some v => (match v with
      | .bool t => bif t then evK a e m k else evK b e m k
      | .sym _ _ l _ => (match l with | (.lss, _) :: _ => evK a e m k && evK b e m k | _ => false)
      | _ => false)
    | none => false
  | .block id b, e, m, k => evK b e m fun x e' m' => match x with
    | .nrm => k .nrm e' m'
    | .ex i => bif Nat.beq i id then k .nrm e' m' else k (.ex i) e' m'
    | .ret => k .ret e' m'
  | .loop b, e, m, k => lp b e m k
  | .scope b, e, m, k => evK b e m k
  | .exit i, e, m, k => k (.ex i) e m
  | .ret, e, m, k => k .ret e m
  | _, _, _, _ => false
end
/-- What a run says: each way that it may end is one that the continuation takes. -/
def After (n : Nat) (k : Kont) (ρ : Env) (m : Mem) (w : World) (Q : Exit → Act → World → Prop) : Prop :=
  ∀ x e' m' ρ' a' w' L, k x e' m' = true → Lg m m' L → Stp ρ m w ρ' m' w' L → EnvOK ρ' n e' a' → Q x.conc a' w'
def LpSound (P : Program) (n : Nat) (lp : Code → Tr AV → Mem → Kont → Bool) : Prop :=
  ∃ N, ∀ b e m k, lp b e m k = true → ∀ ρ w a, Rep ρ m w → EnvOK ρ n e a → ∀ Q, After n k ρ m w Q → Code.rounds P b Q N a w
theorem After.step {n : Nat} {k : Kont} {ρ ρ1 : Env} {m m1 : Mem} {w w1 : World} {L1 : List Nat} {Q : Exit → Act → World → Prop} (h : After n k ρ m w Q) (hL : Lg m m1 L1) (hs : Stp ρ m w ρ1 m1 w1 L1) : After n k ρ1 m1 w1 Q :=
  fun x e' m' ρ' a' w' L hk h1 h2 h3 => h x e' m' ρ' a' w' _ hk (hL.trans h1) (hs.trans h2) h3
section
variable {P : Program} (hm : P.follows .mixedOrders = true) {cx : Ctx} (hc : CallSound P cx.call) {n : Nat} {lp : Code → Tr AV → Mem → Kont → Bool} (hl : LpSound P n lp)
include hm hc hl
theorem evK_sound : ∀ (c : Code) (e : Tr AV) (m : Mem) (k : Kont), evK P cx n lp c e m k = true → ∀ ρ w a, Rep ρ m w → EnvOK ρ n e a → ∀ Q, After n k ρ m w Q → c.wp P Q a w
  | .skip, e, m, k, h, ρ, w, a, hr, he, Q, hq => wp_skip (hq .nrm e m ρ a w [] h (Lg.refl m) (Stp.refl hr) he)
  | .label l, e, m, k, h, ρ, w, a, hr, he, Q, hq => wp_label (hq .nrm e m ρ a w [] h (Lg.refl m) (Stp.refl hr) he)
  | .exit i, e, m, k, h, ρ, w, a, hr, he, Q, hq => wp_exit (hq (.ex i) e m ρ a w [] h (Lg.refl m) (Stp.refl hr) he)
  | .ret, e, m, k, h, ρ, w, a, hr, he, Q, hq => wp_ret (hq .ret e m ρ a w [] h (Lg.refl m) (Stp.refl hr) he)
  | .region id ops draw, e, m, k, h, ρ, w, a, hr, he, Q, hq => by
    unfold evK at h
    cases draw with
    | true =>
      rw [cond_true] at h
      split at h
      · cases h
      · rename_i e' m' h1
        obtain ⟨L, hL, H⟩ := evD_wp (id := id) hm hc (stD_ok P h1)
        exact H ρ w a hr he Q fun ρ' a' w' k1 k2 => hq .nrm e' m' ρ' a' w' L h hL k1 k2
    | false =>
      rw [cond_false] at h
      split at h
      · cases h
      · rename_i e' m' h1
        obtain ⟨L, hL, H⟩ := evR_wp (id := id) hc (stL_ok _ _ _ _ h1)
        exact H ρ w a hr he Q fun ρ' a' w' k1 k2 => hq .nrm e' m' ρ' a' w' L h hL k1 k2
  | .seq c1 c2, e, m, k, h, ρ, w, a, hr, he, Q, hq => by
    unfold evK at h
    refine wp_seq (evK_sound c1 e m _ h ρ w a hr he _ fun x e' m' ρ' a' w' L hk h1 h2 h3 => ?_)
    cases x with
    | nrm => exact evK_sound c2 e' m' k hk ρ' w' a' h2.rep h3 Q (hq.step h1 h2)
    | ex i => exact hq (.ex i) e' m' ρ' a' w' L hk h1 h2 h3
    | ret => exact hq .ret e' m' ρ' a' w' L hk h1 h2 h3
  | .cond c c1 c2, e, m, k, h, ρ, w, a, hr, he, Q, hq => by
    unfold evK at h
    split at h
    case h_2 => cases h
    rename_i v hv
    have hcv := he.eval c v hv
    split at h
    · rename_i t
      simp only [conc, Option.some.injEq] at hcv
      cases t with
      | true => rw [cond_true] at h; exact wp_cond_true hcv.symm (evK_sound c1 e m k h ρ w a hr he Q hq)
      | false => rw [cond_false] at h; exact wp_cond_false hcv.symm (evK_sound c2 e m k h ρ w a hr he Q hq)
    · split at h
      case h_2 => cases h
      rename_i a' _
      rw [Bool.and_eq_true] at h
      simp only [conc, symV, Option.some.injEq] at hcv
      cases hb : decide (a' < ρ.y _) with
      | true => rw [hb] at hcv; exact wp_cond_true hcv.symm (evK_sound c1 e m k h.1 ρ w a hr he Q hq)
      | false => rw [hb] at hcv; exact wp_cond_false hcv.symm (evK_sound c2 e m k h.2 ρ w a hr he Q hq)
    · cases h
  | .block id b, e, m, k, h, ρ, w, a, hr, he, Q, hq => by
    unfold evK at h
    refine wp_block (evK_sound b e m _ h ρ w a hr he _ fun x e' m' ρ' a' w' L hk h1 h2 h3 => ?_)
    cases x with
    | nrm => exact hq .nrm e' m' ρ' a' w' L hk h1 h2 h3
    | ret => exact hq .ret e' m' ρ' a' w' L hk h1 h2 h3
    | ex i =>
      simp only at hk
      by_cases hi : i = id
      · subst hi
        rw [show Nat.beq i i = true by simp, cond_true] at hk
        have := hq .nrm e' m' ρ' a' w' L hk h1 h2 h3
        simpa [AExit.conc, Exit.inBlock] using this
      · rw [show Nat.beq i id = false by rw [← Bool.not_eq_true, Nat.beq_eq]; exact hi, cond_false] at hk
        have := hq (.ex i) e' m' ρ' a' w' L hk h1 h2 h3
        simpa [AExit.conc, Exit.inBlock, hi] using this
  | .loop b, e, m, k, h, ρ, w, a, hr, he, Q, hq => by
    unfold evK at h
    obtain ⟨N, H⟩ := hl
    exact wp_loop_rounds N (H b e m k h ρ w a hr he Q hq)
  | .scope b, e, m, k, h, ρ, w, a, hr, he, Q, hq => by
    unfold evK at h
    refine wp_scope_straight (evK_sound b e m k h ρ w a hr he _ fun x e' m' ρ' a' w' L hk h1 h2 h3 => ?_)
    have := hq x e' m' ρ' a' w' L hk h1 h2 h3
    cases x <;> exact this
  | .rangeFunc _ _ _ _, _, _, _, h, _, _, _, _, _, _, _ => by simp [evK] at h
  | .goto _, _, _, _, h, _, _, _, _, _, _, _ => by simp [evK] at h
  | .refuse _, _, _, _, h, _, _, _, _, _, _, _ => by simp [evK] at h
end
section
variable (P : Program) (cx : Ctx) (n : Nat)
def lpN : Nat → Code → Tr AV → Mem → Kont → Bool
  | 0 => fun _ _ _ _ => false
  | f + 1 => fun b e m k => evK P cx n (lpN f) b e m fun x e' m' => match x with
    | .nrm => lpN f b e' m' k
    | .ex i => k (.ex i) e' m'
    | .ret => k .ret e' m'
end
theorem lpN_rounds {P : Program} (hm : P.follows .mixedOrders = true) {cx : Ctx} (hc : CallSound P cx.call) {n : Nat} : ∀ f b e m k, lpN P cx n f b e m k = true → ∀ ρ w a, Rep ρ m w → EnvOK ρ n e a → ∀ Q, After n k ρ m w Q → Code.rounds P b Q f a w
  | 0, b, e, m, k, h => by simp [lpN] at h
  | f + 1, b, e, m, k, h => fun ρ w a hr he Q hq => by
    have ih := lpN_rounds hm hc (n := n) f
    have h : evK P cx n (lpN P cx n f) b e m (fun x e' m' => match x with
      | .nrm => lpN P cx n f b e' m' k
      | .ex i => k (.ex i) e' m'
      | .ret => k .ret e' m') = true := h
    rw [rounds_succ]
    refine evK_sound hm hc ⟨f, ih⟩ b e m _ h ρ w a hr he _ fun x e' m' ρ' a' w' L hk h1 h2 h3 => ?_
    cases x with
    | nrm => exact ih b e' m' k hk ρ' w' a' h2.rep h3 Q (hq.step h1 h2)
    | ex i => exact hq (.ex i) e' m' ρ' a' w' L hk h1 h2 h3
    | ret => exact hq .ret e' m' ρ' a' w' L hk h1 h2 h3
/-- A function that yields true, each way. -/
def trueK (P : Program) (fn : Func) : Kont := fun x e m => match x with
  | .ex _ => false
  | _ => match resultsA P m e fn.results.toList with
    | some [v] => (match v with | .bool b => b | _ => false)
    | _ => false
def runK (P : Program) (cx : Ctx) (fn : Func) (c : Code) (args : List AV) : Bool :=
  Nat.ble args.length fn.ntmps && evK P cx fn.ntmps (lpN P cx fn.ntmps 1000) c (initE args 0 .nil) Mem.empty (trueK P fn)
theorem runK_ok {P : Program} (hm : P.follows .mixedOrders = true) {cx : Ctx} (hc : CallSound P cx.call) {g : FuncId} {fn : Func} {c : Code} (hg : P.funcs[g]? = some fn) (hb : fn.body = some c) {args : List AV} (h : runK P cx fn c args = true)
    {xs : List Value} (y : Nat → Int) (hxs : ∀ ρ : Env, ρ.y = y → concL ρ args = some xs) (w : World) (hw : base.ok w) : Calls P g xs.toArray w fun e w' => e = .returned (.bool true) ∧ Below w.heap.size w w' := by
  unfold runK at h
  rw [Bool.and_eq_true, Nat.ble_eq] at h
  obtain ⟨hle, h⟩ := h
  have hr0 := Rep.empty y hw
  have hx0 := hxs ⟨fun _ => none, fun _ => 0, y⟩ rfl
  have hlen := concL_length hx0
  refine calls_of_wp hg hb ?_
  refine evK_sound hm hc ⟨1000, lpN_rounds hm hc 1000⟩ c _ _ _ h ⟨fun _ => none, fun _ => 0, y⟩ w _ hr0 ⟨rfl, by simp only [Array.size_append, List.size_toArray, Array.size_replicate]; omega, fun s v hv => ?_⟩ _ fun x e' m' ρ' a' w' L hk h1 h2 h3 => ?_
  · rw [initE_get] at hv
    simp only [Nat.not_lt_zero, if_false, Nat.sub_zero, Tr.get_nil] at hv
    split at hv
    · rename_i b hb'
      cases hv
      obtain ⟨z, y1, y2⟩ := concL_get hx0 hb'
      refine ⟨z, ?_, y2⟩
      have := (List.getElem?_eq_some_iff.1 y1).1
      rw [Array.getElem?_append_left (by simpa using this)]
      simpa using y1
    · cases hv
  · have fin : (match resultsA P m' e' fn.results.toList with
        | some [v] => (match v with | .bool b => b | _ => false)
        | _ => false) = true → ∃ v, (results fn a'.tmps).run P w' = .ok v w' ∧ (Ending.returned v = .returned (.bool true) ∧ Below w.heap.size w w') := by
      intro hk
      split at hk
      case h_2 => cases hk
      rename_i v hv
      split at hk
      case h_2 => cases hk
      subst hk
      obtain ⟨vs, v1, v2⟩ := resultsA_ok (P := P) h2.rep h3 _ _ hv
      obtain ⟨z, l, hz, hl, rfl⟩ := concL_cons v1
      simp only [concL, Option.some.injEq] at hl
      subst hl
      simp only [conc, Option.some.injEq] at hz
      subst hz
      refine ⟨.bool true, ?_, rfl, h2.os, h2.tape, h2.output, h2.size, fun i hi => h2.frame i hi fun _ _ e => by cases e⟩
      rw [results_eq, Array.mapM_eq_mapM_toList]
      simp only [Sem.run_bind, Sem.run_map, v2, Result.andThen_ok, Sem.run_pure]
      rfl
    cases x with
    | ex i => cases hk
    | nrm => obtain ⟨v, f1, f2⟩ := fin hk; exact ⟨h3.defers, v, f1, f2⟩
    | ret => obtain ⟨v, f1, f2⟩ := fin hk; exact ⟨h3.defers, v, f1, f2⟩
end
end Ev
end Go.Proofs.YtelopbcbmckbcaaGreatDoor

/- The evaluator, part 13: drawn regions, the end of the proof; control; loops; functions. No condition. -/
import Derived.Test.YtmolojjhnbchbaaGreatDoorEv12
set_option linter.all false
namespace Go.Proofs.YtmolojjhnbchbaaGreatDoor
open Go.RowKit

namespace Ev
noncomputable section

section
variable {P : Program} {call : FuncId → List AV → Mem → Option (AV × Mem)} {n : Nat} {ops : Array Oper} {E : Nat → Tr AV} {M : Nat → Mem} {V : Nat → AV} {K : Nat → DK}

def inS (listed : Array Bool) (i : Nat) : Bool := listed.getD i false
theorem inS_set {listed : Array Bool} {i : Nat} (hi : i < listed.size) : inS (listed.setIfInBounds i true) = addS (inS listed) i := by
  funext l
  unfold inS addS
  by_cases h : l = i
  · subst h
    simp [Array.getD_eq_getD_getElem?, hi]
  · simp [Array.getD_eq_getD_getElem?, Array.getElem?_setIfInBounds_ne (Ne.symm h), h]
theorem inS_lt {listed : Array Bool} {i : Nat} (h : inS listed i = true) : i < listed.size := by
  unfold inS at h
  rcases Nat.lt_or_ge i listed.size with q | q
  · exact q
  · simp [Array.getD_eq_getD_getElem?, Array.getElem?_eq_none q] at h
/-- Nothing is due: all is done. -/
theorem all_of_ready (h : Lex P call n ops E M V K) {listed : Array Bool} (hsz : listed.size = ops.size) (hr : Region.ready .any ops listed = []) : ∀ i, i < ops.size → inS listed i = true := by
  intro i
  induction i using Nat.strongRecOn with
  | _ i ih =>
    intro hi
    cases hs : inS listed i with
    | true => rfl
    | false =>
      have ho : ops[i]? = some ops[i] := Array.getElem?_eq_getElem hi
      have : i ∈ Region.ready .any ops listed := mem_ready.2 ⟨by
        unfold inS at hs
        simp [Array.getD_eq_getD_getElem?, hsz, hi] at hs ⊢
        exact hs, _, ho, fun e he hb => ih e.on (h.back i _ ho e he hb) (by have := h.back i _ ho e he hb; omega)⟩
      rw [hr] at this
      cases this
theorem inv_end (h : Lex P call n ops E M V K) (hc : CallSound P call) {ρ0 : Env} {w0 : World} {S : Nat → Bool} {a : Act} {w : World} (hall : ∀ i, i < ops.size → S i = true) (hI : Inv P n ops E M V K ρ0 w0 S a w) (hw0 : base.ok w0) :
    ∃ ρ L, Stp ρ0 (M 0) w0 ρ (M ops.size) w L ∧ Lg (M 0) (M ops.size) L ∧ EnvOK ρ n (E ops.size) a := by
  obtain ⟨⟨ρ1, t1, L, G, W, hA1⟩, hdef, hsz⟩ := hI
  obtain ⟨ρ, t, hA, hstop⟩ := At.far h hc hw0 _ ρ1 t1 (Nat.le_refl _) hA1
  have hte : t = ops.size := by
    rcases Nat.lt_or_ge t ops.size with q | q
    · have := (hstop q).2; rw [hall t q] at this; cases this
    · have := hA.le; omega
  subst hte
  refine ⟨ρ, L, hA.stp, hA.lg, hdef, hsz, fun s v hv => ?_⟩
  obtain ⟨e1, e2⟩ := h.env s ops.size (Nat.le_refl _)
  rcases lastW_or (ops := ops) (fun l => decide (l < ops.size)) s with ⟨j, hj⟩ | hn
  · rw [e1 j hj] at hv
    cases hv
    have hjl : j < ops.size := by simpa using hj.here
    obtain ⟨x, x1, _, x3⟩ := hA.last s j ⟨hall j hjl, hj.dst, fun l o _ ho hd => hj.last l o (by simpa using (Array.getElem?_eq_some_iff.1 ho).1) ho hd⟩
    exact ⟨x, x1, x3 fun q => by omega⟩
  · rw [e2 hn] at hv
    exact hA.no s v (fun l o _ ho hd => hn l o (by simpa using (Array.getElem?_eq_some_iff.1 ho).1) ho hd) hv
def left (listed : Array Bool) : Nat := (List.range listed.size).countP fun i => !(inS listed i)
theorem left_set {listed : Array Bool} {i : Nat} (hi : i < listed.size) (hn : inS listed i = false) : left (listed.setIfInBounds i true) < left listed := by
  unfold left
  rw [Array.size_setIfInBounds, inS_set hi]
  have key : ∀ l : List Nat, (l.countP fun j => !(addS (inS listed) i j)) ≤ (l.countP fun j => !(inS listed j)) ∧ (i ∈ l → (l.countP fun j => !(addS (inS listed) i j)) < (l.countP fun j => !(inS listed j))) := by
    intro l
    induction l with
    | nil => simp
    | cons j l ih =>
      simp only [List.countP_cons]
      have hle : (if (!(addS (inS listed) i j)) = true then 1 else 0) ≤ (if (!(inS listed j)) = true then 1 else 0) := by
        unfold addS
        cases inS listed j <;> by_cases h : j = i <;> simp [h]
      refine ⟨by omega, fun hm => ?_⟩
      rcases List.mem_cons.1 hm with rfl | hm
      · have h1 : addS (inS listed) i i = true := by simp [addS]
        have h2 : (!(inS listed i)) = true := by rw [hn]; rfl
        rw [h1, h2]
        simp
        omega
      · have := ih.2 hm; omega
  exact (key _).2 (List.mem_range.2 hi)
theorem inv_any (h : Lex P call n ops E M V K) (hc : CallSound P call) {ρ0 : Env} {w0 : World} {Q : Exit → Act → World → Prop}
    (hQ : ∀ ρ L a w, Stp ρ0 (M 0) w0 ρ (M ops.size) w L → Lg (M 0) (M ops.size) L → EnvOK ρ n (E ops.size) a → Q .normal a w) (hw0 : base.ok w0) :
    ∀ (fuel : Nat) (listed : Array Bool) (a : Act) (w : World), listed.size = ops.size → Closed ops (inS listed) → left listed ≤ fuel → Inv P n ops E M V K ρ0 w0 (inS listed) a w → wpAny P .any ops Q fuel listed a w := by
  have fin : ∀ (listed : Array Bool) a w, (∀ i, i < ops.size → inS listed i = true) → Inv P n ops E M V K ρ0 w0 (inS listed) a w → Q .normal a w := fun listed a w hall hI => by
    obtain ⟨ρ, L, h1, h2, h3⟩ := inv_end h hc hall hI hw0
    exact hQ ρ L a w h1 h2 h3
  intro fuel
  induction fuel with
  | zero =>
    intro listed a w hsz hcl hl hI
    have hall : ∀ i, i < ops.size → inS listed i = true := fun i hi => by
      cases hs : inS listed i with
      | true => rfl
      | false => have := left_set (by omega) hs; omega
    refine ⟨?_, fin listed a w hall hI⟩
    cases hr : Region.ready .any ops listed with
    | nil => rfl
    | cons i r =>
      have hi : i ∈ Region.ready .any ops listed := by rw [hr]; exact List.mem_cons_self ..
      obtain ⟨q1, oi, q2, _⟩ := mem_ready.1 hi
      have hil := (Array.getElem?_eq_some_iff.1 q2).1
      have := hall i hil
      unfold inS at this
      simp [Array.getD_eq_getD_getElem?, hsz, hil] at this q1
      rw [this] at q1; cases q1
  | succ fuel ih =>
    intro listed a w hsz hcl hl hI
    refine ⟨fun hr => fin listed a w (all_of_ready h hsz hr) hI, fun i hi => ?_⟩
    obtain ⟨q1, oi, q2, q3⟩ := mem_ready.1 hi
    have hil := (Array.getElem?_eq_some_iff.1 q2).1
    have hn : inS listed i = false := by
      unfold inS
      simp [Array.getD_eq_getD_getElem?, hsz, hil] at q1 ⊢
      exact q1
    have hd : Due (inS listed) oi := fun e he hb => q3 e he hb
    refine wpOp_mono (fun a' w' hI' => ?_) (inv_step h hc hcl (fun i hi => by have := inS_lt hi; omega) hI hw0 q2 hn hd Q)
    refine ih _ a' w' (by simpa using hsz) ?_ (by have := left_set (by omega) hn; omega) (by rw [inS_set (by omega)]; exact hI')
    rw [inS_set (by omega)]
    intro j o ho hs e he hb
    simp only [addS, Bool.or_eq_true, decide_eq_true_eq] at hs ⊢
    rcases hs with rfl | hs
    · rw [q2] at ho; cases ho; exact .inr (hd e he hb)
    · exact .inr (hcl j o ho hs e he hb)
end
/-- A DRAWN REGION. -/
theorem evD_wp {P : Program} {call : FuncId → List AV → Mem → Option (AV × Mem)} (hm : P.follows .mixedOrders = true) (hc : CallSound P call) {n id : Nat} {ops : Array Oper} {e e' : Tr AV} {m m' : Mem} (h : evD P call n ops e m = some (e', m')) :
    ∃ L, Lg m m' L ∧ ∀ ρ w a, Rep ρ m w → EnvOK ρ n e a → ∀ Q : Exit → Act → World → Prop, (∀ ρ' a' w', Stp ρ m w ρ' m' w' L → EnvOK ρ' n e' a' → Q .normal a' w') → (Code.region id ops true).wp P Q a w := by
  obtain ⟨E, M, V, K, rfl, rfl, rfl, rfl, hlex⟩ := evD_lex h
  have hgrow : ∀ i, i ≤ ops.size → Grows (M 0) (M i) := by
    intro i
    induction i with
    | zero => intro _; exact Grows.refl _
    | succ i ih =>
      intro hi
      have := hlex.mem hc (i := i) (by omega)
      refine (ih (by omega)).trans ?_
      cases hk : K i with
      | ef nx lg => rw [hk] at this; exact ⟨_, this.2⟩
      | al nx => rw [hk] at this; obtain ⟨_, b, q⟩ := this; rw [q]; exact Grows.new _ _
      | pu => rw [hk] at this; rw [show M (i + 1) = M i from this]; exact Grows.refl _
      | ld j => rw [hk] at this; rw [show M (i + 1) = M i from this]; exact Grows.refl _
  obtain ⟨L, hL⟩ := hgrow ops.size (Nat.le_refl _)
  refine ⟨L, hL, fun ρ w a hr he Q hq => wp_region_any hm ?_⟩
  have hfalse : ∀ i, inS (Array.replicate ops.size false) i = false := fun i => by
    unfold inS
    rcases Nat.lt_or_ge i ops.size with q | q <;> simp [Array.getD_eq_getD_getElem?, q]
  refine inv_any hlex hc (ρ0 := ρ) (w0 := w) (fun ρ' L' a' w' h1 h2 h3 => ?_) hr.ok ops.size _ a _ (by simp) (fun j o _ hs => by rw [hfalse] at hs; cases hs) ?_ ⟨⟨ρ, 0, [], fun _ => 0, fun _ => undef, Nat.zero_le _, fun i _ _ => ?_, fun i _ _ q => absurd q (Nat.not_lt_zero _), ?_, Lg.refl _, fun i _ _ _ q => by (rw [hfalse] at q; cases q), fun i j _ _ _ _ _ _ q => by (rw [hfalse] at q; cases q), fun s i hl => ?_, fun s v _ hv => he.get s v hv⟩, he.defers, he.size⟩
  · cases hL.unique h2; exact hq ρ' a' w' h1 h3
  · unfold left
    refine Nat.le_trans (List.countP_le_length ..) ?_
    simp
  · rw [hfalse]; simp
  · exact Stp.drawn hr _
  · have := hl.here; rw [hfalse] at this; cases this
end
end Ev
end Go.Proofs.YtmolojjhnbchbaaGreatDoor

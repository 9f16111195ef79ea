/- The evaluator made quick for the kernel, part 2: regions, control, functions. No condition. -/
import Derived.Test.YtmolojjhnbchbaaGreatDoorFast1
set_option linter.all false
namespace Go.Proofs.YtmolojjhnbchbaaGreatDoor
open Go.RowKit

namespace Ev
noncomputable section

abbrev StepT := CallT → Tr AV → Mem → Option (Tr AV × Mem)
abbrev StepDT := CallT → Tr AV → Mem → Option (List DK × Tr AV × Mem)
section
variable (P : Program)
def stPut (n : Nat) (d : Option Tmp) : Bx (Tr AV → AV → Option (Tr AV)) := match d with
  | none => ⟨fun e _ => some e⟩
  | some d => bif Nat.blt d n then (match setC (Tr.path d) with | ⟨k⟩ => ⟨fun e v => some (k e (some v))⟩) else ⟨fun _ _ => none⟩
theorem stPut_eq (n : Nat) (d : Option Tmp) (e : Tr AV) (v : AV) : (stPut n d).run e v = putE n e d v := by
  cases d with
  | none => rfl
  | some d =>
    unfold stPut putE
    simp only
    cases Nat.blt d n with
    | false => rfl
    | true => exact congrArg some (setC_eq (Tr.path d) e (some v))
def stL (n : Nat) (ops : Array Oper) : List Oper → Bx StepT
  | [] => ⟨fun _ e m => some (e, m)⟩
  | o :: l => match o.guard with
    | none => ⟨fun call e m => ob ((stOp P o.op).run call e m) fun r => match r with | (v, m', _) => ob ((stPut n o.dst).run e v) fun e' => (stL n ops l).run call e' m'⟩
    | some _ => ⟨fun call e m => ob (wantedA ops o e) fun b => bif b then (ob ((stOp P o.op).run call e m) fun r => match r with | (v, m', _) => ob ((stPut n o.dst).run e v) fun e' => (stL n ops l).run call e' m')
        else ob ((stPut n o.dst).run e (.tuple [])) fun e' => (stL n ops l).run call e' m⟩
def stDL (n : Nat) (ops : Array Oper) : List Oper → Bx StepDT
  | [] => ⟨fun _ e m => some ([], e, m)⟩
  | o :: l => match o.guard with
    | none => ⟨fun call e m => ob ((stOp P o.op).run call e m) fun r => match r with | (v, m', k) => ob ((stPut n o.dst).run e v) fun e' => ob ((stDL n ops l).run call e' m') fun q => match q with | (ks, r) => some (k :: ks, r)⟩
    | some _ => ⟨fun call e m => ob (wantedA ops o e) fun b => bif b then (ob ((stOp P o.op).run call e m) fun r => match r with | (v, m', k) => ob ((stPut n o.dst).run e v) fun e' => ob ((stDL n ops l).run call e' m') fun q => match q with | (ks, r) => some (k :: ks, r))
        else ob ((stPut n o.dst).run e (.tuple [])) fun e' => ob ((stDL n ops l).run call e' m) fun q => match q with | (ks, r) => some (.pu :: ks, r)⟩
end
section
variable {P : Program}
theorem opStep_of_D {call : CallT} {op : Op} {f : Operand → Option AV} {m m' : Mem} {v : AV} {k : DK} (h : opStepD P call op f m = some (v, m', k)) : opStep P call op f m = some (v, m') := by
  unfold opStepD at h
  cases hp : pop P op f with
  | some u => rw [hp] at h; cases h; simp [opStep, hp]
  | none =>
    rw [hp] at h
    simp only at h
    cases hl : lop P m op f with
    | some r => rw [hl] at h; cases h; simp [opStep, hp, hl]
    | none =>
      rw [hl] at h
      simp only at h
      cases hn : isNew op with
      | true =>
        rw [hn, cond_true] at h
        split at h
        · rename_i he; cases h; simp [opStep, hp, hl, he]
        · cases h
      | false =>
        rw [hn, cond_false] at h
        split at h
        · rename_i he; cases h; exact he
        · cases h
theorem evalO_func (e : Tr AV) : ∀ g, evalO e (.func g) = some (.func (.func g) [] []) := fun _ => rfl
theorem stL_ok {call : CallT} {n : Nat} {ops : Array Oper} : ∀ (l : List Oper) (e : Tr AV) (m : Mem) (r : Tr AV × Mem), (stL P n ops l).run call e m = some r → evL P call n ops l e m = some r
  | [], e, m, r, h => h
  | o :: l, e, m, r, h => by
    have body : (ob ((stOp P o.op).run call e m) fun r => match r with | (v, m', _) => ob ((stPut n o.dst).run e v) fun e' => (stL P n ops l).run call e' m') = some r →
        (match opStep P call o.op (evalO e) m with
          | none => none
          | some (v, m') => match putE n e o.dst v with
            | none => none
            | some e' => evL P call n ops l e' m') = some r := by
      intro h
      obtain ⟨⟨v, m', k⟩, h1, h⟩ := ob_some.1 h
      simp only at h
      obtain ⟨e', h2, h⟩ := ob_some.1 h
      rw [stPut_eq] at h2
      rw [opStep_of_D (stOp_ok h1)]
      simp only [h2]
      exact stL_ok l e' m' r h
    unfold stL at h
    unfold evL
    cases hg : o.guard with
    | none =>
      rw [hg] at h
      have hw : wantedA ops o e = some true := by unfold wantedA; rw [hg]
      rw [hw]
      exact body h
    | some g =>
      rw [hg] at h
      obtain ⟨b, hb, h⟩ := ob_some.1 h
      rw [hb]
      cases b with
      | true => exact body h
      | false =>
        simp only [cond_false] at h
        obtain ⟨e', h2, h⟩ := ob_some.1 h
        rw [stPut_eq] at h2
        simp only [h2]
        exact stL_ok l e' m r h
theorem stDL_ok {call : CallT} {n : Nat} {ops : Array Oper} : ∀ (l : List Oper) (e : Tr AV) (m : Mem) (r : List DK × Tr AV × Mem), (stDL P n ops l).run call e m = some r → evDL P call n ops l e m = some r
  | [], e, m, r, h => h
  | o :: l, e, m, r, h => by
    have body : (ob ((stOp P o.op).run call e m) fun r => match r with | (v, m', k) => ob ((stPut n o.dst).run e v) fun e' => ob ((stDL P n ops l).run call e' m') fun q => match q with | (ks, r) => some (k :: ks, r)) = some r →
        (match opStepD P call o.op (evalO e) m with
          | none => none
          | some (v, m', k) => match putE n e o.dst v with
            | none => none
            | some e' => match evDL P call n ops l e' m' with
              | none => none
              | some (ks, r) => some (k :: ks, r)) = some r := by
      intro h
      obtain ⟨⟨v, m', k⟩, h1, h⟩ := ob_some.1 h
      simp only at h
      obtain ⟨e', h2, h⟩ := ob_some.1 h
      obtain ⟨⟨ks, q⟩, h3, h⟩ := ob_some.1 h
      rw [stPut_eq] at h2
      rw [stOp_ok h1]
      simp only [h2, stDL_ok l e' m' _ h3]
      exact h
    unfold stDL at h
    unfold evDL
    cases hg : o.guard with
    | none =>
      rw [hg] at h
      have hw : wantedA ops o e = some true := by unfold wantedA; rw [hg]
      rw [hw]
      exact body h
    | some g =>
      rw [hg] at h
      obtain ⟨b, hb, h⟩ := ob_some.1 h
      rw [hb]
      cases b with
      | true => exact body h
      | false =>
        simp only [cond_false] at h
        obtain ⟨e', h2, h⟩ := ob_some.1 h
        obtain ⟨⟨ks, q⟩, h3, h⟩ := ob_some.1 h
        rw [stPut_eq] at h2
        simp only [h2, stDL_ok l e' m _ h3]
        exact h
end

/-- What an operation does at most: 0 none, 1 looks at memory, 2 more. -/
def clsO (op : Op) : Nat := match op with
  | .move _ => 0
  | .assign _ => 0
  | .binOp _ _ _ _ _ => 0
  | .unOp _ _ _ => 0
  | .field _ _ _ => 0
  | .fieldAddr _ _ _ => 0
  | .indexAddr _ _ _ => 0
  | .index _ _ _ => 0
  | .extract _ _ => 0
  | .pick _ _ _ => 0
  | .makeInterface _ _ => 0
  | .build _ _ => 0
  | .makeFunc _ _ _ => 0
  | .nilCheck _ => 0
  | .slice _ _ _ _ _ => 0
  | .load _ _ => 1
  | .lookup _ _ _ _ => 1
  | _ => 2
/-- A kind that fits. -/
structure FitsK (op : Op) (k : DK) : Prop where
  zero : clsO op = 0 → k = .pu
  one : clsO op = 1 → k = .pu ∨ ∃ i, k = .ld i
  new : k.isAl = true → isNew op = true
theorem FitsK.pu (op : Op) : FitsK op .pu := ⟨fun _ => rfl, fun _ => .inl rfl, fun h => (by cases h)⟩
theorem fitsK {P : Program} {call : CallT} {op : Op} {f : Operand → Option AV} {m m' : Mem} {v : AV} {k : DK} (h : opStepD P call op f m = some (v, m', k)) : FitsK op k := by
  unfold opStepD at h
  cases hp : pop P op f with
  | some u => rw [hp] at h; cases h; exact FitsK.pu op
  | none =>
    rw [hp] at h
    simp only at h
    cases hl : lop P m op f with
    | some r =>
      rw [hl] at h
      cases h
      refine ⟨fun h0 => ?_, fun _ => .inr ⟨_, rfl⟩, fun h => (by cases h)⟩
      cases op <;> first | (simp [lop] at hl; done) | (simp [clsO] at h0; done)
    | none =>
      rw [hl] at h
      simp only at h
      cases hn : isNew op with
      | true =>
        rw [hn, cond_true] at h
        refine ⟨fun h0 => ?_, fun h0 => ?_, fun _ => hn⟩ <;> cases op <;> first | (simp [isNew] at hn; done) | (simp [clsO] at h0; done)
      | false =>
        rw [hn, cond_false] at h
        split at h
        · rename_i he
          refine ⟨fun h0 => ?_, fun h0 => ?_, fun h1 => ?_⟩
          · cases op <;> first | (simp [clsO] at h0; done) | (simp [opStep, hp, hl, eop, callStep] at he; done)
          · cases op <;> first | (simp [clsO] at h0; done) | (simp [opStep, hp, hl, eop, callStep] at he; done)
          · cases h; cases h1
        · cases h
theorem evDL_fits {P : Program} {call : CallT} {n : Nat} {ops : Array Oper} : ∀ (l : List Oper) (e : Tr AV) (m : Mem) (ks : List DK) (r : Tr AV × Mem), evDL P call n ops l e m = some (ks, r) → ks.length = l.length ∧ ∀ t ∈ l.zip ks, FitsK t.1.op t.2
  | [], e, m, ks, r, h => by cases h; exact ⟨rfl, fun t ht => by simp at ht⟩
  | o :: l, e, m, ks, r, h => by
    unfold evDL at h
    have fin : ∀ (k : DK) (e' : Tr AV) (m' : Mem), FitsK o.op k → (match evDL P call n ops l e' m' with | none => none | some (ks, r) => some (k :: ks, r)) = some (ks, r) → ks.length = (o :: l).length ∧ ∀ t ∈ (o :: l).zip ks, FitsK t.1.op t.2 := by
      intro k e' m' hk h
      split at h
      · cases h
      · rename_i ks' r' h'
        cases h
        obtain ⟨h1, h2⟩ := evDL_fits l _ _ _ _ h'
        refine ⟨by simp [h1], fun t ht => ?_⟩
        rw [List.zip_cons_cons, List.mem_cons] at ht
        rcases ht with rfl | ht
        · exact hk
        · exact h2 t ht
    split at h
    · cases h
    · split at h
      · cases h
      · exact fin _ _ _ (FitsK.pu _) h
    · split at h
      · cases h
      · rename_i v m' k hs
        split at h
        · cases h
        · exact fin _ _ _ (fitsK hs) h

/- A drawn region's check, as far as the text alone tells it. -/
def consF (r : List Bool) : List Bool := match r with | [] => [] | b :: r => false :: b :: r
def skipB (c c' : Nat) : Bool := Nat.beq c 0 || Nat.beq c' 0 || (Nat.beq c 1 && Nat.beq c' 1)
def rowS (ops : Array Oper) (o : Oper) (i : Nat) : List (Oper × Nat) → Option (List Bool)
  | [] => some []
  | (o', a) :: l => match rowS ops o i l with
    | none => none
    | some r => bif Nat.testBit a i then some (consF r) else bif o.apart ops o' then (bif skipB (clsO o.op) (clsO o'.op) then some (consF r) else some (true :: r)) else none
def consN (r : List Bool) (q : List (List Bool)) : List (List Bool) := match r, q with | [], [] => [] | r, q => r :: q
def rowsS (ops : Array Oper) : Nat → List (Oper × Nat) → Option (List (List Bool))
  | _, [] => some []
  | i, (o, _) :: l => match rowS ops o i l with
    | none => none
    | some r => match rowsS ops (i + 1) l with
      | none => none
      | some q => some (consN r q)
def chk1 (k : DK) : List Bool → List DK → Bool
  | b :: r, k' :: ks => (bif b then kindsOK k k' else true) && chk1 k r ks
  | _, _ => true
def chkM : List (List Bool) → List DK → Bool
  | r :: q, k :: ks => chk1 k r ks && chkM q ks
  | _, _ => true
def newsS : List Nat → Nat → List (Oper × Nat) → Bool
  | _, _, [] => true
  | pre, i, (o, a) :: l => bif Nat.ble (clsO o.op) 1 then newsS pre (i + 1) l else
      (bif isNew o.op then pre.all (fun p => Nat.testBit a p || l.all fun x => !(Nat.testBit x.2 i) || Nat.testBit x.2 p) else true) && newsS (i :: pre) (i + 1) l
def statD (ops : Array Oper) : Option (List (List Bool)) :=
  bif backB ops.toList 0 && newsS [] 0 (ops.toList.zip (ancL ops.toList [])) then rowsS ops 0 (ops.toList.zip (ancL ops.toList [])) else none

def oa (t : Oper × DK × Nat) : Oper × Nat := (t.1, t.2.2)
def kk (t : Oper × DK × Nat) : DK := t.2.1
theorem chk1_consF {k k' : DK} {r : List Bool} {ks : List DK} (h : chk1 k (consF r) (k' :: ks) = true) : chk1 k r ks = true := by
  cases r with
  | nil => rfl
  | cons b r => simpa [consF, chk1] using h
theorem kindsOK_pu (k : DK) : kindsOK .pu k = true ∧ kindsOK k .pu = true := by cases k <;> exact ⟨rfl, rfl⟩
theorem skip_ok {op op' : Op} {k k' : DK} (h : skipB (clsO op) (clsO op') = true) (hk : FitsK op k) (hk' : FitsK op' k') : kindsOK k k' = true := by
  unfold skipB at h
  simp only [Bool.or_eq_true, Bool.and_eq_true, Nat.beq_eq] at h
  rcases h with (h | h) | ⟨h, h'⟩
  · rw [hk.zero h]; exact (kindsOK_pu _).1
  · rw [hk'.zero h]; exact (kindsOK_pu _).2
  · rcases hk.one h with rfl | ⟨i, rfl⟩
    · exact (kindsOK_pu _).1
    · rcases hk'.one h' with rfl | ⟨j, rfl⟩ <;> rfl
theorem rowS_ok {ops : Array Oper} {o : Oper} {k : DK} {i : Nat} (hk : FitsK o.op k) : ∀ (T : List (Oper × DK × Nat)) (r : List Bool), (∀ t ∈ T, FitsK t.1.op t.2.1) → rowS ops o i (T.map oa) = some r → chk1 k r (T.map kk) = true → pairsB ops o k i T = true
  | [], _, _, _, _ => rfl
  | (o', k', a) :: T, r, hT, h, hc => by
    rw [List.map_cons] at h hc
    have h : (match rowS ops o i (T.map oa) with
      | none => none
      | some r => bif Nat.testBit a i then some (consF r) else bif o.apart ops o' then (bif skipB (clsO o.op) (clsO o'.op) then some (consF r) else some (true :: r)) else none) = some r := h
    have hc : chk1 k r (k' :: T.map kk) = true := hc
    have hk' : FitsK o'.op k' := hT _ (List.mem_cons_self ..)
    have hT' : ∀ t ∈ T, FitsK t.1.op t.2.1 := fun t ht => hT t (List.mem_cons_of_mem _ ht)
    unfold pairsB
    rw [Bool.and_eq_true]
    split at h
    · cases h
    · rename_i r' hr'
      cases ht : Nat.testBit a i with
      | true =>
        rw [ht, cond_true] at h
        cases h
        exact ⟨by simp, rowS_ok hk T r' hT' hr' (chk1_consF hc)⟩
      | false =>
        rw [ht, cond_false] at h
        cases ha : o.apart ops o' with
        | false => rw [ha, cond_false] at h; cases h
        | true =>
          rw [ha, cond_true] at h
          cases hs : skipB (clsO o.op) (clsO o'.op) with
          | true =>
            rw [hs, cond_true] at h
            cases h
            exact ⟨by simp [skip_ok hs hk hk'], rowS_ok hk T r' hT' hr' (chk1_consF hc)⟩
          | false =>
            rw [hs, cond_false] at h
            cases h
            simp only [chk1, cond_true, Bool.and_eq_true] at hc
            exact ⟨by simp [hc.1], rowS_ok hk T r' hT' hr' hc.2⟩
theorem chkM_consN {r : List Bool} {q : List (List Bool)} {k : DK} {ks : List DK} (h : chkM (consN r q) (k :: ks) = true) : chk1 k r ks = true ∧ chkM q ks = true := by
  cases r with
  | nil => cases q with
    | nil => exact ⟨rfl, rfl⟩
    | cons r' q => simpa [consN, chkM] using h
  | cons b r => simpa [consN, chkM] using h
theorem rowsS_ok {ops : Array Oper} : ∀ (T : List (Oper × DK × Nat)) (i : Nat) (q : List (List Bool)), (∀ t ∈ T, FitsK t.1.op t.2.1) → rowsS ops i (T.map oa) = some q → chkM q (T.map kk) = true → allPairsB ops i T = true
  | [], _, _, _, _, _ => rfl
  | (o, k, a) :: T, i, q, hT, h, hc => by
    rw [List.map_cons] at h hc
    have h : (match rowS ops o i (T.map oa) with
      | none => none
      | some r => match rowsS ops (i + 1) (T.map oa) with
        | none => none
        | some q => some (consN r q)) = some q := h
    have hT' : ∀ t ∈ T, FitsK t.1.op t.2.1 := fun t ht => hT t (List.mem_cons_of_mem _ ht)
    split at h
    · cases h
    · rename_i r hr
      split at h
      · cases h
      · rename_i q' hq
        cases h
        obtain ⟨c1, c2⟩ := chkM_consN hc
        unfold allPairsB
        rw [rowS_ok (hT _ (List.mem_cons_self ..)) T r hT' hr c1, rowsS_ok T (i + 1) q' hT' hq c2]
        rfl
theorem newsS_ok : ∀ (T : List (Oper × DK × Nat)) (pre pre' : List Nat) (i : Nat), (∀ t ∈ T, FitsK t.1.op t.2.1) → (∀ p ∈ pre, p ∈ pre') → newsS pre' i (T.map oa) = true → newsB pre i T = true
  | [], _, _, _, _, _, _ => rfl
  | (o, k, a) :: T, pre, pre', i, hT, hp, h0 => by
    rw [List.map_cons] at h0
    have h : (bif Nat.ble (clsO o.op) 1 then newsS pre' (i + 1) (T.map oa) else
      (bif isNew o.op then pre'.all (fun p => Nat.testBit a p || (T.map oa).all fun x => !(Nat.testBit x.2 i) || Nat.testBit x.2 p) else true) && newsS (i :: pre') (i + 1) (T.map oa)) = true := h0
    clear h0
    have hT' : ∀ t ∈ T, FitsK t.1.op t.2.1 := fun t ht => hT t (List.mem_cons_of_mem _ ht)
    have hk : FitsK o.op k := hT _ (List.mem_cons_self ..)
    have sub : ∀ p ∈ pre, p ∈ i :: pre' := fun p h => List.mem_cons_of_mem _ (hp p h)
    have sub' : ∀ p ∈ i :: pre, p ∈ i :: pre' := fun p h => by
      rcases List.mem_cons.1 h with rfl | h
      · exact List.mem_cons_self ..
      · exact sub p h
    unfold newsB
    cases hc : Nat.ble (clsO o.op) 1 with
    | true =>
      rw [hc, cond_true] at h
      rw [Nat.ble_eq] at hc
      have h01 : clsO o.op = 0 ∨ clsO o.op = 1 := by omega
      have : k = .pu ∨ ∃ j, k = .ld j := by
        rcases h01 with h0 | h0
        · exact .inl (hk.zero h0)
        · exact hk.one h0
      rcases this with rfl | ⟨j, rfl⟩ <;> exact newsS_ok T pre pre' (i + 1) hT' hp h
    | false =>
      rw [hc, cond_false, Bool.and_eq_true] at h
      cases k with
      | pu => exact newsS_ok T pre _ (i + 1) hT' sub h.2
      | ld j => exact newsS_ok T pre _ (i + 1) hT' sub h.2
      | ef nx lg => exact newsS_ok T _ _ (i + 1) hT' sub' h.2
      | al nx =>
        have h1 := h.1
        rw [hk.new rfl, cond_true, List.all_eq_true] at h1
        simp only [Bool.and_eq_true, List.all_eq_true]
        refine ⟨fun p hp' => ?_, newsS_ok T _ _ (i + 1) hT' sub' h.2⟩
        have := h1 p (hp p hp')
        rw [Bool.or_eq_true] at this ⊢
        refine this.imp id fun h => ?_
        rw [List.all_eq_true] at h ⊢
        intro t ht
        exact h (oa t) (List.mem_map_of_mem ht)
theorem ancL_length : ∀ (l : List Oper) (acc : List Nat), (ancL l acc).length = acc.length + l.length
  | [], acc => by simp [ancL]
  | o :: l, acc => by rw [ancL, ancL_length l]; simp; omega
theorem zip_oa : ∀ (l : List Oper) (ks : List DK) (bs : List Nat), ks.length = l.length → bs.length = l.length → (l.zip (ks.zip bs)).map oa = l.zip bs ∧ (l.zip (ks.zip bs)).map kk = ks ∧ ((∀ t ∈ l.zip ks, FitsK t.1.op t.2) → ∀ t ∈ l.zip (ks.zip bs), FitsK t.1.op t.2.1)
  | [], [], _, _, _ => ⟨by simp, by simp, fun _ t ht => by simp at ht⟩
  | o :: l, k :: ks, a :: bs, h1, h2 => by
    obtain ⟨i1, i2, i3⟩ := zip_oa l ks bs (by simpa using h1) (by simpa using h2)
    refine ⟨by simp [i1, oa], by simp [i2, kk], fun H t ht => ?_⟩
    rw [List.zip_cons_cons, List.zip_cons_cons, List.mem_cons] at ht
    rcases ht with rfl | ht
    · exact H (o, k) (by simp)
    · exact i3 (fun t ht => H t (by rw [List.zip_cons_cons]; exact List.mem_cons_of_mem _ ht)) t ht
  | [], _ :: _, _, h, _ => by simp at h
  | _ :: _, [], _, h, _ => by simp at h
  | _ :: _, _, [], _, h => by simp at h
theorem statD_ok {P : Program} {call : CallT} {n : Nat} {ops : Array Oper} {e e' : Tr AV} {m m' : Mem} {ks : List DK} {q : List (List Bool)} (h : evDL P call n ops ops.toList e m = some (ks, e', m')) (hs : statD ops = some q) (hc : chkM q ks = true) : evD P call n ops e m = some (e', m') := by
  unfold statD at hs
  cases hb : (backB ops.toList 0 && newsS [] 0 (ops.toList.zip (ancL ops.toList []))) with
  | false => rw [hb, cond_false] at hs; cases hs
  | true =>
    rw [hb, cond_true] at hs
    rw [Bool.and_eq_true] at hb
    obtain ⟨f1, f2⟩ := evDL_fits _ _ _ _ _ h
    obtain ⟨z1, z2, z3⟩ := zip_oa ops.toList ks (ancL ops.toList []) f1 (by rw [ancL_length]; simp)
    have hT := z3 f2
    unfold evD
    rw [h]
    simp only
    rw [hb.1, rowsS_ok _ 0 q hT (by rw [z1]; exact hs) (by rw [z2]; exact hc), newsS_ok _ [] [] 0 hT (fun _ h => h) (by rw [z1]; exact hb.2)]
    rfl
section
variable (P : Program)
def stD (n : Nat) (ops : Array Oper) : Bx StepT := match statD ops with
  | none => ⟨fun call e m => evD P call n ops e m⟩
  | some [] => ⟨fun call e m => ob ((stDL P n ops ops.toList).run call e m) fun q => match q with | (_, r) => some r⟩
  | some (r :: q) => ⟨fun call e m => ob ((stDL P n ops ops.toList).run call e m) fun x => match x with | (ks, y) => bif chkM (r :: q) ks then some y else none⟩
theorem stD_ok {call : CallT} {n : Nat} {ops : Array Oper} {e : Tr AV} {m : Mem} {r : Tr AV × Mem} (h : (stD P n ops).run call e m = some r) : evD P call n ops e m = some r := by
  unfold stD at h
  split at h
  · exact h
  · rename_i hs
    obtain ⟨⟨ks, e', m'⟩, h1, h⟩ := ob_some.1 h
    cases h
    exact statD_ok (stDL_ok _ _ _ _ h1) hs (by cases ks <;> rfl)
  · rename_i r0 q hs
    obtain ⟨⟨ks, e', m'⟩, h1, h⟩ := ob_some.1 h
    simp only at h
    cases hc : chkM (r0 :: q) ks with
    | false => rw [hc, cond_false] at h; cases h
    | true =>
      rw [hc, cond_true] at h
      cases h
      exact statD_ok (stDL_ok _ _ _ _ h1) hs hc

abbrev CodeT := Ctx → Tr AV → Mem → Option (AExit × Tr AV × Mem)
def stC (n : Nat) : Code → Bx CodeT
  | .skip => ⟨fun _ e m => some (.nrm, e, m)⟩
  | .label _ => ⟨fun _ e m => some (.nrm, e, m)⟩
  | .region _ ops draw => bif draw then ⟨fun cx e m => ob ((stD P n ops).run cx.call e m) fun q => some (.nrm, q)⟩ else ⟨fun cx e m => ob ((stL P n ops ops.toList).run cx.call e m) fun q => some (.nrm, q)⟩
  | .seq a b => ⟨fun cx e m => ob ((stC n a).run cx e m) fun q => match q with | (x, e', m') => match x with
    | .nrm => (stC n b).run cx e' m'
    | .ex i => some (.ex i, e', m')
    | .ret => some (.ret, e', m')⟩
  | .cond c a b => ⟨fun cx e m => ob ((stO c).run e) fun v => match v with | .bool t => (bif t then (stC n a).run cx e m else (stC n b).run cx e m) | _ => none⟩
  | .block id b => ⟨fun cx e m => ob ((stC n b).run cx e m) fun q => match q with | (x, e', m') => match x with
    | .nrm => some (.nrm, e', m')
    | .ex i => bif Nat.beq i id then some (.nrm, e', m') else some (.ex i, e', m')
    | .ret => some (.ret, e', m')⟩
  | .loop b => ⟨fun cx e m => cx.loop n (keyOf b) b e m⟩
  | .scope b => ⟨fun cx e m => (stC n b).run cx e m⟩
  | .exit i => ⟨fun _ e m => some (.ex i, e, m)⟩
  | .ret => ⟨fun _ e m => some (.ret, e, m)⟩
  | _ => ⟨fun _ _ _ => none⟩
end
section
variable {P : Program}
theorem stC_ok {cx : Ctx} {n : Nat} : ∀ (c : Code) (e : Tr AV) (m : Mem) (r : AExit × Tr AV × Mem), (stC P n c).run cx e m = some r → evC P cx n c e m = some r
  | .skip, _, _, _, h => h
  | .label _, _, _, _, h => h
  | .exit _, _, _, _, h => h
  | .ret, _, _, _, h => h
  | .loop _, _, _, _, h => h
  | .scope b, e, m, r, h => stC_ok b e m r h
  | .region _ ops draw, e, m, r, h => by
    unfold stC at h
    unfold evC
    cases draw with
    | true =>
      obtain ⟨⟨e', m'⟩, h1, h⟩ := ob_some.1 h
      rw [cond_true, stD_ok P h1]
      exact h
    | false =>
      obtain ⟨⟨e', m'⟩, h1, h⟩ := ob_some.1 h
      rw [cond_false, stL_ok _ _ _ _ h1]
      exact h
  | .seq a b, e, m, r, h => by
    unfold stC at h
    unfold evC
    obtain ⟨⟨x, e', m'⟩, h1, h⟩ := ob_some.1 h
    rw [stC_ok a _ _ _ h1]
    simp only at h ⊢
    cases x with
    | nrm => exact stC_ok b _ _ _ h
    | ex i => exact h
    | ret => exact h
  | .cond c a b, e, m, r, h => by
    unfold stC at h
    unfold evC
    obtain ⟨v, h1, h⟩ := ob_some.1 h
    rw [stO_eq] at h1
    rw [h1]
    cases v with
    | bool t => cases t with
      | true => exact stC_ok a _ _ _ h
      | false => exact stC_ok b _ _ _ h
    | _ => cases h
  | .block id b, e, m, r, h => by
    unfold stC at h
    unfold evC
    obtain ⟨⟨x, e', m'⟩, h1, h⟩ := ob_some.1 h
    rw [stC_ok b _ _ _ h1]
    exact h
  | .rangeFunc .., _, _, _, h => by cases h
  | .goto _, _, _, _, h => by cases h
  | .refuse _, _, _, _, h => by cases h
end
section
variable (P : Program)
abbrev FunT := Ctx → List AV → Mem → Option (AV × Mem)
def stF (fn : Func) (c : Code) : Bx FunT := ⟨fun cx args m => bif Nat.ble args.length fn.ntmps then
    ob ((stC P fn.ntmps c).run cx (initE args 0 .nil) m.fresh) fun q => match q with | (x, e, m') => match x with
      | .ex _ => none
      | .nrm => ob (resultsA P m' e fn.results.toList) fun l => gcA m m' (oneOf l)
      | .ret => ob (resultsA P m' e fn.results.toList) fun l => gcA m m' (oneOf l)
  else none⟩
theorem stF_ok {cx : Ctx} {fn : Func} {c : Code} {args : List AV} {m : Mem} {r : AV × Mem} (h : (stF P fn c).run cx args m = some r) : evF P cx fn c args m = some r := by
  have h : (bif Nat.ble args.length fn.ntmps then
    ob ((stC P fn.ntmps c).run cx (initE args 0 .nil) m.fresh) fun q => match q with | (x, e, m') => match x with
      | .ex _ => none
      | .nrm => ob (resultsA P m' e fn.results.toList) fun l => gcA m m' (oneOf l)
      | .ret => ob (resultsA P m' e fn.results.toList) fun l => gcA m m' (oneOf l)
    else none) = some r := h
  unfold evF
  cases hle : Nat.ble args.length fn.ntmps with
  | false => rw [hle] at h; cases h
  | true =>
    rw [hle, cond_true] at h
    rw [cond_true]
    obtain ⟨⟨x, e, m'⟩, h1, h⟩ := ob_some.1 h
    rw [stC_ok _ _ _ _ h1]
    cases x with
    | ex i => cases h
    | nrm => obtain ⟨l, h2, h⟩ := ob_some.1 h; simp only [h2]; exact h
    | ret => obtain ⟨l, h2, h⟩ := ob_some.1 h; simp only [h2]; exact h
variable (tab : FuncId → Option (Func × Code)) (spec : FuncId → List AV → Mem → Option (AV × Mem))
def callS (cx : Ctx) (g : FuncId) (args : List AV) (m : Mem) : Option (AV × Mem) :=
  match spec g args m with
  | some r => some r
  | none => ob (tab g) fun q => match q with | (fn, c) => (stF P fn c).run cx args m
def loopS (cx : Ctx) (n key : Nat) (b : Code) (e : Tr AV) (m : Mem) : Option (AExit × Tr AV × Mem) :=
  ob ((stC P n b).run cx e m) fun q => match q with | (x, e', m') => match x with
    | .nrm => cx.loop n key b e' m'
    | .ex i => some (.ex i, e', m')
    | .ret => some (.ret, e', m')
/-- So many calls one within the other, rounds one behind the other. -/
def cxS : Nat → Ctx
  | 0 => ⟨fun _ _ _ => none, fun _ _ _ _ _ => none⟩
  | k + 1 => ⟨callS P tab spec (cxS k), loopS P (cxS k)⟩
end
theorem cxS_sound {P : Program} {tab : FuncId → Option (Func × Code)} {spec : FuncId → List AV → Mem → Option (AV × Mem)} (hm : P.follows .mixedOrders = true) (ht : TabOK P tab) (hs : CallSound P spec) :
    ∀ k, CallSound P (cxS P tab spec k).call ∧ ∀ n b, LoopOK P (cxS P tab spec k) n b
  | 0 => ⟨fun g args m r m' h => by simp [cxS] at h, fun n b e m x e' m' h => by simp [cxS] at h⟩
  | k + 1 => by
    obtain ⟨ih1, ih2⟩ := cxS_sound hm ht hs k
    refine ⟨fun g args m r m' h => ?_, fun n b e m x e' m' h => ?_⟩
    · have h : callS P tab spec (cxS P tab spec k) g args m = some (r, m') := h
      unfold callS at h
      split at h
      · rename_i q hq; cases h; exact hs g args m r m' hq
      · obtain ⟨⟨fn, c⟩, hq, h⟩ := ob_some.1 h
        obtain ⟨t1, t2, t3⟩ := ht g _ hq
        exact evF_sound hm ih1 t1 t2 t3 (fun b _ => ih2 _ b) (stF_ok P h)
    · have h : loopS P (cxS P tab spec k) n (keyOf b) b e m = some (x, e', m') := h
      obtain ⟨⟨x1, e1, m1⟩, h1, h⟩ := ob_some.1 h
      have hbody := evC_sound hm ih1 b (fun b' _ => ih2 n b') _ _ _ _ _ (stC_ok _ _ _ _ h1)
      simp only at h
      cases x1 with
      | nrm => exact loop_more hbody (ih2 n b _ _ _ _ _ h)
      | ex i => cases h; exact loop_out (fun e => by cases e) hbody
      | ret => cases h; exact loop_out (fun e => by cases e) hbody
end
end Ev
end Go.Proofs.YtmolojjhnbchbaaGreatDoor

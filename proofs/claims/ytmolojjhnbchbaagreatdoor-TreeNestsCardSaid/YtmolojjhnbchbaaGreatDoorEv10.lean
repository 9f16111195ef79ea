/- The evaluator, part 10: regions that draw their order. No condition. -/
import Derived.Test.YtmolojjhnbchbaaGreatDoorEv9
set_option linter.all false
namespace Go.Proofs.YtmolojjhnbchbaaGreatDoor
open Go.RowKit

namespace Ev
noncomputable section

/-- What an operation of a region did: nothing to memory; looked at a block; wrote or made memory (the next block's number before it, the blocks that it wrote). -/
inductive DK where
  | pu
  | ld (i : Nat)
  | ef (nx : Nat) (lg : List Nat)
  | al (nx : Nat)
def elemN (i : Nat) : List Nat → Bool
  | [] => false
  | j :: l => Nat.beq j i || elemN i l
theorem elemN_iff {i : Nat} : ∀ {l : List Nat}, elemN i l = true ↔ i ∈ l
  | [] => by simp [elemN]
  | j :: l => by
    simp only [elemN, Bool.or_eq_true, Nat.beq_eq, List.mem_cons, elemN_iff (l := l)]
    exact ⟨fun h => h.imp Eq.symm id, fun h => h.imp Eq.symm id⟩
def kindsOK : DK → DK → Bool
  | .ef _ _, .ef _ _ => false
  | .ld i, .ef nx lg => Nat.blt i nx && !(elemN i lg)
  | .ef nx lg, .ld i => Nat.blt i nx && !(elemN i lg)
  | .al _, .ef _ _ => false
  | .al nx, .ld i => !(Nat.beq i nx)
  | .ld i, .al nx => !(Nat.beq i nx)
  | _, _ => true
section
variable (P : Program)
/-- An operation that makes one block, and does no more to memory. -/
def isNew (op : Op) : Bool := match op with | .alloc _ => true | .box _ _ => true | .buildSlice _ _ _ => true | _ => false
def opStepD (call : FuncId → List AV → Mem → Option (AV × Mem)) (op : Op) (f : Operand → Option AV) (m : Mem) : Option (AV × Mem × DK) :=
  match pop P op f with
  | some v => some (v, m, .pu)
  | none => match lop P m op f with
    | some r => some (r.1, m, .ld r.2)
    | none => bif isNew op then (match eop P m op f with
        | some (v, m') => some (v, m', .al m.next)
        | none => none)
      else match opStep P call op f m with
        | some (v, m') => some (v, m', .ef m.next (m'.log.take (m'.log.length - m.log.length)))
        | none => none
def evDL (call : FuncId → List AV → Mem → Option (AV × Mem)) (n : Nat) (ops : Array Oper) : List Oper → Tr AV → Mem → Option (List DK × Tr AV × Mem)
  | [], e, m => some ([], e, m)
  | o :: l, e, m => match wantedA ops o e with
    | none => none
    | some false => (match putE n e o.dst (.tuple []) with
      | none => none
      | some e' => match evDL call n ops l e' m with
        | none => none
        | some (ks, r) => some (.pu :: ks, r))
    | some true => (match opStepD P call o.op (evalO e) m with
      | none => none
      | some (v, m', k) => match putE n e o.dst v with
        | none => none
        | some e' => match evDL call n ops l e' m' with
          | none => none
          | some (ks, r) => some (k :: ks, r))
end
/-- Who must come first, as bits. -/
def ancM (acc : List Nat) (o : Oper) : Nat :=
  o.after.toList.foldr (fun e s => bif Region.binds .any e then Nat.lor (Nat.lor s (Nat.shiftLeft 1 e.on)) (acc.getD e.on 0) else s) 0
def ancL : List Oper → List Nat → List Nat
  | [], acc => acc
  | o :: l, acc => ancL l (acc ++ [ancM acc o])
/-- Each edge goes back. -/
def backB : List Oper → Nat → Bool
  | [], _ => true
  | o :: l, i => o.after.toList.all (fun e => !(Region.binds .any e) || Nat.blt e.on i) && backB l (i + 1)
def pairsB (ops : Array Oper) (o : Oper) (k : DK) (i : Nat) : List (Oper × DK × Nat) → Bool
  | [] => true
  | (o', k', a) :: l => (Nat.testBit a i || (o.apart ops o' && kindsOK k k')) && pairsB ops o k i l
def allPairsB (ops : Array Oper) : Nat → List (Oper × DK × Nat) → Bool
  | _, [] => true
  | i, (o, k, _) :: l => pairsB ops o k i l && allPairsB ops (i + 1) l
/-- What looks at a new variable comes behind all that writes ahead of it. -/
def newsB : List Nat → Nat → List (Oper × DK × Nat) → Bool
  | _, _, [] => true
  | pre, i, (_, k, a) :: l => match k with
    | .pu => newsB pre (i + 1) l
    | .ld _ => newsB pre (i + 1) l
    | .ef _ _ => newsB (i :: pre) (i + 1) l
    | .al _ => pre.all (fun p => Nat.testBit a p || l.all fun x => !(Nat.testBit x.2.2 i) || Nat.testBit x.2.2 p) && newsB (i :: pre) (i + 1) l
def noSel (l : List Oper) : Bool := l.all fun o => match o.op with | .select _ _ => false | _ => true
def evD (P : Program) (call : FuncId → List AV → Mem → Option (AV × Mem)) (n : Nat) (ops : Array Oper) (e : Tr AV) (m : Mem) : Option (Tr AV × Mem) :=
  match evDL P call n ops ops.toList e m with
  | none => none
  | some (ks, e', m') =>
    bif backB ops.toList 0 && (allPairsB ops 0 (ops.toList.zip (ks.zip (ancL ops.toList []))) && newsB [] 0 (ops.toList.zip (ks.zip (ancL ops.toList [])))) then some (e', m') else none

/-- One step of the lexical run. -/
structure DStep (P : Program) (call : FuncId → List AV → Mem → Option (AV × Mem)) (n : Nat) (ops : Array Oper) (o : Oper) (e : Tr AV) (m : Mem) (e' : Tr AV) (m' : Mem) (v : AV) (k : DK) : Prop where
  put : putE n e o.dst v = some e'
  did : (wantedA ops o e = some false ∧ v = .tuple [] ∧ k = .pu ∧ m' = m) ∨ (wantedA ops o e = some true ∧ opStepD P call o.op (evalO e) m = some (v, m', k))
theorem evDL_steps {P : Program} {call : FuncId → List AV → Mem → Option (AV × Mem)} {n : Nat} {ops : Array Oper} : ∀ (l : List Oper) (e : Tr AV) (m : Mem) (ks : List DK) (e' : Tr AV) (m' : Mem), evDL P call n ops l e m = some (ks, e', m') →
    ∃ (E : Nat → Tr AV) (M : Nat → Mem) (V : Nat → AV), E 0 = e ∧ M 0 = m ∧ E l.length = e' ∧ M l.length = m' ∧ ks.length = l.length ∧
      ∀ i o k, l[i]? = some o → ks[i]? = some k → DStep P call n ops o (E i) (M i) (E (i + 1)) (M (i + 1)) (V i) k
  | [], e, m, ks, e', m', h => by
    simp only [evDL, Option.some.injEq, Prod.mk.injEq] at h
    obtain ⟨rfl, rfl, rfl⟩ := h
    exact ⟨fun _ => e, fun _ => m, fun _ => .nilFunc, rfl, rfl, rfl, rfl, rfl, fun i o k h => by simp at h⟩
  | o :: l, e, m, ks, e', m', h => by
    have cons : ∀ {k0 : DK} {v0 : AV} {e1 : Tr AV} {m1 : Mem} {ks' : List DK}, DStep P call n ops o e m e1 m1 v0 k0 → evDL P call n ops l e1 m1 = some (ks', e', m') → ks = k0 :: ks' →
        ∃ (E : Nat → Tr AV) (M : Nat → Mem) (V : Nat → AV), E 0 = e ∧ M 0 = m ∧ E (o :: l).length = e' ∧ M (o :: l).length = m' ∧ ks.length = (o :: l).length ∧
          ∀ i x k, (o :: l)[i]? = some x → ks[i]? = some k → DStep P call n ops x (E i) (M i) (E (i + 1)) (M (i + 1)) (V i) k := by
      intro k0 v0 e1 m1 ks' hs hl hk
      obtain ⟨E, M, V, h1, h2, h3, h4, h5, h6⟩ := evDL_steps l e1 m1 ks' e' m' hl
      refine ⟨fun i => match i with | 0 => e | i + 1 => E i, fun i => match i with | 0 => m | i + 1 => M i, fun i => match i with | 0 => v0 | i + 1 => V i, rfl, rfl, h3, h4, by rw [hk]; simp [h5], fun i x k hx hkk => ?_⟩
      cases i with
      | zero =>
        simp only [List.getElem?_cons_zero, Option.some.injEq] at hx
        rw [hk] at hkk
        simp only [List.getElem?_cons_zero, Option.some.injEq] at hkk
        subst hx hkk
        simp only [h1, h2]
        exact hs
      | succ i =>
        rw [hk] at hkk
        simp only [List.getElem?_cons_succ] at hx hkk
        exact h6 i x k hx hkk
    unfold evDL at h
    split at h
    · cases h
    · rename_i hw
      split at h
      · cases h
      · rename_i e1 he1
        split at h
        · cases h
        · rename_i ks' r hr
          cases h
          exact cons ⟨he1, .inl ⟨hw, rfl, rfl, rfl⟩⟩ hr rfl
    · rename_i hw
      split at h
      · cases h
      · rename_i v m1 k hs
        split at h
        · cases h
        · rename_i e1 he1
          split at h
          · cases h
          · rename_i ks' r hr
            cases h
            exact cons ⟨he1, .inr ⟨hw, hs⟩⟩ hr rfl

/-- A set of operations with which all that must come first has come. -/
def Closed (ops : Array Oper) (S : Nat → Bool) : Prop := ∀ j o, ops[j]? = some o → S j = true → ∀ e ∈ o.after, Region.binds .any e = true → S e.on = true
def Due (S : Nat → Bool) (o : Oper) : Prop := ∀ e ∈ o.after, Region.binds .any e = true → S e.on = true

theorem ancL_append (l : List Oper) : ∀ acc, ∃ r, ancL l acc = acc ++ r ∧ r.length = l.length := by
  induction l with
  | nil => intro acc; exact ⟨[], by simp [ancL]⟩
  | cons o l ih =>
    intro acc
    obtain ⟨r, h1, h2⟩ := ih (acc ++ [ancM acc o])
    exact ⟨ancM acc o :: r, by simp [ancL, h1], by simp [h2]⟩
theorem ancM_ok {acc : List Nat} {S : Nat → Bool} {o : Oper} (hd : Due S o) (hacc : ∀ j a, acc[j]? = some a → S j = true → ∀ i, Nat.testBit a i = true → S i = true) :
    ∀ i, Nat.testBit (ancM acc o) i = true → S i = true := by
  unfold ancM
  have key : ∀ l : List Edge, (∀ e ∈ l, Region.binds .any e = true → S e.on = true) → ∀ i,
      Nat.testBit (l.foldr (fun e s => bif Region.binds .any e then Nat.lor (Nat.lor s (Nat.shiftLeft 1 e.on)) (acc.getD e.on 0) else s) 0) i = true → S i = true := by
    intro l
    induction l with
    | nil => intro _ i h; simp at h
    | cons e l ih =>
      intro hl i h
      rw [List.foldr_cons] at h
      cases hb : Region.binds .any e with
      | false => rw [hb, cond_false] at h; exact ih (fun x hx => hl x (List.mem_cons_of_mem _ hx)) i h
      | true =>
        rw [hb, cond_true] at h
        have he := hl e (List.mem_cons_self ..) hb
        change Nat.testBit ((_ ||| (1 <<< e.on)) ||| _) i = true at h
        rw [Nat.testBit_or, Nat.testBit_or, Bool.or_eq_true, Bool.or_eq_true] at h
        rcases h with (h | h) | h
        · exact ih (fun x hx => hl x (List.mem_cons_of_mem _ hx)) i h
        · have : i = e.on := by
            rw [Nat.one_shiftLeft, Nat.testBit_two_pow] at h
            exact (of_decide_eq_true h).symm
          rw [this]; exact he
        · rw [List.getD_eq_getElem?_getD] at h
          cases ha : acc[e.on]? with
          | none => rw [ha] at h; simp at h
          | some a => rw [ha] at h; exact hacc e.on a ha he i h
  exact key o.after.toList (fun e he hb => hd e (Array.mem_toList_iff.1 he) hb)
theorem ancL_ok {ops : Array Oper} {S : Nat → Bool} (hc : Closed ops S) : ∀ (l : List Oper) (acc : List Nat), (∀ j, l[j]? = ops[acc.length + j]?) → (∀ j a, acc[j]? = some a → ∀ o, ops[j]? = some o → (S j = true ∨ Due S o) → ∀ i, Nat.testBit a i = true → S i = true) →
    (∀ j, j < acc.length → ∃ o, ops[j]? = some o) → ∀ j a o, (ancL l acc)[j]? = some a → ops[j]? = some o → (S j = true ∨ Due S o) → ∀ i, Nat.testBit a i = true → S i = true
  | [], acc, _, hacc, _, j, a, o, hj, ho, hd => hacc j a hj o ho hd
  | x :: l, acc, hl, hacc, hex, j, a, o, hj, ho, hd => by
    have h0 : ops[acc.length]? = some x := by simpa using (hl 0).symm
    refine ancL_ok hc l (acc ++ [ancM acc x]) (fun j => by have := hl (j + 1); simpa [Nat.add_assoc, Nat.add_comm 1 j] using this) (fun j a hj o ho hd => ?_) (fun j hj => ?_) j a o hj ho hd
    · rw [List.getElem?_append] at hj
      split at hj
      · exact hacc j a hj o ho hd
      · rename_i hlt
        have hje : j = acc.length := by
          have := (List.getElem?_eq_some_iff.1 hj).1
          simp at this; omega
        subst hje
        simp at hj
        subst hj
        rw [h0] at ho
        cases ho
        have hdue : Due S x := hd.elim (fun hs => hc _ _ h0 hs) id
        refine ancM_ok hdue fun j a hj hs => ?_
        obtain ⟨o', ho'⟩ := hex j (List.getElem?_eq_some_iff.1 hj).1
        exact hacc j a hj o' ho' (.inl hs)
    · simp at hj
      rcases Nat.lt_or_ge j acc.length with h | h
      · exact hex j h
      · have : j = acc.length := by omega
        subst this; exact ⟨x, h0⟩
theorem pairsB_ok {ops : Array Oper} {o : Oper} {k : DK} {i : Nat} : ∀ {l : List (Oper × DK × Nat)}, pairsB ops o k i l = true → ∀ (j : Nat) (o' : Oper) (k' : DK) (a : Nat), l[j]? = some (o', k', a) → Nat.testBit a i = true ∨ (o.apart ops o' = true ∧ kindsOK k k' = true)
  | [], _, j, _, _, _, h => by simp at h
  | (o1, k1, a1) :: l, h, j, o', k', a, hj => by
    simp only [pairsB, Bool.and_eq_true, Bool.or_eq_true] at h
    cases j with
    | zero => simp at hj; obtain ⟨rfl, rfl, rfl⟩ := hj; exact h.1
    | succ j => simp at hj; exact pairsB_ok h.2 j o' k' a hj
theorem allPairsB_ok {ops : Array Oper} : ∀ {l : List (Oper × DK × Nat)} {b : Nat}, allPairsB ops b l = true → ∀ (i j : Nat) (o : Oper) (k : DK) (a : Nat) (o' : Oper) (k' : DK) (a' : Nat), i < j → l[i]? = some (o, k, a) → l[j]? = some (o', k', a') → Nat.testBit a' (b + i) = true ∨ (o.apart ops o' = true ∧ kindsOK k k' = true)
  | [], _, _, i, _, _, _, _, _, _, _, _, h, _ => by simp at h
  | (o1, k1, a1) :: l, b, h, i, j, o, k, a, o', k', a', hij, hi, hj => by
    simp only [allPairsB, Bool.and_eq_true] at h
    cases j with
    | zero => omega
    | succ j =>
      simp at hj
      cases i with
      | zero => simp at hi; obtain ⟨rfl, rfl, rfl⟩ := hi; simpa using pairsB_ok h.1 j o' k' a' hj
      | succ i =>
        simp at hi
        have := allPairsB_ok h.2 i j o k a o' k' a' (by omega) hi hj
        rwa [show b + 1 + i = b + (i + 1) by omega] at this
def DK.isE : DK → Bool
  | .ef _ _ => true
  | .al _ => true
  | _ => false
def DK.isAl : DK → Bool
  | .al _ => true
  | _ => false
theorem newsB_ok : ∀ {l : List (Oper × DK × Nat)} {pre : List Nat} {b : Nat}, newsB pre b l = true → ∀ (i : Nat) (o : Oper) (k : DK) (a : Nat), l[i]? = some (o, k, a) → k.isAl = true → ∀ p, (p ∈ pre ∨ ∃ p' o' k' a', p = b + p' ∧ p' < i ∧ l[p']? = some (o', k', a') ∧ k'.isE = true) →
    Nat.testBit a p = true ∨ ∀ (j : Nat) (o' : Oper) (k' : DK) (a' : Nat), i < j → l[j]? = some (o', k', a') → Nat.testBit a' (b + i) = true → Nat.testBit a' p = true
  | [], _, _, _, i, _, _, _, h, _, _, _ => by simp at h
  | (o1, k1, a1) :: l, pre, b, h, i, o, k, a, hi, hk, p, hp => by
    cases i with
    | zero =>
      simp only [List.getElem?_cons_zero, Option.some.injEq, Prod.mk.injEq] at hi
      obtain ⟨rfl, rfl, rfl⟩ := hi
      have hpre : p ∈ pre := by
        rcases hp with q | ⟨p', _, _, _, _, q, _⟩
        · exact q
        · omega
      cases k1 with
      | al nx =>
        simp only [newsB, Bool.and_eq_true] at h
        have := List.all_eq_true.1 h.1 p hpre
        rw [Bool.or_eq_true] at this
        refine this.imp id fun hl j o' k' a' hj hlj ht => ?_
        cases j with
        | zero => omega
        | succ j =>
          rw [List.getElem?_cons_succ] at hlj
          have := List.all_eq_true.1 hl _ (List.mem_of_getElem? hlj)
          rw [Nat.add_zero] at ht
          simpa [ht] using this
      | pu => cases hk
      | ld _ => cases hk
      | ef _ _ => cases hk
    | succ i =>
      rw [List.getElem?_cons_succ] at hi
      have fin : ∀ pre', newsB pre' (b + 1) l = true → (∀ q, q ∈ pre → q ∈ pre') → (k1.isE = true → b ∈ pre') → Nat.testBit a p = true ∨ ∀ (j : Nat) (o' : Oper) (k' : DK) (a' : Nat), i + 1 < j → ((o1, k1, a1) :: l)[j]? = some (o', k', a') → Nat.testBit a' (b + (i + 1)) = true → Nat.testBit a' p = true := by
        intro pre' h' hs hb
        refine (newsB_ok h' i o k a hi hk p ?_).imp id fun H j o' k' a' hj hlj ht => ?_
        · rcases hp with q | ⟨p', o', k', a', e, q, hl, he⟩
          · exact .inl (hs p q)
          · cases p' with
            | zero =>
              simp only [List.getElem?_cons_zero, Option.some.injEq, Prod.mk.injEq] at hl
              obtain ⟨_, rfl, _⟩ := hl
              exact .inl (by rw [e]; exact hb he)
            | succ p' =>
              rw [List.getElem?_cons_succ] at hl
              exact .inr ⟨p', o', k', a', by omega, by omega, hl, he⟩
        · cases j with
          | zero => omega
          | succ j =>
            rw [List.getElem?_cons_succ] at hlj
            exact H j o' k' a' (by omega) hlj (by rw [show b + 1 + i = b + (i + 1) by omega]; exact ht)
      cases k1 with
      | pu => exact fin pre h (fun _ q => q) (fun q => by cases q)
      | ld _ => exact fin pre h (fun _ q => q) (fun q => by cases q)
      | ef _ _ => exact fin (b :: pre) h (fun _ q => List.mem_cons_of_mem _ q) (fun _ => List.mem_cons_self ..)
      | al _ =>
        simp only [newsB, Bool.and_eq_true] at h
        exact fin (b :: pre) h.2 (fun _ q => List.mem_cons_of_mem _ q) (fun _ => List.mem_cons_self ..)
theorem backB_ok : ∀ {l : List Oper} {b : Nat}, backB l b = true → ∀ (i : Nat) (o : Oper), l[i]? = some o → ∀ e ∈ o.after, Region.binds .any e = true → e.on < b + i
  | [], _, _, i, _, h => by simp at h
  | x :: l, b, h, i, o, hi => by
    simp only [backB, Bool.and_eq_true] at h
    cases i with
    | zero =>
      simp at hi; subst hi
      intro e he hb
      have := List.all_eq_true.1 h.1 e (Array.mem_toList_iff.2 he)
      rw [hb] at this
      simp only [Bool.not_true, Bool.false_or, Nat.blt, Nat.ble_eq] at this
      omega
    | succ i =>
      simp at hi
      intro e he hb
      have := backB_ok h.2 i o hi e he hb
      omega
end
end Ev
end Go.Proofs.YtmolojjhnbchbaaGreatDoor

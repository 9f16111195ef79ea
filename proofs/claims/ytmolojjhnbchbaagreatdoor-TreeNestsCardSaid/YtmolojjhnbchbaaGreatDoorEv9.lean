/- The evaluator, part 9: regions in order, control, loops, calls. No condition. -/
import Derived.Test.YtmolojjhnbchbaaGreatDoorEv8
import Derived.Scope
set_option linter.all false
namespace Go.Proofs.YtmolojjhnbchbaaGreatDoor
open Go.RowKit

namespace Ev
noncomputable section

inductive AExit where
  | nrm
  | ex (id : Nat)
  | ret
def AExit.conc : AExit → Exit
  | .nrm => .normal
  | .ex i => .exit i
  | .ret => .ret

section
variable (P : Program)
/-- The callee and all its arguments. -/
def callee (c : Call) (f : Operand → Option AV) : Option (FuncId × List AV) :=
  match c.callee with
  | .value x => (match f x, listO f c.args.toList with
    | some (.func (.func g) a b), some l => some (g, a ++ l ++ b)
    | some (.func (.via t path g p) a _), some l => (match a ++ l with
      | [] => none
      | r :: rest => bif path.isEmpty && (match P.underlying t with | some (.pointer _) => p | some _ => !p | none => false) then some (g, r :: rest) else none)
    | _, _ => none)
  | _ => none
def callStep (call : FuncId → List AV → Mem → Option (AV × Mem)) (op : Op) (f : Operand → Option AV) (m : Mem) : Option (AV × Mem) :=
  match op with
  | .call c => (match callee P c f with
    | some (g, l) => call g l m
    | none => none)
  | _ => none
def opStep (call : FuncId → List AV → Mem → Option (AV × Mem)) (op : Op) (f : Operand → Option AV) (m : Mem) : Option (AV × Mem) :=
  match pop P op f with
  | some v => some (v, m)
  | none => match lop P m op f with
    | some r => some (r.1, m)
    | none => match eop P m op f with
      | some r => some r
      | none => callStep P call op f m
def wantedA (ops : Array Oper) (o : Oper) (e : Tr AV) : Option Bool :=
  match o.guard with
  | none => some true
  | some (j, want) => match ops[j]? with
    | none => some false
    | some oj => match oj.dst with
      | none => some false
      | some d => match e.get d with
        | some (.bool b) => some (b == want)
        | some (.tuple _) => some false
        | _ => none
def putE (n : Nat) (e : Tr AV) (d : Option Tmp) (v : AV) : Option (Tr AV) :=
  match d with
  | none => some e
  | some d => bif Nat.blt d n then some (e.put d (some v)) else none
def evL (call : FuncId → List AV → Mem → Option (AV × Mem)) (n : Nat) (ops : Array Oper) : List Oper → Tr AV → Mem → Option (Tr AV × Mem)
  | [], e, m => some (e, m)
  | o :: l, e, m => match wantedA ops o e with
    | none => none
    | some false => (match putE n e o.dst (.tuple []) with
      | none => none
      | some e' => evL call n ops l e' m)
    | some true => (match opStep P call o.op (evalO e) m with
      | none => none
      | some (v, m') => match putE n e o.dst v with
        | none => none
        | some e' => evL call n ops l e' m')
end

/-- The temporaries. -/
structure EnvOK (ρ : Env) (n : Nat) (e : Tr AV) (a : Act) : Prop where
  defers : a.defers = []
  size : a.tmps.size = n
  get : ∀ s v, e.get s = some v → ∃ x, a.tmps[s]? = some x ∧ conc ρ v = some x
theorem EnvOK.mono {ρ ρ' : Env} {n : Nat} {e : Tr AV} {a : Act} (h : EnvOK ρ n e a) (hρ : ρ.le ρ') : EnvOK ρ' n e a :=
  ⟨h.defers, h.size, fun s v hs => let ⟨x, h1, h2⟩ := h.get s v hs; ⟨x, h1, conc_mono hρ _ _ h2⟩⟩
theorem EnvOK.eval {ρ : Env} {n : Nat} {e : Tr AV} {a : Act} (h : EnvOK ρ n e a) (x : Operand) (v : AV) (hv : evalO e x = some v) : conc ρ v = some (a.eval x) := by
  cases x with
  | tmp t =>
    obtain ⟨x, h1, h2⟩ := h.get t v hv
    rw [h2]
    simp [Act.eval, Array.getD_eq_getD_getElem?, h1]
  | const v' => exact absV_ok hv
  | global g => cases hv
  | func f => simp only [evalO, Option.some.injEq] at hv; subst hv; rfl
theorem EnvOK.put {ρ : Env} {n : Nat} {e e' : Tr AV} {a : Act} (h : EnvOK ρ n e a) {d : Option Tmp} {v : AV} {x : Value} (hx : conc ρ v = some x) (hp : putE n e d v = some e') : EnvOK ρ n e' (a.put d x) := by
  unfold putE at hp
  split at hp
  · cases hp; exact h
  · rename_i d
    cases hd : Nat.blt d n with
    | false => rw [hd, cond_false] at hp; cases hp
    | true =>
      rw [hd, cond_true] at hp
      cases hp
      unfold Nat.blt at hd
      rw [Nat.ble_eq] at hd
      refine ⟨h.defers, by simp [Act.put, h.size], fun s u hs => ?_⟩
      rw [Tr.get_put] at hs
      by_cases e1 : s = d
      · subst e1
        rw [if_pos rfl] at hs
        cases hs
        refine ⟨x, ?_, hx⟩
        have : s < a.tmps.size := by rw [h.size]; omega
        simp [Act.put, this]
      · rw [if_neg e1] at hs
        obtain ⟨y, h1, h2⟩ := h.get s u hs
        exact ⟨y, by simp [Act.put, Array.getElem?_setIfInBounds_ne (Ne.symm e1), h1], h2⟩

theorem wantedA_ok {ρ : Env} {n : Nat} {e : Tr AV} {a : Act} (h : EnvOK ρ n e a) {ops : Array Oper} {o : Oper} {b : Bool} (hw : wantedA ops o e = some b) : Region.wanted o (yielded ops a.tmps) = b := by
  unfold wantedA at hw
  unfold Region.wanted
  split at hw
  · rename_i hg; cases hw; rw [hg]
  · rename_i j want hg
    rw [hg]
    simp only
    split at hw
    · rename_i hj; cases hw; simp [yielded, hj]
    · rename_i oj hj
      split at hw
      · rename_i hd; cases hw; simp [yielded, hj, hd]
      · rename_i d hd
        split at hw
        · rename_i c hc
          cases hw
          obtain ⟨x, h1, h2⟩ := h.get d _ hc
          simp only [conc, Option.some.injEq] at h2
          subst h2
          simp [yielded, hj, hd, h1]
        · rename_i l hc
          cases hw
          obtain ⟨x, h1, h2⟩ := h.get d _ hc
          simp only [conc, Option.map_eq_some_iff] at h2
          obtain ⟨q, _, rfl⟩ := h2
          simp [yielded, hj, hd, h1]
        · cases hw

/-- A call of a function comes to this. -/
def CallsTo (P : Program) (g : FuncId) (xs : Array Value) (w : World) (R : Value → World → Prop) : Prop :=
  ((callFunc g xs).run P w = .ok (.enter g xs) w ∧ Calls P g xs w (fun e w' => ∃ v, e = .returned v ∧ R v w')) ∨ (∃ v w', (callFunc g xs).run P w = .ok (.value v) w' ∧ R v w')
def CallSound (P : Program) (call : FuncId → List AV → Mem → Option (AV × Mem)) : Prop :=
  ∀ g args m r m', call g args m = some (r, m') → ∃ L, Lg m m' L ∧ ∀ ρ w xs, Rep ρ m w → concL ρ args = some xs →
    CallsTo P g xs.toArray w (fun z w' => ∃ ρ', Stp ρ m w ρ' m' w' L ∧ conc ρ' r = some z)

section
variable {P : Program} {call : FuncId → List AV → Mem → Option (AV × Mem)}
theorem callee_ok {ρ : Env} {f : Operand → Option AV} {ev : Operand → Value} {o : Oper} {c : Call} (hop : o.op = .call c) (hf : ∀ x ∈ o.op.operands, ∀ u, f x = some u → conc ρ u = some (ev x))
    {g : FuncId} {l : List AV} (h : callee P c f = some (g, l)) : ∃ xs, concL ρ l = some xs ∧ ∀ w, (execOp ev o).run P w = (callFunc g xs.toArray).run P w := by
  obtain ⟨dst, op, ty, pos, aft, gd⟩ := o
  simp only at hop hf
  subst hop
  unfold callee at h
  split at h
  · rename_i x hx
    have hfx : ∀ u, f x = some u → conc ρ u = some (ev x) := hf x (Array.mem_append.2 (.inl (by simp [hx])))
    have hfl : ∀ l, listO f c.args.toList = some l → concL ρ l = some (c.args.map ev).toList := fun l hl => by
      have := listO_ok (ρ := ρ) (ev := ev) (fun x hx => hf x (Array.mem_append.2 (.inr (Array.mem_toList_iff.1 hx)))) hl
      rw [this]; simp
    split at h
    · rename_i g' a b l' h1 h2
      cases h
      have k1 := hfx _ h1
      simp only [conc, Option.bind_eq_some_iff, Option.map_eq_some_iff] at k1
      obtain ⟨va, hva, vb, hvb, he⟩ := k1
      refine ⟨_, concL_append (concL_append hva (hfl _ h2)) hvb, fun w => ?_⟩
      simp only [execOp, resolve, hx, ← he, Deferred.ofValue, pure_bind, invoke]
      congr 2
      apply Array.ext'
      simp
    · rename_i t path g' p a b l' h1 h2
      have k1 := hfx _ h1
      simp only [conc, Option.bind_eq_some_iff, Option.map_eq_some_iff] at k1
      obtain ⟨va, hva, vb, hvb, he⟩ := k1
      have hall := concL_append hva (hfl _ h2)
      split at h
      · cases h
      · rename_i r rest hr
        cases hb : (path.isEmpty && (match P.underlying t with | some (.pointer _) => p | some _ => !p | none => false)) with
        | false => rw [hb, cond_false] at h; cases h
        | true =>
          rw [hb, cond_true] at h
          cases h
          rw [hr] at hall
          obtain ⟨x0, y0, q1, q2, q3⟩ := concL_cons hall
          refine ⟨x0 :: y0, concL_cons_mk q1 q2, fun w => ?_⟩
          simp only [Bool.and_eq_true] at hb
          obtain ⟨hb1, hb2⟩ := hb
          have hp : path = #[] := by simpa using hb1
          subst hp
          have hargs : va.toArray ++ c.args.map ev = (x0 :: y0).toArray := by
            apply Array.ext'
            simpa using q3
          have hrv : (receiverVia t x0 #[] p).run P w = .ok x0 w := by
            unfold receiverVia
            simp only [follow, pure_bind]
            cases hu : P.underlying t with
            | none => rw [hu] at hb2; cases hb2
            | some d =>
              rw [hu] at hb2
              unfold receiverAt
              simp only [Sem.run_bind, run_underlying hu, Result.andThen_ok]
              cases d <;> simp at hb2 <;> subst hb2 <;> simp [Place.get]
          simp only [execOp, resolve, hx, ← he, Deferred.ofValue, pure_bind, invoke, hargs]
          have h0 : ((x0 :: y0).toArray : Array Value)[0]? = some x0 := by simp
          simp only [h0, Sem.run_bind, hrv, Result.andThen_ok]
          congr 2
          apply Array.ext'
          simp
    · cases h
  · cases h
def Grows (m m' : Mem) : Prop := ∃ L, Lg m m' L
theorem Grows.refl (m : Mem) : Grows m m := ⟨_, Lg.refl m⟩
theorem Grows.new (m : Mem) (b : Blk) : Grows m (m.new b) := ⟨_, Lg.new m b⟩
theorem Grows.write (m : Mem) (i : Nat) (b : Option Blk) : Grows m (m.write i b) := ⟨_, Lg.write m i b⟩
theorem Grows.trans {a b c : Mem} (h : Grows a b) (k : Grows b c) : Grows a c := let ⟨_, h⟩ := h; let ⟨_, k⟩ := k; ⟨_, h.trans k⟩
theorem putA_grows {m m' : Mem} {p : Nat × Nat} {vs : List AV} (h : putA m p vs = some m') : Grows m m' := by
  unfold putA at h
  simp only [Bool.cond_eq_ite] at h
  repeat' split at h
  all_goals first | (cases h; done) | (cases h; exact Grows.write _ _ _)
theorem appendA_grows {m m' : Mem} {t u : TypeId} {s x r : AV} (h : appendA P m t u s x = some (r, m')) : Grows m m' := by
  unfold appendA at h
  simp only [Bool.cond_eq_ite] at h
  repeat' split at h
  all_goals first
    | (cases h; done)
    | (cases h; exact Grows.refl _)
    | (cases h; exact Grows.new _ _)
    | (cases h; exact (Grows.write _ _ _).trans (Grows.new _ _))
    | (rename_i hp; cases h; exact putA_grows hp)
theorem mapPutA_grows {m m' : Mem} {t : TypeId} {x k v : AV} (h : mapPutA P m t x k v = some m') : Grows m m' := by
  unfold mapPutA at h
  simp only [Bool.cond_eq_ite] at h
  repeat' split at h
  all_goals first | (cases h; done) | (cases h; exact Grows.write _ _ _)
theorem eop_grows {m m' : Mem} {op : Op} {f : Operand → Option AV} {r : AV} (h : eop P m op f = some (r, m')) : Grows m m' := by
  unfold eop at h
  split at h
  · unfold allocA at h; split at h <;> cases h; exact Grows.new _ _
  · split at h <;> cases h; exact Grows.new _ _
  · split at h
    · unfold buildSliceA at h
      simp only [Bool.cond_eq_ite] at h
      repeat' split at h
      all_goals first | (cases h; done) | (cases h; exact Grows.new _ _)
    · cases h
  · split at h
    · split at h
      · rename_i hs
        cases h
        unfold storeA at hs
        simp only [Bool.cond_eq_ite] at hs
        repeat' split at hs
        all_goals first | (cases hs; done) | exact putA_grows hs
      · cases h
    · cases h
  · split at h
    · unfold makeSliceA at h
      simp only [Bool.cond_eq_ite] at h
      repeat' split at h
      all_goals first | (cases h; done) | (cases h; exact Grows.new _ _)
    · cases h
  · cases h; exact Grows.new _ _
  · split at h
    · split at h
      · rename_i hp; cases h; exact mapPutA_grows hp
      · cases h
    · cases h
  · split at h
    · split at h
      · rename_i hp; cases h; exact mapPutA_grows hp
      · cases h
    · cases h
  · split at h
    · unfold strBytesA at h
      repeat' split at h
      all_goals first | (cases h; done) | (cases h; exact Grows.new _ _)
    · cases h
  · split at h
    · split at h
      · exact appendA_grows h
      · cases h
    · split at h
      · unfold copyA at h
        repeat' split at h
        all_goals first | (cases h; done) | (rename_i hp; cases h; exact putA_grows hp)
      · cases h
    · cases h
  · cases h
theorem Lg.unique {m m' : Mem} {L L' : List Nat} (h : Lg m m' L) (k : Lg m m' L') : L = L' := by
  have := h.log.symm.trans k.log
  exact List.append_cancel_right this
/-- ONE OPERATION. -/
theorem opStep_wp (hc : CallSound P call) {m m' : Mem} {o : Oper} {f : Operand → Option AV} {r : AV} (he : opStep P call o.op f m = some (r, m')) :
    ∃ L, Lg m m' L ∧ ∀ ρ w a, Rep ρ m w → (∀ x ∈ o.op.operands, ∀ u, f x = some u → conc ρ u = some (a.eval x)) → ∀ (next : Act → World → Prop) (Q : Exit → Act → World → Prop),
      (∀ ρ' z w', Stp ρ m w ρ' m' w' L → conc ρ' r = some z → next (a.put o.dst z) w') → o.wp P a w next Q := by
  unfold opStep at he
  split at he
  · rename_i v hv
    cases he
    refine ⟨[], Lg.refl m, fun ρ w a h hf next Q hn => ?_⟩
    obtain ⟨z, hz, hr⟩ := pop_ok (P := P) (ev := a.eval) hf hv
    unfold Oper.wp
    rw [hr w, Oper.upon_value]
    exact hn ρ z w (Stp.refl h) hz
  · split at he
    · rename_i q hq
      cases he
      refine ⟨[], Lg.refl m, fun ρ w a h hf next Q hn => ?_⟩
      obtain ⟨z, hz, hr⟩ := lop_ok (P := P) (ev := a.eval) h hf (r := q.1) (i := q.2) hq
      unfold Oper.wp
      rw [hr, Oper.upon_value]
      exact hn ρ z w (Stp.refl h) hz
    · split at he
      · rename_i q hq
        cases he
        obtain ⟨L, hL⟩ := eop_grows hq
        refine ⟨L, hL, fun ρ w a h hf next Q hn => ?_⟩
        obtain ⟨ρ', w', z, L', h1, h2, h3, h4⟩ := (eop_ok (P := P) (ev := a.eval) h hf hq).ex
        cases hL.unique h2
        unfold Oper.wp
        rcases h4 with h4 | ⟨h4, rfl⟩
        · rw [h4, Oper.upon_value]; exact hn ρ' z w' h1 h3
        · rw [h4, Oper.upon_skip]; exact hn ρ' undef w' h1 h3
      · unfold callStep at he
        split at he
        · rename_i c hop
          split at he
          · rename_i g l hgl
            obtain ⟨L, hL, hS⟩ := hc g l m r m' he
            refine ⟨L, hL, fun ρ w a h hf next Q hn => ?_⟩
            obtain ⟨xs, hxs, hrun⟩ := callee_ok (P := P) (ev := a.eval) hop hf hgl
            unfold Oper.wp
            rw [hrun w]
            rcases hS ρ w xs h hxs with ⟨h1, h2⟩ | ⟨v, w', h1, ρ', h2, h3⟩
            · rw [h1, Oper.upon_enter]
              refine h2.mono fun e w' ⟨v, hv, ρ', k1, k2⟩ => ?_
              subst hv
              exact hn ρ' v w' k1 k2
            · rw [h1, Oper.upon_value]
              exact hn ρ' v w' h2 h3
          · cases he
        · cases he
/-- OPERATIONS ONE BEHIND THE OTHER. -/
theorem evL_wp (hc : CallSound P call) {n : Nat} {ops : Array Oper} : ∀ (l : List Oper) (k : Nat) (e e' : Tr AV) (m m' : Mem), (∀ j, l[j]? = ops[k + j]?) → evL P call n ops l e m = some (e', m') →
    ∃ L, Lg m m' L ∧ ∀ ρ w a, Rep ρ m w → EnvOK ρ n e a → ∀ Q : Exit → Act → World → Prop, (∀ ρ' a' w', Stp ρ m w ρ' m' w' L → EnvOK ρ' n e' a' → Q .normal a' w') → wpOps P ops Q (List.range' k l.length) a w
  | [], k, e, e', m, m', _, h => by
    simp only [evL, Option.some.injEq, Prod.mk.injEq] at h
    obtain ⟨rfl, rfl⟩ := h
    exact ⟨[], Lg.refl m, fun ρ w a hr he Q hq => hq ρ a w (Stp.refl hr) he⟩
  | o :: l, k, e, e', m, m', hl, h => by
    have h0 : ops[k]? = some o := by simpa using (hl 0).symm
    have hl' : ∀ j, l[j]? = ops[k + 1 + j]? := fun j => by have := hl (j + 1); simpa [Nat.add_assoc, Nat.add_comm 1 j] using this
    unfold evL at h
    split at h
    · cases h
    · rename_i hw
      split at h
      · cases h
      · rename_i e1 he1
        obtain ⟨L, hL, H⟩ := evL_wp hc l (k + 1) e1 e' m m' hl' h
        refine ⟨L, hL, fun ρ w a hr he Q hq => ?_⟩
        rw [List.length_cons, List.range'_succ]
        simp only [wpOps, h0, wantedA_ok he hw, Bool.false_eq_true, if_false]
        exact H ρ w _ hr (he.put rfl he1) Q hq
    · rename_i hw
      split at h
      · cases h
      · rename_i v m1 hs
        split at h
        · cases h
        · rename_i e1 he1
          obtain ⟨L1, hL1, H1⟩ := opStep_wp hc hs
          obtain ⟨L2, hL2, H2⟩ := evL_wp hc l (k + 1) e1 e' m1 m' hl' h
          refine ⟨L2 ++ L1, hL1.trans hL2, fun ρ w a hr he Q hq => ?_⟩
          rw [List.length_cons, List.range'_succ]
          simp only [wpOps, h0, wantedA_ok he hw, if_true]
          refine .inl (H1 ρ w a hr (fun x _ u hu => he.eval x u hu) _ _ fun ρ1 z w1 k1 k2 => ?_)
          exact H2 ρ1 w1 _ k1.rep ((he.mono k1.le).put k2 he1) Q fun ρ2 a2 w2 q1 q2 => hq ρ2 a2 w2 (k1.trans q1) q2
theorem evR_wp (hc : CallSound P call) {n id : Nat} {ops : Array Oper} {e e' : Tr AV} {m m' : Mem} (h : evL P call n ops ops.toList e m = some (e', m')) :
    ∃ L, Lg m m' L ∧ ∀ ρ w a, Rep ρ m w → EnvOK ρ n e a → ∀ Q : Exit → Act → World → Prop, (∀ ρ' a' w', Stp ρ m w ρ' m' w' L → EnvOK ρ' n e' a' → Q .normal a' w') → (Code.region id ops false).wp P Q a w := by
  obtain ⟨L, hL, H⟩ := evL_wp hc ops.toList 0 e e' m m' (fun j => by simp) h
  refine ⟨L, hL, fun ρ w a hr he Q hq => wp_region ?_⟩
  have := H ρ w a hr he Q hq
  rwa [Array.length_toList, ← List.range_eq_range'] at this
end
end
end Ev
end Go.Proofs.YtmolojjhnbchbaaGreatDoor

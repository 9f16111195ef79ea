/- The evaluator, part 11: a region that draws its order comes to the same in every order. No condition. -/
import Derived.Test.YtmolojjhnbchbaaGreatDoorEv10
set_option linter.all false
namespace Go.Proofs.YtmolojjhnbchbaaGreatDoor
open Go.RowKit

namespace Ev
noncomputable section

section
variable {P : Program} {call : FuncId → List AV → Mem → Option (AV × Mem)}
/-- A new block: what it is here, what it is in the world; what the operation yields. -/
def NewB (ρ : Env) (nx : Nat) (b : Blk) (r : AV) (obj : Obj) (val : Nat → Value) : Prop :=
  (∃ c e vs, b = .cells c e none ∧ concL ρ c = some vs ∧ obj = .cells vs.toArray e) ∧ ∀ (ρ' : Env) (g : Nat), ρ'.σ nx = some g → conc ρ' r = some (val g)
theorem NewB.blk {ρ : Env} {nx : Nat} {b : Blk} {r : AV} {obj : Obj} {val : Nat → Value} (h : NewB ρ nx b r obj val) {ρ' : Env} (hle : ρ.le ρ') {id g : Nat} {w : World} (hw : w.heap[g]? = some obj) : BlkOK ρ' id b w g := by
  obtain ⟨⟨c, e, vs, rfl, h2, rfl⟩, _⟩ := h
  exact ⟨vs, [], (0, 0), concL_mono hle _ _ h2, by rw [hw, List.append_nil], fun o _ => by simp, rfl⟩
theorem NewB.le {ρ : Env} {nx : Nat} {b : Blk} {r : AV} {obj : Obj} {val : Nat → Value} (h : NewB ρ nx b r obj val) {ρ' : Env} (hle : ρ.le ρ') : NewB ρ' nx b r obj val := by
  obtain ⟨⟨c, e, vs, h1, h2, h3⟩, h4⟩ := h
  exact ⟨⟨c, e, vs, h1, concL_mono hle _ _ h2, h3⟩, h4⟩
theorem eop_new {op : Op} {f : Operand → Option AV} {m m' : Mem} {r : AV} (hn : isNew op = true) (he : eop P m op f = some (r, m')) :
    ∃ b, m' = m.new b ∧ ∀ (ρ : Env) (ev : Operand → Value), (∀ x ∈ op.operands, ∀ u, f x = some u → conc ρ u = some (ev x)) → ∃ obj val, NewB ρ m.next b r obj val ∧
      ∀ (w : World) (o : Oper), o.op = op → (execOp ev o).run P w = .ok (.value (val w.heap.size)) (w.alloc obj) := by
  unfold isNew at hn
  split at hn
  · rename_i t
    simp only [eop, allocA] at he
    split at he
    · rename_i z hz
      cases he
      refine ⟨_, rfl, fun ρ ev _ => ?_⟩
      obtain ⟨Z, hZ, hr⟩ := zeroT_ok (ρ := ρ) hz
      refine ⟨.cells Z.cells t, fun g => .pointer (some ⟨g, 0, none⟩), ⟨⟨_, _, Z.cells.toList, rfl, cells_ok hZ, by simp⟩, fun ρ' g hg => by simp [conc, hg]⟩, fun w o ho => ?_⟩
      obtain ⟨dst, op, ty, pos, aft, gd⟩ := o
      simp only at ho
      subst ho
      simp [execOp, Instr.alloc, hr, newVar, newRow]
    · cases he
  · rename_i t x
    simp only [eop] at he
    split at he
    · rename_i v hv
      cases he
      refine ⟨_, rfl, fun ρ ev hf => ?_⟩
      have hx := hf x (by simp [Op.operands]) v hv
      refine ⟨.cells (ev x).cells t, fun g => .pointer (some ⟨g, 0, none⟩), ⟨⟨_, _, (ev x).cells.toList, rfl, cells_ok hx, by simp⟩, fun ρ' g hg => by simp [conc, hg]⟩, fun w o ho => ?_⟩
      obtain ⟨dst, op, ty, pos, aft, gd⟩ := o
      simp only at ho
      subst ho
      simp [execOp, Instr.box, newVar, newRow]
    · cases he
  · rename_i t len ps
    simp only [eop] at he
    split at he
    · rename_i q hq
      obtain ⟨b, r1, rfl, rfl, H⟩ := buildSliceA_new he
      refine ⟨b, rfl, fun ρ ev hf => ?_⟩
      obtain ⟨h1, h2⟩ := partsO_ok (ρ := ρ) (ev := ev) (fun x hx => hf x (by simpa [Op.operands] using hx)) hq
      obtain ⟨rfl, c, e, vs, k1, k2, k3⟩ := H ρ _ h1 h2
      refine ⟨.cells vs.toArray e, fun g => .slice (some ⟨g, 0, none⟩) len len, ⟨⟨c, e, vs, k1, k2, rfl⟩, fun ρ' g hg => by simp [conc, hg, Cap.fits, Cap.conc]⟩, fun w o ho => ?_⟩
      obtain ⟨dst, op, ty, pos, aft, gd⟩ := o
      simp only at ho
      subst ho
      have : (ps.map fun (i, x) => (i, ev x)) = (ps.toList.map fun p => (p.1, ev p.2)).toArray := map_toList _ _
      simp only [execOp, this, Sem.run_bind, k3, Result.andThen_ok, Sem.run_pure]
    · cases he
  · cases hn
def DidK (P : Program) (o : Oper) (f : Operand → Option AV) (m m' : Mem) (r : AV) (k : DK) : Prop :=
  match k with
  | .pu => m' = m ∧ pop P o.op f = some r
  | .ld i => m' = m ∧ lop P m o.op f = some (r, i)
  | .ef nx lg => nx = m.next ∧ Lg m m' lg ∧ ∀ ρ w a, Rep ρ m w → (∀ x ∈ o.op.operands, ∀ u, f x = some u → conc ρ u = some (a.eval x)) → ∀ (next : Act → World → Prop) (Q : Exit → Act → World → Prop),
      (∀ ρ' z w', Stp ρ m w ρ' m' w' lg → conc ρ' r = some z → next (a.put o.dst z) w') → o.wp P a w next Q
  | .al nx => nx = m.next ∧ ∃ b, m' = m.new b ∧ ∀ (ρ : Env) (a : Act), (∀ x ∈ o.op.operands, ∀ u, f x = some u → conc ρ u = some (a.eval x)) → ∃ obj val, NewB ρ m.next b r obj val ∧
      ∀ (w : World) (next : Act → World → Prop) (Q : Exit → Act → World → Prop), next (a.put o.dst (val w.heap.size)) (w.alloc obj) → o.wp P a w next Q
/-- What one step of the lexical run does to memory. -/
theorem opStepD_wp (hc : CallSound P call) {m m' : Mem} {o : Oper} {f : Operand → Option AV} {r : AV} {k : DK} (he : opStepD P call o.op f m = some (r, m', k)) : DidK P o f m m' r k := by
  unfold opStepD at he
  split at he
  · rename_i v hv; cases he; exact ⟨rfl, hv⟩
  · split at he
    · rename_i q hq; cases he; exact ⟨rfl, hq⟩
    · cases hnw : isNew o.op with
      | true =>
        rw [hnw, cond_true] at he
        split at he
        · rename_i v m1 hs
          cases he
          obtain ⟨b, rfl, H⟩ := eop_new hnw hs
          refine ⟨rfl, b, rfl, fun ρ a hops => ?_⟩
          obtain ⟨obj, val, h1, h2⟩ := H ρ a.eval hops
          refine ⟨obj, val, h1, fun w next Q hn => ?_⟩
          unfold Oper.wp
          rw [h2 w o rfl, Oper.upon_value]
          exact hn
        · cases he
      | false =>
        rw [hnw, cond_false] at he
        split at he
        · rename_i v m1 hs
          cases he
          obtain ⟨L, hL, H⟩ := opStep_wp hc hs
          have : m'.log.take (m'.log.length - m.log.length) = L := by
            rw [hL.log, List.length_append, Nat.add_sub_cancel, List.take_left]
          show _ ∧ _ ∧ _
          rw [this]
          exact ⟨rfl, hL, H⟩
        · cases he

/-- All that the lexical run and the checks say. -/
structure Lex (P : Program) (call : FuncId → List AV → Mem → Option (AV × Mem)) (n : Nat) (ops : Array Oper) (E : Nat → Tr AV) (M : Nat → Mem) (V : Nat → AV) (K : Nat → DK) : Prop where
  step : ∀ i o, ops[i]? = some o → DStep P call n ops o (E i) (M i) (E (i + 1)) (M (i + 1)) (V i) (K i)
  back : ∀ i o, ops[i]? = some o → ∀ e ∈ o.after, Region.binds .any e = true → e.on < i
  pair : ∀ i j o o', i < j → ops[i]? = some o → ops[j]? = some o' → (∀ S : Nat → Bool, Closed ops S → (S j = true ∨ Due S o') → S i = true) ∨ (o.apart ops o' = true ∧ kindsOK (K i) (K j) = true)
  news : ∀ p i j op oi oj, p < i → i < j → ops[p]? = some op → ops[i]? = some oi → ops[j]? = some oj → (K p).isE = true → (K i).isAl = true →
    (∀ S : Nat → Bool, Closed ops S → (S i = true ∨ Due S oi) → S p = true) ∨ (∀ S : Nat → Bool, Closed ops S → (S j = true ∨ Due S oj) → S p = true) ∨ (oi.apart ops oj = true ∧ kindsOK (K i) (K j) = true)
theorem evD_lex {n : Nat} {ops : Array Oper} {e e' : Tr AV} {m m' : Mem} (h : evD P call n ops e m = some (e', m')) :
    ∃ E M V K, E 0 = e ∧ M 0 = m ∧ E ops.size = e' ∧ M ops.size = m' ∧ Lex P call n ops E M V K := by
  unfold evD at h
  split at h
  · cases h
  · rename_i ks e1 m1 hr
    cases hb : (backB ops.toList 0 && (allPairsB ops 0 (ops.toList.zip (ks.zip (ancL ops.toList []))) && newsB [] 0 (ops.toList.zip (ks.zip (ancL ops.toList []))))) with
    | false => rw [hb, cond_false] at h; cases h
    | true =>
      rw [hb, cond_true] at h
      cases h
      simp only [Bool.and_eq_true] at hb
      obtain ⟨E, M, V, h1, h2, h3, h4, h5, h6⟩ := evDL_steps _ _ _ _ _ _ hr
      have hlen : ks.length = ops.size := by simpa using h5
      obtain ⟨r, q1, q2⟩ := ancL_append ops.toList []
      rw [List.nil_append] at q1
      have hlr : r.length = ops.size := by simpa using q2
      have zipAt : ∀ l x, ops[l]? = some x → (ops.toList.zip (ks.zip (ancL ops.toList [])))[l]? = some (x, ks.getD l .pu, r.getD l 0) := fun l x hx => by
        have hl := (Array.getElem?_eq_some_iff.1 hx).1
        have a1 : ks[l]? = some (ks.getD l .pu) := by rw [List.getD_eq_getElem?_getD, List.getElem?_eq_getElem (by omega)]; rfl
        have a2 : r[l]? = some (r.getD l 0) := by rw [List.getD_eq_getElem?_getD, List.getElem?_eq_getElem (by omega)]; rfl
        have a3 : ops.toList[l]? = some x := by simpa using hx
        rw [q1]
        exact List.getElem?_zip_eq_some.2 ⟨a3, List.getElem?_zip_eq_some.2 ⟨a1, a2⟩⟩
      have bits : ∀ i j o', ops[j]? = some o' → Nat.testBit (r.getD j 0) i = true → ∀ S : Nat → Bool, Closed ops S → (S j = true ∨ Due S o') → S i = true := by
        intro i j o' ho' h7 S hS hd
        have hj := (Array.getElem?_eq_some_iff.1 ho').1
        refine ancL_ok hS ops.toList [] (fun j => by simp) (fun j a hj => by simp at hj) (fun j hj => by simp at hj) j (r.getD j 0) o' ?_ ho' hd i h7
        rw [q1, List.getD_eq_getElem?_getD, List.getElem?_eq_getElem (by omega)]; rfl
      have pair' : ∀ i j o o', i < j → ops[i]? = some o → ops[j]? = some o' → Nat.testBit (r.getD j 0) i = true ∨ (o.apart ops o' = true ∧ kindsOK (ks.getD i .pu) (ks.getD j .pu) = true) := by
        intro i j o o' hij ho ho'
        have := allPairsB_ok hb.2.1 i j _ _ _ _ _ _ hij (zipAt i o ho) (zipAt j o' ho')
        rwa [Nat.zero_add] at this
      refine ⟨E, M, V, fun i => ks.getD i .pu, h1, h2, by simpa using h3, by simpa using h4, fun i o ho => ?_, fun i o ho e he hbe => ?_, fun i j o o' hij ho ho' => ?_, fun p i j op oi oj hpi hij hop hoi hoj hp hi => ?_⟩
      · have hi := (Array.getElem?_eq_some_iff.1 ho).1
        have hk : ks[i]? = some (ks.getD i .pu) := by
          rw [List.getD_eq_getElem?_getD, List.getElem?_eq_getElem (by omega)]; rfl
        exact h6 i o _ (by simpa using ho) hk
      · have := backB_ok hb.1 i o (by simpa using ho) e he hbe
        simpa using this
      · exact (pair' i j o o' hij ho ho').imp (bits i j o' ho') id
      · rcases pair' i j oi oj hij hoi hoj with h7 | h7
        · rcases newsB_ok hb.2.2 i oi _ _ (zipAt i oi hoi) hi p (.inr ⟨p, op, _, _, by omega, hpi, zipAt p op hop, hp⟩) with h8 | h8
          · exact .inl (bits p i oi hoi h8)
          · exact .inr (.inl (bits p j oj hoj (h8 j oj _ _ hij (zipAt j oj hoj) (by rw [Nat.zero_add]; exact h7))))
        · exact .inr (.inr h7)

/-- Who wrote a slot last. -/
structure LastW (ops : Array Oper) (S : Nat → Bool) (s : Nat) (i : Nat) : Prop where
  here : S i = true
  dst : ∃ o, ops[i]? = some o ∧ o.dst = some s
  last : ∀ j o, S j = true → ops[j]? = some o → o.dst = some s → j ≤ i
def NoW (ops : Array Oper) (S : Nat → Bool) (s : Nat) : Prop := ∀ j o, S j = true → ops[j]? = some o → o.dst ≠ some s
theorem lastW_or {ops : Array Oper} (S : Nat → Bool) (s : Nat) : (∃ i, LastW ops S s i) ∨ NoW ops S s := by
  have key : ∀ n, (∃ i, i < n ∧ S i = true ∧ (∃ o, ops[i]? = some o ∧ o.dst = some s) ∧ ∀ j o, j < n → S j = true → ops[j]? = some o → o.dst = some s → j ≤ i) ∨ (∀ j o, j < n → S j = true → ops[j]? = some o → o.dst ≠ some s) := by
    intro n
    induction n with
    | zero => exact .inr fun j o h => absurd h (by omega)
    | succ n ih =>
      by_cases hn : S n = true ∧ ∃ o, ops[n]? = some o ∧ o.dst = some s
      · exact .inl ⟨n, by omega, hn.1, hn.2, fun j o hj _ _ _ => by omega⟩
      · rcases ih with ⟨i, h1, h2, h3, h4⟩ | h
        · refine .inl ⟨i, by omega, h2, h3, fun j o hj hs ho hd => ?_⟩
          by_cases hjn : j = n
          · subst hjn; exact absurd ⟨hs, o, ho, hd⟩ hn
          · exact h4 j o (by omega) hs ho hd
        · refine .inr fun j o hj hs ho hd => ?_
          by_cases hjn : j = n
          · subst hjn; exact hn ⟨hs, o, ho, hd⟩
          · exact h j o (by omega) hs ho hd
  rcases key ops.size with ⟨i, _, h2, h3, h4⟩ | h
  · exact .inl ⟨i, h2, h3, fun j o hs ho hd => h4 j o (Array.getElem?_eq_some_iff.1 ho).1 hs ho hd⟩
  · exact .inr fun j o hs ho => h j o (Array.getElem?_eq_some_iff.1 ho).1 hs ho

theorem putE_get {n : Nat} {e e' : Tr AV} {d : Option Tmp} {v : AV} (h : putE n e d v = some e') (s : Nat) : e'.get s = if d = some s then some v else e.get s := by
  unfold putE at h
  split at h
  · cases h; simp
  · rename_i d
    cases hd : Nat.blt d n with
    | false => rw [hd, cond_false] at h; cases h
    | true =>
      rw [hd, cond_true] at h
      cases h
      rw [Tr.get_put]
      by_cases e : s = d
      · subst e; simp
      · have : ¬ (some d = some s) := fun h => e (Option.some.inj h).symm
        simp [e, this]
theorem putE_lt {n : Nat} {e e' : Tr AV} {d : Nat} {v : AV} (h : putE n e (some d) v = some e') : d < n := by
  unfold putE at h
  simp only at h
  cases hd : Nat.blt d n with
  | false => rw [hd, cond_false] at h; cases h
  | true => unfold Nat.blt at hd; rw [Nat.ble_eq] at hd; exact hd
/-- The lexical frame ahead of operation i. -/
theorem Lex.env {n : Nat} {ops : Array Oper} {E : Nat → Tr AV} {M : Nat → Mem} {V : Nat → AV} {K : Nat → DK} (h : Lex P call n ops E M V K) (s : Nat) : ∀ i, i ≤ ops.size →
    (∀ j, LastW ops (fun l => decide (l < i)) s j → (E i).get s = some (V j)) ∧ (NoW ops (fun l => decide (l < i)) s → (E i).get s = (E 0).get s)
  | 0, _ => ⟨fun j hj => by have := hj.here; simp at this, fun _ => rfl⟩
  | i + 1, hi => by
    obtain ⟨ih1, ih2⟩ := h.env s i (by omega)
    have ho : ops[i]? = some ops[i] := Array.getElem?_eq_getElem (by omega)
    have hp := putE_get (h.step i _ ho).put s
    refine ⟨fun j hj => ?_, fun hn => ?_⟩
    · rw [hp]
      by_cases hd : ops[i].dst = some s
      · rw [if_pos hd]
        have h1 := hj.last i _ (by simp) ho hd
        have h2 : j < i + 1 := by simpa using hj.here
        have : j = i := by omega
        rw [this]
      · rw [if_neg hd]
        refine ih1 j ⟨?_, hj.dst, fun l o hl hlo hld => hj.last l o (by simp at hl ⊢; omega) hlo hld⟩
        have h2 : j < i + 1 := by simpa using hj.here
        have : j ≠ i := by
          rintro rfl
          obtain ⟨o, q1, q2⟩ := hj.dst
          rw [ho] at q1; cases q1; exact hd q2
        simp; omega
    · rw [hp, if_neg (hn i _ (by simp) ho)]
      exact ih2 fun l o hl hlo => hn l o (by simp at hl ⊢; omega) hlo
end
end
end Ev
end Go.Proofs.YtmolojjhnbchbaaGreatDoor

/- The evaluator, part 16: functions, fuel. No condition. -/
import Derived.Test.YtmolojjhnbchbaaGreatDoorEv15
set_option linter.all false
namespace Go.Proofs.YtmolojjhnbchbaaGreatDoor
open Go.RowKit

namespace Ev
noncomputable section

def Mem.fresh (m : Mem) : Mem := ⟨m.next, m.t, []⟩
theorem Rep.fresh {ρ : Env} {m : Mem} {w : World} (h : Rep ρ m w) : Rep ρ m.fresh w := ⟨h.blk, h.inj, h.dom, h.low, h.sep, h.ok⟩

theorem gcM_lg {m m' a : Mem} {olds : List Nat} {r r' : AV} (h : gcM m m' olds r = some (r', a)) : ∃ La, Lg m a La ∧ (∀ i ∈ La, i ∈ m'.log) ∧ ∀ i ∈ m'.log, i < m.next → i ∈ La := by
  unfold gcM at h
  cases hb : (nodupB olds && allGe m.next olds) with
  | false => rw [hb, cond_false] at h; cases h
  | true =>
    rw [hb, cond_true] at h
    split at h
    · cases h
    · split at h
      · cases h
      · rename_i acc hacc
        split at h
        · cases h
        · rename_i a' ha
          cases h
          obtain ⟨n1, n2, n3, n4, n5⟩ := keepN_ok olds m acc hacc
          obtain ⟨w1, ⟨La, w2, w3, w3'⟩, w4, w5⟩ := keepW_ok m'.log acc a ha
          refine ⟨La, ⟨by rw [w1, n1]; omega, by rw [w2, n2], fun i hi hn => ?_⟩, w3, w3'⟩
          rw [w4 i (.inl fun e => hn (w3' i e hi)), n3 i hi]
theorem gcM_ok {ρ ρ' : Env} {m m' a : Mem} {w w' : World} {L La : List Nat} {olds : List Nat} {r r' : AV} {z : Value} (hr : Rep ρ m w) (hs : Stp ρ m.fresh w ρ' m' w' L) (hl : Lg m.fresh m' L) (hz : conc ρ' r = some z)
    (hLa : Lg m a La) (hin : ∀ i ∈ m'.log, i < m.next → i ∈ La) (h : gcM m m' olds r = some (r', a)) : Stp ρ m w (ρ'.gc m.next olds) a w' La ∧ conc (ρ'.gc m.next olds) r' = some z := by
  have hlog : m'.log = L := by rw [hl.log]; simp [Mem.fresh]
  unfold gcM at h
  cases hb : (nodupB olds && allGe m.next olds) with
  | false => rw [hb, cond_false] at h; cases h
  | true =>
    rw [hb, cond_true] at h
    simp only [Bool.and_eq_true] at hb
    have hnd := nodupB_ok hb.1
    have hge := allGe_ok hb.2
    split at h
    · cases h
    · rename_i r1 hr1
      split at h
      · cases h
      · rename_i acc hacc
        split at h
        · cases h
        · rename_i a' ha
          cases h
          obtain ⟨n1, n2, n3, n4, n5⟩ := keepN_ok olds m acc hacc
          obtain ⟨w1, _, w4, w5⟩ := keepW_ok m'.log acc a ha
          have lowσ : ∀ i, i < m.next → (ρ'.gc m.next olds).σ i = ρ'.σ i := fun i hi => by simp [Env.gc, hi]
          have lowκ : ∀ i, i < m.next → (ρ'.gc m.next olds).κ i = ρ'.κ i := fun i hi => by simp [Env.gc, hi]
          have highσ : ∀ k j, olds[k]? = some j → (ρ'.gc m.next olds).σ (m.next + k) = ρ'.σ j := fun k j hk => by
            have h1 : ¬ m.next + k < m.next := by omega
            simp only [Env.gc, h1, if_false, Nat.add_sub_cancel_left, hk]
          have highκ : ∀ k j, olds[k]? = some j → (ρ'.gc m.next olds).κ (m.next + k) = ρ'.κ j := fun k j hk => by
            have h1 : ¬ m.next + k < m.next := by omega
            simp only [Env.gc, h1, if_false, Nat.add_sub_cancel_left, hk]
          have hle : ρ.le (ρ'.gc m.next olds) := ⟨fun i x hx => by rw [lowσ i (hr.lt_of_σ hx)]; exact hs.le.σ i x hx, fun i x hx => by rw [lowκ i (hr.lt_of_σ hx)]; exact hs.le.κ i x hx, hs.le.y⟩
          -- where a block of the new memory comes from
          have src : ∀ i b, a.get i = some b → ∃ j x g, m'.get j = some x ∧ ρ'.σ j = some g ∧ (ρ'.gc m.next olds).σ i = some g ∧ BlkOK (ρ'.gc m.next olds) i b w' g ∧ ((i < m.next ∧ j = i) ∨ (m.next ≤ i ∧ olds[i - m.next]? = some j)) := by
            intro i b hi
            rcases Nat.lt_or_ge i m.next with q | q
            · by_cases hil : i ∈ m'.log
              · rcases w5 i hil q with ⟨_, k2⟩ | ⟨x, y, k1, k2, k3⟩
                · rw [k2] at hi; cases hi
                · rw [k3] at hi; cases hi
                  obtain ⟨g, g1, g2⟩ := hs.rep.blk i x k1
                  exact ⟨i, x, g, k1, g1, by rw [lowσ i q]; exact g1, renB_ok k2 (lowκ i q) g2, .inl ⟨q, rfl⟩⟩
              · rw [w4 i (.inl hil), n3 i q] at hi
                have hm' : m'.get i = some b := by rw [hl.get i q (by rw [← hlog]; exact hil)]; exact hi
                obtain ⟨g, g1, g2⟩ := hs.rep.blk i b hm'
                obtain ⟨g0, f1, f2⟩ := hr.blk i b hi
                refine ⟨i, b, g, hm', g1, by rw [lowσ i q]; exact g1, ?_, .inl ⟨q, rfl⟩⟩
                cases b with
                | cells c e op =>
                  obtain ⟨vs, ex, fr, h1, h2, h3, h4⟩ := g2
                  obtain ⟨vs0, _, _, k1, _⟩ := f2
                  have e1 := concL_mono hs.le _ _ k1
                  rw [h1] at e1
                  cases e1
                  refine ⟨vs, ex, fr, concL_mono hle _ _ k1, h2, h3, ?_⟩
                  cases op with
                  | none => exact h4
                  | some sz => simp only [Room] at h4 ⊢; rw [lowκ i q]; exact h4
                | mp es cl =>
                  obtain ⟨vs, h1, h2⟩ := g2
                  obtain ⟨vs0, k1, _⟩ := f2
                  have e1 := concE_mono hs.le _ _ k1
                  rw [h1] at e1
                  cases e1
                  exact ⟨vs, concE_mono hle _ _ k1, h2⟩
            · rcases Nat.lt_or_ge (i - m.next) olds.length with q1 | q1
              · have hk : olds[i - m.next]? = some olds[i - m.next] := List.getElem?_eq_getElem q1
                obtain ⟨x, y, k1, k2, k3⟩ := n4 _ _ hk
                rw [w4 i (.inr q)] at hi
                have hi' : m.next + (i - m.next) = i := by omega
                rw [hi'] at k3
                rw [k3] at hi
                cases hi
                obtain ⟨g, g1, g2⟩ := hs.rep.blk _ x k1
                have s1 := highσ _ _ hk
                have s2 := highκ _ _ hk
                rw [hi'] at s1 s2
                exact ⟨_, x, g, k1, g1, by rw [s1]; exact g1, renB_ok k2 s2 g2, .inr ⟨q, hk⟩⟩
              · rw [w4 i (.inr q), n5 i (by omega)] at hi
                have := hr.lt hi
                omega
          refine ⟨⟨hle, ⟨fun i b hi => ?_, fun i j bi bj g hi hj ei ej => ?_, fun i hi => ?_, fun i g hi => ?_, fun i b g hi ei => ?_, hs.rep.ok⟩, hs.os, hs.tape, hs.output, hs.size, fun g hg hn => hs.frame g hg fun i hi e => ?_, fun i g e => ?_⟩, by rw [renA_ok _ _ hr1]; exact hz⟩
          · obtain ⟨j, x, g, _, _, h3, h4, _⟩ := src i b hi
            exact ⟨g, h3, h4⟩
          · obtain ⟨i', x, g1, k1, k2, k3, _, k5⟩ := src i bi hi
            obtain ⟨j', y, g2, l1, l2, l3, _, l5⟩ := src j bj hj
            rw [ei] at k3; cases k3
            rw [ej] at l3; cases l3
            have heq := hs.rep.inj i' j' x y g k1 l1 k2 l2
            subst heq
            rcases k5 with ⟨p1, p2⟩ | ⟨p1, p2⟩ <;> rcases l5 with ⟨q1, q2⟩ | ⟨q1, q2⟩
            · omega
            · have := hge i' (List.mem_of_getElem? q2); omega
            · have := hge i' (List.mem_of_getElem? p2); omega
            · have h1 := (List.getElem?_eq_some_iff.1 p2).1
              have := (List.getElem?_inj h1 hnd).1 (p2.trans q2.symm)
              omega
          · rw [w1, n1] at hi
            have : ¬ i < m.next := by omega
            simp [Env.gc, this, List.getElem?_eq_none (show olds.length ≤ i - m.next by omega)]
          · simp only [Env.gc] at hi
            split at hi
            · exact hs.rep.low _ _ hi
            · split at hi
              · cases hi
              · exact hs.rep.low _ _ hi
          · obtain ⟨j, x, g1, k1, k2, k3, _, _⟩ := src i b hi
            rw [ei] at k3; cases k3
            exact hs.rep.sep j x g k1 k2
          · exact hn i (hin i (by rw [hlog]; exact hi) (hr.lt_of_σ e)) e
          · simp only [Env.gc] at e
            have fin : ∀ j, ρ'.σ j = some g → (ρ.σ j = some g → ρ.σ i = some g) → ρ.σ i = some g ∨ w.heap.size ≤ g ∨ ∃ j ∈ La, ρ.σ j = some g := fun j hj hij => by
              rcases hs.fresh j g hj with q | q | ⟨l, q1, q2⟩
              · exact .inl (hij q)
              · exact .inr (.inl q)
              · exact .inr (.inr ⟨l, hin l (by rw [hlog]; exact q1) (hr.lt_of_σ q2), q2⟩)
            split at e
            · exact fin i e id
            · split at e
              · cases e
              · rename_i j hj
                refine fin j e fun q => ?_
                have := hr.dom j (hge j (List.mem_of_getElem? hj))
                rw [this] at q; cases q

/-- The frame at a function's beginning. -/
def initE : List AV → Nat → Tr AV → Tr AV
  | [], _, e => e
  | a :: l, k, e => initE l (Nat.succ k) (e.put k (some a))
theorem initE_get : ∀ (l : List AV) (k : Nat) (e : Tr AV) (s : Nat), (initE l k e).get s = if s < k then e.get s else match l[s - k]? with | some a => some a | none => e.get s
  | [], k, e, s => by simp [initE]
  | a :: l, k, e, s => by
    rw [initE, initE_get l, Tr.get_put]
    by_cases h1 : s < k
    · rw [if_pos (by omega), if_pos h1, if_neg (by omega)]
    · rw [if_neg h1]
      by_cases h2 : s = k
      · subst h2; simp
      · rw [if_neg (by omega), show s - k = (s - Nat.succ k) + 1 by omega, List.getElem?_cons_succ]
        cases l[s - Nat.succ k]? <;> simp [h2]
section
variable (P : Program)
def resultsA (m : Mem) (e : Tr AV) : List ResultVar → Option (List AV)
  | [] => some []
  | .tmp t :: l => match e.get t with
    | none => none
    | some v => match resultsA m e l with
      | none => none
      | some r => some (v :: r)
  | .cell a t :: l => match e.get a with
    | none => none
    | some p => match loadA P m t p with
      | none => none
      | some v => match resultsA m e l with
        | none => none
        | some r => some (v.1 :: r)
def oneOf : List AV → AV
  | [v] => v
  | l => .tuple l
def evF (cx : Ctx) (fn : Func) (c : Code) (args : List AV) (m : Mem) : Option (AV × Mem) :=
  bif Nat.ble args.length fn.ntmps then
    match evC P cx fn.ntmps c (initE args 0 .nil) m.fresh with
    | none => none
    | some (x, e, m') => match x with
      | .ex _ => none
      | .nrm => (match resultsA P m' e fn.results.toList with
        | none => none
        | some l => gcA m m' (oneOf l))
      | .ret => (match resultsA P m' e fn.results.toList with
        | none => none
        | some l => gcA m m' (oneOf l))
  else none
end
section
variable {P : Program}
def resV (tmps : Array Value) : ResultVar → Sem Value
  | .tmp t => pure (tmps.getD t undef)
  | .cell p t => do loadVar t (← asAddr (tmps.getD p undef))
theorem results_eq (fn : Func) (tmps : Array Value) : results fn tmps = (do let vs ← fn.results.mapM (resV tmps); pure (if h : vs.size = 1 then vs[0] else .tuple vs)) := by
  unfold results
  congr 1
theorem resultsA_ok {ρ : Env} {m : Mem} {w : World} (hr : Rep ρ m w) {n : Nat} {e : Tr AV} {a : Act} (he : EnvOK ρ n e a) : ∀ (l : List ResultVar) (r : List AV), resultsA P m e l = some r →
    ∃ vs, concL ρ r = some vs ∧ (l.mapM (resV a.tmps)).run P w = .ok vs w
  | [], r, h => by simp only [resultsA, Option.some.injEq] at h; subst h; exact ⟨[], rfl, rfl⟩
  | .tmp t :: l, r, h => by
    unfold resultsA at h
    split at h
    · cases h
    · rename_i v hv
      split at h
      · cases h
      · rename_i r' hr'
        cases h
        obtain ⟨vs, h1, h2⟩ := resultsA_ok hr he l r' hr'
        obtain ⟨x, k1, k2⟩ := he.get t v hv
        refine ⟨x :: vs, concL_cons_mk k2 h1, ?_⟩
        have hx : a.tmps.getD t undef = x := by rw [Array.getD_eq_getD_getElem?, k1]; rfl
        rw [List.mapM_cons]
        simp only [resV, hx, Sem.run_bind, Sem.run_pure, Result.andThen_ok, h2]
  | .cell p t :: l, r, h => by
    unfold resultsA at h
    split at h
    · cases h
    · rename_i q hq
      split at h
      · cases h
      · rename_i v hv
        split at h
        · cases h
        · rename_i r' hr'
          cases h
          obtain ⟨vs, h1, h2⟩ := resultsA_ok hr he l r' hr'
          obtain ⟨x, k1, k2⟩ := he.get p q hq
          obtain ⟨z, z1, z2⟩ := loadA_ok hr k2 (a := v.1) (i := v.2) hv
          refine ⟨z :: vs, concL_cons_mk z1 h1, ?_⟩
          have hx : ∃ ad, x = .pointer (some ad) := by
            unfold loadA at hv
            split at hv
            · obtain ⟨g, _, rfl⟩ := ptr_conc k2; exact ⟨_, rfl⟩
            · cases hv
          obtain ⟨ad, rfl⟩ := hx
          simp only [Instr.loadAt, Instr.sureAddr, pure_bind] at z2
          have hx : a.tmps.getD p undef = .pointer (some ad) := by rw [Array.getD_eq_getD_getElem?, k1]; rfl
          rw [List.mapM_cons]
          simp only [resV, hx, Sem.run_bind, Sem.run_pure, Result.andThen_ok, h2, asAddr, z2]
theorem oneOf_ok {ρ : Env} {l : List AV} {vs : List Value} (h : concL ρ l = some vs) : conc ρ (oneOf l) = some (if h : vs.toArray.size = 1 then vs.toArray[0] else .tuple vs.toArray) := by
  cases l with
  | nil => simp [concL] at h; subst h; rfl
  | cons a l =>
    cases l with
    | nil =>
      obtain ⟨x, y, h1, h2, rfl⟩ := concL_cons h
      simp only [concL, Option.some.injEq] at h2
      subst h2
      simpa [oneOf] using h1
    | cons b l =>
      have hl := concL_length h
      have : ¬ vs.toArray.size = 1 := by simp at hl ⊢; omega
      rw [dif_neg this]
      simp [oneOf, conc, h]
/-- A FUNCTION. -/
theorem evF_sound (hm : P.follows .mixedOrders = true) {cx : Ctx} (hc : CallSound P cx.call) {g : FuncId} {fn : Func} {c : Code} (hg : P.funcs[g]? = some fn) (hb : fn.body = some c) (hname : (fn.name == "runtime.NumGoroutine") = false)
    (hl : ∀ b ∈ loopsOf c, LoopOK P cx fn.ntmps b) {args : List AV} {m m' : Mem} {r : AV} (h : evF P cx fn c args m = some (r, m')) :
    ∃ L, Lg m m' L ∧ ∀ ρ w xs, Rep ρ m w → concL ρ args = some xs → CallsTo P g xs.toArray w (fun z w' => ∃ ρ', Stp ρ m w ρ' m' w' L ∧ conc ρ' r = some z) := by
  unfold evF at h
  cases hle : Nat.ble args.length fn.ntmps with
  | false => rw [hle, cond_false] at h; cases h
  | true =>
    rw [hle, cond_true] at h
    rw [Nat.ble_eq] at hle
    split at h
    · cases h
    · rename_i x e m1 h1
      obtain ⟨L1, hL1, H⟩ := evC_sound hm hc c hl _ _ _ _ _ h1
      have key : ∀ l, resultsA P m1 e fn.results.toList = some l → gcA m m1 (oneOf l) = some (r, m') → (x = .nrm ∨ x = .ret) →
          ∃ L, Lg m m' L ∧ ∀ ρ w xs, Rep ρ m w → concL ρ args = some xs → CallsTo P g xs.toArray w (fun z w' => ∃ ρ', Stp ρ m w ρ' m' w' L ∧ conc ρ' r = some z) := by
        intro l hl' hgc hx
        unfold gcA at hgc
        obtain ⟨La, a1, a2, a3⟩ := gcM_lg hgc
        refine ⟨La, a1, fun ρ w xs hr hxs => .inl ⟨by simp only [callFunc, Sem.run_bind, run_program, Result.andThen_ok, hg, hname, hb, Option.isNone_some, Bool.false_eq_true, if_false, Sem.run_pure], ?_⟩⟩
        refine calls_of_wp hg hb ?_
        have hlen := concL_length hxs
        refine H ρ w _ hr.fresh ⟨rfl, by simp only [Array.size_append, List.size_toArray, Array.size_replicate]; omega, fun s v hv => ?_⟩ _ fun ρ' a' w' k1 k2 => ?_
        · rw [initE_get] at hv
          simp only [Nat.not_lt_zero, if_false, Nat.sub_zero, Tr.get_nil] at hv
          split at hv
          · rename_i b hb'
            cases hv
            obtain ⟨y, y1, y2⟩ := concL_get hxs hb'
            refine ⟨y, ?_, y2⟩
            have := (List.getElem?_eq_some_iff.1 y1).1
            rw [Array.getElem?_append_left (by simpa using this)]
            simpa using y1
          · cases hv
        · obtain ⟨vs, v1, v2⟩ := resultsA_ok (P := P) k1.rep k2 _ _ hl'
          have hres : (results fn a'.tmps).run P w' = .ok (if h : vs.toArray.size = 1 then vs.toArray[0] else .tuple vs.toArray) w' := by
            rw [results_eq, Array.mapM_eq_mapM_toList]
            simp only [Sem.run_bind, Sem.run_map, v2, Result.andThen_ok, Sem.run_pure]
          obtain ⟨g1, g2⟩ := gcM_ok hr k1 hL1 (oneOf_ok v1) a1 a3 hgc
          rcases hx with rfl | rfl
          · exact ⟨k2.defers, _, hres, _, rfl, _, g1, g2⟩
          · exact ⟨k2.defers, _, hres, _, rfl, _, g1, g2⟩
      split at h
      · cases h
      · split at h
        · cases h
        · rename_i l hl'; exact key l hl' h (.inl rfl)
      · split at h
        · cases h
        · rename_i l hl'; exact key l hl' h (.inr rfl)
end

section
variable (P : Program) (tab : FuncId → Option (Func × Code)) (spec : FuncId → List AV → Mem → Option (AV × Mem))
def callN (cx : Ctx) (g : FuncId) (args : List AV) (m : Mem) : Option (AV × Mem) :=
  match spec g args m with
  | some r => some r
  | none => match tab g with
    | some q => evF P cx q.1 q.2 args m
    | none => none
def loopN (cx : Ctx) (n key : Nat) (b : Code) (e : Tr AV) (m : Mem) : Option (AExit × Tr AV × Mem) :=
  match evC P cx n b e m with
  | none => none
  | some (x, e', m') => match x with
    | .nrm => cx.loop n key b e' m'
    | .ex i => some (.ex i, e', m')
    | .ret => some (.ret, e', m')
/-- So many calls one within the other, rounds one behind the other. -/
def cxN : Nat → Ctx
  | 0 => ⟨fun _ _ _ => none, fun _ _ _ _ _ => none⟩
  | k + 1 => ⟨callN P tab spec (cxN k), loopN P (cxN k)⟩
end
def TabOK (P : Program) (tab : FuncId → Option (Func × Code)) : Prop := ∀ g q, tab g = some q → P.funcs[g]? = some q.1 ∧ q.1.body = some q.2 ∧ (q.1.name == "runtime.NumGoroutine") = false
theorem cxN_sound {P : Program} {tab : FuncId → Option (Func × Code)} {spec : FuncId → List AV → Mem → Option (AV × Mem)} (hm : P.follows .mixedOrders = true) (ht : TabOK P tab) (hs : CallSound P spec) :
    ∀ k, CallSound P (cxN P tab spec k).call ∧ ∀ n b, LoopOK P (cxN P tab spec k) n b
  | 0 => ⟨fun g args m r m' h => by simp [cxN] at h, fun n b e m x e' m' h => by simp [cxN] at h⟩
  | k + 1 => by
    obtain ⟨ih1, ih2⟩ := cxN_sound hm ht hs k
    refine ⟨fun g args m r m' h => ?_, fun n b e m x e' m' h => ?_⟩
    · have h : callN P tab spec (cxN P tab spec k) g args m = some (r, m') := h
      unfold callN at h
      split at h
      · rename_i q hq; cases h; exact hs g args m r m' hq
      · split at h
        · rename_i q hq
          obtain ⟨t1, t2, t3⟩ := ht g q hq
          exact evF_sound hm ih1 t1 t2 t3 (fun b _ => ih2 _ b) h
        · cases h
    · have h : loopN P (cxN P tab spec k) n (keyOf b) b e m = some (x, e', m') := h
      unfold loopN at h
      split at h
      · cases h
      · rename_i x1 e1 m1 h1
        have hbody := evC_sound hm ih1 b (fun b' _ => ih2 n b') _ _ _ _ _ h1
        split at h
        · exact loop_more hbody (ih2 n b _ _ _ _ _ h)
        · cases h; exact loop_out (fun e => by cases e) hbody
        · cases h; exact loop_out (fun e => by cases e) hbody

/-- A call without blocks of memory handed in. -/
theorem CallSound.plain {P : Program} {call : FuncId → List AV → Mem → Option (AV × Mem)} (hc : CallSound P call) {g : FuncId} {args : List AV} {r : AV} {m' : Mem} {xs : List Value} {z : Value} (h : call g args Mem.empty = some (r, m'))
    (y : Nat → Int) (hxs : ∀ ρ : Env, ρ.y = y → concL ρ args = some xs) (hz : ∀ ρ, conc ρ r = some z) (w : World) (hw : base.ok w) : CallsTo P g xs.toArray w (fun v w' => v = z ∧ Below w.heap.size w w') := by
  obtain ⟨L, _, H⟩ := hc g args Mem.empty r m' h
  have key : ∀ v w', (∃ ρ', Stp ⟨fun _ => none, fun _ => 0, y⟩ Mem.empty w ρ' m' w' L ∧ conc ρ' r = some v) → v = z ∧ Below w.heap.size w w' := by
    rintro v w' ⟨ρ', k1, k2⟩
    rw [hz] at k2
    cases k2
    exact ⟨rfl, k1.os, k1.tape, k1.output, k1.size, fun i hi => k1.frame i hi fun _ _ e => by cases e⟩
  rcases H _ w xs (Rep.empty y hw) (hxs _ rfl) with ⟨h1, h2⟩ | ⟨v, w', h1, h2⟩
  · exact .inl ⟨h1, h2.mono fun e w' ⟨v, hv, q⟩ => ⟨v, hv, key v w' q⟩⟩
  · exact .inr ⟨v, w', h1, key v w' h2⟩
end
end Ev
end Go.Proofs.YtmolojjhnbchbaaGreatDoor

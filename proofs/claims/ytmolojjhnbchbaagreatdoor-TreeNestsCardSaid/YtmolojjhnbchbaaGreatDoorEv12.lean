/- The evaluator, part 12: drawn regions, the proof. No condition. -/
import Derived.Test.YtmolojjhnbchbaaGreatDoorEv11
set_option linter.all false
namespace Go.Proofs.YtmolojjhnbchbaaGreatDoor
open Go.RowKit

namespace Ev
noncomputable section

def DK.isEf : DK → Bool
  | .ef _ _ => true
  | _ => false
section
variable {P : Program} {call : FuncId → List AV → Mem → Option (AV × Mem)} {n : Nat} {ops : Array Oper} {E : Nat → Tr AV} {M : Nat → Mem} {V : Nat → AV} {K : Nat → DK}

def MemK (m m' : Mem) (k : DK) : Prop := match k with | .ef nx lg => nx = m.next ∧ Lg m m' lg | .al nx => nx = m.next ∧ ∃ b, m' = m.new b | _ => m' = m
theorem Lex.mem (h : Lex P call n ops E M V K) (hc : CallSound P call) {i : Nat} (hi : i < ops.size) : MemK (M i) (M (i + 1)) (K i) := by
  have hs := (h.step i _ (Array.getElem?_eq_getElem hi)).did
  rcases hs with ⟨_, _, h3, h4⟩ | ⟨_, h2⟩
  · rw [h3]; exact h4
  · have := opStepD_wp hc h2
    cases hk' : K i with
    | pu => rw [hk'] at this; exact this.1
    | ld j => rw [hk'] at this; exact this.1
    | ef nx lg => rw [hk'] at this; exact ⟨this.1, this.2.1⟩
    | al nx => rw [hk'] at this; obtain ⟨q1, b, q2, _⟩ := this; exact ⟨q1, b, q2⟩
theorem Lex.get (h : Lex P call n ops E M V K) (hc : CallSound P call) {t b : Nat} : ∀ i, t ≤ i → i ≤ ops.size → (∀ j nx lg, t ≤ j → j < i → K j = .ef nx lg → b < nx ∧ b ∉ lg) → (∀ j nx, t ≤ j → j < i → K j = .al nx → b ≠ nx) → (M i).get b = (M t).get b := by
  intro i
  induction i with
  | zero => intro h1 _ _ _; have : t = 0 := by omega
            rw [this]
  | succ i ih =>
    intro h1 h2 h3 h4
    by_cases e : t = i + 1
    · rw [e]
    · have hm := h.mem hc (i := i) (by omega)
      have ih' := ih (by omega) (by omega) (fun j nx lg q1 q2 q3 => h3 j nx lg q1 (by omega) q3) (fun j nx q1 q2 q3 => h4 j nx q1 (by omega) q3)
      cases hk' : K i with
      | ef nx lg =>
        rw [hk'] at hm
        have hm : nx = (M i).next ∧ Lg (M i) (M (i + 1)) lg := hm
        obtain ⟨k1, k2⟩ := h3 i nx lg (by omega) (by omega) hk'
        rw [hm.2.get b (by rw [← hm.1]; exact k1) k2]
        exact ih'
      | al nx =>
        rw [hk'] at hm
        obtain ⟨q1, bl, q2⟩ := hm
        rw [q2, Mem.get_new, if_neg (by rw [← q1]; exact h4 i nx (by omega) (by omega) hk')]
        exact ih'
      | pu => rw [hk'] at hm; rw [show M (i + 1) = M i from hm]; exact ih'
      | ld j => rw [hk'] at hm; rw [show M (i + 1) = M i from hm]; exact ih'
/-- A block of the world that no number stands for yet gets the next one. -/
theorem Stp.adopt {ρ0 ρ : Env} {m0 m : Mem} {w0 w : World} {L : List Nat} (h : Stp ρ0 m0 w0 ρ m w L) {g : Nat} (hg : w0.heap.size ≤ g) (hn : ∀ j, ρ.σ j ≠ some g) {b : Blk} (hb : BlkOK (ρ.add m.next g 0) m.next b w g) (hw0 : base.ok w0) :
    Stp ρ0 m0 w0 (ρ.add m.next g 0) (m.new b) w L := by
  have hd := h.rep.dom m.next (Nat.le_refl _)
  have hle := Env.le_add hd g 0
  refine ⟨h.le.trans hle, ⟨fun i bi hi => ?_, fun i j bi bj x hi hj ei ej => ?_, fun i hi => ?_, fun i x hi => ?_, fun i bi x hi ei => ?_, h.rep.ok⟩, h.os, h.tape, h.output, h.size, h.frame, fun i x e => ?_⟩
  · rw [Mem.get_new] at hi
    by_cases e : i = m.next
    · rw [if_pos e] at hi
      cases hi
      subst e
      exact ⟨_, Env.add_σ _ _ _ _, hb⟩
    · rw [if_neg e] at hi
      obtain ⟨x, hx, hok⟩ := h.rep.blk i bi hi
      exact ⟨x, hle.σ i x hx, hok.mono hle hx rfl⟩
  · rw [Mem.get_new] at hi hj
    simp only [Env.add] at ei ej
    by_cases e1 : i = m.next <;> by_cases e2 : j = m.next
    · rw [e1, e2]
    · rw [if_pos e1] at ei
      rw [if_neg e2] at ej
      cases ei
      exact absurd ej (hn j)
    · rw [if_neg e1] at ei
      rw [if_pos e2] at ej
      cases ej
      exact absurd ei (hn i)
    · rw [if_neg e1] at hi ei
      rw [if_neg e2] at hj ej
      exact h.rep.inj i j bi bj x hi hj ei ej
  · have h1 : m.next < i := hi
    have hne : i ≠ m.next := by omega
    simp [Env.add, hne, h.rep.dom i (Nat.le_of_lt h1)]
  · simp only [Env.add] at hi
    by_cases e : i = m.next
    · rw [if_pos e] at hi; cases hi; exact hb.lt
    · rw [if_neg e] at hi; exact h.rep.low i x hi
  · rw [Mem.get_new] at hi
    simp only [Env.add] at ei
    by_cases e : i = m.next
    · rw [if_pos e] at ei; cases ei; exact fun hk => by have := base.lt w0 _ hw0 hk; omega
    · rw [if_neg e] at hi ei; exact h.rep.sep i bi x hi ei
  · simp only [Env.add] at e
    by_cases e1 : i = m.next
    · rw [if_pos e1] at e; cases e; exact .inr (.inl hg)
    · rw [if_neg e1] at e; exact h.fresh i x e
/-- A block that no number stands for. -/
theorem Stp.idle {ρ : Env} {m : Mem} {w : World} (h : Rep ρ m w) (o : Obj) : Stp ρ m w ρ m (w.alloc o) [] := by
  have hold : ∀ g, g < w.heap.size → (w.alloc o).heap[g]? = w.heap[g]? := fun g hg => heap_alloc_old w o g hg
  refine ⟨Env.le.refl ρ, ⟨fun i bi hi => ?_, h.inj, h.dom, fun i g hi => ?_, h.sep, base.stays w _ h.ok fun g hg => hold g (base.lt w g h.ok hg)⟩, rfl, rfl, rfl, by simp, fun g hg _ => hold g hg, fun i g e => .inl e⟩
  · obtain ⟨g, hg, hok⟩ := h.blk i bi hi
    exact ⟨g, hg, hok.mono (Env.le.refl ρ) hg (hold g hok.lt)⟩
  · have := h.low i g hi; simp; omega

/-- Where a walk in some order stands when just the operations of S are done: all that writes ahead of t, nothing of it behind, new variables aside (G: the blocks of those that wait). -/
structure At (P : Program) (n : Nat) (ops : Array Oper) (E : Nat → Tr AV) (M : Nat → Mem) (V : Nat → AV) (K : Nat → DK) (ρ0 : Env) (w0 : World) (S : Nat → Bool) (a : Act) (w : World) (ρ : Env) (t : Nat) (L : List Nat) (G : Nat → Nat) (W : Nat → Value) : Prop where
  le : t ≤ ops.size
  ef : ∀ i, i < ops.size → (K i).isEf = true → (S i = true ↔ i < t)
  al : ∀ i, i < ops.size → (K i).isAl = true → i < t → S i = true
  stp : Stp ρ0 (M 0) w0 ρ (M t) w L
  lg : Lg (M 0) (M t) L
  pend : ∀ i, i < ops.size → (K i).isAl = true → t ≤ i → S i = true → w0.heap.size ≤ G i ∧ (∀ j, ρ.σ j ≠ some (G i)) ∧ ∃ b obj val, M (i + 1) = (M i).new b ∧ NewB ρ (M i).next b (V i) obj val ∧ W i = val (G i) ∧ w.heap[G i]? = some obj
  pinj : ∀ i j, i < ops.size → j < ops.size → (K i).isAl = true → (K j).isAl = true → t ≤ i → t ≤ j → S i = true → S j = true → G i = G j → i = j
  last : ∀ s i, LastW ops S s i → ∃ x, a.tmps[s]? = some x ∧ ((K i).isAl = true → t ≤ i → x = W i) ∧ (¬ ((K i).isAl = true ∧ t ≤ i) → conc ρ (V i) = some x)
  no : ∀ s v, NoW ops S s → (E 0).get s = some v → ∃ x, a.tmps[s]? = some x ∧ conc ρ v = some x
theorem isE_of_ef {k : DK} (h : k.isEf = true) : k.isE = true := by cases k <;> simp_all [DK.isEf, DK.isE]
theorem isE_of_al {k : DK} (h : k.isAl = true) : k.isE = true := by cases k <;> simp_all [DK.isAl, DK.isE]
theorem At.next (h : Lex P call n ops E M V K) (hc : CallSound P call) {ρ0 : Env} {w0 : World} {S : Nat → Bool} {a : Act} {w : World} {ρ : Env} {t : Nat} {L : List Nat} {G : Nat → Nat} {W : Nat → Value} (hA : At P n ops E M V K ρ0 w0 S a w ρ t L G W) (hw0 : base.ok w0)
    (ht : t < ops.size) (hs : (K t).isE = true → S t = true) : ∃ ρ', At P n ops E M V K ρ0 w0 S a w ρ' (t + 1) L G W := by
  have hm := h.mem hc ht
  have quiet : (K t).isE = false → M (t + 1) = M t → ∃ ρ', At P n ops E M V K ρ0 w0 S a w ρ' (t + 1) L G W := by
    intro hq hM
    have hne : ∀ i, (K i).isE = true → i ≠ t := by rintro i hi rfl; rw [hq] at hi; cases hi
    refine ⟨ρ, ht, fun i hi he => ?_, fun i hi he hlt => ?_, by rw [hM]; exact hA.stp, by rw [hM]; exact hA.lg, fun i hi he hle => hA.pend i hi he (by omega), fun i j hi hj ei ej hti htj => hA.pinj i j hi hj ei ej (by omega) (by omega), fun s i hl => ?_, hA.no⟩
    · rw [hA.ef i hi he]; have := hne i (isE_of_ef he); omega
    · have := hne i (isE_of_al he); exact hA.al i hi he (by omega)
    · obtain ⟨x, h1, h2, h3⟩ := hA.last s i hl
      exact ⟨x, h1, fun q1 q2 => h2 q1 (by omega), fun q => h3 fun q2 => q ⟨q2.1, by have := hne i (isE_of_al q2.1); omega⟩⟩
  cases hk : K t with
  | pu => rw [hk] at hm; exact quiet (by rw [hk]; rfl) hm
  | ld b => rw [hk] at hm; exact quiet (by rw [hk]; rfl) hm
  | ef nx lg =>
    have := (hA.ef t ht (by rw [hk]; rfl)).1 (hs (by rw [hk]; rfl))
    omega
  | al nx =>
    have hal : (K t).isAl = true := by rw [hk]; rfl
    have hst := hs (isE_of_al hal)
    obtain ⟨g1, g2, b, obj, val, b1, b2, b3, g3⟩ := hA.pend t ht hal (Nat.le_refl _) hst
    have hstp := hA.stp.adopt g1 g2 (b2.blk (Env.le_add (hA.stp.rep.dom _ (Nat.le_refl _)) _ _) g3) hw0
    have hle : ρ.le (ρ.add (M t).next (G t) 0) := Env.le_add (hA.stp.rep.dom _ (Nat.le_refl _)) _ _
    refine ⟨ρ.add (M t).next (G t) 0, ht, fun i hi he => ?_, fun i hi he hlt => ?_, by rw [b1]; exact hstp, by rw [b1]; exact hA.lg.trans (Lg.new _ _), fun i hi he hlt hsi => ?_, fun i j hi hj ei ej hti htj => hA.pinj i j hi hj ei ej (by omega) (by omega), fun s i hl => ?_, fun s v hn hv => ?_⟩
    · rw [hA.ef i hi he]
      have : i ≠ t := by rintro rfl; rw [hk] at he; cases he
      omega
    · by_cases e : i = t
      · rw [e]; exact hst
      · exact hA.al i hi he (by omega)
    · obtain ⟨p1, p2, p3⟩ := hA.pend i hi he (by omega) hsi
      refine ⟨p1, fun j e => ?_, (by obtain ⟨b, obj, val, q1, q2, q3, q4⟩ := p3; exact ⟨b, obj, val, q1, q2.le hle, q3, q4⟩)⟩
      simp only [Env.add] at e
      by_cases ej : j = (M t).next
      · rw [if_pos ej] at e
        have := hA.pinj t i ht hi hal he (Nat.le_refl _) (by omega) hst hsi (Option.some.inj e)
        omega
      · rw [if_neg ej] at e; exact p2 j e
    · obtain ⟨x, h1, h2, h3⟩ := hA.last s i hl
      refine ⟨x, h1, fun q1 q2 => h2 q1 (by omega), fun q => ?_⟩
      by_cases e : i = t
      · subst e
        rw [h2 hal (Nat.le_refl _), b3]
        exact b2.2 _ _ (Env.add_σ _ _ _ _)
      · exact conc_mono hle _ _ (h3 fun q2 => q ⟨q2.1, by omega⟩)
    · obtain ⟨x, h1, h2⟩ := hA.no s v hn hv
      exact ⟨x, h1, conc_mono hle _ _ h2⟩
/-- As far as may be. -/
theorem At.far (h : Lex P call n ops E M V K) (hc : CallSound P call) {ρ0 : Env} {w0 : World} {S : Nat → Bool} {a : Act} {w : World} {L : List Nat} {G : Nat → Nat} {W : Nat → Value} (hw0 : base.ok w0) : ∀ (f : Nat) (ρ : Env) (t : Nat), ops.size - t ≤ f → At P n ops E M V K ρ0 w0 S a w ρ t L G W →
    ∃ ρ' t', At P n ops E M V K ρ0 w0 S a w ρ' t' L G W ∧ (t' < ops.size → (K t').isE = true ∧ S t' = false)
  | 0, ρ, t, hf, hA => ⟨ρ, t, hA, fun q => by omega⟩
  | f + 1, ρ, t, hf, hA => by
    by_cases hstop : t < ops.size ∧ (K t).isE = true ∧ S t = false
    · exact ⟨ρ, t, hA, fun _ => hstop.2⟩
    · by_cases ht : t < ops.size
      · obtain ⟨ρ', hA'⟩ := hA.next h hc hw0 ht fun he => by
          cases hs : S t with
          | true => rfl
          | false => exact absurd ⟨ht, he, hs⟩ hstop
        exact At.far h hc hw0 f ρ' (t + 1) (by omega) hA'
      · exact ⟨ρ, t, hA, fun q => absurd q ht⟩
structure Inv (P : Program) (n : Nat) (ops : Array Oper) (E : Nat → Tr AV) (M : Nat → Mem) (V : Nat → AV) (K : Nat → DK) (ρ0 : Env) (w0 : World) (S : Nat → Bool) (a : Act) (w : World) : Prop where
  ex : ∃ ρ t L G W, At P n ops E M V K ρ0 w0 S a w ρ t L G W
  defers : a.defers = []
  size : a.tmps.size = n

def addS (S : Nat → Bool) (i : Nat) : Nat → Bool := fun l => decide (l = i) || S l

theorem kinds_ef {k k' : DK} (h : k.isE = true) (h' : k'.isEf = true) : kindsOK k k' = false := by
  cases k <;> cases k' <;> simp_all [DK.isEf, DK.isE, kindsOK]

/-- ONE MORE OPERATION, WHICHEVER IS DUE. -/
theorem inv_step (h : Lex P call n ops E M V K) (hc : CallSound P call) {ρ0 : Env} {w0 : World} {S : Nat → Bool} {a : Act} {w : World} (hS : Closed ops S) (hin : ∀ i, S i = true → i < ops.size) (hI : Inv P n ops E M V K ρ0 w0 S a w) (hw0 : base.ok w0)
    {i : Nat} {o : Oper} (ho : ops[i]? = some o) (hi : S i = false) (hd : Due S o) (Q : Exit → Act → World → Prop) : wpOp P ops Q i (fun a' w' => Inv P n ops E M V K ρ0 w0 (addS S i) a' w') a w := by
  have hil := (Array.getElem?_eq_some_iff.1 ho).1
  obtain ⟨⟨ρ1, t1, L, G, W, hA1⟩, hdef, hsz⟩ := hI
  obtain ⟨ρ, t, hA, hstop⟩ := At.far h hc hw0 _ ρ1 t1 (Nat.le_refl _) hA1
  clear hA1
  have hst := h.step i o ho
  -- who is about
  have before : ∀ j o', j < i → ops[j]? = some o' → S j = true ∨ (o'.apart ops o = true ∧ kindsOK (K j) (K i) = true) := fun j o' hj ho' =>
    (h.pair j i o' o hj ho' ho).imp (fun q => q S hS (.inr hd)) id
  have behind : ∀ j o', i < j → ops[j]? = some o' → S j = true → o.apart ops o' = true ∧ kindsOK (K i) (K j) = true := fun j o' hj ho' hsj => by
    rcases h.pair i j o o' hj ho ho' with q | q
    · have := q S hS (.inl hsj); rw [hi] at this; cases this
    · exact q
  -- what it looks at
  have reads : ∀ s, s ∈ o.looksAt ops → ∀ v, (E i).get s = some v → ∃ x, a.tmps[s]? = some x ∧ conc ρ v = some x := by
    intro s hs v hv
    obtain ⟨e1, e2⟩ := h.env s i (by omega)
    have later : ∀ l o', S l = true → ops[l]? = some o' → o'.dst = some s → l < i := by
      intro l o' hl ho' hd'
      rcases Nat.lt_trichotomy l i with q | q | q
      · exact q
      · subst q; rw [hi] at hl; cases hl
      · have := (Oper.apart_spec (behind l o' q ho' hl).1).2.2 s hd'
        exact absurd hs this
    rcases lastW_or (ops := ops) (fun l => decide (l < i)) s with ⟨j, hj⟩ | hn
    · have hji : j < i := by simpa using hj.here
      obtain ⟨oj, hoj, hdj⟩ := hj.dst
      have hjS : S j = true := by
        rcases before j oj hji hoj with q | q
        · exact q
        · exact absurd hs ((Oper.apart_spec q.1).1 s hdj)
      rw [e1 j hj] at hv
      cases hv
      obtain ⟨x, x1, _, x3⟩ := hA.last s j ⟨hjS, hj.dst, fun l o' hl ho' hd' => hj.last l o' (by simpa using later l o' hl ho' hd') ho' hd'⟩
      refine ⟨x, x1, x3 fun ⟨q1, q2⟩ => ?_⟩
      have htl : t < ops.size := by omega
      obtain ⟨z1, z2⟩ := hstop htl
      have hne : t ≠ j := by rintro rfl; rw [hjS] at z2; cases z2
      rcases h.news t j i _ oj o (by omega) hji (Array.getElem?_eq_getElem htl) hoj ho z1 q1 with q | q | q
      · rw [q S hS (.inl hjS)] at z2; cases z2
      · rw [q S hS (.inr hd)] at z2; cases z2
      · exact absurd hs ((Oper.apart_spec q.1).1 s hdj)
    · rw [e2 hn] at hv
      refine hA.no s v (fun l o' hl ho' hd' => ?_) hv
      exact hn l o' (by simpa using later l o' hl ho' hd') ho' hd'
  have hops : ∀ x ∈ o.op.operands, ∀ u, evalO (E i) x = some u → conc ρ u = some (a.eval x) := by
    intro x hx u hu
    cases x with
    | tmp s =>
      have hs : s ∈ o.looksAt ops := by
        unfold Oper.looksAt
        refine List.mem_append.2 (.inl (List.mem_filterMap.2 ⟨.tmp s, Array.mem_toList_iff.2 hx, rfl⟩))
      obtain ⟨x, h1, h2⟩ := reads s hs u hu
      rw [h2]
      simp [Act.eval, Array.getD_eq_getD_getElem?, h1]
    | const v' => exact absV_ok hu
    | global g => cases hu
    | func f => simp only [evalO, Option.some.injEq] at hu; subst hu; rfl
  have hwant : ∀ b, wantedA ops o (E i) = some b → Region.wanted o (yielded ops a.tmps) = b := by
    intro b hw
    unfold wantedA at hw
    unfold Region.wanted
    split at hw
    · rename_i hg; cases hw; rw [hg]
    · rename_i j want hg
      rw [hg]
      simp only
      split at hw
      · rename_i hj; cases hw; simp [yielded, hj]
      · rename_i oj hj
        split at hw
        · rename_i hd'; cases hw; simp [yielded, hj, hd']
        · rename_i d hd'
          have hs : d ∈ o.looksAt ops := by
            unfold Oper.looksAt
            refine List.mem_append.2 (.inr ?_)
            simp [hg, hj, hd']
          split at hw
          · rename_i c hc'
            cases hw
            obtain ⟨x, h1, h2⟩ := reads d hs _ hc'
            simp only [conc, Option.some.injEq] at h2
            subst h2
            simp [yielded, hj, hd', h1]
          · rename_i l hc'
            cases hw
            obtain ⟨x, h1, h2⟩ := reads d hs _ hc'
            simp only [conc, Option.map_eq_some_iff] at h2
            obtain ⟨q, _, rfl⟩ := h2
            simp [yielded, hj, hd', h1]
          · cases hw
  -- what is to be shown behind it
  have done : ∀ ρ' z w' t' L', (K i).isAl = false → ρ.le ρ' → t ≤ t' → t' ≤ ops.size → (∀ j, j < ops.size → (K j).isEf = true → (addS S i j = true ↔ j < t')) → (∀ j, (K j).isAl = true → t ≤ j → t' ≤ j) → Stp ρ0 (M 0) w0 ρ' (M t') w' L' → Lg (M 0) (M t') L' →
      (∀ g, g < w.heap.size → (∀ l, ρ.σ l ≠ some g) → w'.heap[g]? = w.heap[g]? ∧ ∀ l, ρ'.σ l ≠ some g) → conc ρ' (V i) = some z → Inv P n ops E M V K ρ0 w0 (addS S i) (a.put o.dst z) w' := by
    intro ρ' z w' t' L' hnal hle htt ht' hef' hal' hstp' hlg' hfr hz
    have old : ∀ j, (K j).isAl = true → addS S i j = true → S j = true := fun j hj hs => by
      have hne : j ≠ i := by rintro rfl; rw [hnal] at hj; cases hj
      simpa only [addS, hne, decide_false, Bool.false_or] using hs
    refine ⟨⟨ρ', t', L', G, W, ht', hef', fun j hj hk hlt => ?_, hstp', hlg', fun j hj hk hle' hs => ?_, fun j l hj hl kj kl tj tl sj sl => hA.pinj j l hj hl kj kl (by omega) (by omega) (old j kj sj) (old l kl sl), fun s j hj => ?_, fun s v hn hv => ?_⟩, by cases o.dst <;> simp [Act.put, hdef], by cases o.dst <;> simp [Act.put, hsz]⟩
    · have : S j = true := hA.al j hj hk (by
        rcases Nat.lt_or_ge j t with q | q
        · exact q
        · have := hal' j hk q; omega)
      simp [addS, this]
    · obtain ⟨p1, p2, b, obj, val, p3, p4, p5, p6⟩ := hA.pend j hj hk (by omega) (old j hk hs)
      obtain ⟨q1, q2⟩ := hfr (G j) (Array.getElem?_eq_some_iff.1 p6).1 p2
      exact ⟨p1, q2, b, obj, val, p3, p4.le hle, p5, q1.trans p6⟩
    · by_cases hji : j = i
      · subst hji
        obtain ⟨o', q1, q2⟩ := hj.dst
        rw [ho] at q1; cases q1
        have hput := hst.put
        rw [q2] at hput ⊢
        have := putE_lt hput
        exact ⟨z, by simp [Act.put, hsz, this], fun q => by (rw [hnal] at q; cases q), fun _ => hz⟩
      · have hjS : S j = true := by have := hj.here; simp only [addS, hji, decide_false, Bool.false_or] at this; exact this
        have hds : o.dst ≠ some s := by
          intro hds
          have h1 := hj.last i o (by simp [addS]) ho hds
          obtain ⟨o', q1, q2⟩ := hj.dst
          exact (Oper.apart_spec (behind j o' (by omega) q1 hjS).1).2.1 s hds q2
        obtain ⟨x, k1, k2, k3⟩ := hA.last s j ⟨hjS, hj.dst, fun l o' hl ho' hd' => hj.last l o' (by simp [addS, hl]) ho' hd'⟩
        refine ⟨x, ?_, fun q1 q2 => k2 q1 (by omega), fun q => conc_mono hle _ _ (k3 fun q2 => q ⟨q2.1, hal' j q2.1 q2.2⟩)⟩
        cases hod : o.dst with
        | none => exact k1
        | some d =>
          have : d ≠ s := fun e => hds (by rw [hod, e])
          simp [Act.put, Array.getElem?_setIfInBounds_ne this, k1]
    · have hds : o.dst ≠ some s := hn i o (by simp [addS]) ho
      obtain ⟨x, k1, k2⟩ := hA.no s v (fun l o' hl ho' => hn l o' (by simp [addS, hl]) ho') hv
      refine ⟨x, ?_, conc_mono hle _ _ k2⟩
      cases hod : o.dst with
      | none => exact k1
      | some d =>
        have : d ≠ s := fun e => hds (by rw [hod, e])
        simp [Act.put, Array.getElem?_setIfInBounds_ne this, k1]
  -- the same memory
  have quiet : ∀ z, (K i).isE = false → conc ρ (V i) = some z → Inv P n ops E M V K ρ0 w0 (addS S i) (a.put o.dst z) w := fun z hk hz =>
    done ρ z w t L (by cases hq : (K i).isAl with | false => rfl | true => (rw [isE_of_al hq] at hk; cases hk)) (Env.le.refl ρ) (Nat.le_refl _) hA.le (fun j hj hjk => by
      have hne : j ≠ i := by rintro rfl; rw [isE_of_ef hjk] at hk; cases hk
      simp only [addS, hne, decide_false, Bool.false_or]
      exact hA.ef j hj hjk) (fun _ _ q => q) hA.stp hA.lg (fun g _ q => ⟨rfl, q⟩) hz
  unfold wpOp
  simp only [ho]
  rcases hst.did with ⟨h1, h2, h3, _⟩ | ⟨h1, h2⟩
  · rw [hwant _ h1]
    simp only [Bool.false_eq_true, if_false]
    exact quiet undef (by rw [h3]; rfl) (by rw [h2]; rfl)
  · rw [hwant _ h1]
    simp only [if_true]
    refine .inl ?_
    have hw := opStepD_wp hc h2
    cases hk : K i with
    | pu =>
      rw [hk] at hw
      obtain ⟨z, hz, hr⟩ := pop_ok (P := P) (ev := a.eval) hops hw.2
      unfold Oper.wp
      rw [hr w, Oper.upon_value]
      exact quiet z (by rw [hk]; rfl) hz
    | ld b =>
      rw [hk] at hw
      have hget : (M t).get b = (M i).get b := by
        rcases Nat.le_total t i with q | q
        · refine (h.get hc i q (by omega) (fun j nx lg q1 q2 q3 => ?_) fun j nx q1 q2 q3 => ?_).symm
          · have hoj : ops[j]? = some ops[j] := Array.getElem?_eq_getElem (by omega)
            have hjS : S j ≠ true := fun e => by have := (hA.ef j (by omega) (by rw [q3]; rfl)).1 e; omega
            have := ((before j _ q2 hoj).resolve_left hjS).2
            rw [q3, hk] at this
            simp only [kindsOK, Bool.and_eq_true, Bool.not_eq_true', Nat.blt, Nat.ble_eq] at this
            exact ⟨by omega, fun e => by rw [elemN_iff.2 e] at this; cases this.2⟩
          · have hoj : ops[j]? = some ops[j] := Array.getElem?_eq_getElem (by omega)
            have key : kindsOK (K j) (K i) = true := by
              rcases before j _ q2 hoj with e | e
              · obtain ⟨z1, z2⟩ := hstop (by omega)
                have hne : t ≠ j := by rintro rfl; rw [e] at z2; cases z2
                rcases h.news t j i _ _ o (by omega) q2 (Array.getElem?_eq_getElem (by omega)) hoj ho z1 (by rw [q3]; rfl) with r | r | r
                · rw [r S hS (.inl e)] at z2; cases z2
                · rw [r S hS (.inr hd)] at z2; cases z2
                · exact r.2
              · exact e.2
            rw [q3, hk] at key
            simp only [kindsOK, Bool.not_eq_true'] at key
            rintro rfl
            rw [Nat.beq_refl] at key; cases key
        · refine h.get hc t q hA.le (fun j nx lg q1 q2 q3 => ?_) fun j nx q1 q2 q3 => ?_
          · have hji : j ≠ i := by rintro rfl; rw [hk] at q3; cases q3
            have hjo : j < ops.size := by have := hA.le; omega
            have hoj : ops[j]? = some ops[j] := Array.getElem?_eq_getElem hjo
            have hjS := (hA.ef j (by have := hA.le; omega) (by rw [q3]; rfl)).2 q2
            have := (behind j _ (by omega) hoj hjS).2
            rw [q3, hk] at this
            simp only [kindsOK, Bool.and_eq_true, Bool.not_eq_true', Nat.blt, Nat.ble_eq] at this
            exact ⟨by omega, fun e => by rw [elemN_iff.2 e] at this; cases this.2⟩
          · have hji : j ≠ i := by rintro rfl; rw [hk] at q3; cases q3
            have hjo : j < ops.size := by have := hA.le; omega
            have hoj : ops[j]? = some ops[j] := Array.getElem?_eq_getElem hjo
            have hjS := hA.al j (by have := hA.le; omega) (by rw [q3]; rfl) q2
            have key := (behind j _ (by omega) hoj hjS).2
            rw [q3, hk] at key
            simp only [kindsOK, Bool.not_eq_true'] at key
            rintro rfl
            rw [Nat.beq_refl] at key; cases key
      obtain ⟨z, hz, hr⟩ := lop_ok (P := P) (ev := a.eval) hA.stp.rep hops (lop_congr hw.2 hget)
      unfold Oper.wp
      rw [hr, Oper.upon_value]
      exact quiet z (by rw [hk]; rfl) hz
    | al nx =>
      rw [hk] at hw
      obtain ⟨_, b, hb, H⟩ := hw
      obtain ⟨obj, val, hN, H⟩ := H ρ a hops
      have hal : (K i).isAl = true := by rw [hk]; rfl
      have hti : t ≤ i := by
        rcases Nat.lt_or_ge i t with q | q
        · have := hA.al i hil hal q; rw [hi] at this; cases this
        · exact q
      have hpl : ∀ j, j < ops.size → (K j).isAl = true → t ≤ j → S j = true → G j < w.heap.size := fun j h1 h2 h3 h4 => by
        obtain ⟨_, _, _, _, _, _, _, _, p4⟩ := hA.pend j h1 h2 h3 h4
        exact (Array.getElem?_eq_some_iff.1 p4).1
      have old : ∀ j, j ≠ i → addS S i j = true → S j = true := fun j hne hs => by
        simpa only [addS, hne, decide_false, Bool.false_or] using hs
      refine H w _ _ ⟨⟨ρ, t, L, fun l => if l = i then w.heap.size else G l, fun l => if l = i then val w.heap.size else W l, hA.le, fun j hj hjk => ?_, fun j hj hjk hlt => ?_, hA.stp.trans (Stp.idle hA.stp.rep obj), hA.lg, fun j hj hjk htj hs => ?_, fun j l hj hl kj kl tj tl sj sl e => ?_, fun s j hj => ?_, fun s v hn hv => ?_⟩, by cases o.dst <;> simp [Act.put, hdef], by cases o.dst <;> simp [Act.put, hsz]⟩
      · have hne : j ≠ i := by rintro rfl; rw [hk] at hjk; cases hjk
        simp only [addS, hne, decide_false, Bool.false_or]
        exact hA.ef j hj hjk
      · simp [addS, hA.al j hj hjk hlt]
      · by_cases hne : j = i
        · subst hne
          refine ⟨by simpa using hA.stp.size, fun l e => ?_, b, obj, val, hb, hN, by simp, ?_⟩
          · have e : ρ.σ l = some w.heap.size := by simpa using e
            have := hA.stp.rep.low l _ e; omega
          · simpa using heap_alloc_new w obj
        · obtain ⟨p1, p2, b', ob, val', p3, p3', p3'', p4⟩ := hA.pend j hj hjk htj (old j hne hs)
          simp only [if_neg hne]
          exact ⟨p1, p2, b', ob, val', p3, p3', p3'', (heap_alloc_old w obj _ (hpl j hj hjk htj (old j hne hs))).trans p4⟩
      · by_cases hne : j = i <;> by_cases hne' : l = i
        · rw [hne, hne']
        · simp only [if_pos hne, if_neg hne'] at e
          have := hpl l hl kl tl (old l hne' sl); omega
        · simp only [if_neg hne, if_pos hne'] at e
          have := hpl j hj kj tj (old j hne sj); omega
        · simp only [if_neg hne, if_neg hne'] at e
          exact hA.pinj j l hj hl kj kl tj tl (old j hne sj) (old l hne' sl) e
      · by_cases hji : j = i
        · subst hji
          obtain ⟨o', q1, q2⟩ := hj.dst
          rw [ho] at q1; cases q1
          have hput := hst.put
          rw [q2] at hput ⊢
          have := putE_lt hput
          exact ⟨val w.heap.size, by simp [Act.put, hsz, this], fun _ _ => by simp, fun q => absurd ⟨hal, hti⟩ q⟩
        · have hjS := old j hji hj.here
          have hds : o.dst ≠ some s := by
            intro hds
            have h1 := hj.last i o (by simp [addS]) ho hds
            obtain ⟨o', q1, q2⟩ := hj.dst
            exact (Oper.apart_spec (behind j o' (by omega) q1 hjS).1).2.1 s hds q2
          obtain ⟨x, k1, k2, k3⟩ := hA.last s j ⟨hjS, hj.dst, fun l o' hl ho' hd' => hj.last l o' (by simp [addS, hl]) ho' hd'⟩
          refine ⟨x, ?_, fun q1 q2 => by simp only [if_neg hji]; exact k2 q1 q2, k3⟩
          cases hod : o.dst with
          | none => exact k1
          | some d =>
            have : d ≠ s := fun e => hds (by rw [hod, e])
            simp [Act.put, Array.getElem?_setIfInBounds_ne this, k1]
      · have hds : o.dst ≠ some s := hn i o (by simp [addS]) ho
        obtain ⟨x, k1, k2⟩ := hA.no s v (fun l o' hl ho' => hn l o' (by simp [addS, hl]) ho') hv
        refine ⟨x, ?_, k2⟩
        cases hod : o.dst with
        | none => exact k1
        | some d =>
          have : d ≠ s := fun e => hds (by rw [hod, e])
          simp [Act.put, Array.getElem?_setIfInBounds_ne this, k1]
    | ef nx lg =>
      rw [hk] at hw
      obtain ⟨_, hlg1, H⟩ := hw
      have hef : (K i).isEf = true := by rw [hk]; rfl
      have hti : t = i := by
        rcases Nat.lt_trichotomy t i with q | q | q
        · obtain ⟨z1, z2⟩ := hstop (by omega)
          rcases before t _ q (Array.getElem?_eq_getElem (by omega)) with e | e
          · rw [e] at z2; cases z2
          · rw [kinds_ef z1 hef] at e; cases e.2
        · exact q
        · have := (hA.ef i hil hef).2 q; rw [hi] at this; cases this
      subst hti
      refine H ρ w a hA.stp.rep hops _ _ fun ρ' z w' k1 k2 => ?_
      refine done ρ' z w' (t + 1) _ (by rw [hk]; rfl) k1.le (by omega) (by omega) (fun j hj hjk => ?_) (fun j hj hle => by
        have : j ≠ t := by rintro rfl; rw [hk] at hj; cases hj
        omega) (hA.stp.trans k1) (hA.lg.trans hlg1) (fun g hg hn => ⟨k1.frame g hg fun l _ => hn l, fun l e => ?_⟩) k2
      · simp only [addS, Bool.or_eq_true, decide_eq_true_eq]
        rw [hA.ef j hj hjk]
        omega
      · rcases k1.fresh l g e with q | q | ⟨q, _, q'⟩
        · exact hn l q
        · omega
        · exact hn q q'
end
end
end Ev
end Go.Proofs.YtmolojjhnbchbaaGreatDoor

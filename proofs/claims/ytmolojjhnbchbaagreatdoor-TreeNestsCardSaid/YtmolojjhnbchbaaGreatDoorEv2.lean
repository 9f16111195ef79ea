/- The evaluator, part 2: operations that look at no memory. No condition. -/
import Derived.Test.YtmolojjhnbchbaaGreatDoorEv1
import Derived.Laws.Entries
import Derived.Great.FillDense
set_option linter.all false
namespace Go.Proofs.YtmolojjhnbchbaaGreatDoor
open Go.RowKit

namespace Ev
noncomputable section

def absS : Value → Option AV
  | .bool b => some (.bool b)
  | .int k n => some (.int k n)
  | .string s => some (.str s.data.toList)
  | .pointer none => some (.ptr none)
  | .slice none l c => some (.slice none l (.known c))
  | .map none => some (.map none)
  | .nilFunc => some .nilFunc
  | .nilIface => some .nilIface
  | _ => none
def absL : List Value → Option (List AV)
  | [] => some []
  | v :: l => match absS v with
    | none => none
    | some a => match absL l with
      | none => none
      | some b => some (a :: b)
def absV : Value → Option AV
  | .agg cs => match absL cs.toList with
    | none => none
    | some l => some (.agg l)
  | .tuple cs => match absL cs.toList with
    | none => none
    | some l => some (.tuple l)
  | v => absS v
theorem absS_ok {ρ : Env} {v : Value} {a : AV} (h : absS v = some a) : conc ρ a = some v := by
  cases v with
  | pointer p => cases p <;> simp [absS] at h; subst h; rfl
  | slice p => cases p <;> simp [absS] at h; subst h; rfl
  | map p => cases p <;> simp [absS] at h; subst h; rfl
  | _ => simp [absS] at h <;> subst h <;> rfl
theorem absL_ok {ρ : Env} : ∀ {l : List Value} {a : List AV}, absL l = some a → concL ρ a = some l
  | [], a, h => by simp [absL] at h; subst h; rfl
  | v :: l, a, h => by
    unfold absL at h
    split at h
    · cases h
    · rename_i x hx
      split at h
      · cases h
      · rename_i y hy
        cases h
        exact concL_cons_mk (absS_ok hx) (absL_ok hy)
theorem absV_ok {ρ : Env} {v : Value} {a : AV} (h : absV v = some a) : conc ρ a = some v := by
  cases v with
  | agg cs =>
    unfold absV at h
    simp only at h
    split at h
    · cases h
    · rename_i l hl; cases h; simp [conc, absL_ok hl]
  | tuple cs =>
    unfold absV at h
    simp only at h
    split at h
    · cases h
    · rename_i l hl; cases h; simp [conc, absL_ok hl]
  | _ => exact absS_ok (by simpa [absV] using h)

/-- What an operand holds. -/
def evalO (e : Tr AV) : Operand → Option AV
  | .tmp t => e.get t
  | .const v => absV v
  | .global _ => none
  | .func f => some (.func (.func f) [] [])

def AV.cells : AV → List AV
  | .agg l => l
  | v => [v]
theorem cells_ok {ρ : Env} {a : AV} {v : Value} (h : conc ρ a = some v) : concL ρ a.cells = some v.cells.toList := by
  have one : ∀ a v, conc ρ a = some v → concL ρ [a] = some [v] := fun a v h => concL_cons_mk h rfl
  cases a with
  | agg l => simp only [conc, Option.map_eq_some_iff] at h; obtain ⟨x, hx, rfl⟩ := h; simpa [AV.cells, Value.cells] using hx
  | bool b => have := one _ _ h; simp only [conc, Option.some.injEq] at h; subst h; exact this
  | int k n => have := one _ _ h; simp only [conc, Option.some.injEq] at h; subst h; exact this
  | str s => have := one _ _ h; simp only [conc, Option.some.injEq] at h; subst h; exact this
  | ptr p =>
    have := one _ _ h
    cases p with
    | none => simp only [conc, Option.some.injEq] at h; subst h; exact this
    | some p => simp only [conc, Option.map_eq_some_iff] at h; obtain ⟨x, hx, rfl⟩ := h; exact this
  | slice p l c =>
    have := one _ _ h
    cases p with
    | none => cases c <;> simp [conc] at h; subst h; exact this
    | some p =>
      simp only [conc, Option.bind_eq_some_iff] at h
      obtain ⟨x, hx, h⟩ := h
      split at h
      · cases h; exact this
      · cases h
  | slice0 p q d => have := one _ _ h; simp only [conc, Option.map_eq_some_iff] at h; obtain ⟨x, hx, rfl⟩ := h; exact this
  | map p =>
    have := one _ _ h
    cases p with
    | none => simp only [conc, Option.some.injEq] at h; subst h; exact this
    | some p => simp only [conc, Option.map_eq_some_iff] at h; obtain ⟨x, hx, rfl⟩ := h; exact this
  | func fn f c =>
    have := one _ _ h
    simp only [conc, Option.bind_eq_some_iff, Option.map_eq_some_iff] at h; obtain ⟨x, hx, y, hy, rfl⟩ := h; exact this
  | nilFunc => have := one _ _ h; simp only [conc, Option.some.injEq] at h; subst h; exact this
  | iface t v => have := one _ _ h; simp only [conc, Option.map_eq_some_iff] at h; obtain ⟨x, hx, rfl⟩ := h; exact this
  | nilIface => have := one _ _ h; simp only [conc, Option.some.injEq] at h; subst h; exact this
  | tuple l => have := one _ _ h; simp only [conc, Option.map_eq_some_iff] at h; obtain ⟨x, hx, rfl⟩ := h; exact this
  | sym k i l r =>
    have := one _ _ h
    simp only [conc] at h
    rcases symV_kind h with ⟨n, rfl⟩ | ⟨b, rfl⟩ <;> exact this

section
variable (P : Program)
def aggT (t : TypeId) : Option Bool :=
  match P.underlying t with
  | some (.struct _) => some true
  | some (.array _ _) => some true
  | some _ => some false
  | none => none
def sizeT (t : TypeId) : Option Nat := match P.info? t with | some i => some i.size | none => none
def zeroT (t : TypeId) : Option AV := match P.info? t with | some i => (match i.zero with | some v => absV v | none => none) | none => none
def partA (t : TypeId) (cs : List AV) (off : Nat) : Option AV :=
  match aggT P t with
  | some true => match sizeT P t with
    | some n => some (.agg ((cs.drop off).take n))
    | none => none
  | some false => cs[off]?
  | none => none
end
section
variable {P : Program} {ρ : Env}
theorem aggT_ok {t : TypeId} {b : Bool} (h : aggT P t = some b) (w : World) : (isAgg t).run P w = .ok b w := by
  unfold aggT at h
  split at h <;> simp at h <;> subst h
  · rename_i hu; simp [isAgg, run_underlying hu]
  · rename_i hu; simp [isAgg, run_underlying hu]
  · rename_i d h1 h2 hu
    simp only [isAgg, Sem.run_bind, run_underlying hu, Result.andThen_ok]
    cases d <;> first | rfl | exact absurd rfl (h1 _) | exact absurd rfl (h2 _ _)
theorem sizeT_ok {t : TypeId} {n : Nat} (h : sizeT P t = some n) (w : World) : (sizeOf t).run P w = .ok n w := by
  unfold sizeT at h
  split at h <;> simp at h
  rename_i i hi
  subst h
  simp [sizeOf, typeInfo, hi]
theorem sizeT_info {t : TypeId} {n : Nat} (h : sizeT P t = some n) : ∃ i, P.info? t = some i ∧ i.size = n := by
  unfold sizeT at h
  split at h <;> simp at h
  rename_i i hi
  exact ⟨i, hi, h⟩
theorem zeroT_ok {t : TypeId} {a : AV} (h : zeroT P t = some a) : ∃ z, conc ρ a = some z ∧ ∀ w, (zeroValue t).run P w = .ok z w := by
  unfold zeroT at h
  split at h
  · rename_i i hi
    split at h
    · rename_i v hv
      exact ⟨v, absV_ok h, fun w => by simp [zeroValue, typeInfo, hi, hv]⟩
    · cases h
  · cases h
theorem partA_ok {t : TypeId} {cs : List AV} {vs : List Value} {off : Nat} {a : AV} (hc : concL ρ cs = some vs) (h : partA P t cs off = some a) :
    ∃ x, conc ρ a = some x ∧ ∀ w, (part t vs.toArray off).run P w = .ok x w := by
  unfold partA at h
  split at h
  · rename_i hag
    split at h
    · rename_i n hn
      cases h
      refine ⟨.agg ((vs.drop off).take n).toArray, by simp [conc, concL_take n (concL_drop off hc)], fun w => ?_⟩
      simp [part, aggT_ok hag, sizeT_ok hn]
    · cases h
  · rename_i hag
    obtain ⟨v, hv, hva⟩ := concL_get hc h
    exact ⟨v, hva, fun w => by simp [part, aggT_ok hag, hv]⟩
  · cases h
end

/-- A literal's parts go in. -/
def fillA (place : Nat → Option (Nat × Nat)) (cells : List AV) : List (Nat × AV) → Option (List AV)
  | [] => some cells
  | (i, v) :: rest => match place i with
    | none => none
    | some (off, size) =>
      bif Nat.beq v.cells.length size && Nat.ble (off + v.cells.length) cells.length then fillA place (cells.take off ++ v.cells ++ cells.drop (off + v.cells.length)) rest else none
theorem foldl_over (cs : Array Value) (l : List Value) (off : Nat) (h : off + l.length ≤ cs.size) :
    (l.zipIdx.foldl (fun cs (x : Value × Nat) => cs.setIfInBounds (off + x.2) x.1) cs).toList = cs.toList.take off ++ l ++ cs.toList.drop (off + l.length) := by
  obtain ⟨h1, h2⟩ := Great.foldl_set off l 0 cs
  apply List.ext_getElem?
  intro k
  have := h2 k
  rw [Array.getElem?_toList, this]
  simp only [Nat.add_zero, Nat.sub_zero]
  have hs : cs.toList.length = cs.size := by simp
  by_cases c1 : k < off
  · rw [if_neg (by omega), List.append_assoc, List.getElem?_append_left (by simp; omega), List.getElem?_take_of_lt c1]; simp
  · by_cases c2 : k < off + l.length
    · rw [if_pos ⟨by omega, c2, by omega⟩, List.append_assoc, List.getElem?_append_right (by simp; omega), List.getElem?_append_left (by simp; omega)]
      congr 1; simp; omega
    · rw [if_neg (by omega), List.getElem?_append_right (by simp; omega), List.getElem?_drop]
      simp
      congr 1; omega
theorem fillA_ok {ρ : Env} {place : Nat → Option (Nat × Nat)} : ∀ {ps : List (Nat × AV)} {qs : List (Nat × Value)} {cells r : List AV} {cs : Array Value},
    concL ρ cells = some cs.toList → ps.map (·.1) = qs.map (·.1) → concL ρ (ps.map (·.2)) = some (qs.map (·.2)) → fillA place cells ps = some r →
    ∃ rs, Instr.fill place cs qs = some rs ∧ concL ρ r = some rs.toList
  | [], qs, cells, r, cs, hc, hi, _, h => by
    simp [fillA] at h
    subst h
    cases qs with
    | nil => exact ⟨cs, rfl, hc⟩
    | cons _ _ => simp at hi
  | (i, v) :: ps, [], _, _, _, _, hi, _, _ => by simp at hi
  | (i, v) :: ps, (j, x) :: qs, cells, r, cs, hc, hi, hv, h => by
    simp only [List.map_cons, List.cons.injEq] at hi
    obtain ⟨rfl, hi⟩ := hi
    obtain ⟨x', y', hx, hy, e⟩ := concL_cons hv
    simp only [List.map_cons, List.cons.injEq] at e
    obtain ⟨rfl, rfl⟩ := e
    unfold fillA at h
    split at h
    · cases h
    · rename_i off size hp
      by_cases hb : (Nat.beq v.cells.length size && Nat.ble (off + v.cells.length) cells.length) = true
      · rw [hb, cond_true] at h
        simp only [Bool.and_eq_true, Nat.beq_eq, Nat.ble_eq] at hb
        have hcl := cells_ok hx
        have hl1 := concL_length hcl
        have hl2 := concL_length hc
        simp only [Array.length_toList] at hl1 hl2
        have hov := foldl_over cs x.cells.toList off (by simp; omega)
        have := fillA_ok (place := place) (qs := qs) (cs := x.cells.toList.zipIdx.foldl (fun cs (x : Value × Nat) => cs.setIfInBounds (off + x.2) x.1) cs) (by
          rw [hov]
          refine concL_append (concL_append (concL_take _ hc) hcl) ?_
          rw [show off + x.cells.toList.length = off + v.cells.length by simp; omega]
          exact concL_drop _ hc) hi hy h
        obtain ⟨rs, h1, h2⟩ := this
        refine ⟨rs, ?_, h2⟩
        unfold Instr.fill
        rw [hp]
        simp only
        rw [if_neg (by simp; omega)]
        rw [← h1]
        congr 1
        rw [← Array.foldl_toList]
        simp
      · simp only [Bool.not_eq_true] at hb
        rw [hb, cond_false] at h
        cases h

section
variable (P : Program)
def fieldsA (fs : List Field) : Option (List (Nat × Nat)) :=
  match fs with
  | [] => some []
  | f :: fs => match sizeT P f.type with
    | none => none
    | some n => match fieldsA fs with
      | none => none
      | some l => some ((f.offset, n) :: l)
def partsO (f : Operand → Option AV) : List (Nat × Operand) → Option (List (Nat × AV))
  | [] => some []
  | (i, x) :: l => match f x with
    | none => none
    | some v => match partsO f l with
      | none => none
      | some r => some ((i, v) :: r)
def listO (f : Operand → Option AV) : List Operand → Option (List AV)
  | [] => some []
  | x :: l => match f x with
    | none => none
    | some v => match listO f l with
      | none => none
      | some r => some (v :: r)
def buildA (t : TypeId) (ps : List (Nat × AV)) : Option AV :=
  match zeroT P t with
  | none => none
  | some z => match P.underlying t with
    | some (.struct fs) => (match fieldsA P fs.toList with
      | none => none
      | some pl => match fillA (fun i => pl[i]?) z.cells ps with
        | none => none
        | some r => some (.agg r))
    | some (.array _ e) => (match sizeT P e with
      | none => none
      | some n => match fillA (fun i => some (i * n, n)) z.cells ps with
        | none => none
        | some r => some (.agg r))
    | _ => none
end
section
variable {P : Program} {ρ : Env} {f : Operand → Option AV} {ev : Operand → Value}
theorem fieldsA_ok : ∀ {fs : List Field} {l : List (Nat × Nat)}, fieldsA P fs = some l → ∀ w, (fs.mapM (m := Sem) fun f => Prod.mk f.offset <$> sizeOf f.type).run P w = .ok l w
  | [], l, h, w => by simp [fieldsA] at h; subst h; rfl
  | x :: fs, l, h, w => by
    unfold fieldsA at h
    split at h
    · cases h
    · rename_i n hn
      split at h
      · cases h
      · rename_i l' hl
        cases h
        simp [List.mapM_cons, sizeT_ok hn, fieldsA_ok hl]
theorem partsO_ok : ∀ {ps : List (Nat × Operand)} {r : List (Nat × AV)}, (∀ x ∈ ps.map (·.2), ∀ u, f x = some u → conc ρ u = some (ev x)) → partsO f ps = some r →
    r.map (·.1) = (ps.map fun p => (p.1, ev p.2)).map (·.1) ∧ concL ρ (r.map (·.2)) = some ((ps.map fun p => (p.1, ev p.2)).map (·.2))
  | [], r, _, h => by simp [partsO] at h; subst h; exact ⟨rfl, rfl⟩
  | (i, x) :: ps, r, hf, h => by
    unfold partsO at h
    split at h
    · cases h
    · rename_i v hv
      split at h
      · cases h
      · rename_i r' hr
        cases h
        obtain ⟨h1, h2⟩ := partsO_ok (ps := ps) (fun y hy => hf y (List.mem_cons_of_mem _ hy)) hr
        exact ⟨by simp only [List.map_cons, h1], by simp only [List.map_cons]; exact concL_cons_mk (hf x (List.mem_cons_self ..) v hv) h2⟩
theorem listO_ok : ∀ {ps : List Operand} {r : List AV}, (∀ x ∈ ps, ∀ u, f x = some u → conc ρ u = some (ev x)) → listO f ps = some r → concL ρ r = some (ps.map ev)
  | [], r, _, h => by simp [listO] at h; subst h; rfl
  | x :: ps, r, hf, h => by
    unfold listO at h
    split at h
    · cases h
    · rename_i v hv
      split at h
      · cases h
      · rename_i r' hr
        cases h
        exact concL_cons_mk (hf x (List.mem_cons_self ..) v hv) (listO_ok (fun y hy => hf y (List.mem_cons_of_mem _ hy)) hr)
theorem buildA_ok {t : TypeId} {ps : List (Nat × AV)} {qs : List (Nat × Value)} {a : AV} (h1 : ps.map (·.1) = qs.map (·.1)) (h2 : concL ρ (ps.map (·.2)) = some (qs.map (·.2))) (h : buildA P t ps = some a) :
    ∃ x, conc ρ a = some x ∧ ∀ w, (Instr.build t qs.toArray).run P w = .ok x w := by
  unfold buildA at h
  split at h
  · cases h
  · rename_i z hz
    obtain ⟨zv, hzc, hzr⟩ := zeroT_ok (ρ := ρ) hz
    split at h
    · rename_i fs hu
      split at h
      · cases h
      · rename_i pl hpl
        split at h
        · cases h
        · rename_i r hr
          cases h
          obtain ⟨rs, e1, e2⟩ := fillA_ok (ρ := ρ) (cells_ok hzc) h1 h2 hr
          refine ⟨.agg rs, by simp [conc, e2], fun w => ?_⟩
          have hm : (fs.mapM (m := Sem) fun f => Prod.mk f.offset <$> sizeOf f.type).run P w = .ok pl.toArray w := by
            rw [Array.mapM_eq_mapM_toList]
            simp [fieldsA_ok hpl]
          have hm' : (fs.mapM (m := Sem) fun f => do pure (f.offset, ← sizeOf f.type)).run P w = .ok pl.toArray w := by
            rw [← hm]; rfl
          have e1' : Instr.fill (fun i => pl.toArray[i]?) zv.cells qs = some rs := by simpa using e1
          simp only [Instr.build, Sem.run_bind, hzr, Result.andThen_ok, run_underlying hu, hm']
          simp [e1]
    · rename_i n e hu
      split at h
      · cases h
      · rename_i sz hsz
        split at h
        · cases h
        · rename_i r hr
          cases h
          obtain ⟨rs, e1, e2⟩ := fillA_ok (ρ := ρ) (cells_ok hzc) h1 h2 hr
          refine ⟨.agg rs, by simp [conc, e2], fun w => ?_⟩
          simp only [Instr.build, Sem.run_bind, hzr, Result.andThen_ok, run_underlying hu, sizeT_ok hsz]
          simp [e1]
    · cases h
end
end
end Ev
end Go.Proofs.YtmolojjhnbchbaaGreatDoor

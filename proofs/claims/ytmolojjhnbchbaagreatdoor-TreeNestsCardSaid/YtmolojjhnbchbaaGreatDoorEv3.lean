/- The evaluator, part 3: more operations that look at no memory: fields, elements, slices, arithmetic, comparing. No condition. -/
import Derived.Test.YtmolojjhnbchbaaGreatDoorEv2
import Derived.Laws.Slices
set_option linter.all false
namespace Go.Proofs.YtmolojjhnbchbaaGreatDoor
open Go.RowKit

namespace Ev
noncomputable section

section
variable (P : Program)
def fieldA (t : TypeId) (v : AV) (i : Nat) : Option AV :=
  match P.underlying t with
  | some (.struct fs) => (match fs[i]? with
    | none => none
    | some f => match v with
      | .agg cs => partA P f.type cs f.offset
      | _ => none)
  | _ => none
def fieldAddrA (t : TypeId) (v : AV) (i : Nat) : Option AV :=
  match P.underlying t with
  | some (.struct fs) => (match fs[i]? with
    | none => none
    | some f => match v with
      | .ptr (some p) => (match sizeT P f.type with
        | none => none
        | some n => bif Nat.beq n 0 then none else some (.ptr (some (p.1, p.2 + f.offset))))
      | _ => none)
  | _ => none
def inB (i : Int) (n : Nat) : Bool := decide (0 ≤ i) && decide (i < n)
def indexAddrA (t : TypeId) (x i : AV) : Option AV :=
  match i with
  | .int _ i => (match P.underlying t with
    | some (.array n e) => (match x with
      | .ptr (some p) => bif inB i n then (match sizeT P e with
        | none => none
        | some s => some (.ptr (some (p.1, p.2 + i.toNat * s)))) else none
      | _ => none)
    | some (.slice e) => (match x with
      | .slice (some p) l _ => bif inB i l then (match sizeT P e with
        | none => none
        | some s => some (.ptr (some (p.1, p.2 + i.toNat * s)))) else none
      | _ => none)
    | _ => none)
  | _ => none
def indexA (t : TypeId) (x i : AV) : Option AV :=
  match i with
  | .int _ i => (match P.underlying t with
    | some (.array n e) => (match x with
      | .agg cs => bif inB i n then (match sizeT P e with
        | none => none
        | some s => partA P e cs (i.toNat * s)) else none
      | _ => none)
    | some .string => (match x with
      | .str s => bif decide (0 ≤ i) then (match s[i.toNat]? with
        | none => none
        | some b => some (.int .u8 b.toNat)) else none
      | _ => none)
    | _ => none)
  | _ => none
end
section
variable {P : Program} {ρ : Env}
theorem fieldA_ok {t : TypeId} {v a : AV} {x : Value} {i : Nat} (hv : conc ρ v = some x) (h : fieldA P t v i = some a) : ∃ y, conc ρ a = some y ∧ ∀ w, (Instr.field t x i).run P w = .ok y w := by
  unfold fieldA at h
  split at h
  · rename_i fs hu
    split at h
    · cases h
    · rename_i f hf
      split at h
      · rename_i cs
        simp only [conc, Option.map_eq_some_iff] at hv
        obtain ⟨vs, hvs, rfl⟩ := hv
        obtain ⟨y, hy, hr⟩ := partA_ok hvs h
        exact ⟨y, hy, fun w => by simp [Instr.field, run_underlying hu, hf, asAgg, hr]⟩
      · cases h
  · cases h
theorem ptr_conc {p : Nat × Nat} {x : Value} (h : conc ρ (.ptr (some p)) = some x) : ∃ b, ρ.σ p.1 = some b ∧ x = .pointer (some ⟨b, p.2, none⟩) := by
  simp only [conc, Option.map_eq_some_iff] at h
  obtain ⟨b, hb, rfl⟩ := h
  exact ⟨b, hb, rfl⟩
theorem slice_conc {p : Nat × Nat} {l : Nat} {c : Cap} {x : Value} (h : conc ρ (.slice (some p) l c) = some x) : ∃ b, ρ.σ p.1 = some b ∧ c.fits (ρ.κ p.1) l = true ∧ x = .slice (some ⟨b, p.2, none⟩) l (c.conc (ρ.κ p.1)) := by
  simp only [conc, Option.bind_eq_some_iff] at h
  obtain ⟨b, hb, h⟩ := h
  split at h
  · rename_i hf; cases h; exact ⟨b, hb, hf, rfl⟩
  · cases h
theorem fieldAddrA_ok {t : TypeId} {v a : AV} {x : Value} {i : Nat} (hv : conc ρ v = some x) (h : fieldAddrA P t v i = some a) : ∃ y, conc ρ a = some y ∧ ∀ w, (Instr.fieldAt t x i).run P w = .ok y w := by
  unfold fieldAddrA at h
  split at h
  · rename_i fs hu
    split at h
    · cases h
    · rename_i f hf
      split at h
      · rename_i p
        obtain ⟨b, hb, rfl⟩ := ptr_conc hv
        split at h
        · cases h
        · rename_i n hn
          by_cases hz : n = 0
          · subst hz; simp [Nat.beq] at h
          · rw [Tr.beq0 hz, cond_false] at h
            cases h
            refine ⟨.pointer (some ⟨b, p.2 + f.offset, none⟩), by simp [conc, hb], fun w => ?_⟩
            simp [Instr.fieldAt, run_underlying hu, hf, Instr.sureAddr, fieldPlace, sizeT_ok hn, hz, Addr.add_lit]
      · cases h
  · cases h
theorem inB_iff {i : Int} {n : Nat} : inB i n = true ↔ 0 ≤ i ∧ i < n := by simp [inB]
theorem indexAddrA_ok {t : TypeId} {v j a : AV} {x y : Value} (hv : conc ρ v = some x) (hj : conc ρ j = some y) (h : indexAddrA P t v j = some a) :
    ∃ z, conc ρ a = some z ∧ ∀ w, (Instr.indexAt t x y).run P w = .ok z w := by
  unfold indexAddrA at h
  split at h
  · rename_i k i
    simp only [conc, Option.some.injEq] at hj
    subst hj
    split at h
    · rename_i n e hu
      split at h
      · rename_i p
        obtain ⟨b, hb, rfl⟩ := ptr_conc hv
        cases hin : inB i n with
        | false => rw [hin, cond_false] at h; cases h
        | true =>
          rw [hin, cond_true] at h
          split at h
          · cases h
          · rename_i s hs
            cases h
            refine ⟨.pointer (some ⟨b, p.2 + i.toNat * s, none⟩), by simp [conc, hb], fun w => ?_⟩
            obtain ⟨h0, h1⟩ := inB_iff.1 hin
            simp [Instr.indexAt, asIntOf, run_underlying hu, Instr.sureAddr, h0, h1, sizeT_ok hs, Addr.add_lit]
      · cases h
    · rename_i e hu
      split at h
      · rename_i p l c
        obtain ⟨b, hb, _, rfl⟩ := slice_conc hv
        cases hin : inB i l with
        | false => rw [hin, cond_false] at h; cases h
        | true =>
          rw [hin, cond_true] at h
          split at h
          · cases h
          · rename_i s hs
            cases h
            refine ⟨.pointer (some ⟨b, p.2 + i.toNat * s, none⟩), by simp [conc, hb], fun w => ?_⟩
            obtain ⟨h0, h1⟩ := inB_iff.1 hin
            simp [Instr.indexAt, asIntOf, run_underlying hu, h0, h1, sizeT_ok hs, Addr.add_lit]
      · cases h
    · cases h
  · cases h
theorem indexA_ok {t : TypeId} {v j a : AV} {x y : Value} (hv : conc ρ v = some x) (hj : conc ρ j = some y) (h : indexA P t v j = some a) :
    ∃ z, conc ρ a = some z ∧ ∀ w, (Instr.index t x y).run P w = .ok z w := by
  unfold indexA at h
  split at h
  · rename_i k i
    simp only [conc, Option.some.injEq] at hj
    subst hj
    split at h
    · rename_i n e hu
      split at h
      · rename_i cs
        simp only [conc, Option.map_eq_some_iff] at hv
        obtain ⟨vs, hvs, rfl⟩ := hv
        cases hin : inB i n with
        | false => rw [hin, cond_false] at h; cases h
        | true =>
          rw [hin, cond_true] at h
          split at h
          · cases h
          · rename_i s hs
            obtain ⟨z, hz, hr⟩ := partA_ok hvs h
            obtain ⟨h0, h1⟩ := inB_iff.1 hin
            exact ⟨z, hz, fun w => by simp [Instr.index, asIntOf, run_underlying hu, h0, h1, sizeT_ok hs, hr]⟩
      · cases h
    · rename_i hu
      split at h
      · rename_i s
        simp only [conc, Option.some.injEq] at hv
        subst hv
        by_cases h0 : 0 ≤ i
        · rw [decide_eq_true h0, cond_true] at h
          split at h
          · cases h
          · rename_i b hb
            cases h
            refine ⟨.int .u8 b.toNat, rfl, fun w => ?_⟩
            have hbb : (ByteArray.mk s.toArray)[i.toNat]? = some b := by
              obtain ⟨hl, he⟩ := List.getElem?_eq_some_iff.1 hb
              have hsz : i.toNat < (ByteArray.mk s.toArray).size := by simpa [ByteArray.size] using hl
              refine (getElem?_pos (ByteArray.mk s.toArray) i.toNat hsz).trans ?_
              rw [← he]
              rfl
            simp [Instr.index, asIntOf, run_underlying hu, h0, hbb]
        · rw [decide_eq_false h0, cond_false] at h; cases h
      · cases h
    · cases h
  · cases h
end

section
variable (P : Program)
/-- Bounds of a slice expression: 'l' is how many there are, 'c' how many there may be for sure. -/
def bnd (x : Option AV) (d top : Nat) : Option Nat :=
  match x with
  | none => some d
  | some (.int _ i) => bif decide (0 ≤ i) && decide (i ≤ (top : Int)) then some i.toNat else none
  | _ => none
def sliceA (t : TypeId) (x : AV) (lo hi : Option AV) : Option AV :=
  match x with
  | .str s => (match P.underlying t with
    | some .string => (match bnd hi s.length s.length with
      | none => none
      | some h => match bnd lo 0 h with
        | none => none
        | some l => some (.str ((s.drop l).take (h - l))))
    | _ => none)
  | .slice none 0 (.known 0) => (match P.underlying t with
    | some (.slice e) => (match sizeT P e with
      | none => none
      | some _ => match bnd hi 0 0 with
        | none => none
        | some h => match bnd lo 0 h with
          | none => none
          | some _ => some (.slice none 0 (.known 0)))
    | _ => none)
  | .slice (some p) n (.known c) => bif Nat.blt c n then none else (match P.underlying t with
    | some (.slice e) => (match sizeT P e with
      | none => none
      | some s => match bnd hi n c with
        | none => none
        | some h => match bnd lo 0 h with
          | none => none
          | some l => some (.slice (some (p.1, bif Nat.beq c l then p.2 else p.2 + l * s)) (h - l) (.known (c - l))))
    | _ => none)
  | .slice (some p) n (.opn d) => (match P.underlying t with
    | some (.slice e) => (match sizeT P e with
      | none => none
      | some s => match bnd hi n n with
        | none => none
        | some h => match bnd lo 0 h with
          | none => none
          | some l => bif Nat.beq l n then some (.slice0 p (p.2 + l * s) (d + l)) else some (.slice (some (p.1, p.2 + l * s)) (h - l) (.opn (d + l))))
    | _ => none)
  | .slice0 p q d => (match P.underlying t with
    | some (.slice e) => (match sizeT P e with
      | none => none
      | some _ => match bnd hi 0 0 with
        | none => none
        | some h => match bnd lo 0 h with
          | none => none
          | some _ => some (.slice0 p q d))
    | _ => none)
  | .ptr (some p) => (match P.underlying t with
    | some (.array n e) => (match sizeT P e with
      | none => none
      | some s => match bnd hi n n with
        | none => none
        | some h => match bnd lo 0 h with
          | none => none
          | some l => some (.slice (some (p.1, bif Nat.beq n l then p.2 else p.2 + l * s)) (h - l) (.known (n - l))))
    | _ => none)
  | _ => none
end
section
variable {P : Program} {ρ : Env}
theorem bnd_le {x : Option AV} {d top r : Nat} (h : bnd x d top = some r) (hd : d ≤ top) : r ≤ top := by
  unfold bnd at h
  split at h
  · cases h; exact hd
  · rename_i k i
    cases hb : (decide (0 ≤ i) && decide (i ≤ (top : Int))) with
    | false => rw [hb, cond_false] at h; cases h
    | true =>
      rw [hb, cond_true] at h
      cases h
      simp at hb
      omega
  · cases h
theorem optO_ok {f : Operand → Option AV} {ev : Operand → Value} {x : Option Operand} {u : Option AV} (hx : ∀ y ∈ x, ∀ u, f y = some u → conc ρ u = some (ev y)) (h : (match x with | none => some none | some y => (match f y with | none => none | some v => some (some v))) = some u) :
    (x = none ∧ u = none) ∨ ∃ y v, x = some y ∧ u = some v ∧ conc ρ v = some (ev y) := by
  cases x with
  | none => simp at h; exact .inl ⟨rfl, h.symm⟩
  | some y =>
    simp only at h
    split at h
    · cases h
    · rename_i v hv
      cases h
      exact .inr ⟨y, v, rfl, rfl, hx y rfl v hv⟩
/-- How an optional bound stands for the model's. -/
def OptC (ρ : Env) (a : Option AV) (x : Option Value) : Prop := match a, x with
  | none, none => True
  | some a, some x => conc ρ a = some x
  | _, _ => False
theorem bnd_ok {a : Option AV} {x : Option Value} {d top r : Nat} (hx : OptC ρ a x) (h : bnd a d top = some r) :
    (x = none ∧ r = d) ∨ ∃ v, x = some v ∧ r ≤ top ∧ ∀ (y : Nat) c w, top ≤ y → (Instr.sliceBound v y c).run P w = .ok r w := by
  unfold bnd at h
  split at h
  · cases h
    cases x with
    | none => exact .inl ⟨rfl, rfl⟩
    | some _ => exact hx.elim
  · rename_i k i
    cases x with
    | none => exact hx.elim
    | some v =>
      have hx' : conc ρ (.int k i) = some v := hx
      simp only [conc, Option.some.injEq] at hx'
      subst hx'
      cases hb : (decide (0 ≤ i) && decide (i ≤ (top : Int))) with
      | false => rw [hb, cond_false] at h; cases h
      | true =>
        rw [hb, cond_true] at h
        cases h
        simp at hb
        exact .inr ⟨_, rfl, by omega, fun y c w hy => run_sliceBound w k i y c hb.1 (by omega)⟩
  · cases h
/-- Both bounds. -/
theorem bnds_ok {lo hi : Option AV} {xl xh : Option Value} {n top h l : Nat} (hl : OptC ρ lo xl) (hh : OptC ρ hi xh) (e1 : bnd hi n top = some h) (e2 : bnd lo 0 h = some l) (isS : Bool) (c : Nat) (hn : n ≤ top) (hc : top ≤ c) (w : World) :
    (Instr.sliceBounds isS n c xl xh none).run P w = .ok (l, h, c) w ∧ l ≤ h ∧ h ≤ top := by
  have hle := bnd_le e1 hn
  have hll := bnd_le e2 (Nat.zero_le h)
  refine ⟨?_, hll, hle⟩
  rcases bnd_ok (P := P) hh e1 with ⟨rfl, rfl⟩ | ⟨v, rfl, _, r1⟩ <;> rcases bnd_ok (P := P) hl e2 with ⟨rfl, rfl⟩ | ⟨u, rfl, _, r2⟩
  · simp [Instr.sliceBounds]
  · simp [Instr.sliceBounds, r2 h _ w (Nat.le_refl _)]
  · simp [Instr.sliceBounds, r1 c _ w hc]
  · simp [Instr.sliceBounds, r1 c _ w hc, r2 h _ w (Nat.le_refl _)]
theorem extract_toArray (s : List UInt8) (l h : Nat) : (ByteArray.mk s.toArray).extract l h = ⟨((s.drop l).take (h - l)).toArray⟩ := by
  apply ByteArray.ext
  rw [ByteArray.data_extract]
  simp
theorem sliceA_ok {t : TypeId} {v a : AV} {x : Value} {lo hi : Option AV} {xl xh : Option Value} (hv : conc ρ v = some x) (hl : OptC ρ lo xl) (hh : OptC ρ hi xh) (h : sliceA P t v lo hi = some a) :
    ∃ z, conc ρ a = some z ∧ ∀ w, (Instr.sliceAt t x xl xh none).run P w = .ok z w := by
  unfold sliceA at h
  split at h
  · rename_i s
    simp only [conc, Option.some.injEq] at hv
    subst hv
    split at h
    · rename_i hu
      split at h
      · cases h
      · rename_i h' e1
        split at h
        · cases h
        · rename_i l e2
          cases h
          refine ⟨.string ⟨((s.drop l).take (h' - l)).toArray⟩, rfl, fun w => ?_⟩
          have hb := (bnds_ok (P := P) hl hh e1 e2 false s.length (Nat.le_refl _) (Nat.le_refl _) w).1
          have hsz : (ByteArray.mk s.toArray).size = s.length := by simp [ByteArray.size]
          simp [Instr.sliceAt, Instr.slice, run_underlying hu, hsz, hb, extract_toArray]
    · cases h
  · simp only [conc, Option.some.injEq] at hv
    subst hv
    split at h
    · rename_i e hu
      split at h
      · cases h
      · rename_i sz hsz
        split at h
        · cases h
        · rename_i h' e1
          split at h
          · cases h
          · rename_i l e2
            cases h
            refine ⟨_, rfl, fun w => ?_⟩
            obtain ⟨hb, hl1, hl2⟩ := bnds_ok (P := P) hl hh e1 e2 true 0 (Nat.le_refl _) (Nat.le_refl _) w
            have hl0 : l = 0 := by omega
            have hh0 : h' = 0 := by omega
            subst hl0 hh0
            simp [Instr.sliceAt, Instr.slice, run_underlying hu, hb, sizeT_ok hsz]
    · cases h
  · rename_i p n c
    obtain ⟨b, hb, _, rfl⟩ := slice_conc hv
    cases hnc' : Nat.blt c n with
    | true => rw [hnc', cond_true] at h; cases h
    | false =>
    rw [hnc', cond_false] at h
    have hnc : n ≤ c := by
      rcases Nat.lt_or_ge c n with h1 | h1
      · have h2 : Nat.blt c n = true := by unfold Nat.blt; rw [Nat.ble_eq]; exact h1
        rw [h2] at hnc'; cases hnc'
      · exact h1
    split at h
    · rename_i e hu
      split at h
      · cases h
      · rename_i sz hsz
        split at h
        · cases h
        · rename_i h' e1
          split at h
          · cases h
          · rename_i l e2
            cases h
            refine ⟨.slice (some ⟨b, bif Nat.beq c l then p.2 else p.2 + l * sz, none⟩) (h' - l) (c - l), by simp [conc, hb, Cap.fits, Cap.conc], fun w => ?_⟩
            obtain ⟨hbs, hl1, hl2⟩ := bnds_ok (P := P) hl hh e1 e2 true c hnc (Nat.le_refl _) w
            simp only [Cap.conc]
            simp [Instr.sliceAt, Instr.slice, run_underlying hu, hbs, sizeT_ok hsz, Addr.add_lit]
            by_cases hcl : c = l
            · subst hcl; simp [show Nat.beq c c = true by simp]
            · have : Nat.beq c l = false := by rw [← Bool.not_eq_true, Nat.beq_eq]; exact hcl
              simp [hcl, this]
    · cases h
  · rename_i p n d
    obtain ⟨b, hb, hfit, rfl⟩ := slice_conc hv
    have hfit' : n ≤ ρ.κ p.1 - d := by simpa [Cap.fits] using hfit
    split at h
    · rename_i e hu
      split at h
      · cases h
      · rename_i sz hsz
        split at h
        · cases h
        · rename_i h' e1
          split at h
          · cases h
          · rename_i l e2
            have H := fun w => bnds_ok (P := P) hl hh e1 e2 true (ρ.κ p.1 - d) (Nat.le_refl _) hfit' w
            obtain ⟨_, hl1, hl2⟩ := H default
            by_cases hln : l = n
            · subst hln
              rw [show Nat.beq l l = true by simp, cond_true] at h
              cases h
              have hh' : h' = l := by omega
              subst hh'
              refine ⟨_, by simp only [conc, hb, Option.map_some]; rfl, fun w => ?_⟩
              simp only [Cap.conc]
              simp [Instr.sliceAt, Instr.slice, run_underlying hu, (H w).1, sizeT_ok hsz, Addr.add_lit]
              have e3 : (ρ.κ p.1 - d = h') ↔ (ρ.κ p.1 - (d + h') = 0) := by omega
              by_cases hcl : ρ.κ p.1 - d = h'
              · rw [if_pos hcl, if_pos (e3.1 hcl)]; simp; omega
              · rw [if_neg hcl, if_neg (fun e => hcl (e3.2 e))]; simp; omega
            · have : Nat.beq l n = false := by rw [← Bool.not_eq_true, Nat.beq_eq]; exact hln
              rw [this, cond_false] at h
              cases h
              refine ⟨.slice (some ⟨b, p.2 + l * sz, none⟩) (h' - l) (ρ.κ p.1 - (d + l)), ?_, fun w => ?_⟩
              · have : h' - l ≤ ρ.κ p.1 - (d + l) := by omega
                simp [conc, hb, Cap.fits, Cap.conc, this]
              · simp only [Cap.conc]
                simp [Instr.sliceAt, Instr.slice, run_underlying hu, (H w).1, sizeT_ok hsz, Addr.add_lit]
                exact ⟨fun e => absurd e (by omega), by omega⟩
    · cases h
  · rename_i p q d
    simp only [conc, Option.map_eq_some_iff] at hv
    obtain ⟨b, hb, rfl⟩ := hv
    split at h
    · rename_i e hu
      split at h
      · cases h
      · rename_i sz hsz
        split at h
        · cases h
        · rename_i h' e1
          split at h
          · cases h
          · rename_i l e2
            cases h
            refine ⟨_, by simp only [conc, hb, Option.map_some]; rfl, fun w => ?_⟩
            obtain ⟨hbs, hl1, hl2⟩ := bnds_ok (P := P) hl hh e1 e2 true (ρ.κ p.1 - d) (Nat.le_refl _) (Nat.zero_le _) w
            have hl0 : l = 0 := by omega
            have hh0 : h' = 0 := by omega
            subst hl0 hh0
            simp [Instr.sliceAt, Instr.slice, run_underlying hu, hbs, sizeT_ok hsz, Addr.add_lit]
    · cases h
  · rename_i p
    obtain ⟨b, hb, rfl⟩ := ptr_conc hv
    split at h
    · rename_i n e hu
      split at h
      · cases h
      · rename_i sz hsz
        split at h
        · cases h
        · rename_i h' e1
          split at h
          · cases h
          · rename_i l e2
            cases h
            refine ⟨.slice (some ⟨b, bif Nat.beq n l then p.2 else p.2 + l * sz, none⟩) (h' - l) (n - l), by simp [conc, hb, Cap.fits, Cap.conc], fun w => ?_⟩
            have hbs := (bnds_ok (P := P) hl hh e1 e2 false n (Nat.le_refl _) (Nat.le_refl _) w).1
            simp [Instr.sliceAt, run_underlying hu, Instr.sureAddr, hbs, sizeT_ok hsz, Addr.add_lit]
            by_cases hcl : n = l
            · subst hcl; simp [show Nat.beq n n = true by simp]
            · have : Nat.beq n l = false := by rw [← Bool.not_eq_true, Nat.beq_eq]; exact hcl
              simp [hcl, this]
    · cases h
  · cases h
end
end
end Ev
end Go.Proofs.YtmolojjhnbchbaaGreatDoor

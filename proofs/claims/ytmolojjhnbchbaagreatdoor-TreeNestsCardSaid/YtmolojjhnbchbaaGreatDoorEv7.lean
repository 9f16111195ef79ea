/- The evaluator, part 7: stores and new blocks. No condition. -/
import Derived.Test.YtmolojjhnbchbaaGreatDoorEv6
set_option linter.all false
namespace Go.Proofs.YtmolojjhnbchbaaGreatDoor
open Go.RowKit

namespace Ev
noncomputable section

def upd (w : World) (g : Nat) (o : Obj) : World := { w with heap := w.heap.setIfInBounds g o }
theorem upd_size (w : World) (g : Nat) (o : Obj) : (upd w g o).heap.size = w.heap.size := by simp [upd]
theorem upd_same {w : World} {g : Nat} {o' : Obj} (h : w.heap[g]? = some o') (o : Obj) : (upd w g o).heap[g]? = some o := by
  have := (Array.getElem?_eq_some_iff.1 h).1
  simp [upd, this]
theorem upd_other (w : World) {g k : Nat} (o : Obj) (h : k ≠ g) : (upd w g o).heap[k]? = w.heap[k]? := by
  simp [upd, Array.getElem?_setIfInBounds_ne (Ne.symm h)]
theorem upd_upd (w : World) (g : Nat) (o o' : Obj) : upd (upd w g o) g o' = upd w g o' := by
  simp [upd, Array.setIfInBounds_setIfInBounds]
theorem upd_self {w : World} {g : Nat} {o : Obj} (h : w.heap[g]? = some o) : upd w g o = w := by
  obtain ⟨hl, he⟩ := Array.getElem?_eq_some_iff.1 h
  have : w.heap.setIfInBounds g o = w.heap := by
    apply Array.ext (by simp)
    intro i h1 h2
    by_cases e : g = i
    · subst e; simp [← he]
    · rw [Array.getElem_setIfInBounds (by simpa using h2)]; simp [e]
  unfold upd
  rw [this]

section
variable {ρ : Env} {m : Mem} {w : World}
/-- A block is written over. -/
theorem Stp.write (h : Rep ρ m w) {i g : Nat} {b b' : Blk} {o : Obj} (hi : m.get i = some b) (hσ : ρ.σ i = some g) (hb : BlkOK ρ i b' (upd w g o) g) : Stp ρ m w ρ (m.write i (some b')) (upd w g o) [i] where
  le := Env.le.refl ρ
  rep := by
    refine ⟨fun j bj hj => ?_, fun j k bj bk x hj hk ej ek => ?_, h.dom, fun j x hj => (by rw [upd_size]; exact h.low j x hj), fun j bj x hj ej => ?_, base.stays w _ h.ok fun k hk => upd_other w o (by rintro rfl; exact h.sep i b _ hi hσ hk)⟩
    · rw [Mem.get_write] at hj
      by_cases e : j = i
      · rw [if_pos e] at hj; cases hj; subst e; exact ⟨g, hσ, hb⟩
      · rw [if_neg e] at hj
        obtain ⟨x, hx, hok⟩ := h.blk j bj hj
        have hne : x ≠ g := by rintro rfl; exact e (h.inj j i bj b _ hj hi hx hσ)
        exact ⟨x, hx, hok.mono (Env.le.refl ρ) hx (upd_other w o hne)⟩
    · rw [Mem.get_write] at hj hk
      have lift : ∀ l bl, (if l = i then some b' else m.get l) = some bl → ∃ bl', m.get l = some bl' := fun l bl hl => by
        by_cases e : l = i
        · subst e; exact ⟨b, hi⟩
        · rw [if_neg e] at hl; exact ⟨bl, hl⟩
      obtain ⟨bj', hj'⟩ := lift j bj hj
      obtain ⟨bk', hk'⟩ := lift k bk hk
      exact h.inj j k bj' bk' x hj' hk' ej ek
    · rw [Mem.get_write] at hj
      by_cases e : j = i
      · subst e; exact h.sep _ b x hi ej
      · rw [if_neg e] at hj; exact h.sep j bj x hj ej
  os := rfl
  tape := rfl
  output := rfl
  size := by rw [upd_size]; exact Nat.le_refl _
  frame := fun x _ hn => upd_other w o (by rintro rfl; exact hn i (List.mem_singleton.2 rfl) hσ)
  fresh := fun _ _ e => .inl e
/-- A block goes over to a new one that lies at the same place. -/
theorem Stp.move (h : Rep ρ m w) {i g k : Nat} {b b' : Blk} {o : Obj} (hi : m.get i = some b) (hσ : ρ.σ i = some g) (hb : BlkOK (ρ.add m.next g k) m.next b' (upd w g o) g) :
    Stp ρ m w (ρ.add m.next g k) ((m.write i none).new b') (upd w g o) [i] := by
  have hn := h.dom m.next (Nat.le_refl _)
  have hle := Env.le_add hn g k
  have hin := h.lt hi
  have hg := h.low i g hσ
  have back : ∀ j bj, ((m.write i none).new b').get j = some bj → (j = m.next ∧ bj = b') ∨ (j ≠ m.next ∧ j ≠ i ∧ m.get j = some bj) := fun j bj hj => by
    rw [Mem.get_new] at hj
    by_cases e : j = (m.write i none).next
    · rw [if_pos e] at hj; cases hj; exact .inl ⟨e, rfl⟩
    · rw [if_neg e, Mem.get_write] at hj
      by_cases e2 : j = i
      · rw [if_pos e2] at hj; cases hj
      · rw [if_neg e2] at hj; exact .inr ⟨e, e2, hj⟩
  have sg : ∀ j, j ≠ m.next → (ρ.add m.next g k).σ j = ρ.σ j := fun j hj => by simp [Env.add, hj]
  refine ⟨hle, ⟨fun j bj hj => ?_, fun j l bj bl x hj hl ej el => ?_, fun j hj => ?_, fun j x hj => ?_, fun j bj x hj ej => ?_, base.stays w _ h.ok fun k hk => upd_other w o (by rintro rfl; exact h.sep i b _ hi hσ hk)⟩, rfl, rfl, rfl, by rw [upd_size]; exact Nat.le_refl _, fun x _ hx => upd_other w o (by rintro rfl; exact hx i (List.mem_singleton.2 rfl) hσ), fun j x e => ?_⟩
  · rcases back j bj hj with ⟨rfl, rfl⟩ | ⟨h1, h2, h3⟩
    · exact ⟨g, Env.add_σ _ _ _ _, hb⟩
    · obtain ⟨x, hx, hok⟩ := h.blk j bj h3
      have hne : x ≠ g := by rintro rfl; exact h2 (h.inj j i bj b _ h3 hi hx hσ)
      exact ⟨x, by rw [sg j h1]; exact hx, hok.mono hle hx (upd_other w o hne)⟩
  · rcases back j bj hj with ⟨rfl, rfl⟩ | ⟨h1, h2, h3⟩ <;> rcases back l bl hl with ⟨rfl, rfl⟩ | ⟨k1, k2, k3⟩
    · rfl
    · rw [Env.add_σ] at ej; cases ej
      rw [sg l k1] at el
      exact absurd (h.inj l i bl b _ k3 hi el hσ) k2
    · rw [Env.add_σ] at el; cases el
      rw [sg j h1] at ej
      exact absurd (h.inj j i bj b _ h3 hi ej hσ) h2
    · rw [sg j h1] at ej; rw [sg l k1] at el
      exact h.inj j l bj bl x h3 k3 ej el
  · have hj' : m.next < j := hj
    rw [sg j (by omega)]; exact h.dom j (by omega)
  · rw [upd_size]
    by_cases e : j = m.next
    · subst e; rw [Env.add_σ] at hj; cases hj; exact hg
    · rw [sg j e] at hj; exact h.low j x hj
  · rcases back j bj hj with ⟨rfl, rfl⟩ | ⟨h1, h2, h3⟩
    · rw [Env.add_σ] at ej; cases ej; exact h.sep i b _ hi hσ
    · rw [sg j h1] at ej; exact h.sep j bj x h3 ej
  · by_cases e1 : j = m.next
    · subst e1; rw [Env.add_σ] at e; cases e; exact .inr (.inr ⟨i, List.mem_singleton.2 rfl, hσ⟩)
    · rw [sg j e1] at e; exact .inl e
/-- A block is given up. -/
theorem Rep.drop (h : Rep ρ m w) (i : Nat) : Rep ρ (m.write i none) w := by
  have back : ∀ j bj, (m.write i none).get j = some bj → m.get j = some bj := fun j bj hj => by
    rw [Mem.get_write] at hj
    by_cases e : j = i
    · rw [if_pos e] at hj; cases hj
    · rwa [if_neg e] at hj
  exact ⟨fun j bj hj => h.blk j bj (back j bj hj), fun j k bj bk x hj hk => h.inj j k bj bk x (back j bj hj) (back k bk hk), h.dom, h.low, fun j bj x hj ej => h.sep j bj x (back j bj hj) ej, h.ok⟩
theorem Stp.drop (h : Rep ρ m w) (i : Nat) : Stp ρ m w ρ (m.write i none) w [i] :=
  ⟨Env.le.refl ρ, h.drop i, rfl, rfl, rfl, Nat.le_refl _, fun _ _ _ => rfl, fun _ _ h => .inl h⟩
end

variable {α : Type}
/-- The cells of a block with some of them written over. -/
def over (c : List α) (o : Nat) (vs : List α) : List α := c.take o ++ vs ++ c.drop (o + vs.length)
theorem over_length {c : List α} {o : Nat} {vs : List α} (h : o + vs.length ≤ c.length) : (over c o vs).length = c.length := by
  simp [over]; omega
theorem concL_over {ρ : Env} {c vs : List AV} {xs ys : List Value} {o : Nat} (h : concL ρ c = some xs) (k : concL ρ vs = some ys) : concL ρ (over c o vs) = some (over xs o ys) := by
  unfold over
  rw [concL_length k]
  exact concL_append (concL_append (concL_take _ h) k) (concL_drop _ h)
theorem over_append {c x vs : List α} {o : Nat} (h : o + vs.length ≤ c.length) : over (c ++ x) o vs = over c o vs ++ x := by
  unfold over
  rw [List.take_append_of_le_length (by omega), List.drop_append_of_le_length h]
  simp [List.append_assoc]
theorem over_get {c vs : List α} {o : Nat} (h : o + vs.length ≤ c.length) (k : Nat) : (over c o vs)[k]? = if k < o then c[k]? else if k < o + vs.length then vs[k - o]? else c[k]? := by
  have hm : (c.take o).length = o := by rw [List.length_take]; omega
  unfold over
  by_cases c1 : k < o
  · rw [if_pos c1, List.append_assoc, List.getElem?_append_left (by rw [hm]; exact c1), List.getElem?_take_of_lt c1]
  · rw [if_neg c1]
    by_cases c2 : k < o + vs.length
    · rw [if_pos c2, List.append_assoc, List.getElem?_append_right (by rw [hm]; omega), hm, List.getElem?_append_left (by omega)]
    · rw [if_neg c2, List.getElem?_append_right (by rw [List.length_append, hm]; omega), List.length_append, hm, List.getElem?_drop]
      congr 1; omega
theorem over_set {c vs : List α} {o : Nat} {v : α} (h : o + (vs.length + 1) ≤ c.length) : over (c.set o v) (o + 1) vs = over c o (v :: vs) := by
  apply List.ext_getElem?
  intro k
  rw [over_get (by rw [List.length_set]; omega), over_get (by rw [List.length_cons]; omega), List.length_cons]
  by_cases c1 : k < o
  · rw [if_pos (by omega), if_pos c1, List.getElem?_set_ne (by omega)]
  · by_cases c2 : k = o
    · subst c2
      rw [if_pos (by omega), if_neg (by omega), if_pos (by omega), List.getElem?_set_self (by omega), Nat.sub_self]; rfl
    · rw [if_neg (show ¬ k < o + 1 by omega), if_neg (show ¬ k < o by omega), List.getElem?_set_ne (by omega)]
      by_cases c3 : k < o + 1 + vs.length
      · rw [if_pos c3, if_pos (show k < o + (vs.length + 1) by omega), show k - o = (k - (o + 1)) + 1 by omega, List.getElem?_cons_succ]
      · rw [if_neg c3, if_neg (show ¬ k < o + (vs.length + 1) by omega)]
theorem setCell_upd {w : World} {g o : Nat} {cs : Array Value} {e : TypeId} {fr : Nat × Nat} (h : w.heap[g]? = some (.cells cs e fr)) (v : Value) :
    w.setCell ⟨g, o, none⟩ v = upd w g (.cells (cs.setIfInBounds o v) e fr) := by
  unfold World.setCell upd
  congr 1
  apply Array.ext'
  apply List.ext_getElem?
  intro k
  simp only [Array.getElem?_toList, Array.getElem?_modify, Array.getElem?_setIfInBounds]
  by_cases hk : g = k
  · subst hk
    obtain ⟨hl, he⟩ := Array.getElem?_eq_some_iff.1 h
    simp [he, hl]
  · simp [hk]
theorem run_storeCells_upd {P : Program} (g o : Nat) (e : TypeId) (fr : Nat × Nat) : ∀ (vs : List Value) (i : Nat) (cs : List Value) (w : World), w.heap[g]? = some (.cells cs.toArray e fr) → o + i + vs.length ≤ cs.length →
    (∀ v ∈ vs, v.oneCell' = true) → (∀ k, k < cs.length → ¬ (fr.1 ≤ k ∧ k < fr.2)) →
    (storeCells ⟨g, o, none⟩ vs i).run P w = .ok () (upd w g (.cells (over cs (o + i) vs).toArray e fr))
  | [], i, cs, w, h, hl, _, _ => by
    have : over cs (o + i) [] = cs := by simp [over]
    rw [this, upd_self h]
    simp [storeCells]
  | v :: vs, i, cs, w, h, hl, h1, hf => by
    simp only [List.length_cons] at hl
    have hc : w.cell? ⟨g, o + i, none⟩ = some (cs[o + i]'(by omega)) := by
      rw [cell_of_row w g _ _ e fr h]
      simp [List.getElem?_eq_getElem (show o + i < cs.length by omega)]
    have hfz : w.frozen? ⟨g, o + i, none⟩ = false := by
      have := hf (o + i) (by omega)
      simp only [World.frozen?, h]
      simpa using this
    have ih := run_storeCells_upd (P := P) g o e fr vs (i + 1) (cs.set (o + i) v) (upd w g (.cells (cs.set (o + i) v).toArray e fr)) (upd_same h _) (by simp; omega) (fun u hu => h1 u (List.mem_cons_of_mem _ hu)) (by simpa using hf)
    rw [upd_upd] at ih
    simp only [storeCells, Sem.run_bind, Addr.add_lit, run_store P w _ v .plain (h1 v (List.mem_cons_self ..)), hc, hfz, Bool.false_eq_true, if_false, Result.andThen_ok, setCell_upd h]
    have e1 : (cs.toArray.setIfInBounds (o + i) v) = (cs.set (o + i) v).toArray := by simp
    rw [e1, ih]
    rw [show o + (i + 1) = o + i + 1 by omega, over_set (by omega)]

/-- A cell's own value. -/
def AV.one : AV → Bool
  | .agg _ => false
  | .tuple _ => false
  | _ => true
theorem one_ok {ρ : Env} {a : AV} {x : Value} (h : conc ρ a = some x) (h1 : a.one = true) : x.oneCell' = true := by
  cases a with
  | agg l => cases h1
  | tuple l => cases h1
  | bool b => simp only [conc, Option.some.injEq] at h; subst h; rfl
  | int k n => simp only [conc, Option.some.injEq] at h; subst h; rfl
  | str s => simp only [conc, Option.some.injEq] at h; subst h; rfl
  | nilFunc => simp only [conc, Option.some.injEq] at h; subst h; rfl
  | nilIface => simp only [conc, Option.some.injEq] at h; subst h; rfl
  | ptr p =>
    cases p with
    | none => simp only [conc, Option.some.injEq] at h; subst h; rfl
    | some p => obtain ⟨_, _, rfl⟩ := ptr_conc h; rfl
  | slice p l c =>
    cases p with
    | none => cases c <;> simp [conc] at h; subst h; rfl
    | some p => obtain ⟨_, _, _, rfl⟩ := slice_conc h; rfl
  | slice0 p q d => simp only [conc, Option.map_eq_some_iff] at h; obtain ⟨_, _, rfl⟩ := h; rfl
  | map p =>
    cases p with
    | none => simp only [conc, Option.some.injEq] at h; subst h; rfl
    | some p => simp only [conc, Option.map_eq_some_iff] at h; obtain ⟨_, _, rfl⟩ := h; rfl
  | func fn f c => simp only [conc, Option.bind_eq_some_iff, Option.map_eq_some_iff] at h; obtain ⟨_, _, _, _, rfl⟩ := h; rfl
  | iface t v => simp only [conc, Option.map_eq_some_iff] at h; obtain ⟨_, _, rfl⟩ := h; rfl
  | sym k i l r =>
    simp only [conc] at h
    rcases symV_kind h with ⟨n, rfl⟩ | ⟨b, rfl⟩ <;> rfl
def allOne : List AV → Bool
  | [] => true
  | a :: l => a.one && allOne l
theorem allOne_ok {ρ : Env} : ∀ {l : List AV} {vs : List Value}, concL ρ l = some vs → allOne l = true → ∀ v ∈ vs, v.oneCell' = true
  | [], vs, h, _ => by simp [concL] at h; subst h; simp
  | a :: l, vs, h, h1 => by
    obtain ⟨x, y, hx, hy, rfl⟩ := concL_cons h
    simp only [allOne, Bool.and_eq_true] at h1
    intro v hv
    rcases List.mem_cons.1 hv with rfl | hv
    · exact one_ok hx h1.1
    · exact allOne_ok hy h1.2 v hv

/-- What an operation with an effect came to. -/
structure Did (P : Program) (ev : Operand → Value) (o : Oper) (ρ : Env) (m : Mem) (w : World) (r : AV) (m' : Mem) : Prop where
  ex : ∃ ρ' w' z L, Stp ρ m w ρ' m' w' L ∧ Lg m m' L ∧ conc ρ' r = some z ∧ ((execOp ev o).run P w = .ok (.value z) w' ∨ ((execOp ev o).run P w = .ok .skip w' ∧ z = undef))

section
variable (P : Program)
/-- A store over cells of a block. -/
def putA (m : Mem) (p : Nat × Nat) (vs : List AV) : Option Mem :=
  match m.get p.1 with
  | some (.cells c e op) => bif Nat.ble (p.2 + vs.length) c.length && allOne vs then some (m.write p.1 (some (.cells (over c p.2 vs) e op))) else none
  | _ => none
def storeA (m : Mem) (t : TypeId) (a x : AV) : Option Mem :=
  match a with
  | .ptr (some p) => (match sizeT P t with
    | none => none
    | some n => bif Nat.beq x.cells.length n then putA m p x.cells else none)
  | _ => none
end
section
variable {P : Program} {ρ : Env} {m : Mem} {w : World}
theorem putA_ok (h : Rep ρ m w) {p : Nat × Nat} {vs : List AV} {xs : List Value} {m' : Mem} {g : Nat} (hg : ρ.σ p.1 = some g) (hx : concL ρ vs = some xs) (hp : putA m p vs = some m') :
    ∃ w', Stp ρ m w ρ m' w' [p.1] ∧ Lg m m' [p.1] ∧ (storeCells ⟨g, p.2, none⟩ xs 0).run P w = .ok () w' := by
  unfold putA at hp
  split at hp
  · rename_i c e op hi
    cases hb : (Nat.ble (p.2 + vs.length) c.length && allOne vs) with
    | false => rw [hb, cond_false] at hp; cases hp
    | true =>
      rw [hb, cond_true] at hp
      cases hp
      simp only [Bool.and_eq_true, Nat.ble_eq] at hb
      obtain ⟨g', cs, ex, fr, h0, h1, h2, h3, h4⟩ := h.cells hi
      rw [hg] at h0; cases h0
      have l1 := concL_length h1
      have l2 := concL_length hx
      have hle : p.2 + xs.length ≤ cs.length := by omega
      have hr := run_storeCells_upd (P := P) g p.2 e fr xs 0 (cs ++ ex) w h2 (by simp; omega) (allOne_ok hx hb.2) h3
      rw [Nat.add_zero, over_append hle] at hr
      refine ⟨_, Stp.write h hi hg ?_, Lg.write _ _ _, hr⟩
      have hol := over_length hle
      refine ⟨over cs p.2 xs, ex, fr, concL_over h1 hx, upd_same h2 _, ?_, ?_⟩
      · intro o ho; exact h3 o (by simpa [hol] using ho)
      · have : (over cs p.2 xs ++ ex).length = (cs ++ ex).length := by simp [hol]
        rw [this]; exact h4
  · cases hp
theorem storeA_ok (h : Rep ρ m w) {t : TypeId} {a v : AV} {x y : Value} {m' : Mem} (ha : conc ρ a = some x) (hv : conc ρ v = some y) (hs : storeA P m t a v = some m') :
    ∃ w' i, Stp ρ m w ρ m' w' [i] ∧ Lg m m' [i] ∧ (Instr.storeAt t x y).run P w = .ok () w' := by
  unfold storeA at hs
  split at hs
  · rename_i p
    obtain ⟨g, hg, rfl⟩ := ptr_conc ha
    split at hs
    · cases hs
    · rename_i n hn
      cases hb : Nat.beq v.cells.length n with
      | false => rw [hb, cond_false] at hs; cases hs
      | true =>
        rw [hb, cond_true] at hs
        rw [Nat.beq_eq] at hb
        obtain ⟨w', h1, h2, h3⟩ := putA_ok (P := P) h hg (cells_ok hv) hs
        refine ⟨w', p.1, h1, h2, ?_⟩
        have hl := concL_length (cells_ok hv)
        simp only [Array.length_toList] at hl
        simp only [Instr.storeAt, Instr.sureAddr, Sem.run_bind, Sem.run_pure, Result.andThen_ok, storeVar, sizeT_ok hn]
        rw [if_neg (by omega)]
        exact h3
  · cases hs
/-- A new block of just these cells. -/
theorem new_ok (h : Rep ρ m w) {c : List AV} {vs : List Value} (e : TypeId) (hc : concL ρ c = some vs) :
    Stp ρ m w (ρ.add m.next w.heap.size 0) (m.new (.cells c e none)) (w.alloc (.cells vs.toArray e)) [] := by
  refine Stp.alloc h _ _ 0 ⟨vs, [], (0, 0), concL_mono (Env.le_add (h.dom m.next (Nat.le_refl _)) _ _) _ _ hc, ?_, fun o _ => by simp, rfl⟩
  rw [List.append_nil]; exact heap_alloc_new w _
/-- A new block with room behind. -/
theorem newOpen_ok (h : Rep ρ m w) {c : List AV} {vs ex : List Value} (e : TypeId) (fr : Nat × Nat) {k sz : Nat} (hc : concL ρ c = some vs) (hl : (vs ++ ex).length = k * sz) (hf : ∀ o, o < (vs ++ ex).length → ¬ (fr.1 ≤ o ∧ o < fr.2)) :
    Stp ρ m w (ρ.add m.next w.heap.size k) (m.new (.cells c e (some sz))) (w.alloc (.cells (vs ++ ex).toArray e fr)) [] := by
  refine Stp.alloc h _ _ k ⟨vs, ex, fr, concL_mono (Env.le_add (h.dom m.next (Nat.le_refl _)) _ _) _ _ hc, heap_alloc_new w _, hf, ?_⟩
  simp [Room, Env.add, hl]
end
end
end Ev
end Go.Proofs.YtmolojjhnbchbaaGreatDoor

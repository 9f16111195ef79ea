/- What a function of a text yields, reckoned once in an empty memory, told again in any memory. No condition. -/
import Derived.Test.YtelopbcbmckbcaaGreatDoorFast2
set_option linter.all false
namespace Go.Proofs.YtelopbcbmckbcaaGreatDoor
open Go.RowKit

namespace Ev
noncomputable section
/- Blocks under later numbers. -/
mutual
def mvA (n : Nat) : AV → AV
  | .bool b => .bool b
  | .int k z => .int k z
  | .str s => .str s
  | .ptr none => .ptr none
  | .ptr (some p) => .ptr (some (n + p.1, p.2))
  | .slice none l c => .slice none l c
  | .slice (some p) l c => .slice (some (n + p.1, p.2)) l c
  | .slice0 p q d => .slice0 (n + p.1, p.2) q d
  | .map none => .map none
  | .map (some i) => .map (some (n + i))
  | .func f a c => .func f (mvL n a) (mvL n c)
  | .nilFunc => .nilFunc
  | .iface t v => .iface t (mvA n v)
  | .nilIface => .nilIface
  | .agg l => .agg (mvL n l)
  | .tuple l => .tuple (mvL n l)
  | .sym k i l r => .sym k i l r
def mvL (n : Nat) : List AV → List AV
  | [] => []
  | a :: l => mvA n a :: mvL n l
end
def mvE (n : Nat) : List (AV × AV × Nat) → List (AV × AV × Nat)
  | [] => []
  | (k, v, b) :: l => (mvA n k, mvA n v, b) :: mvE n l
def mvB (n : Nat) : Blk → Blk
  | .cells c e op => .cells (mvL n c) e op
  | .mp es cl => .mp (mvE n es) cl
/-- Both: below n the one, from n on the other. -/
def Env.both (ρ ρ1 : Env) (n : Nat) : Env := ⟨fun i => if i < n then ρ.σ i else ρ1.σ (i - n), fun i => if i < n then ρ.κ i else ρ1.κ (i - n), ρ1.y⟩
section
variable {ρ ρ1 : Env} {n : Nat}
theorem both_σ (i : Nat) : (ρ.both ρ1 n).σ (n + i) = ρ1.σ i := by
  have : ¬ n + i < n := by omega
  simp [Env.both, this]
theorem both_κ (i : Nat) : (ρ.both ρ1 n).κ (n + i) = ρ1.κ i := by
  have : ¬ n + i < n := by omega
  simp [Env.both, this]
mutual
theorem mvA_ok : ∀ (a : AV), conc (ρ.both ρ1 n) (mvA n a) = conc ρ1 a
  | .bool _ => rfl
  | .int _ _ => rfl
  | .str _ => rfl
  | .ptr none => rfl
  | .ptr (some p) => by simp only [mvA, conc, both_σ]
  | .slice none l c => rfl
  | .slice (some p) l c => by simp only [mvA, conc, both_σ, both_κ]
  | .slice0 p q d => by simp only [mvA, conc, both_σ, both_κ]
  | .map none => rfl
  | .map (some i) => by simp only [mvA, conc, both_σ]
  | .func f a c => by simp only [mvA, conc, mvL_ok a, mvL_ok c]
  | .nilFunc => rfl
  | .iface t v => by simp only [mvA, conc, mvA_ok v]
  | .nilIface => rfl
  | .agg l => by simp only [mvA, conc, mvL_ok l]
  | .tuple l => by simp only [mvA, conc, mvL_ok l]
  | .sym k i l r => rfl
theorem mvL_ok : ∀ (l : List AV), concL (ρ.both ρ1 n) (mvL n l) = concL ρ1 l
  | [] => rfl
  | a :: l => by simp only [mvL, concL, mvA_ok a, mvL_ok l]
end
theorem mvE_ok : ∀ (l : List (AV × AV × Nat)), concE (ρ.both ρ1 n) (mvE n l) = concE ρ1 l
  | [] => rfl
  | (k, v, b) :: l => by simp only [mvE, concE, mvA_ok k, mvA_ok v, mvE_ok l]
theorem mvB_ok {i : Nat} {b : Blk} {w : World} {g : Nat} (h : BlkOK ρ1 i b w g) : BlkOK (ρ.both ρ1 n) (n + i) (mvB n b) w g := by
  cases b with
  | cells c e op =>
    obtain ⟨vs, ex, fr, h1, h2, h3, h4⟩ := h
    refine ⟨vs, ex, fr, by rw [mvL_ok]; exact h1, h2, h3, ?_⟩
    cases op with
    | none => exact h4
    | some sz => simp only [Room] at h4 ⊢; rw [both_κ]; exact h4
  | mp es cl =>
    obtain ⟨vs, h1, h2⟩ := h
    exact ⟨vs, by rw [mvE_ok]; exact h1, h2⟩
end
/-- So many blocks of another memory behind the memory's own. -/
def addB (n : Nat) (m' : Mem) : Nat → Tr Blk → Tr Blk
  | 0, t => t
  | k + 1, t => match m'.get k with
    | none => addB n m' k t
    | some b => addB n m' k (t.put (n + k) (some (mvB n b)))
def Mem.add (m m' : Mem) : Mem := ⟨m.next + m'.next, addB m.next m' m'.next m.t, m.log⟩
theorem addB_get (n : Nat) (m' : Mem) : ∀ (k : Nat) (t : Tr Blk) (i : Nat), (addB n m' k t).get i = if n ≤ i ∧ i < n + k ∧ (m'.get (i - n)).isSome = true then (m'.get (i - n)).map (mvB n) else t.get i
  | 0, t, i => by
    rw [if_neg (by omega)]; rfl
  | k + 1, t, i => by
    unfold addB
    split
    · rename_i hk
      rw [addB_get n m' k]
      by_cases h : i = n + k
      · subst h
        simp only [Nat.add_sub_cancel_left, hk]
        simp
      · by_cases h1 : n ≤ i ∧ i < n + k ∧ (m'.get (i - n)).isSome = true
        · rw [if_pos h1, if_pos ⟨h1.1, by omega, h1.2.2⟩]
        · rw [if_neg h1, if_neg (fun q => h1 ⟨q.1, by omega, q.2.2⟩)]
    · rename_i b hk
      rw [addB_get n m' k, Tr.get_put]
      by_cases h : i = n + k
      · subst h
        simp only [Nat.add_sub_cancel_left, hk]
        simp
      · rw [if_neg h]
        by_cases h1 : n ≤ i ∧ i < n + k ∧ (m'.get (i - n)).isSome = true
        · rw [if_pos h1, if_pos ⟨h1.1, by omega, h1.2.2⟩]
        · rw [if_neg h1, if_neg (fun q => h1 ⟨q.1, by omega, q.2.2⟩)]
theorem Mem.get_add (m m' : Mem) (i : Nat) (hlow : ∀ j, m.next ≤ j → m.get j = none) (hhigh : ∀ j, m'.next ≤ j → m'.get j = none) : (m.add m').get i = if i < m.next then m.get i else (m'.get (i - m.next)).map (mvB m.next) := by
  show (addB m.next m' m'.next m.t).get i = _
  rw [addB_get]
  by_cases h : i < m.next
  · rw [if_neg (by omega), if_pos h]; rfl
  · rw [if_neg h]
    by_cases h1 : m.next ≤ i ∧ i < m.next + m'.next ∧ (m'.get (i - m.next)).isSome = true
    · rw [if_pos h1]
    · rw [if_neg h1]
      have h2 : m'.get (i - m.next) = none := by
        rcases Nat.lt_or_ge i (m.next + m'.next) with q | q
        · cases e : m'.get (i - m.next) with
          | none => rfl
          | some b => exact absurd ⟨by omega, q, by rw [e]; rfl⟩ h1
        · exact hhigh _ (by omega)
      rw [h2]
      show m.get i = none
      exact hlow i (by omega)
theorem Rep.high {ρ : Env} {m : Mem} {w : World} (h : Rep ρ m w) (j : Nat) (hj : m.next ≤ j) : m.get j = none := by
  cases e : m.get j with
  | none => rfl
  | some b => have := h.lt e; omega
theorem Stp.both {ρ ρ1 : Env} {m m' : Mem} {w w' : World} {L : List Nat} (hr : Rep ρ m w) (h : Stp ⟨fun _ => none, fun _ => 0, ρ.y⟩ Mem.empty w ρ1 m' w' L) : Stp ρ m w (ρ.both ρ1 m.next) (m.add m') w' [] := by
  have hy : ρ1.y = ρ.y := h.le.y
  have old : ∀ g, g < w.heap.size → w'.heap[g]? = w.heap[g]? := fun g hg => h.frame g hg fun _ _ e => by cases e
  have new : ∀ i g, ρ1.σ i = some g → w.heap.size ≤ g := fun i g e => by
    rcases h.fresh i g e with q | q | ⟨j, _, q⟩
    · cases q
    · exact q
    · cases q
  have hle : ρ.le (ρ.both ρ1 m.next) := by
    refine ⟨fun i b hb => ?_, fun i b hb => ?_, hy⟩ <;>
    · have := hr.lt_of_σ hb
      simp [Env.both, this, hb]
  have get := fun i => Mem.get_add m m' i hr.high h.rep.high
  have lowσ : ∀ i, i < m.next → (ρ.both ρ1 m.next).σ i = ρ.σ i := fun i hi => by simp [Env.both, hi]
  have highσ : ∀ i, ¬ i < m.next → (ρ.both ρ1 m.next).σ i = ρ1.σ (i - m.next) := fun i hi => by simp [Env.both, hi]
  refine ⟨hle, ⟨fun i b hi => ?_, fun i j bi bj g hi hj ei ej => ?_, fun i hi => ?_, fun i g hi => ?_, fun i b g hi ei => ?_, h.rep.ok⟩, h.os, h.tape, h.output, h.size, fun g hg _ => old g hg, fun i g e => ?_⟩
  · rw [get] at hi
    by_cases q : i < m.next
    · rw [if_pos q] at hi
      obtain ⟨g, g1, g2⟩ := hr.blk i b hi
      exact ⟨g, hle.σ i g g1, g2.mono hle g1 (old g g2.lt)⟩
    · rw [if_neg q, Option.map_eq_some_iff] at hi
      obtain ⟨b', h1, rfl⟩ := hi
      obtain ⟨g, g1, g2⟩ := h.rep.blk _ b' h1
      refine ⟨g, by rw [highσ i q]; exact g1, ?_⟩
      have := mvB_ok (ρ := ρ) (n := m.next) g2
      rwa [show m.next + (i - m.next) = i by omega] at this
  · rw [get] at hi hj
    by_cases p : i < m.next <;> by_cases q : j < m.next
    · rw [if_pos p] at hi; rw [if_pos q] at hj; rw [lowσ i p] at ei; rw [lowσ j q] at ej
      exact hr.inj i j bi bj g hi hj ei ej
    · rw [lowσ i p] at ei; rw [highσ j q] at ej
      have := hr.low i g ei; have := new _ g ej; omega
    · rw [highσ i p] at ei; rw [lowσ j q] at ej
      have := hr.low j g ej; have := new _ g ei; omega
    · rw [if_neg p, Option.map_eq_some_iff] at hi
      rw [if_neg q, Option.map_eq_some_iff] at hj
      obtain ⟨b1, h1, _⟩ := hi
      obtain ⟨b2, h2, _⟩ := hj
      rw [highσ i p] at ei; rw [highσ j q] at ej
      have := h.rep.inj _ _ b1 b2 g h1 h2 ei ej
      omega
  · have hi : m.next + m'.next ≤ i := hi
    rw [highσ i (by omega)]
    exact h.rep.dom _ (by omega)
  · by_cases p : i < m.next
    · rw [lowσ i p] at hi
      exact Nat.lt_of_lt_of_le (hr.low i g hi) h.size
    · rw [highσ i p] at hi
      exact h.rep.low _ g hi
  · rw [get] at hi
    by_cases p : i < m.next
    · rw [if_pos p] at hi; rw [lowσ i p] at ei
      exact hr.sep i b g hi ei
    · rw [if_neg p, Option.map_eq_some_iff] at hi
      obtain ⟨b', h1, _⟩ := hi
      rw [highσ i p] at ei
      exact h.rep.sep _ b' g h1 ei
  · by_cases p : i < m.next
    · rw [lowσ i p] at e; exact .inl e
    · rw [highσ i p] at e; exact .inr (.inl (new _ g e))
theorem Lg.add (m m' : Mem) : Lg m (m.add m') [] := ⟨Nat.le_add_right _ _, rfl, fun i hi _ => by
  show (addB m.next m' m'.next m.t).get i = _
  rw [addB_get, if_neg (by omega)]
  rfl⟩
/-- What is reckoned in an empty memory is told in any. -/
theorem CallSound.again {P : Program} {call : FuncId → List AV → Mem → Option (AV × Mem)} (hc : CallSound P call) {g : FuncId} {args : List AV} {r : AV} {m' : Mem} (h : call g args Mem.empty = some (r, m'))
    (hargs : ∀ ρ ρ' : Env, concL ρ args = concL ρ' args) (m : Mem) : ∃ L, Lg m (m.add m') L ∧ ∀ ρ w xs, Rep ρ m w → concL ρ args = some xs → CallsTo P g xs.toArray w (fun z w' => ∃ ρ', Stp ρ m w ρ' (m.add m') w' L ∧ conc ρ' (mvA m.next r) = some z) := by
  refine ⟨[], Lg.add m m', fun ρ w xs hr hxs => ?_⟩
  obtain ⟨L, _, H⟩ := hc g args Mem.empty r m' h
  have key : ∀ z w', (∃ ρ', Stp ⟨fun _ => none, fun _ => 0, ρ.y⟩ Mem.empty w ρ' m' w' L ∧ conc ρ' r = some z) → ∃ ρ', Stp ρ m w ρ' (m.add m') w' [] ∧ conc ρ' (mvA m.next r) = some z := by
    rintro z w' ⟨ρ1, k1, k2⟩
    exact ⟨_, Stp.both hr k1, by rw [mvA_ok]; exact k2⟩
  rcases H _ w xs (Rep.empty ρ.y hr.ok) (by rw [hargs _ ρ]; exact hxs) with ⟨h1, h2⟩ | ⟨z, w', h1, h2⟩
  · exact .inl ⟨h1, h2.mono fun e w' ⟨v, hv, q⟩ => ⟨v, hv, key v w' q⟩⟩
  · exact .inr ⟨z, w', h1, key z w' h2⟩
end
end Ev
end Go.Proofs.YtelopbcbmckbcaaGreatDoor

/- Words for memory: a slice that reads as a list of cells (after the guide's page of words to copy); lists of values, of texts. No program. -/
import Derived.Test.YtddedijencleeaaGreatDoorBase
namespace Go.Proofs.YtddedijencleeaaGreatDoor
open Go.RowKit

theorem block_of_add (a : Addr) (n : Nat) : (a.add n).block = a.block := by unfold Addr.add; split <;> rfl
theorem add_of_add (a : Addr) (i j : Nat) : (a.add i).add j = a.add (i + j) := by
  unfold Addr.add
  by_cases hi : i = 0 <;> by_cases hj : j = 0 <;> simp [hi, hj, Nat.add_assoc]

/-- The slice value '.slice A n c' holds the cells xs, 'size' an element. -/
def Reads (w : World) (size : Nat) (A : Option Addr) (n : Nat) (xs : List Value) : Prop :=
  xs.length = n * size ∧ (0 < n → ∃ b o, A = some ⟨b, o, none⟩ ∧ b < w.heap.size ∧ ∀ j u, xs[j]? = some u → w.cell? ⟨b, o + j, none⟩ = some u)

section
variable {w w' : World} {size n : Nat} {A : Option Addr} {xs : List Value}
theorem Reads.none_ : Reads w size A 0 [] := ⟨by simp, fun h => absurd h (by omega)⟩
theorem Reads.below (h : Reads w size A n xs) (hb : Below w.heap.size w w') : Reads w' size A n xs :=
  ⟨h.1, fun hn => by
    obtain ⟨b, o, e, hlt, hc⟩ := h.2 hn
    exact ⟨b, o, e, Nat.lt_of_lt_of_le hlt hb.size, fun j u hu => (hb.cell (p := ⟨b, o + j, none⟩) hlt).trans (hc j u hu)⟩⟩
theorem Reads.alloc (h : Reads w size A n xs) (o : Obj) : Reads (w.alloc o) size A n xs := h.below ((Below.refl _ _).alloc (Nat.le_refl _) o)
theorem Reads.drew (h : Reads w size A n xs) : Reads w.drew size A n xs := h
theorem Reads.at_ {k : Nat} (h : Reads w 1 A n xs) (hk : k < n) : ∃ b o u, A = some ⟨b, o, none⟩ ∧ xs[k]? = some u ∧ w.cell? ⟨b, o + k, none⟩ = some u := by
  obtain ⟨b, o, e, hb, hc⟩ := h.2 (by omega)
  have hl : k < xs.length := by have := h.1; omega
  exact ⟨b, o, xs[k], e, List.getElem?_eq_getElem hl, hc k _ (List.getElem?_eq_getElem hl)⟩
/-- A new block that a slice literal made. -/
theorem Reads.new (w : World) (e : TypeId) (size n : Nat) (xs : List Value) (h : xs.length = n * size) : Reads (w.alloc (.cells xs.toArray e)) size (some ⟨w.heap.size, 0, none⟩) n xs :=
  ⟨h, fun _ => ⟨w.heap.size, 0, rfl, by simp, fun j u hu => by
    have h1 : (w.alloc (.cells xs.toArray e)).heap[w.heap.size]? = some (.cells xs.toArray e (0, 0)) := by
      show (w.heap.push _)[w.heap.size]? = _
      simp
    unfold World.cell?
    simp only [h1]
    simpa using hu⟩⟩
end

/-- A value of the project: kind, number, text. -/
structure V where
  k : Int
  n : Int
  t : ByteArray
def V.agg (v : V) : Value := .agg #[.int .i64 v.k, .int .i64 v.n, .string v.t]
def V.cells (v : V) : List Value := [.int .i64 v.k, .int .i64 v.n, .string v.t]
def vcells (l : List V) : List Value := l.flatMap V.cells
theorem vcells_length (l : List V) : (vcells l).length = l.length * 3 := by
  induction l with
  | nil => rfl
  | cons v l ih =>
    have : vcells (v :: l) = V.cells v ++ vcells l := rfl
    rw [this, List.length_append, ih]; simp [V.cells]; omega
theorem vcells_get {l : List V} {i : Nat} {v : V} (h : l[i]? = some v) :
    (vcells l)[i * 3]? = some (.int .i64 v.k) ∧ (vcells l)[i * 3 + 1]? = some (.int .i64 v.n) ∧ (vcells l)[i * 3 + 2]? = some (.string v.t) := by
  induction l generalizing i with
  | nil => simp at h
  | cons x l ih =>
    have e : vcells (x :: l) = V.cells x ++ vcells l := rfl
    cases i with
    | zero =>
      simp only [List.getElem?_cons_zero, Option.some.injEq] at h
      subst h
      rw [e]
      simp [V.cells]
    | succ i =>
      simp only [List.getElem?_cons_succ] at h
      obtain ⟨h1, h2, h3⟩ := ih h
      have hl : (V.cells x).length = 3 := rfl
      rw [e, List.getElem?_append_right (by rw [hl]; omega), List.getElem?_append_right (by rw [hl]; omega), List.getElem?_append_right (by rw [hl]; omega), hl]
      refine ⟨?_, ?_, ?_⟩
      · rw [show (i + 1) * 3 - 3 = i * 3 from by omega]; exact h1
      · rw [show (i + 1) * 3 + 1 - 3 = i * 3 + 1 from by omega]; exact h2
      · rw [show (i + 1) * 3 + 2 - 3 = i * 3 + 2 from by omega]; exact h3
/-- Element i of a slice of values: its three cells. -/
theorem Reads.val {w : World} {A : Option Addr} {n : Nat} {l : List V} (h : Reads w 3 A n (vcells l)) {i : Nat} (hi : i < n) :
    ∃ b o v, A = some ⟨b, o, none⟩ ∧ l[i]? = some v ∧ w.cell? ⟨b, o + i * 3, none⟩ = some (.int .i64 v.k) ∧ w.cell? ⟨b, o + i * 3 + 1, none⟩ = some (.int .i64 v.n) ∧ w.cell? ⟨b, o + i * 3 + 2, none⟩ = some (.string v.t) := by
  obtain ⟨b, o, e, hb, hc⟩ := h.2 (by omega)
  have hl : i < l.length := by have := h.1; rw [vcells_length] at this; omega
  have hg := List.getElem?_eq_getElem hl
  obtain ⟨h1, h2, h3⟩ := vcells_get hg
  exact ⟨b, o, l[i], e, hg, hc _ _ h1, by rw [Nat.add_assoc]; exact hc _ _ h2, by rw [Nat.add_assoc]; exact hc _ _ h3⟩
theorem Reads.vlen {w : World} {A : Option Addr} {n : Nat} {l : List V} (h : Reads w 3 A n (vcells l)) : l.length = n := by
  have := h.1; rw [vcells_length] at this; omega
end Go.Proofs.YtddedijencleeaaGreatDoor

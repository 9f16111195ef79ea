/- Small lemmas on worlds (no program): blocks, cells, frames; words for memory after the guide's own pages of words to copy. -/
import Derived.Below
import Derived.Maps.AppendAt
import Derived.Deep.AppendLies
import Derived.Deep.Draws
import Derived.Laws.OwnMore
import Derived.Laws.Rows
import Derived.RegionTactic
import Derived.OwnWalk
import Derived.Lib.Hide
namespace Go.Proofs.YtddedijencleeaaGreatDoor
open Go.RowKit

theorem lt_of_heap {W : World} {b : Nat} {o : Obj} (h : W.heap[b]? = some o) : b < W.heap.size := by
  rcases Nat.lt_or_ge b W.heap.size with hlt | hge
  · exact hlt
  · rw [Array.getElem?_eq_none hge] at h; cases h
theorem lt_of_cell {W : World} {a : Addr} {v : Value} (h : W.cell? a = some v) : a.block < W.heap.size := by
  rcases Nat.lt_or_ge a.block W.heap.size with hlt | hge
  · exact hlt
  · simp [World.cell?, Array.getElem?_eq_none hge] at h

theorem only_drewN {a w : World} {row : Option Nat} (h : a.grownBy w row) (n : Nat) : a.grownBy (w.drewN n) row := ⟨h.os, h.tape, h.output, h.size, h.block⟩
theorem only_drew {a w : World} {row : Option Nat} (h : a.grownBy w row) : a.grownBy w.drew row := ⟨h.os, h.tape, h.output, h.size, h.block⟩
theorem only_alloc {a w : World} {row : Option Nat} (h : a.grownBy w row) (o : Obj) : a.grownBy (w.alloc o) row :=
  ⟨h.os, h.tape, h.output, Nat.le_trans h.size (by simp), fun i hi hne => (Below.heap_alloc w o i (Nat.lt_of_lt_of_le hi h.size)).trans (h.block i hi hne)⟩
theorem only_setCell {a w : World} {g : Nat} (h : a.grownBy w (some g)) {p : Addr} (hp : p.block = g ∨ a.heap.size ≤ p.block) (u : Value) : a.grownBy (w.setCell p u) (some g) :=
  ⟨h.os, h.tape, h.output, by simpa [World.setCell] using h.size, fun i hi hne => (Below.heap_setCell w p u i (by
    rintro rfl
    rcases hp with hp | hp
    · exact hne (by rw [hp])
    · omega)).trans (h.block i hi hne)⟩
theorem only_of_below {a w : World} (h : Below a.heap.size a w) (row : Option Nat) : a.grownBy w row := ⟨h.os, h.tape, h.output, h.size, fun i hi _ => h.block i hi⟩
theorem below_drewN {B : Nat} {a w : World} (h : Below B a w) (n : Nat) : Below B a (w.drewN n) := ⟨h.os, h.tape, h.output, h.size, h.block⟩

/-- What a callee left: 'W to W1 below W's size', behind a caller's own way 'w to W'. -/
theorem Below.andThen {w W W1 : World} (h : Below w.heap.size w W) (k : Below W.heap.size W W1) : Below w.heap.size w W1 := h.trans (k.mono h.size)
theorem bcell {W w1 : World} (hb : Below W.heap.size W w1) : (∀ b o, b < W.heap.size → w1.cell? ⟨b, o, none⟩ = W.cell? ⟨b, o, none⟩) ∧ (∀ b o, b < W.heap.size → w1.frozen? ⟨b, o, none⟩ = W.frozen? ⟨b, o, none⟩) :=
  ⟨fun b o h => hb.cell (p := ⟨b, o, none⟩) h, fun b o h => hb.frozen (p := ⟨b, o, none⟩) h⟩
theorem setCell_self {w : World} {a : Addr} {v : Value} (ht : w.cell? a = some v) (u : Value) : (w.setCell a u).cell? a = some u := by
  obtain ⟨b, o, s⟩ := a
  unfold World.cell? at ht ⊢
  unfold World.setCell
  simp only [Array.getElem?_modify, if_true] at ht ⊢
  cases hb : w.heap[b]? with
  | none => simp [hb] at ht
  | some x =>
    cases x with
    | cells c e f =>
      simp only [hb] at ht
      simp only [Option.map_some]
      cases s with
      | some s => simp at ht
      | none =>
        simp only [Option.isSome_none, Bool.false_eq_true, if_false] at ht ⊢
        have hlt : o < c.size := (Array.getElem?_eq_some_iff.1 ht).1
        simp [hlt]
    | _ => simp [hb] at ht

/-- A block of three cells (a boxed struct of three fields): its cells; kept by what a callee did. -/
def Blk3 (W : World) (g : Nat) (t : TypeId) (a b c : Value) : Prop := W.heap[g]? = some (.cells #[a, b, c] t (0, 0))
theorem Blk3.lt {W : World} {g : Nat} {t : TypeId} {a b c : Value} (h : Blk3 W g t a b c) : g < W.heap.size := lt_of_heap h
theorem Blk3.cells {W : World} {g : Nat} {t : TypeId} {a b c : Value} (h : Blk3 W g t a b c) :
    W.cell? ⟨g, 0, none⟩ = some a ∧ W.cell? ⟨g, 1, none⟩ = some b ∧ W.cell? ⟨g, 2, none⟩ = some c ∧ (∀ i, W.frozen? ⟨g, i, none⟩ = false) := by
  unfold Blk3 at h
  simp [World.cell?, World.frozen?, h]
theorem Blk3.below {W W1 : World} {g : Nat} {t : TypeId} {a b c : Value} (h : Blk3 W g t a b c) (hb : Below W.heap.size W W1) : Blk3 W1 g t a b c := (hb.block g h.lt).trans h
theorem Blk3.new (W : World) (t : TypeId) (a b c : Value) : Blk3 (W.alloc (.cells #[a, b, c] t)) W.heap.size t a b c := by
  show (W.heap.push _)[W.heap.size]? = _
  simp
theorem Blk3.new1 (W : World) (o : Obj) (t : TypeId) (a b c : Value) : Blk3 ((W.alloc o).alloc (.cells #[a, b, c] t)) (W.heap.size + 1) t a b c := by
  have h := Blk3.new (W.alloc o) t a b c
  simpa using h
theorem Blk3.new2 (W : World) (o o' : Obj) (t : TypeId) (a b c : Value) : Blk3 (((W.alloc o).alloc o').alloc (.cells #[a, b, c] t)) (W.heap.size + 1 + 1) t a b c := by
  have h := Blk3.new ((W.alloc o).alloc o') t a b c
  simpa using h
theorem Blk3.alloc {W : World} {g : Nat} {t : TypeId} {a b c : Value} (h : Blk3 W g t a b c) (o : Obj) : Blk3 (W.alloc o) g t a b c := (Below.heap_alloc W o g h.lt).trans h
theorem Blk3.drew {W : World} {g : Nat} {t : TypeId} {a b c : Value} (h : Blk3 W g t a b c) : Blk3 W.drew g t a b c := h

/-- A boxed struct of three fields is written over, whole. -/
theorem Blk3.set3 {W : World} {g : Nat} {t : TypeId} {a b c : Value} (h : Blk3 W g t a b c) (x y z : Value) : Blk3 (((W.setCell ⟨g, 0, none⟩ x).setCell ⟨g, 1, none⟩ y).setCell ⟨g, 2, none⟩ z) g t x y z := by
  unfold Blk3 at h ⊢
  simp [World.setCell, Array.getElem?_modify, h]
theorem Blk3.far3 {W : World} {g g' : Nat} {t : TypeId} {a b c : Value} (h : Blk3 W g t a b c) (hne : g ≠ g') (x y z : Value) : Blk3 (((W.setCell ⟨g', 0, none⟩ x).setCell ⟨g', 1, none⟩ y).setCell ⟨g', 2, none⟩ z) g t a b c := by
  unfold Blk3 at h ⊢
  rw [Below.heap_setCell _ _ _ _ hne, Below.heap_setCell _ _ _ _ hne, Below.heap_setCell _ _ _ _ hne, h]
theorem below_set3 {B : Nat} {w W : World} (h : Below B w W) {g : Nat} (hg : B ≤ g) (x y z : Value) : Below B w (((W.setCell ⟨g, 0, none⟩ x).setCell ⟨g, 1, none⟩ y).setCell ⟨g, 2, none⟩ z) :=
  ((h.setCell (p := ⟨g, 0, none⟩) hg x).setCell (p := ⟨g, 1, none⟩) hg y).setCell (p := ⟨g, 2, none⟩) hg z

theorem hide {p : Prop} (h : p) : Hid p := h
theorem unhide {p : Prop} (h : Hid p) : p := h
theorem ret_int {k : IntKind} {a b : Int} (h : a = b) : Ending.returned (.int k a) = .returned (.int k b) := by rw [h]
theorem ret_bool {a b : Bool} (h : a = b) : Ending.returned (.bool a) = .returned (.bool b) := by rw [h]
end Go.Proofs.YtddedijencleeaaGreatDoor

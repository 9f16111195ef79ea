/- Blocks of structs, told by their cells; what a store into one makes of them. A statement's cells. -/
import Derived.Test.YtmolojjhnbchbaaGreatDoorChecked
import Derived.Test.YtmolojjhnbchbaaGreatDoorNtE
import Derived.Deep.MidRow
set_option linter.all false
namespace Go.Proofs.YtmolojjhnbchbaaGreatDoor
open Go.RowKit Go.Lib

/-- A block that holds cells that may be written. -/
structure SB (W : World) (g : Nat) (cs : List Value) : Prop where
  at_ : W.rangeAt g 0 cs
  there : W.there g 0 cs.length
  lt : g < W.heap.size
theorem setCells_size (b : Nat) : ∀ (vs : List Value) (o : Nat) (w : World), (w.setCells b o vs).heap.size = w.heap.size
  | [], _, _ => rfl
  | v :: r, o, w => by rw [World.setCells, setCells_size b r]; simp [World.setCell]
theorem Below.setCells {B b : Nat} (hb : B ≤ b) {a : World} : ∀ (vs : List Value) (o : Nat) (w : World), Below B a w → Below B a (w.setCells b o vs)
  | [], _, _, h => h
  | v :: r, o, w, h => by rw [World.setCells]; exact Below.setCells hb r _ _ (h.setCell (p := ⟨b, o, none⟩) hb v)
theorem SB.below {W W' : World} {g : Nat} {cs : List Value} (h : SB W g cs) (hb : Below W.heap.size W W') : SB W' g cs :=
  ⟨fun j v hj => (hb.cell (p := ⟨g, 0 + j, none⟩) h.lt).trans (h.at_ j v hj), fun j hj => ⟨by rw [hb.cell (p := ⟨g, 0 + j, none⟩) h.lt]; exact (h.there j hj).1, by rw [hb.frozen (p := ⟨g, 0 + j, none⟩) h.lt]; exact (h.there j hj).2⟩, Nat.lt_of_lt_of_le h.lt hb.size⟩
theorem SB.new (W : World) (cs : List Value) (t : TypeId) : SB (W.alloc (.cells cs.toArray t)) W.heap.size cs := by
  have hh : (W.alloc (.cells cs.toArray t)).heap[W.heap.size]? = some (.cells cs.toArray t (0, 0)) := by
    show (W.heap.push _)[W.heap.size]? = _
    simp
  refine ⟨fun j v hj => ?_, fun j hj => ⟨?_, ?_⟩, by simp⟩
  · rw [Lib.cell_of_heap hh, Nat.zero_add]; simpa using hj
  · rw [Lib.cell_of_heap hh, Nat.zero_add]; simp [hj]
  · exact Lib.frozen_of_heap hh _
theorem SB.cell {W : World} {g : Nat} {cs : List Value} (h : SB W g cs) (n : Nat) {u : Value} (hu : cs[n]? = some u) : W.cell? ⟨g, n, none⟩ = some u := by
  have := h.at_ n u hu
  rwa [Nat.zero_add] at this
theorem SB.free {W : World} {g : Nat} {cs : List Value} (h : SB W g cs) (n : Nat) (hn : n < cs.length) : W.frozen? ⟨g, n, none⟩ = false := by
  have := (h.there n hn).2
  rwa [Nat.zero_add] at this
theorem SB.sub {W : World} {g : Nat} {cs : List Value} (h : SB W g cs) (o n : Nat) (hn : o + n ≤ cs.length) : W.there g o n := fun j hj => by
  have := h.there (o + j) (by omega)
  rwa [Nat.zero_add] at this
theorem SB.part {W : World} {g : Nat} {cs : List Value} (h : SB W g cs) (o : Nat) (vs : List Value) (hv : ∀ j v, vs[j]? = some v → cs[o + j]? = some v) : W.rangeAt g o vs := fun j v hj => h.cell (o + j) (hv j v hj)
theorem SB.put {W : World} {g : Nat} {cs : List Value} (h : SB W g cs) (o : Nat) (vs : List Value) (hl : o + vs.length ≤ cs.length) : SB (W.setCells g o vs) g (cs.take o ++ vs ++ cs.drop (o + vs.length)) := by
  have hlen : (cs.take o ++ vs ++ cs.drop (o + vs.length)).length = cs.length := by simp; omega
  refine ⟨fun j v hj => ?_, ?_, by rw [setCells_size]; exact h.lt⟩
  · rw [Nat.zero_add]
    by_cases h1 : j < o
    · rw [World.cell?_setCells_out g vs o W ⟨g, j, none⟩ (fun _ _ => .inl h1)]
      refine h.cell j ?_
      rw [List.append_assoc, List.getElem?_append_left (by simp; omega), List.getElem?_take] at hj
      rwa [if_pos h1] at hj
    · by_cases h2 : j < o + vs.length
      · have hk : j - o < vs.length := by omega
        have := World.cell?_setCells_in g vs o W (fun i hi => by have := (h.there (o + i) (by omega)).1; rwa [Nat.zero_add] at this) (j - o) hk
        rw [show o + (j - o) = j by omega] at this
        rw [this]
        rw [List.append_assoc, List.getElem?_append_right (by simp; omega), List.length_take, Nat.min_eq_left (by omega), List.getElem?_append_left hk, List.getElem?_eq_getElem hk] at hj
        exact hj
      · rw [World.cell?_setCells_out g vs o W ⟨g, j, none⟩ (fun _ _ => .inr (by show o + vs.length ≤ j; omega))]
        refine h.cell j ?_
        rw [List.getElem?_append_right (by simp; omega), List.getElem?_drop] at hj
        simp only [List.length_append, List.length_take, Nat.min_eq_left (show o ≤ cs.length by omega)] at hj
        rwa [show o + vs.length + (j - (o + vs.length)) = j by omega] at hj
  · rw [hlen]
    exact World.there_setCells h.there g o vs
theorem SB.far {W : World} {g b : Nat} {cs : List Value} (h : SB W g cs) (hb : b ≠ g) (o : Nat) (vs : List Value) : SB (W.setCells b o vs) g cs := by
  refine ⟨fun j v hj => ?_, World.there_setCells h.there b o vs, by rw [setCells_size]; exact h.lt⟩
  rw [World.cell?_setCells_out b vs o W ⟨g, 0 + j, none⟩ (fun e _ => absurd e.symm hb)]
  exact h.at_ j v hj
/-- DELETE FROM t WHERE x; what is left of it to be looked at. -/
def delC (x : X) : List Value := [.int .i64 7, .string ⟨#[]⟩, .slice none 0 0, .slice none 0 0, .slice none 0 0, .string ⟨#[116]⟩, .string ⟨#[]⟩, .bool false, .slice none 0 0, .slice none 0 0, .slice none 0 0, .int .i64 x.k, .int .i64 x.op, .int .i64 x.vk, .int .i64 x.vn, .string ⟨#[]⟩, .string ⟨#[]⟩, .string x.nm, .slice x.A x.n x.c, .int .i64 0, .int .i64 0, .bool false, .slice none 0 0, .slice none 0 0, .slice none 0 0, .int .i64 0, .int .i64 0, .int .i64 0, .int .i64 0, .string ⟨#[]⟩, .string ⟨#[]⟩, .string ⟨#[]⟩, .slice none 0 0, .int .i64 0, .int .i64 0, .slice none 0 0, .int .i64 0]
def delY : List Value := [.int .i64 7, .string ⟨#[]⟩, .slice none 0 0, .slice none 0 0, .slice none 0 0, .string ⟨#[]⟩, .string ⟨#[]⟩, .bool false, .slice none 0 0, .slice none 0 0, .slice none 0 0, .int .i64 0, .int .i64 0, .int .i64 0, .int .i64 0, .string ⟨#[]⟩, .string ⟨#[]⟩, .string ⟨#[]⟩, .slice none 0 0, .int .i64 0, .int .i64 0, .bool false, .slice none 0 0, .slice none 0 0, .slice none 0 0, .int .i64 0, .int .i64 0, .int .i64 0, .int .i64 0, .string ⟨#[]⟩, .string ⟨#[]⟩, .string ⟨#[]⟩, .slice none 0 0, .int .i64 0, .int .i64 0, .slice none 0 0, .int .i64 0]
def delV (x : X) : Value := .agg (delC x).toArray
def zeroS : List Value := [.int .i64 0, .string ⟨#[]⟩, .slice none 0 0, .slice none 0 0, .slice none 0 0, .string ⟨#[]⟩, .string ⟨#[]⟩, .bool false, .slice none 0 0, .slice none 0 0, .slice none 0 0, .int .i64 0, .int .i64 0, .int .i64 0, .int .i64 0, .string ⟨#[]⟩, .string ⟨#[]⟩, .string ⟨#[]⟩, .slice none 0 0, .int .i64 0, .int .i64 0, .bool false, .slice none 0 0, .slice none 0 0, .slice none 0 0, .int .i64 0, .int .i64 0, .int .i64 0, .int .i64 0, .string ⟨#[]⟩, .string ⟨#[]⟩, .string ⟨#[]⟩, .slice none 0 0, .int .i64 0, .int .i64 0, .slice none 0 0, .int .i64 0]
def zeroX : List Value := [.int .i64 0, .int .i64 0, .int .i64 0, .int .i64 0, .string ⟨#[]⟩, .string ⟨#[]⟩, .string ⟨#[]⟩, .slice none 0 0, .int .i64 0, .int .i64 0]
theorem one_del (x : X) : (delC x).toArray.all (·.oneCell') = true := by simp [delC, Value.oneCell']
theorem one_zero : zeroX.toArray.all (·.oneCell') = true := by simp [zeroX, Value.oneCell']
namespace WX
theorem size41 : (Tryz.prog.info? 41).map (·.size) = some 37 := by kernel_rfl
theorem size28 : (Tryz.prog.info? 28).map (·.size) = some 10 := by kernel_rfl
end WX
end Go.Proofs.YtmolojjhnbchbaaGreatDoor

/- A writer of words as it lies in memory (package tree's writer: a builder, two counters): what it holds, how it goes on. No program's code. -/
import Derived.Test.YtddedijencleeaaGreatDoorBase
import Derived.Test.YtddedijencleeaaGreatDoorMem
import Derived.Lib.Builder
import Derived.Lib.Hide
import Derived.Lib.UnsafeStr
set_option linter.all false
namespace Go.Proofs.YtddedijencleeaaGreatDoor
open Go.RowKit Go.Lib

/-- From w to w': blocks but b and the buffer's are as they were. -/
structure WS (b : Nat) (v v' : Value) (w w' : World) : Prop where
  os : w'.os = w.os
  tape : w'.tape = w.tape
  output : w'.output = w.output
  size : w.heap.size ≤ w'.heap.size
  block : ∀ g, g < w.heap.size → g ≠ b → v.ownBlock ≠ some g → w'.heap[g]? = w.heap[g]?
  own : ∀ g, v'.ownBlock = some g → v.ownBlock = some g ∨ w.heap.size ≤ g
section
variable {b : Nat} {v v' v'' : Value} {w w' w'' : World}
theorem WS.refl (b : Nat) (v : Value) (w : World) : WS b v v w w := ⟨rfl, rfl, rfl, Nat.le_refl _, fun _ _ _ _ => rfl, fun _ h => .inl h⟩
theorem WS.trans (h : WS b v v' w w') (k : WS b v' v'' w' w'') : WS b v v'' w w'' := by
  refine ⟨k.os.trans h.os, k.tape.trans h.tape, k.output.trans h.output, Nat.le_trans h.size k.size, fun g hg hb hv => (k.block g (Nat.lt_of_lt_of_le hg h.size) hb fun e => ?_).trans (h.block g hg hb hv), fun g hg => ?_⟩
  · rcases h.own g e with q | q
    · exact hv q
    · omega
  · rcases k.own g hg with q | q
    · exact h.own g q
    · exact .inr (Nat.le_trans h.size q)
theorem WS.ofBelow (b : Nat) (v : Value) (h : Below w.heap.size w w') : WS b v v w w' := ⟨h.os, h.tape, h.output, h.size, fun g hg _ _ => h.block g hg, fun _ h => .inl h⟩
theorem WS.alloc (h : WS b v v' w w') (o : Obj) : WS b v v' w (w'.alloc o) := h.trans (WS.ofBelow b v' ((Below.refl _ _).alloc (Nat.le_refl _) o))
theorem WS.set (h : WS b v v' w w') (n : Nat) (x : Value) : WS b v v' w (w'.setCell ⟨b, n, none⟩ x) :=
  h.trans ⟨rfl, rfl, rfl, by simp [World.setCell], fun g _ hb _ => Below.heap_setCell _ _ _ _ (by simpa using hb), fun _ h => .inl h⟩
theorem WS.below {B : Nat} (h : WS b v v' w w') (hb : B ≤ b) (hv : ∀ g, v.ownBlock = some g → B ≤ g) (hs : B ≤ w.heap.size) : Below B w w' :=
  ⟨h.os, h.tape, h.output, h.size, fun g hg => h.block g (Nat.lt_of_lt_of_le hg hs) (by omega) fun e => by have := hv g e; omega⟩
end

/-- The writer: block b, its counters o (open), m (most), its buffer v with the bytes l. -/
structure Wr (B b : Nat) (o m : Int) (l : List UInt8) (v : Value) (w : World) : Prop where
  lo : B ≤ b
  hi : B ≤ w.heap.size
  blk : ∃ p, (p = .pointer none ∨ p = .pointer (some ⟨b, 0, none⟩)) ∧ w.heap[b]? = some (.cells #[p, v, .int .i64 o, .int .i64 m] 76 (0, 0))
  own : w.ownsRow B 5 1 v l.length (byteCells l)
section
variable {B b : Nat} {l : List UInt8} {o m : Int} {v : Value} {w w' : World}
theorem Wr.lt (h : Wr B b o m l v w) : b < w.heap.size := by
  obtain ⟨p, _, h⟩ := h.blk
  exact (Array.getElem?_eq_some_iff.1 h).1
theorem Wr.ownLo (h : Wr B b o m l v w) : ∀ g, v.ownBlock = some g → B ≤ g ∧ g < w.heap.size := by
  exact h.own.lt
theorem Wr.ne (h : Wr B b o m l v w) : v.ownBlock ≠ some b := by
  obtain ⟨p, _, h2⟩ := h.blk
  exact ownBlock_ne h.own h2 (by decide)
theorem Wr.form (h : Wr B b o m l v w) : ∃ A c, v = .slice A l.length c := by
  rcases h.own.2 with ⟨hv, h0⟩ | ⟨g, cap, cur, hv, _⟩
  · exact ⟨none, 0, by rw [hv, h0]⟩
  · exact ⟨_, _, hv⟩
theorem Wr.cells (h : Wr B b o m l v w) : w.cell? ⟨b, 1, none⟩ = some v ∧ w.cell? ⟨b, 2, none⟩ = some (.int .i64 o) ∧ w.cell? ⟨b, 3, none⟩ = some (.int .i64 m) ∧ ∀ i, w.frozen? ⟨b, i, none⟩ = false := by
  obtain ⟨p, _, h⟩ := h.blk
  refine ⟨?_, ?_, ?_, fun i => Lib.frozen_of_heap h i⟩ <;> rw [Lib.cell_of_heap h] <;> rfl
/-- Where neither the writer's block nor its buffer's turns. -/
theorem Wr.keep (h : Wr B b o m l v w) (hb : Below w.heap.size w w') : Wr B b o m l v w' := by
  obtain ⟨p, hp, h1⟩ := h.blk
  exact ⟨h.lo, Nat.le_trans h.hi hb.size, ⟨p, hp, (hb.block b h.lt).trans h1⟩, h.own.kept (row := none) ⟨hb.os, hb.tape, hb.output, hb.size, fun k hk _ => hb.block k hk⟩ (by
    cases v.ownBlock <;> simp)⟩
theorem Wr.alloc (h : Wr B b o m l v w) (x : Obj) : Wr B b o m l v (w.alloc x) := h.keep ((Below.refl _ _).alloc (Nat.le_refl _) x)
theorem Wr.kept1 (h : Wr B b o m l v w) (p x : Value) (n : Nat) (hb : w.heap[b]? = some (.cells #[p, v, .int .i64 o, .int .i64 m] 76 (0, 0))) : (w.setCell ⟨b, n, none⟩ x).ownsRow B 5 1 v l.length (byteCells l) :=
  h.own.kept (row := some b) ⟨rfl, rfl, rfl, by simp [World.setCell], fun k _ hk => Below.heap_setCell _ _ _ _ (fun e => hk (by simp [e]))⟩ (.inr h.ne)
theorem Wr.setO (h : Wr B b o m l v w) (x : Int) : Wr B b x m l v (w.setCell ⟨b, 2, none⟩ (.int .i64 x)) := by
  obtain ⟨p, hp, h1⟩ := h.blk
  exact ⟨h.lo, by simpa [World.setCell] using h.hi, ⟨p, hp, by simp [World.setCell, Array.getElem?_modify, h1]⟩, h.kept1 p _ _ h1⟩
theorem Wr.setM (h : Wr B b o m l v w) (x : Int) : Wr B b o x l v (w.setCell ⟨b, 3, none⟩ (.int .i64 x)) := by
  obtain ⟨p, hp, h1⟩ := h.blk
  exact ⟨h.lo, by simpa [World.setCell] using h.hi, ⟨p, hp, by simp [World.setCell, Array.getElem?_modify, h1]⟩, h.kept1 p _ _ h1⟩
theorem Wr.drew (h : Wr B b o m l v w) : Wr B b o m l v w.drew := ⟨h.lo, h.hi, h.blk, h.own⟩
theorem WS.drew {v' : Value} (h : WS b v v' w w') : WS b v v' w w'.drew := ⟨h.os, h.tape, h.output, h.size, h.block, h.own⟩
/-- A block of a call's own that the writer doesn't touch. -/
structure Own (b : Nat) (v : Value) (w : World) (g : Nat) : Prop where
  lt : g < w.heap.size
  ne : g ≠ b
  no : v.ownBlock ≠ some g
theorem Own.step {g : Nat} {v' : Value} (h : Own b v w g) (k : WS b v v' w w') : Own b v' w' g ∧ w'.heap[g]? = w.heap[g]? :=
  ⟨⟨Nat.lt_of_lt_of_le h.lt k.size, h.ne, fun e => by
    rcases k.own g e with q | q
    · exact h.no q
    · have := h.lt; omega⟩, k.block g h.lt h.ne h.no⟩
theorem Wr.new (h : Wr B b o m l v w) (x : Obj) : Own b v (w.alloc x) w.heap.size :=
  ⟨by simp, fun e => by have := h.lt; omega, fun e => by have := (h.ownLo _ e).2; omega⟩
end
end Go.Proofs.YtddedijencleeaaGreatDoor

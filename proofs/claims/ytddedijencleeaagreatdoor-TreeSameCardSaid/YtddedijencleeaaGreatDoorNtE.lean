/- Expressions one within the other, as values and in memory; the writer writes one: leaves, a list of one, what stands in brackets. -/
import Derived.Test.YtddedijencleeaaGreatDoorNtS
import Derived.Deep.QuietTactic
import Derived.BigQuiet
import Derived.Deep.RegionHeld3
import Derived.RegionTactic
import Derived.ChangeAlike
import Derived.Deep.LoopGhost
set_option linter.all false
namespace Go.Proofs.YtddedijencleeaaGreatDoor
open Go.RowKit Go.Lib

/-- An expression: its kind, operator, its value's kind and number, its name, its arguments. -/
structure X where
  k : Int
  op : Int
  vk : Int
  vn : Int
  nm : ByteArray
  A : Option Addr
  n : Nat
  c : Nat
def X.val (x : X) : Value := .agg #[.int .i64 x.k, .int .i64 x.op, .int .i64 x.vk, .int .i64 x.vn, .string ⟨#[]⟩, .string ⟨#[]⟩, .string x.nm, .slice x.A x.n x.c, .int .i64 0, .int .i64 0]
def X.cells (x : X) : List Value := [.int .i64 x.k, .int .i64 x.op, .int .i64 x.vk, .int .i64 x.vn, .string ⟨#[]⟩, .string ⟨#[]⟩, .string x.nm, .slice x.A x.n x.c, .int .i64 0, .int .i64 0]
/-- A block that a call keeps beside the writer. -/
structure Keeps (b : Nat) (v : Value) (w : World) (g : Nat) (cs : List Value) (t : TypeId) : Prop where
  own : Own b v w g
  blk : w.heap[g]? = some (.cells cs.toArray t (0, 0))
section
variable {b g B : Nat} {v v' : Value} {w w' : World} {cs : List Value} {t : TypeId} {o m : Int} {l : List UInt8}
theorem Keeps.step (h : Keeps b v w g cs t) (k : WS b v v' w w') : Keeps b v' w' g cs t := ⟨(h.own.step k).1, (h.own.step k).2.trans h.blk⟩
theorem Keeps.cell (h : Keeps b v w g cs t) (n : Nat) : w.cell? ⟨g, n, none⟩ = cs[n]? := by
  rw [Lib.cell_of_heap h.blk]; simp
theorem Keeps.fro (h : Keeps b v w g cs t) (n : Nat) : w.frozen? ⟨g, n, none⟩ = false := Lib.frozen_of_heap h.blk n
theorem Wr.box (h : Wr B b o m l v w) (cs : List Value) (t : TypeId) : Keeps b v (w.alloc (.cells cs.toArray t)) w.heap.size cs t :=
  ⟨h.new _, by show (w.heap.push _)[w.heap.size]? = _; simp⟩
theorem Keeps.alloc (h : Keeps b v w g cs t) (x : Obj) : Keeps b v (w.alloc x) g cs t := h.step ((WS.refl b v w).alloc x)
theorem Wr.box2 (h : Wr B b o m l v w) (cs ds : List Value) (t u : TypeId) : Keeps b v ((w.alloc (.cells cs.toArray t)).alloc (.cells ds.toArray u)) w.heap.size cs t ∧ Keeps b v ((w.alloc (.cells cs.toArray t)).alloc (.cells ds.toArray u)) (w.heap.size + 1) ds u := by
  refine ⟨(h.box cs t).alloc _, ?_⟩
  have := (h.alloc (.cells cs.toArray t)).box ds u
  have e : (w.alloc (.cells cs.toArray t)).heap.size = w.heap.size + 1 := by simp
  rwa [e] at this
theorem Keeps.drew (h : Keeps b v w g cs t) : Keeps b v w.drew g cs t := ⟨⟨h.own.lt, h.own.ne, h.own.no⟩, h.blk⟩
theorem Keeps.ten (x : X) (h : Keeps b v w g x.cells t) : w.cell? ⟨g, 0, none⟩ = some (.int .i64 x.k) ∧ w.cell? ⟨g, 1, none⟩ = some (.int .i64 x.op) ∧ w.cell? ⟨g, 2, none⟩ = some (.int .i64 x.vk) ∧ w.cell? ⟨g, 3, none⟩ = some (.int .i64 x.vn) ∧
    w.cell? ⟨g, 4, none⟩ = some (.string ⟨#[]⟩) ∧ w.cell? ⟨g, 5, none⟩ = some (.string ⟨#[]⟩) ∧ w.cell? ⟨g, 6, none⟩ = some (.string x.nm) ∧ w.cell? ⟨g, 7, none⟩ = some (.slice x.A x.n x.c) ∧ w.cell? ⟨g, 8, none⟩ = some (.int .i64 0) ∧ w.cell? ⟨g, 9, none⟩ = some (.int .i64 0) ∧ ∀ i, w.frozen? ⟨g, i, none⟩ = false :=
  ⟨h.cell 0, h.cell 1, h.cell 2, h.cell 3, h.cell 4, h.cell 5, h.cell 6, h.cell 7, h.cell 8, h.cell 9, h.fro⟩
end
/-- What most is behind something that opens d. -/
def top (o m : Int) : Nat → Int
  | 0 => m
  | d + 1 => max m (o + (d + 1 : Nat))
theorem len3 {l a t z : List UInt8} (h : l.length + (a ++ t ++ z).length ≤ 140737488355328) : l.length + a.length ≤ 140737488355328 ∧ (l ++ a).length + t.length ≤ 140737488355328 ∧ (l ++ a ++ t).length + z.length ≤ 140737488355328 := by
  simp only [List.length_append] at h ⊢; omega
theorem top_up (o m : Int) (d : Nat) : top (o + 1) (max m (o + 1)) d = top o m (d + 1) := by
  cases d <;> simp only [top] <;> omega
def PW (B b : Nat) (o m : Int) (l : List UInt8) (v : Value) (W W' : World) : Prop := ∃ v', Wr B b o m l v' W' ∧ WS b v v' W W'
/-- The writer writes the expression x as txt; d are open at once. -/
def PrOK (B : Nat) (W0 : World) (x : X) (txt : List UInt8) (d : Nat) : Prop :=
  ∀ (b : Nat) (o m : Int) (l : List UInt8) (v : Value) (W : World), Below B W0 W → Wr B b o m l v W → 0 ≤ o → o + (d : Int) ≤ 1000 → 0 ≤ m → m ≤ 1000 → l.length + txt.length ≤ 140737488355328 →
    Calls Tryz.prog 35 #[.pointer (some ⟨b, 0, none⟩), x.val] W fun e W' => e = .returned (.tuple #[]) ∧ PW B b o (top o m d) (l ++ txt) v W W'

set_option maxRecDepth 100000 in
theorem leaf_pr (B : Nat) (W0 : World) (nm : ByteArray) : PrOK B W0 ⟨2, 0, 0, 0, nm, none, 0, 0⟩ nm.data.toList 0 := by
  intro b o m l v W hG h ho hod hm hm2 hl
  have HS := hide fun (W' : World) (h : Wr B b o m l v W') => hide (says h nm hl)
  have K1 := (h.box [.pointer (some ⟨b, 0, none⟩)] 70).alloc (.cells (X.cells ⟨2, 0, 0, 0, nm, none, 0, 0⟩).toArray 34)
  have K2 := (h.alloc (.cells #[.pointer (some ⟨b, 0, none⟩)] 70)).box (X.cells ⟨2, 0, 0, 0, nm, none, 0, 0⟩) 34
  have H := hide h
  clear h hG
  dsimp only [X.val]
  go_enter Tryz.func35, Tryz.ntmps35
  go_wp2_with fail
  refine (unhide ((unhide HS) _ (((unhide H).alloc _).alloc _))).mono ?_
  rintro e w1 ⟨rfl, v1, hw1, hs1⟩
  go_wp2
  go_end0
  exact ⟨rfl, v1, hw1, (((WS.refl b v W).alloc _).alloc _).trans hs1⟩

set_option maxRecDepth 100000 in
theorem within_pr {B b : Nat} {o m : Int} {l : List UInt8} {v : Value} {W : World} (h : Wr B b o m l v W) (a z : ByteArray) (f : Nat) (he : ∀ args w, (callFunc f args).run Tryz.prog w = .ok (.enter f args) w) (p q : Value) (txt : List UInt8) (d : Nat) (ho : 0 ≤ o) (hod : o + (d + 1 : Nat) ≤ 1000) (hm : 0 ≤ m) (hm2 : m ≤ 1000)
    (hl : l.length + (a.data.toList ++ txt ++ z.data.toList).length ≤ 140737488355328)
    (HF : ∀ v' W', Wr B b (o + 1) (max m (o + 1)) (l ++ a.data.toList) v' W' → WS b v v' W W' → Calls Tryz.prog f #[p, q] W' fun e W2 => e = .returned (.tuple #[]) ∧ PW B b (o + 1) (top (o + 1) (max m (o + 1)) d) (l ++ a.data.toList ++ txt) v' W' W2) :
    Calls Tryz.prog 173 #[.pointer (some ⟨b, 0, none⟩), .string a, .func (Fn.func f) #[] #[p, q], .string z] W fun e W' => e = .returned (.tuple #[]) ∧ PW B b o (top o m (d + 1)) (l ++ (a.data.toList ++ txt ++ z.data.toList)) v W W' := by
  have HL := hide hl
  clear hl
  have H := hide h
  have HFF := hide HF
  have H1 := hide (says h a (len3 (unhide HL)).1)
  clear h HF
  go_enter Tryz.func173, Tryz.ntmps173
  go_wp2_with fail
  refine (unhide H1).mono ?_
  rintro e w1 ⟨rfl, v1, hw1, hs1⟩
  have HW1 := hide hw1
  have HS1 := hide hs1
  obtain ⟨b1, b2, b3, fb⟩ := hw1.cells
  obtain ⟨c1, c2, c3, fc⟩ := (hw1.setO (o + 1)).cells
  clear hw1 hs1 H1
  go_wp2_with fail
  go_region
  have hmx : (if m < o + 1 then o + 1 else m) = max m (o + 1) := by split <;> omega
  rw [hmx]
  have HW2 := hide (((unhide HW1).setO (o + 1)).setM (max m (o + 1))).drew
  have HS2 := hide (((unhide HS1).set 2 (.int .i64 (o + 1))).set 3 (.int .i64 (max m (o + 1)))).drew
  generalize World.drew _ = w2 at HW2 HS2 ⊢
  clear HW1 HS1 b1 b2 b3 fb c1 c2 c3 fc hmx
  go_wp2_with fail
  refine (unhide HFF _ _ (unhide HW2) (unhide HS2)).mono ?_
  rintro e w3 ⟨rfl, v3, hw3, hs3⟩
  have HW3 := hide hw3
  have HS3 := hide ((unhide HS2).trans hs3)
  obtain ⟨b1, b2, b3, fb⟩ := hw3.cells
  clear hw3 hs3 HFF HW2 HS2
  go_wp2_with fail
  refine (says ((unhide HW3).setO o) z (len3 (unhide HL)).2.2).mono ?_
  rintro e w4 ⟨rfl, v4, hw4, hs4⟩
  go_wp2
  go_end0
  refine ⟨rfl, v4, ?_, ((unhide HS3).set 2 _).trans hs4⟩
  rw [← top_up o m d, ← List.append_assoc, ← List.append_assoc]
  exact hw4
set_option maxRecDepth 100000 in
theorem brackets_pr {B b : Nat} {o m : Int} {l : List UInt8} {v : Value} {W : World} (h : Wr B b o m l v W) (f : Nat) (he : ∀ args w, (callFunc f args).run Tryz.prog w = .ok (.enter f args) w) (p q : Value) (txt : List UInt8) (d : Nat) (ho : 0 ≤ o) (hod : o + (d + 1 : Nat) ≤ 1000) (hm : 0 ≤ m) (hm2 : m ≤ 1000)
    (hl : l.length + ([40] ++ txt ++ [41]).length ≤ 140737488355328)
    (HF : ∀ v' W', Wr B b (o + 1) (max m (o + 1)) (l ++ [40]) v' W' → WS b v v' W W' → Calls Tryz.prog f #[p, q] W' fun e W2 => e = .returned (.tuple #[]) ∧ PW B b (o + 1) (top (o + 1) (max m (o + 1)) d) (l ++ [40] ++ txt) v' W' W2) :
    Calls Tryz.prog 108 #[.pointer (some ⟨b, 0, none⟩), .func (Fn.func f) #[] #[p, q]] W fun e W' => e = .returned (.tuple #[]) ∧ PW B b o (top o m (d + 1)) (l ++ ([40] ++ txt ++ [41])) v W W' := by
  have HW := hide (within_pr h ⟨#[40]⟩ ⟨#[41]⟩ f he p q txt d ho hod hm hm2 hl HF)
  clear hl h HF
  go_enter Tryz.func108, Tryz.ntmps108
  go_wp2_with fail
  refine (unhide HW).mono ?_
  rintro e w1 ⟨rfl, h1⟩
  go_wp2
  go_end0
  exact ⟨rfl, h1⟩
end Go.Proofs.YtddedijencleeaaGreatDoor

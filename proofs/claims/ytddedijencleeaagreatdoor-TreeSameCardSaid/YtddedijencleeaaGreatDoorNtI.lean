/- IsExpr of expressions one within the other. -/
import Derived.Test.YtddedijencleeaaGreatDoorNtV
import Derived.Test.YtddedijencleeaaGreatDoorNtL
set_option linter.all false
namespace Go.Proofs.YtddedijencleeaaGreatDoor
open Go.RowKit Go.Lib

/-- The expression x may be. -/
def IsOK (B : Nat) (W0 : World) (x : X) : Prop := ∀ W : World, Below B W0 W → B ≤ W.heap.size → Calls Tryz.prog 14 #[x.val] W fun e W' => e = .returned (.bool true) ∧ Below W.heap.size W W'
theorem IsOK.from {B : Nat} {W0 W1 : World} {x : X} (h : IsOK B W0 x) (hb : Below B W0 W1) : IsOK B W1 x := fun W hW => h W (hb.trans hW)
def isF : Value := .func (Fn.func 14) #[] #[]
set_option maxRecDepth 100000 in
theorem all1_is {B gi : Nat} {W : World} (hB : B ≤ W.heap.size) (x : X) (hx : IsOK B W x) (hi : W.cell? ⟨gi, 0, none⟩ = some (.func (Fn.func 14) #[] #[])) :
    Calls Tryz.prog 138 #[x.val, .pointer (some ⟨gi, 0, none⟩)] W fun e W' => e = .returned (.bool false) ∧ Below W.heap.size W W' := by
  have hD : Below W.heap.size W (W.alloc (.cells x.cells.toArray 34)) := (Below.refl _ _).alloc (Nat.le_refl _) _
  have hlt := lt_of_cell hi
  have hi2 : (W.alloc (.cells x.cells.toArray 34)).cell? ⟨gi, 0, none⟩ = some (.func (Fn.func 14) #[] #[]) := (hD.cell (p := ⟨gi, 0, none⟩) hlt).trans hi
  have HX := hide (hx _ (hD.mono hB) (by simp; omega))
  have HD := hide hD
  clear hx hD
  dsimp only [X.val, X.cells] at *
  go_enter Tryz.func138, Tryz.ntmps138
  go_wp2_with fail
  refine (unhide HX).mono ?_
  rintro e w1 ⟨rfl, hb⟩
  have HW := hide (Below.andThen (unhide HD) hb)
  clear hb
  go_wp2
  go_ret
  exact ⟨rfl, unhide HW⟩

set_option maxRecDepth 100000 in
theorem index_is {B g gi n c : Nat} {cs : List Value} {W : World} (hB : B ≤ W.heap.size) (hn : n ≤ 100) (hA : Args B g cs W) (hx : ∀ k, k < n → ∃ x, IsOK B W x ∧ ∀ i u, x.cells[i]? = some u → cs[k * 10 + i]? = some u) (hi : W.cell? ⟨gi, 0, none⟩ = some (.func (Fn.func 14) #[] #[])) :
    Calls Tryz.prog 189 #[.slice (some ⟨g, 0, none⟩) n c, .func (Fn.func 138) #[] #[.pointer (some ⟨gi, 0, none⟩)]] W fun e W' => e = .returned (.int .i64 (-1)) ∧ Below W.heap.size W W' := by
  have HA := hide hA
  have HX := hide hx
  have HI := hide hi
  clear hA hx hi
  go_enter Tryz.func189, Tryz.ntmps189
  go_wp2
  go_loopw [8] (fun i wr => ∃ k : Nat, k ≤ n ∧ i = .int .i64 k ∧ Hid (Below W.heap.size W wr)) (fun i _ => n - (RowKit.intOf i).toNat)
  case atStart => exact ⟨0, Nat.zero_le _, rfl, hide (Below.refl _ _)⟩
  case round =>
    obtain ⟨k, hk, rfl, HBW⟩ := hrel
    by_cases hlt : k < n
    · obtain ⟨x, hxo, hxc⟩ := (unhide HX) k hlt
      have hbB : Below B W wr := (unhide HBW).mono hB
      obtain ⟨c0, c1, c2, c3, c4, c5, c6, c7, c8, c9⟩ := ((unhide HA).below hbB).ten x (off := k * 10) hxc
      have HC := hide (all1_is (W := wr) (by have := (unhide HBW).size; omega) x (hxo.from hbB) (((unhide HBW).cell (p := ⟨gi, 0, none⟩) (lt_of_cell (unhide HI))).trans (unhide HI)))
      clear hbB hxc hxo
      dsimp only [X.val] at HC
      go_wp2_with fail
      refine (unhide HC).mono ?_
      rintro e w2 ⟨rfl, hb2⟩
      replace HBW := hide (Below.andThen (unhide HBW) hb2)
      clear hb2 c0 c1 c2 c3 c4 c5 c6 c7 c8 c9
      go_wp2
      go_roundw
      case rel => exact ⟨k + 1, by omega, by go_num, HBW⟩
      case measure => simp [RowKit.intOf]; omega
    · go_wp2
      go_ret
      exact ⟨rfl, unhide HBW⟩
set_option maxRecDepth 100000 in
theorem contains_is {B g gi n c : Nat} {cs : List Value} {W : World} (hB : B ≤ W.heap.size) (hn : n ≤ 100) (hA : Args B g cs W) (hx : ∀ k, k < n → ∃ x, IsOK B W x ∧ ∀ i u, x.cells[i]? = some u → cs[k * 10 + i]? = some u) (hi : W.cell? ⟨gi, 0, none⟩ = some (.func (Fn.func 14) #[] #[])) :
    Calls Tryz.prog 137 #[.slice (some ⟨g, 0, none⟩) n c, .func (Fn.func 138) #[] #[.pointer (some ⟨gi, 0, none⟩)]] W fun e W' => e = .returned (.bool false) ∧ Below W.heap.size W W' := by
  have HF := hide (index_is (c := c) hB hn hA hx hi)
  clear hA hx hi
  go_enter Tryz.func137, Tryz.ntmps137
  go_wp2_with fail
  refine (unhide HF).mono ?_
  rintro e w2 ⟨rfl, hb2⟩
  go_wp2
  go_ret
  exact ⟨rfl, hb2⟩
set_option maxRecDepth 100000 in
theorem all_is {B g n c : Nat} {cs : List Value} {W : World} (hB : B ≤ W.heap.size) (hn : n ≤ 100) (hA : Args B g cs W) (hx : ∀ k, k < n → ∃ x, IsOK B W x ∧ ∀ i u, x.cells[i]? = some u → cs[k * 10 + i]? = some u) :
    Calls Tryz.prog 48 #[.slice (some ⟨g, 0, none⟩) n c, .func (Fn.func 14) #[] #[]] W fun e W' => e = .returned (.bool true) ∧ Below W.heap.size W W' := by
  have HF := hide fun W' (hb : Below W.heap.size W W') (hi : W'.cell? ⟨W.heap.size, 0, none⟩ = some (.func (Fn.func 14) #[] #[])) => hide (contains_is (c := c) (gi := W.heap.size) (W := W') (Nat.le_trans hB hb.size) hn (hA.below (hb.mono hB)) (fun k hk => let ⟨x, h1, h2⟩ := hx k hk; ⟨x, h1.from (hb.mono hB), h2⟩) hi)
  clear hA hx
  go_enter Tryz.func48, Tryz.ntmps48
  go_wp2_with fail
  refine (unhide ((unhide HF) _ ((Below.refl _ _).alloc (Nat.le_refl _) _) (by simp))).mono ?_
  rintro e w2 ⟨rfl, hb2⟩
  have HW := hide (Below.andThen ((Below.refl _ W).alloc (Nat.le_refl _) _) hb2)
  clear hb2
  go_wp2
  go_ret
  exact ⟨rfl, unhide HW⟩
/-- A block of one expression. -/
def Box (W : World) (g : Nat) (cs : List Value) : Prop := W.heap[g]? = some (.cells cs.toArray 34 (0, 0))
theorem Box.new (W : World) (cs : List Value) : Box (W.alloc (.cells cs.toArray 34)) W.heap.size cs := by
  show (W.heap.push _)[W.heap.size]? = _
  simp
theorem Box.new1 (W : World) (cs : List Value) {g : Nat} (hg : W.heap.size = g) : Box (W.alloc (.cells cs.toArray 34)) g cs := by rw [← hg]; exact Box.new W cs
theorem Box.below {W W' : World} {g : Nat} {cs : List Value} (h : Box W g cs) (hb : Below W.heap.size W W') : Box W' g cs := (hb.block g (Array.getElem?_eq_some_iff.1 h).1).trans h
theorem Box.cell {W : World} {g : Nat} {cs : List Value} (h : Box W g cs) (n : Nat) : W.cell? ⟨g, n, none⟩ = cs[n]? := by
  rw [Lib.cell_of_heap h]; simp
theorem Box.ten {w : World} {g : Nat} (x : X) (h : Box w g x.cells) : w.cell? ⟨g, 0, none⟩ = some (.int .i64 x.k) ∧ w.cell? ⟨g, 1, none⟩ = some (.int .i64 x.op) ∧ w.cell? ⟨g, 2, none⟩ = some (.int .i64 x.vk) ∧ w.cell? ⟨g, 3, none⟩ = some (.int .i64 x.vn) ∧
    w.cell? ⟨g, 4, none⟩ = some (.string ⟨#[]⟩) ∧ w.cell? ⟨g, 5, none⟩ = some (.string ⟨#[]⟩) ∧ w.cell? ⟨g, 6, none⟩ = some (.string x.nm) ∧ w.cell? ⟨g, 7, none⟩ = some (.slice x.A x.n x.c) ∧ w.cell? ⟨g, 8, none⟩ = some (.int .i64 0) ∧ w.cell? ⟨g, 9, none⟩ = some (.int .i64 0) ∧ ∀ i, w.frozen? ⟨g, i, none⟩ = false :=
  ⟨h.cell 0, h.cell 1, h.cell 2, h.cell 3, h.cell 4, h.cell 5, h.cell 6, h.cell 7, h.cell 8, h.cell 9, fun i => Lib.frozen_of_heap h i⟩
theorem index_none (gi : Nat) (W : World) :
    Calls Tryz.prog 189 #[.slice none 0 0, .func (Fn.func 138) #[] #[.pointer (some ⟨gi, 0, none⟩)]] W fun e W' => e = .returned (.int .i64 (-1)) ∧ Below W.heap.size W W' := by
  go_enter Tryz.func189, Tryz.ntmps189
  go_wp2
  go_loopw [8] (fun i wr => i = .int .i64 0 ∧ wr = W) (fun _ _ => 0)
  case atStart => exact ⟨rfl, rfl⟩
  case round =>
    obtain ⟨rfl, rfl⟩ := hrel
    go_wp2
    go_ret
    exact ⟨rfl, Below.refl _ _⟩
theorem contains_none (gi : Nat) (W : World) :
    Calls Tryz.prog 137 #[.slice none 0 0, .func (Fn.func 138) #[] #[.pointer (some ⟨gi, 0, none⟩)]] W fun e W' => e = .returned (.bool false) ∧ Below W.heap.size W W' := by
  have HF := hide (index_none gi W)
  go_enter Tryz.func137, Tryz.ntmps137
  go_wp2_with fail
  refine (unhide HF).mono ?_
  rintro e w2 ⟨rfl, hb2⟩
  go_wp2
  go_ret
  exact ⟨rfl, hb2⟩
theorem all_none (W : World) : Calls Tryz.prog 48 #[.slice none 0 0, .func (Fn.func 14) #[] #[]] W fun e W' => e = .returned (.bool true) ∧ Below W.heap.size W W' := by
  have HF := hide fun W' => hide (contains_none W.heap.size W')
  go_enter Tryz.func48, Tryz.ntmps48
  go_wp2_with fail
  refine (unhide ((unhide HF) _)).mono ?_
  rintro e w2 ⟨rfl, hb2⟩
  have HW := hide (Below.andThen ((Below.refl _ W).alloc (Nat.le_refl _) _) hb2)
  clear hb2
  go_wp2
  go_ret
  exact ⟨rfl, unhide HW⟩
set_option maxRecDepth 100000 in
theorem blank_ok (k : Int) (A : Option Addr) (n c : Nat) (W : World) : Calls Tryz.prog 47 #[X.val ⟨k, 0, 0, 0, ⟨#[]⟩, A, n, c⟩] W fun e W' => e = .returned (.bool true) ∧ Below W.heap.size W W' := by
  have HD := hide ((Below.refl W.heap.size W).alloc (Nat.le_refl _) (.cells (X.cells ⟨k, 0, 0, 0, ⟨#[]⟩, A, n, c⟩).toArray 34))
  dsimp only [X.val]
  go_enter Tryz.func47, Tryz.ntmps47
  go_wp2_with fail
  go_ret
  exact ⟨rfl, unhide HD⟩
theorem none_ok (W : World) : Calls Tryz.prog 45 #[.string ⟨#[]⟩] W fun e W' => e = .returned (.bool true) ∧ Below W.heap.size W W' := by
  go_enter Tryz.func45, Tryz.ntmps45
  go_wp2_with fail
  go_ret
  exact ⟨rfl, Below.refl _ _⟩
theorem counted_ok (n a z : Int) (h1 : a ≤ n) (h2 : n ≤ z) (W : World) : Calls Tryz.prog 46 #[.int .i64 n, .int .i64 a, .int .i64 z] W fun e W' => e = .returned (.bool true) ∧ Below W.heap.size W W' := by
  have d1 : decide (a ≤ n) = true := decide_eq_true h1
  have d2 : decide (n ≤ z) = true := decide_eq_true h2
  have d3 : decide (n ≥ a) = true := decide_eq_true h1
  go_enter Tryz.func46, Tryz.ntmps46
  go_wp2_with fail
  go_ret
  exact ⟨rfl, Below.refl _ _⟩

set_option maxHeartbeats 2000000 in
set_option maxRecDepth 100000 in
theorem is_col (B : Nat) (W0 : World) (hok : OkW W0) (hB : 0 < B) (k : UInt8) (hk : k = 97 ∨ k = 98 ∨ k = 116) : IsOK B W0 ⟨2, 0, 0, 0, ⟨#[k]⟩, none, 0, 0⟩ := by
  intro W hW hBW
  have HN := hide fun W' (hb : Below B W0 W') => hide (name_ok k hk W' (hok.belowB hB hb))
  have HO := hide fun W' => hide (none_ok W')
  have HA := hide fun W' => hide (all_none W')
  have HK := hide fun W' => hide (blank_ok 2 none 0 0 W')
  have HD := hide (((Below.refl W.heap.size W).alloc (Nat.le_refl _) (.cells (X.cells ⟨2, 0, 0, 0, ⟨#[k]⟩, none, 0, 0⟩).toArray 34)).alloc (by simp) (.cells (X.cells ⟨2, 0, 0, 0, ⟨#[]⟩, none, 0, 0⟩).toArray 34))
  have E := (Box.new W (X.cells ⟨2, 0, 0, 0, ⟨#[k]⟩, none, 0, 0⟩)).below ((Below.refl _ _).alloc (Nat.le_refl _) (.cells (X.cells ⟨2, 0, 0, 0, ⟨#[]⟩, none, 0, 0⟩).toArray 34))
  have Y := Box.new1 (W.alloc (.cells (X.cells ⟨2, 0, 0, 0, ⟨#[k]⟩, none, 0, 0⟩).toArray 34)) (X.cells ⟨2, 0, 0, 0, ⟨#[]⟩, none, 0, 0⟩) (show _ = W.heap.size + 1 by simp)
  dsimp only [X.val]
  dsimp only [X.val] at HK
  go_enter Tryz.func14, Tryz.ntmps14
  go_wp2_with fail
  generalize hDD : (W.alloc _).alloc _ = D
  replace HD : Hid (Below W.heap.size W D) := by rw [← hDD]; exact HD
  replace E : Box D W.heap.size (X.cells ⟨2, 0, 0, 0, ⟨#[k]⟩, none, 0, 0⟩) := by rw [← hDD]; exact E
  replace Y : Box D (W.heap.size + 1) (X.cells ⟨2, 0, 0, 0, ⟨#[]⟩, none, 0, 0⟩) := by rw [← hDD]; exact Y
  clear hDD
  refine (unhide ((unhide HN) _ (hW.trans ((unhide HD).mono hBW)))).mono ?_
  rintro e w1 ⟨rfl, hb1⟩
  replace HD := hide (Below.andThen (unhide HD) hb1)
  replace E := E.below hb1
  replace Y := Y.below hb1
  clear hb1
  obtain ⟨a0, a1, a2, a3, a4, a5, a6, a7, a8, a9, fa⟩ := E.ten ⟨2, 0, 0, 0, ⟨#[k]⟩, none, 0, 0⟩
  obtain ⟨b0, b1, b2, b3, b4, b5, b6, b7, b8, b9, fb⟩ := Y.ten ⟨2, 0, 0, 0, ⟨#[]⟩, none, 0, 0⟩
  go_wp2_with fail
  clear a0 a1 a2 a3 a4 a5 a6 a7 a8 a9 fa b0 b1 b2 b3 b4 b5 b6 b7 b8 b9 fb
  refine (unhide ((unhide HO) _)).mono ?_
  rintro e w2 ⟨rfl, hb2⟩
  replace HD := hide (Below.andThen (unhide HD) hb2)
  replace E := E.below hb2
  replace Y := Y.below hb2
  clear hb2
  obtain ⟨a0, a1, a2, a3, a4, a5, a6, a7, a8, a9, fa⟩ := E.ten ⟨2, 0, 0, 0, ⟨#[k]⟩, none, 0, 0⟩
  obtain ⟨b0, b1, b2, b3, b4, b5, b6, b7, b8, b9, fb⟩ := Y.ten ⟨2, 0, 0, 0, ⟨#[]⟩, none, 0, 0⟩
  go_wp2_with fail
  clear a0 a1 a2 a3 a4 a5 a6 a7 a8 a9 fa b0 b1 b2 b3 b4 b5 b6 b7 b8 b9 fb
  refine (unhide ((unhide HK) _)).mono ?_
  rintro e w3 ⟨rfl, hb3⟩
  replace HD := hide (Below.andThen (unhide HD) hb3)
  replace E := E.below hb3
  replace Y := Y.below hb3
  clear hb3
  obtain ⟨a0, a1, a2, a3, a4, a5, a6, a7, a8, a9, fa⟩ := E.ten ⟨2, 0, 0, 0, ⟨#[k]⟩, none, 0, 0⟩
  obtain ⟨b0, b1, b2, b3, b4, b5, b6, b7, b8, b9, fb⟩ := Y.ten ⟨2, 0, 0, 0, ⟨#[]⟩, none, 0, 0⟩
  go_wp2_with fail
  clear a0 a1 a2 a3 a4 a5 a6 a7 a8 a9 fa b0 b1 b2 b3 b4 b5 b6 b7 b8 b9 fb
  refine (unhide ((unhide HA) _)).mono ?_
  rintro e w9 ⟨rfl, hb9⟩
  replace HD := hide (Below.andThen (unhide HD) hb9)
  clear hb9
  go_wp2
  go_ret
  exact ⟨rfl, unhide HD⟩
set_option maxHeartbeats 2000000 in
set_option maxRecDepth 100000 in
theorem is_val (B : Nat) (W0 : World) (hok : OkW W0) (hB : 0 < B) (k n : Int) (hk : (k = 1 ∧ n = 0) ∨ (k = 2 ∧ n = 1)) : IsOK B W0 ⟨1, 0, k, n, ⟨#[]⟩, none, 0, 0⟩ := by
  intro W hW hBW
  have HV := hide fun W' (hb : Below B W0 W') => hide (valIs k n hk W' (hok.belowB hB hb))
  have HA := hide fun W' => hide (all_none W')
  have HK := hide fun W' => hide (blank_ok 1 none 0 0 W')
  have HD := hide (((Below.refl W.heap.size W).alloc (Nat.le_refl _) (.cells (X.cells ⟨1, 0, k, n, ⟨#[]⟩, none, 0, 0⟩).toArray 34)).alloc (by simp) (.cells (X.cells ⟨1, 0, 0, 0, ⟨#[]⟩, none, 0, 0⟩).toArray 34))
  have E := (Box.new W (X.cells ⟨1, 0, k, n, ⟨#[]⟩, none, 0, 0⟩)).below ((Below.refl _ _).alloc (Nat.le_refl _) (.cells (X.cells ⟨1, 0, 0, 0, ⟨#[]⟩, none, 0, 0⟩).toArray 34))
  have Y := Box.new1 (W.alloc (.cells (X.cells ⟨1, 0, k, n, ⟨#[]⟩, none, 0, 0⟩).toArray 34)) (X.cells ⟨1, 0, 0, 0, ⟨#[]⟩, none, 0, 0⟩) (show _ = W.heap.size + 1 by simp)
  dsimp only [X.val]
  dsimp only [X.val] at HK
  go_enter Tryz.func14, Tryz.ntmps14
  go_wp2_with fail
  generalize hDD : (W.alloc _).alloc _ = D
  replace HD : Hid (Below W.heap.size W D) := by rw [← hDD]; exact HD
  replace E : Box D W.heap.size (X.cells ⟨1, 0, k, n, ⟨#[]⟩, none, 0, 0⟩) := by rw [← hDD]; exact E
  replace Y : Box D (W.heap.size + 1) (X.cells ⟨1, 0, 0, 0, ⟨#[]⟩, none, 0, 0⟩) := by rw [← hDD]; exact Y
  clear hDD
  refine (unhide ((unhide HV) _ (hW.trans ((unhide HD).mono hBW)))).mono ?_
  rintro e w1 ⟨rfl, hb1⟩
  replace HD := hide (Below.andThen (unhide HD) hb1)
  replace E := E.below hb1
  replace Y := Y.below hb1
  clear hb1
  obtain ⟨a0, a1, a2, a3, a4, a5, a6, a7, a8, a9, fa⟩ := E.ten ⟨1, 0, k, n, ⟨#[]⟩, none, 0, 0⟩
  obtain ⟨b0, b1, b2, b3, b4, b5, b6, b7, b8, b9, fb⟩ := Y.ten ⟨1, 0, 0, 0, ⟨#[]⟩, none, 0, 0⟩
  go_wp2_with fail
  clear a0 a1 a2 a3 a4 a5 a6 a7 a8 a9 fa b0 b1 b2 b3 b4 b5 b6 b7 b8 b9 fb
  refine (unhide ((unhide HK) _)).mono ?_
  rintro e w2 ⟨rfl, hb2⟩
  replace HD := hide (Below.andThen (unhide HD) hb2)
  replace E := E.below hb2
  replace Y := Y.below hb2
  clear hb2
  obtain ⟨a0, a1, a2, a3, a4, a5, a6, a7, a8, a9, fa⟩ := E.ten ⟨1, 0, k, n, ⟨#[]⟩, none, 0, 0⟩
  obtain ⟨b0, b1, b2, b3, b4, b5, b6, b7, b8, b9, fb⟩ := Y.ten ⟨1, 0, 0, 0, ⟨#[]⟩, none, 0, 0⟩
  go_wp2_with fail
  clear a0 a1 a2 a3 a4 a5 a6 a7 a8 a9 fa b0 b1 b2 b3 b4 b5 b6 b7 b8 b9 fb
  refine (unhide ((unhide HA) _)).mono ?_
  rintro e w9 ⟨rfl, hb9⟩
  replace HD := hide (Below.andThen (unhide HD) hb9)
  clear hb9
  go_wp2
  go_ret
  exact ⟨rfl, unhide HD⟩
set_option maxHeartbeats 2000000 in
set_option maxRecDepth 100000 in
theorem is_agg19 {B g c : Nat} {cs : List Value} {W0 : World} (hA : Args B g cs W0) (hx : ∀ k, k < 1 → ∃ x, IsOK B W0 x ∧ ∀ i u, x.cells[i]? = some u → cs[k * 10 + i]? = some u) : IsOK B W0 ⟨7, 19, 0, 0, ⟨#[]⟩, some ⟨g, 0, none⟩, 1, c⟩ := by
  intro W hW hBW
  have HC := hide fun W' => hide (counted_ok 19 19 22 (by decide) (by decide) W')
  have HA := hide fun W' (hb : Below B W0 W') (hB' : B ≤ W'.heap.size) => hide (all_is (c := c) hB' (by decide) (hA.below hb) (fun k hk => let ⟨x, h1, h2⟩ := hx k hk; ⟨x, h1.from hb, h2⟩))
  have HK := hide fun W' => hide (blank_ok 7 (some ⟨g, 0, none⟩) 1 c W')
  have HD := hide (((Below.refl W.heap.size W).alloc (Nat.le_refl _) (.cells (X.cells ⟨7, 19, 0, 0, ⟨#[]⟩, some ⟨g, 0, none⟩, 1, c⟩).toArray 34)).alloc (by simp) (.cells (X.cells ⟨7, 0, 0, 0, ⟨#[]⟩, some ⟨g, 0, none⟩, 1, c⟩).toArray 34))
  have E := (Box.new W (X.cells ⟨7, 19, 0, 0, ⟨#[]⟩, some ⟨g, 0, none⟩, 1, c⟩)).below ((Below.refl _ _).alloc (Nat.le_refl _) (.cells (X.cells ⟨7, 0, 0, 0, ⟨#[]⟩, some ⟨g, 0, none⟩, 1, c⟩).toArray 34))
  have Y := Box.new1 (W.alloc (.cells (X.cells ⟨7, 19, 0, 0, ⟨#[]⟩, some ⟨g, 0, none⟩, 1, c⟩).toArray 34)) (X.cells ⟨7, 0, 0, 0, ⟨#[]⟩, some ⟨g, 0, none⟩, 1, c⟩) (show _ = W.heap.size + 1 by simp)
  dsimp only [X.val]
  dsimp only [X.val] at HK
  go_enter Tryz.func14, Tryz.ntmps14
  go_wp2_with fail
  generalize hDD : (W.alloc _).alloc _ = D
  replace HD : Hid (Below W.heap.size W D) := by rw [← hDD]; exact HD
  replace E : Box D W.heap.size (X.cells ⟨7, 19, 0, 0, ⟨#[]⟩, some ⟨g, 0, none⟩, 1, c⟩) := by rw [← hDD]; exact E
  replace Y : Box D (W.heap.size + 1) (X.cells ⟨7, 0, 0, 0, ⟨#[]⟩, some ⟨g, 0, none⟩, 1, c⟩) := by rw [← hDD]; exact Y
  clear hDD
  refine (unhide ((unhide HC) _)).mono ?_
  rintro e w1 ⟨rfl, hb1⟩
  replace HD := hide (Below.andThen (unhide HD) hb1)
  replace E := E.below hb1
  replace Y := Y.below hb1
  clear hb1
  obtain ⟨a0, a1, a2, a3, a4, a5, a6, a7, a8, a9, fa⟩ := E.ten ⟨7, 19, 0, 0, ⟨#[]⟩, some ⟨g, 0, none⟩, 1, c⟩
  obtain ⟨b0, b1, b2, b3, b4, b5, b6, b7, b8, b9, fb⟩ := Y.ten ⟨7, 0, 0, 0, ⟨#[]⟩, some ⟨g, 0, none⟩, 1, c⟩
  go_wp2_with fail
  clear a0 a1 a2 a3 a4 a5 a6 a7 a8 a9 fa b0 b1 b2 b3 b4 b5 b6 b7 b8 b9 fb
  refine (unhide ((unhide HK) _)).mono ?_
  rintro e w2 ⟨rfl, hb2⟩
  replace HD := hide (Below.andThen (unhide HD) hb2)
  replace E := E.below hb2
  replace Y := Y.below hb2
  clear hb2
  obtain ⟨a0, a1, a2, a3, a4, a5, a6, a7, a8, a9, fa⟩ := E.ten ⟨7, 19, 0, 0, ⟨#[]⟩, some ⟨g, 0, none⟩, 1, c⟩
  obtain ⟨b0, b1, b2, b3, b4, b5, b6, b7, b8, b9, fb⟩ := Y.ten ⟨7, 0, 0, 0, ⟨#[]⟩, some ⟨g, 0, none⟩, 1, c⟩
  go_wp2_with fail
  clear a0 a1 a2 a3 a4 a5 a6 a7 a8 a9 fa b0 b1 b2 b3 b4 b5 b6 b7 b8 b9 fb
  refine (unhide ((unhide HA) _ (hW.trans ((unhide HD).mono hBW)) (Nat.le_trans hBW (unhide HD).size))).mono ?_
  rintro e w9 ⟨rfl, hb9⟩
  replace HD := hide (Below.andThen (unhide HD) hb9)
  clear hb9
  go_wp2
  go_ret
  exact ⟨rfl, unhide HD⟩
set_option maxHeartbeats 2000000 in
set_option maxRecDepth 100000 in
theorem is_agg20 {B g c : Nat} {cs : List Value} {W0 : World} (hA : Args B g cs W0) (hx : ∀ k, k < 1 → ∃ x, IsOK B W0 x ∧ ∀ i u, x.cells[i]? = some u → cs[k * 10 + i]? = some u) : IsOK B W0 ⟨7, 20, 0, 0, ⟨#[]⟩, some ⟨g, 0, none⟩, 1, c⟩ := by
  intro W hW hBW
  have HC := hide fun W' => hide (counted_ok 20 19 22 (by decide) (by decide) W')
  have HA := hide fun W' (hb : Below B W0 W') (hB' : B ≤ W'.heap.size) => hide (all_is (c := c) hB' (by decide) (hA.below hb) (fun k hk => let ⟨x, h1, h2⟩ := hx k hk; ⟨x, h1.from hb, h2⟩))
  have HK := hide fun W' => hide (blank_ok 7 (some ⟨g, 0, none⟩) 1 c W')
  have HD := hide (((Below.refl W.heap.size W).alloc (Nat.le_refl _) (.cells (X.cells ⟨7, 20, 0, 0, ⟨#[]⟩, some ⟨g, 0, none⟩, 1, c⟩).toArray 34)).alloc (by simp) (.cells (X.cells ⟨7, 0, 0, 0, ⟨#[]⟩, some ⟨g, 0, none⟩, 1, c⟩).toArray 34))
  have E := (Box.new W (X.cells ⟨7, 20, 0, 0, ⟨#[]⟩, some ⟨g, 0, none⟩, 1, c⟩)).below ((Below.refl _ _).alloc (Nat.le_refl _) (.cells (X.cells ⟨7, 0, 0, 0, ⟨#[]⟩, some ⟨g, 0, none⟩, 1, c⟩).toArray 34))
  have Y := Box.new1 (W.alloc (.cells (X.cells ⟨7, 20, 0, 0, ⟨#[]⟩, some ⟨g, 0, none⟩, 1, c⟩).toArray 34)) (X.cells ⟨7, 0, 0, 0, ⟨#[]⟩, some ⟨g, 0, none⟩, 1, c⟩) (show _ = W.heap.size + 1 by simp)
  dsimp only [X.val]
  dsimp only [X.val] at HK
  go_enter Tryz.func14, Tryz.ntmps14
  go_wp2_with fail
  generalize hDD : (W.alloc _).alloc _ = D
  replace HD : Hid (Below W.heap.size W D) := by rw [← hDD]; exact HD
  replace E : Box D W.heap.size (X.cells ⟨7, 20, 0, 0, ⟨#[]⟩, some ⟨g, 0, none⟩, 1, c⟩) := by rw [← hDD]; exact E
  replace Y : Box D (W.heap.size + 1) (X.cells ⟨7, 0, 0, 0, ⟨#[]⟩, some ⟨g, 0, none⟩, 1, c⟩) := by rw [← hDD]; exact Y
  clear hDD
  refine (unhide ((unhide HC) _)).mono ?_
  rintro e w1 ⟨rfl, hb1⟩
  replace HD := hide (Below.andThen (unhide HD) hb1)
  replace E := E.below hb1
  replace Y := Y.below hb1
  clear hb1
  obtain ⟨a0, a1, a2, a3, a4, a5, a6, a7, a8, a9, fa⟩ := E.ten ⟨7, 20, 0, 0, ⟨#[]⟩, some ⟨g, 0, none⟩, 1, c⟩
  obtain ⟨b0, b1, b2, b3, b4, b5, b6, b7, b8, b9, fb⟩ := Y.ten ⟨7, 0, 0, 0, ⟨#[]⟩, some ⟨g, 0, none⟩, 1, c⟩
  go_wp2_with fail
  clear a0 a1 a2 a3 a4 a5 a6 a7 a8 a9 fa b0 b1 b2 b3 b4 b5 b6 b7 b8 b9 fb
  refine (unhide ((unhide HK) _)).mono ?_
  rintro e w2 ⟨rfl, hb2⟩
  replace HD := hide (Below.andThen (unhide HD) hb2)
  replace E := E.below hb2
  replace Y := Y.below hb2
  clear hb2
  obtain ⟨a0, a1, a2, a3, a4, a5, a6, a7, a8, a9, fa⟩ := E.ten ⟨7, 20, 0, 0, ⟨#[]⟩, some ⟨g, 0, none⟩, 1, c⟩
  obtain ⟨b0, b1, b2, b3, b4, b5, b6, b7, b8, b9, fb⟩ := Y.ten ⟨7, 0, 0, 0, ⟨#[]⟩, some ⟨g, 0, none⟩, 1, c⟩
  go_wp2_with fail
  clear a0 a1 a2 a3 a4 a5 a6 a7 a8 a9 fa b0 b1 b2 b3 b4 b5 b6 b7 b8 b9 fb
  refine (unhide ((unhide HA) _ (hW.trans ((unhide HD).mono hBW)) (Nat.le_trans hBW (unhide HD).size))).mono ?_
  rintro e w9 ⟨rfl, hb9⟩
  replace HD := hide (Below.andThen (unhide HD) hb9)
  clear hb9
  go_wp2
  go_ret
  exact ⟨rfl, unhide HD⟩
set_option maxHeartbeats 2000000 in
set_option maxRecDepth 100000 in
theorem is_case {B g c : Nat} {cs : List Value} {W0 : World} (hA : Args B g cs W0) (hx : ∀ k, k < 2 → ∃ x, IsOK B W0 x ∧ ∀ i u, x.cells[i]? = some u → cs[k * 10 + i]? = some u) : IsOK B W0 ⟨6, 0, 0, 0, ⟨#[]⟩, some ⟨g, 0, none⟩, 2, c⟩ := by
  intro W hW hBW
  have HC := hide fun W' => hide (counted_ok 2 2 21 (by decide) (by decide) W')
  have HA := hide fun W' (hb : Below B W0 W') (hB' : B ≤ W'.heap.size) => hide (all_is (c := c) hB' (by decide) (hA.below hb) (fun k hk => let ⟨x, h1, h2⟩ := hx k hk; ⟨x, h1.from hb, h2⟩))
  have HK := hide fun W' => hide (blank_ok 6 (some ⟨g, 0, none⟩) 2 c W')
  have HD := hide (((Below.refl W.heap.size W).alloc (Nat.le_refl _) (.cells (X.cells ⟨6, 0, 0, 0, ⟨#[]⟩, some ⟨g, 0, none⟩, 2, c⟩).toArray 34)).alloc (by simp) (.cells (X.cells ⟨6, 0, 0, 0, ⟨#[]⟩, some ⟨g, 0, none⟩, 2, c⟩).toArray 34))
  have E := (Box.new W (X.cells ⟨6, 0, 0, 0, ⟨#[]⟩, some ⟨g, 0, none⟩, 2, c⟩)).below ((Below.refl _ _).alloc (Nat.le_refl _) (.cells (X.cells ⟨6, 0, 0, 0, ⟨#[]⟩, some ⟨g, 0, none⟩, 2, c⟩).toArray 34))
  have Y := Box.new1 (W.alloc (.cells (X.cells ⟨6, 0, 0, 0, ⟨#[]⟩, some ⟨g, 0, none⟩, 2, c⟩).toArray 34)) (X.cells ⟨6, 0, 0, 0, ⟨#[]⟩, some ⟨g, 0, none⟩, 2, c⟩) (show _ = W.heap.size + 1 by simp)
  dsimp only [X.val]
  dsimp only [X.val] at HK
  go_enter Tryz.func14, Tryz.ntmps14
  go_wp2_with fail
  generalize hDD : (W.alloc _).alloc _ = D
  replace HD : Hid (Below W.heap.size W D) := by rw [← hDD]; exact HD
  replace E : Box D W.heap.size (X.cells ⟨6, 0, 0, 0, ⟨#[]⟩, some ⟨g, 0, none⟩, 2, c⟩) := by rw [← hDD]; exact E
  replace Y : Box D (W.heap.size + 1) (X.cells ⟨6, 0, 0, 0, ⟨#[]⟩, some ⟨g, 0, none⟩, 2, c⟩) := by rw [← hDD]; exact Y
  clear hDD
  refine (unhide ((unhide HC) _)).mono ?_
  rintro e w1 ⟨rfl, hb1⟩
  replace HD := hide (Below.andThen (unhide HD) hb1)
  replace E := E.below hb1
  replace Y := Y.below hb1
  clear hb1
  obtain ⟨a0, a1, a2, a3, a4, a5, a6, a7, a8, a9, fa⟩ := E.ten ⟨6, 0, 0, 0, ⟨#[]⟩, some ⟨g, 0, none⟩, 2, c⟩
  obtain ⟨b0, b1, b2, b3, b4, b5, b6, b7, b8, b9, fb⟩ := Y.ten ⟨6, 0, 0, 0, ⟨#[]⟩, some ⟨g, 0, none⟩, 2, c⟩
  go_wp2_with fail
  clear a0 a1 a2 a3 a4 a5 a6 a7 a8 a9 fa b0 b1 b2 b3 b4 b5 b6 b7 b8 b9 fb
  refine (unhide ((unhide HK) _)).mono ?_
  rintro e w2 ⟨rfl, hb2⟩
  replace HD := hide (Below.andThen (unhide HD) hb2)
  replace E := E.below hb2
  replace Y := Y.below hb2
  clear hb2
  obtain ⟨a0, a1, a2, a3, a4, a5, a6, a7, a8, a9, fa⟩ := E.ten ⟨6, 0, 0, 0, ⟨#[]⟩, some ⟨g, 0, none⟩, 2, c⟩
  obtain ⟨b0, b1, b2, b3, b4, b5, b6, b7, b8, b9, fb⟩ := Y.ten ⟨6, 0, 0, 0, ⟨#[]⟩, some ⟨g, 0, none⟩, 2, c⟩
  go_wp2_with fail
  clear a0 a1 a2 a3 a4 a5 a6 a7 a8 a9 fa b0 b1 b2 b3 b4 b5 b6 b7 b8 b9 fb
  refine (unhide ((unhide HA) _ (hW.trans ((unhide HD).mono hBW)) (Nat.le_trans hBW (unhide HD).size))).mono ?_
  rintro e w9 ⟨rfl, hb9⟩
  replace HD := hide (Below.andThen (unhide HD) hb9)
  clear hb9
  go_wp2
  go_ret
  exact ⟨rfl, unhide HD⟩
set_option maxHeartbeats 2000000 in
set_option maxRecDepth 100000 in
theorem is_in {B g c : Nat} {cs : List Value} {W0 : World} (hA : Args B g cs W0) (hx : ∀ k, k < 2 → ∃ x, IsOK B W0 x ∧ ∀ i u, x.cells[i]? = some u → cs[k * 10 + i]? = some u) : IsOK B W0 ⟨5, 0, 0, 0, ⟨#[]⟩, some ⟨g, 0, none⟩, 2, c⟩ := by
  intro W hW hBW
  have HC := hide fun W' => hide (counted_ok 2 2 11 (by decide) (by decide) W')
  have HA := hide fun W' (hb : Below B W0 W') (hB' : B ≤ W'.heap.size) => hide (all_is (c := c) hB' (by decide) (hA.below hb) (fun k hk => let ⟨x, h1, h2⟩ := hx k hk; ⟨x, h1.from hb, h2⟩))
  have HK := hide fun W' => hide (blank_ok 5 (some ⟨g, 0, none⟩) 2 c W')
  have HD := hide (((Below.refl W.heap.size W).alloc (Nat.le_refl _) (.cells (X.cells ⟨5, 0, 0, 0, ⟨#[]⟩, some ⟨g, 0, none⟩, 2, c⟩).toArray 34)).alloc (by simp) (.cells (X.cells ⟨5, 0, 0, 0, ⟨#[]⟩, some ⟨g, 0, none⟩, 2, c⟩).toArray 34))
  have E := (Box.new W (X.cells ⟨5, 0, 0, 0, ⟨#[]⟩, some ⟨g, 0, none⟩, 2, c⟩)).below ((Below.refl _ _).alloc (Nat.le_refl _) (.cells (X.cells ⟨5, 0, 0, 0, ⟨#[]⟩, some ⟨g, 0, none⟩, 2, c⟩).toArray 34))
  have Y := Box.new1 (W.alloc (.cells (X.cells ⟨5, 0, 0, 0, ⟨#[]⟩, some ⟨g, 0, none⟩, 2, c⟩).toArray 34)) (X.cells ⟨5, 0, 0, 0, ⟨#[]⟩, some ⟨g, 0, none⟩, 2, c⟩) (show _ = W.heap.size + 1 by simp)
  dsimp only [X.val]
  dsimp only [X.val] at HK
  go_enter Tryz.func14, Tryz.ntmps14
  go_wp2_with fail
  generalize hDD : (W.alloc _).alloc _ = D
  replace HD : Hid (Below W.heap.size W D) := by rw [← hDD]; exact HD
  replace E : Box D W.heap.size (X.cells ⟨5, 0, 0, 0, ⟨#[]⟩, some ⟨g, 0, none⟩, 2, c⟩) := by rw [← hDD]; exact E
  replace Y : Box D (W.heap.size + 1) (X.cells ⟨5, 0, 0, 0, ⟨#[]⟩, some ⟨g, 0, none⟩, 2, c⟩) := by rw [← hDD]; exact Y
  clear hDD
  refine (unhide ((unhide HC) _)).mono ?_
  rintro e w1 ⟨rfl, hb1⟩
  replace HD := hide (Below.andThen (unhide HD) hb1)
  replace E := E.below hb1
  replace Y := Y.below hb1
  clear hb1
  obtain ⟨a0, a1, a2, a3, a4, a5, a6, a7, a8, a9, fa⟩ := E.ten ⟨5, 0, 0, 0, ⟨#[]⟩, some ⟨g, 0, none⟩, 2, c⟩
  obtain ⟨b0, b1, b2, b3, b4, b5, b6, b7, b8, b9, fb⟩ := Y.ten ⟨5, 0, 0, 0, ⟨#[]⟩, some ⟨g, 0, none⟩, 2, c⟩
  go_wp2_with fail
  clear a0 a1 a2 a3 a4 a5 a6 a7 a8 a9 fa b0 b1 b2 b3 b4 b5 b6 b7 b8 b9 fb
  refine (unhide ((unhide HK) _)).mono ?_
  rintro e w2 ⟨rfl, hb2⟩
  replace HD := hide (Below.andThen (unhide HD) hb2)
  replace E := E.below hb2
  replace Y := Y.below hb2
  clear hb2
  obtain ⟨a0, a1, a2, a3, a4, a5, a6, a7, a8, a9, fa⟩ := E.ten ⟨5, 0, 0, 0, ⟨#[]⟩, some ⟨g, 0, none⟩, 2, c⟩
  obtain ⟨b0, b1, b2, b3, b4, b5, b6, b7, b8, b9, fb⟩ := Y.ten ⟨5, 0, 0, 0, ⟨#[]⟩, some ⟨g, 0, none⟩, 2, c⟩
  go_wp2_with fail
  clear a0 a1 a2 a3 a4 a5 a6 a7 a8 a9 fa b0 b1 b2 b3 b4 b5 b6 b7 b8 b9 fb
  refine (unhide ((unhide HA) _ (hW.trans ((unhide HD).mono hBW)) (Nat.le_trans hBW (unhide HD).size))).mono ?_
  rintro e w9 ⟨rfl, hb9⟩
  replace HD := hide (Below.andThen (unhide HD) hb9)
  clear hb9
  go_wp2
  go_ret
  exact ⟨rfl, unhide HD⟩
set_option maxHeartbeats 2000000 in
set_option maxRecDepth 100000 in
theorem is_neg {B g c : Nat} {cs : List Value} {W0 : World} (hA : Args B g cs W0) (hx : ∀ k, k < 1 → ∃ x, IsOK B W0 x ∧ ∀ i u, x.cells[i]? = some u → cs[k * 10 + i]? = some u) : IsOK B W0 ⟨3, 1, 0, 0, ⟨#[]⟩, some ⟨g, 0, none⟩, 1, c⟩ := by
  intro W hW hBW
  have HC := hide fun W' => hide (counted_ok 1 1 4 (by decide) (by decide) W')
  have HA := hide fun W' (hb : Below B W0 W') (hB' : B ≤ W'.heap.size) => hide (all_is (c := c) hB' (by decide) (hA.below hb) (fun k hk => let ⟨x, h1, h2⟩ := hx k hk; ⟨x, h1.from hb, h2⟩))
  have HK := hide fun W' => hide (blank_ok 3 (some ⟨g, 0, none⟩) 1 c W')
  have HD := hide (((Below.refl W.heap.size W).alloc (Nat.le_refl _) (.cells (X.cells ⟨3, 1, 0, 0, ⟨#[]⟩, some ⟨g, 0, none⟩, 1, c⟩).toArray 34)).alloc (by simp) (.cells (X.cells ⟨3, 0, 0, 0, ⟨#[]⟩, some ⟨g, 0, none⟩, 1, c⟩).toArray 34))
  have E := (Box.new W (X.cells ⟨3, 1, 0, 0, ⟨#[]⟩, some ⟨g, 0, none⟩, 1, c⟩)).below ((Below.refl _ _).alloc (Nat.le_refl _) (.cells (X.cells ⟨3, 0, 0, 0, ⟨#[]⟩, some ⟨g, 0, none⟩, 1, c⟩).toArray 34))
  have Y := Box.new1 (W.alloc (.cells (X.cells ⟨3, 1, 0, 0, ⟨#[]⟩, some ⟨g, 0, none⟩, 1, c⟩).toArray 34)) (X.cells ⟨3, 0, 0, 0, ⟨#[]⟩, some ⟨g, 0, none⟩, 1, c⟩) (show _ = W.heap.size + 1 by simp)
  dsimp only [X.val]
  dsimp only [X.val] at HK
  go_enter Tryz.func14, Tryz.ntmps14
  go_wp2_with fail
  generalize hDD : (W.alloc _).alloc _ = D
  replace HD : Hid (Below W.heap.size W D) := by rw [← hDD]; exact HD
  replace E : Box D W.heap.size (X.cells ⟨3, 1, 0, 0, ⟨#[]⟩, some ⟨g, 0, none⟩, 1, c⟩) := by rw [← hDD]; exact E
  replace Y : Box D (W.heap.size + 1) (X.cells ⟨3, 0, 0, 0, ⟨#[]⟩, some ⟨g, 0, none⟩, 1, c⟩) := by rw [← hDD]; exact Y
  clear hDD
  refine (unhide ((unhide HC) _)).mono ?_
  rintro e w1 ⟨rfl, hb1⟩
  replace HD := hide (Below.andThen (unhide HD) hb1)
  replace E := E.below hb1
  replace Y := Y.below hb1
  clear hb1
  obtain ⟨a0, a1, a2, a3, a4, a5, a6, a7, a8, a9, fa⟩ := E.ten ⟨3, 1, 0, 0, ⟨#[]⟩, some ⟨g, 0, none⟩, 1, c⟩
  obtain ⟨b0, b1, b2, b3, b4, b5, b6, b7, b8, b9, fb⟩ := Y.ten ⟨3, 0, 0, 0, ⟨#[]⟩, some ⟨g, 0, none⟩, 1, c⟩
  go_wp2_with fail
  clear a0 a1 a2 a3 a4 a5 a6 a7 a8 a9 fa b0 b1 b2 b3 b4 b5 b6 b7 b8 b9 fb
  refine (unhide ((unhide HK) _)).mono ?_
  rintro e w2 ⟨rfl, hb2⟩
  replace HD := hide (Below.andThen (unhide HD) hb2)
  replace E := E.below hb2
  replace Y := Y.below hb2
  clear hb2
  obtain ⟨a0, a1, a2, a3, a4, a5, a6, a7, a8, a9, fa⟩ := E.ten ⟨3, 1, 0, 0, ⟨#[]⟩, some ⟨g, 0, none⟩, 1, c⟩
  obtain ⟨b0, b1, b2, b3, b4, b5, b6, b7, b8, b9, fb⟩ := Y.ten ⟨3, 0, 0, 0, ⟨#[]⟩, some ⟨g, 0, none⟩, 1, c⟩
  go_wp2_with fail
  clear a0 a1 a2 a3 a4 a5 a6 a7 a8 a9 fa b0 b1 b2 b3 b4 b5 b6 b7 b8 b9 fb
  refine (unhide ((unhide HA) _ (hW.trans ((unhide HD).mono hBW)) (Nat.le_trans hBW (unhide HD).size))).mono ?_
  rintro e w9 ⟨rfl, hb9⟩
  replace HD := hide (Below.andThen (unhide HD) hb9)
  clear hb9
  go_wp2
  go_ret
  exact ⟨rfl, unhide HD⟩
end Go.Proofs.YtddedijencleeaaGreatDoor

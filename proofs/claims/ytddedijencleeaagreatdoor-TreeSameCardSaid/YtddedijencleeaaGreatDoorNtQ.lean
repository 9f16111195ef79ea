/- A statement that deletes: Is, its print, its depth. -/
import Derived.Test.YtddedijencleeaaGreatDoorNtP
import Derived.Lib.UnsafeStr
import Derived.Shelf.RegionOpenPlain
set_option linter.all false
namespace Go.Proofs.YtddedijencleeaaGreatDoor
open Go.RowKit Go.Lib

set_option maxHeartbeats 2000000 in
set_option maxRecDepth 100000 in
theorem builderString {B b : Nat} {o m : Int} {l : List UInt8} {v : Value} {w : World} (h : Wr B b o m l v w) (h0 : l ≠ []) :
    Calls Tryz.prog 27 #[.pointer (some ⟨b, 0, none⟩)] w fun e w' => e = .returned (.string ⟨l.toArray⟩) ∧ Below B w w' := by
  obtain ⟨p, _, hbk⟩ := h.blk
  have hown := h.own
  have hl0 : l.length ≠ 0 := by simpa using h0
  obtain ⟨g, cap, cur, rfl, hbg, hg, hnc, hcm, hcs, htake⟩ : ∃ g cap cur, v = .slice (some ⟨g, 0, none⟩) l.length cap ∧ B ≤ g ∧ w.heap[g]? = some (.cells cur 5 (0, 0)) ∧ l.length ≤ cap ∧ cap ≤ maxLen ∧ cur.size = cap * 1 ∧ cur.toList.take (l.length * 1) = Lib.byteCells l := by
    rcases hown.2 with ⟨_, hz⟩ | ⟨g, cap, cur, hv, r⟩
    · exact absurd hz hl0
    · exact ⟨g, cap, cur, hv, r⟩
  have c1 : w.drew.cell? ⟨b, 1, none⟩ = some (.slice (some ⟨g, 0, none⟩) l.length cap) := by
    have : w.drew.heap[b]? = some (.cells #[p, .slice (some ⟨g, 0, none⟩) l.length cap, .int .i64 o, .int .i64 m] 76 (0, 0)) := hbk
    rw [Lib.cell_of_heap this]; rfl
  have hSD : (Builtin.unsafeSliceData_ #[72] 149 #[.slice (some ⟨g, 0, none⟩) l.length cap]).run Tryz.prog w.drew = .ok (.pointer (some ⟨g, 0, none⟩)) w.drew :=
    Lib.run_unsafeSliceData_row _ _ _ _ _ _ (by omega)
  have hUS : (Builtin.unsafeString_ #[149, 3] 9 #[.pointer (some ⟨g, 0, none⟩), .int .i64 l.length]).run Tryz.prog w.drew = .ok (.string ⟨l.toArray⟩) (w.drew.freeze ⟨g, 0, none⟩ l.length) := by
    refine Lib.run_unsafeString_row w.drew 149 3 9 5 Tryz.underlying149 (by kernel_rfl) g cur.size (by have hg' : w.drew.heap[g]? = some (.cells cur 5 (0, 0)) := hg; simp [World.shape?, hg']) l h0 (by omega) (by unfold maxLen at hcm; omega) ?_
    intro j x hx
    have := hown.cells (g := g) rfl j (.int .u8 x.toNat) (by simp [Lib.byteCells, hx])
    exact this
  have mixed : Tryz.prog.follows .mixedOrders = true := by kernel_rfl
  go_enter Tryz.func27, Tryz.ntmps27
  go_wp2
  go_region_o
  all_goals (go_wp2; go_ret; exact ⟨rfl, Lib.below_freeze (Below.drew (Below.refl B w)) (p := ⟨g, 0, none⟩) hbg _⟩)

def tDEL : ByteArray := ⟨#[68, 69, 76, 69, 84, 69, 32, 70, 82, 79, 77, 32, 116]⟩
def tWHERE : ByteArray := ⟨#[32, 87, 72, 69, 82, 69, 32]⟩
set_option maxHeartbeats 2000000 in
set_option maxRecDepth 100000 in
theorem clause_pr {B b : Nat} {o m : Int} {l : List UInt8} {v : Value} {W : World} (h : Wr B b o m l v W) (x : X) (hk : (x.k == 0) = false) (txt : List UInt8) (d : Nat) (hP : PrOK B W x txt d)
    (ho : 0 ≤ o) (hod : o + (d : Int) ≤ 1000) (hm : 0 ≤ m) (hm2 : m ≤ 1000) (hl : l.length + (tWHERE.data.toList ++ txt).length ≤ 140737488355328) :
    Calls Tryz.prog 113 #[.pointer (some ⟨b, 0, none⟩), .string ⟨#[32, 87, 72, 69, 82, 69, 32]⟩, x.val] W fun e W' => e = .returned (.tuple #[]) ∧ PW B b o (top o m d) (l ++ (tWHERE.data.toList ++ txt)) v W W' := by
  have E := hide (h.box x.cells 34)
  have H := hide (h.alloc (.cells x.cells.toArray 34))
  have HD := hide ((WS.refl b v W).alloc (.cells x.cells.toArray 34))
  have HS := hide (says (unhide H) tWHERE (by simp only [List.length_append] at hl; omega))
  have HP := hide (hP.from (h.down (unhide HD)))
  have HL : Hid ((l ++ tWHERE.data.toList).length + txt.length ≤ 140737488355328) := hide (by simp only [List.length_append] at hl ⊢; omega)
  clear h hP hl
  dsimp only [X.val]
  go_enter Tryz.func113, Tryz.ntmps113
  go_wp2_with fail
  refine (unhide HS).mono ?_
  rintro e w1 ⟨rfl, v1, hw1, hs1⟩
  obtain ⟨a0, a1, a2, a3, a4, a5, a6, a7, a8, a9, fa⟩ := ((unhide E).step hs1).ten
  have HW1 := hide hw1
  have HS1 := hide hs1
  clear hw1 hs1
  go_wp2_with fail
  refine ((unhide HP) b o m _ _ w1 ((unhide H).down (unhide HS1)) (unhide HW1) ho hod hm hm2 (unhide HL)).mono ?_
  rintro e w2 ⟨rfl, v2, hw2, hs2⟩
  go_wp2
  go_end0
  exact ⟨rfl, v2, by rw [← List.append_assoc]; exact hw2, ((unhide HD).trans (unhide HS1)).trans hs2⟩

set_option maxHeartbeats 2000000 in
set_option maxRecDepth 100000 in
theorem stmt_del {B b : Nat} {v : Value} {W : World} (h : Wr B b 0 0 [] v W) (x : X) (hk : (x.k == 0) = false) (txt : List UInt8) (d : Nat) (hP : PrOK B W x txt d) (hd : d ≤ 1000) (hl : (tDEL.data.toList ++ (tWHERE.data.toList ++ txt)).length ≤ 140737488355328) :
    Calls Tryz.prog 26 #[.pointer (some ⟨b, 0, none⟩), delV x] W fun e W' => e = .returned (.tuple #[]) ∧ PW B b 0 (top 0 0 d) (tDEL.data.toList ++ (tWHERE.data.toList ++ txt)) v W W' := by
  have K := hide (h.box2 [.pointer (some ⟨b, 0, none⟩)] (delC x) 70 39)
  have H := hide ((h.alloc (.cells #[.pointer (some ⟨b, 0, none⟩)] 70)).alloc (.cells (delC x).toArray 39))
  have HD := hide (((WS.refl b v W).alloc (.cells #[.pointer (some ⟨b, 0, none⟩)] 70)).alloc (.cells (delC x).toArray 39))
  have HP := hide (hP.from (h.down (unhide HD)))
  have HL := hide hl
  clear h hP hl
  dsimp only [delV]
  go_enter Tryz.func26, Tryz.ntmps26
  go_upto_region 1 with fail
  generalize hDD : (W.alloc _).alloc _ = D
  replace K : Hid (Keeps b v D W.heap.size [.pointer (some ⟨b, 0, none⟩)] 70 ∧ Keeps b v D (W.heap.size + 1) (delC x) 39) := by rw [← hDD]; exact K
  replace H : Hid (Wr B b 0 0 [] v D) := by rw [← hDD]; exact H
  replace HD : Hid (WS b v v W D) := by rw [← hDD]; exact HD
  replace HP : Hid (PrOK B D x txt d) := by rw [← hDD]; exact HP
  clear hDD
  have w0 : D.cell? ⟨W.heap.size, 0, none⟩ = some (.pointer (some ⟨b, 0, none⟩)) := (unhide K).1.cell 0
  have e0 : D.cell? ⟨W.heap.size + 1, 0, none⟩ = some (.int .i64 7) := (unhide K).2.cell 0
  have e5 : D.cell? ⟨W.heap.size + 1, 5, none⟩ = some (.string ⟨#[116]⟩) := (unhide K).2.cell 5
  go_wp2_with fail
  have hcat : (⟨#[68, 69, 76, 69, 84, 69, 32, 70, 82, 79, 77, 32]⟩ : ByteArray) ++ ⟨#[116]⟩ = tDEL := by kernel_rfl
  rw [hcat]
  refine (says (unhide H) tDEL (by have := unhide HL; simp only [List.length_append, List.length_nil] at this ⊢; omega)).mono ?_
  rintro e w1 ⟨rfl, v1, hw1, hs1⟩
  have kw := (unhide K).1.step hs1
  have ke := (unhide K).2.step hs1
  clear w0 e0 e5 hcat
  have w0 : w1.cell? ⟨W.heap.size, 0, none⟩ = some (.pointer (some ⟨b, 0, none⟩)) := kw.cell 0
  have e11 : w1.cell? ⟨W.heap.size + 1, 11, none⟩ = some (.int .i64 x.k) := ke.cell 11
  have e12 : w1.cell? ⟨W.heap.size + 1, 12, none⟩ = some (.int .i64 x.op) := ke.cell 12
  have e13 : w1.cell? ⟨W.heap.size + 1, 13, none⟩ = some (.int .i64 x.vk) := ke.cell 13
  have e14 : w1.cell? ⟨W.heap.size + 1, 14, none⟩ = some (.int .i64 x.vn) := ke.cell 14
  have e15 : w1.cell? ⟨W.heap.size + 1, 15, none⟩ = some (.string ⟨#[]⟩) := ke.cell 15
  have e16 : w1.cell? ⟨W.heap.size + 1, 16, none⟩ = some (.string ⟨#[]⟩) := ke.cell 16
  have e17 : w1.cell? ⟨W.heap.size + 1, 17, none⟩ = some (.string x.nm) := ke.cell 17
  have e18 : w1.cell? ⟨W.heap.size + 1, 18, none⟩ = some (.slice x.A x.n x.c) := ke.cell 18
  have e19 : w1.cell? ⟨W.heap.size + 1, 19, none⟩ = some (.int .i64 0) := ke.cell 19
  have e20 : w1.cell? ⟨W.heap.size + 1, 20, none⟩ = some (.int .i64 0) := ke.cell 20
  have HS1 := hide hs1
  have HC := hide (clause_pr hw1 x hk txt d ((unhide HP).from ((unhide H).down hs1)) (by decide) (by omega) (by decide) (by decide) (by have := unhide HL; simp only [List.length_append, List.length_nil] at this ⊢; omega))
  clear hw1 hs1 kw ke HP HL
  dsimp only [X.val] at HC
  go_wp2_with fail
  refine (unhide HC).mono ?_
  rintro e w2 ⟨rfl, v2, hw2, hs2⟩
  go_wp2
  go_end0
  exact ⟨rfl, v2, by simpa using hw2, ((unhide HD).trans (unhide HS1)).trans hs2⟩
end Go.Proofs.YtddedijencleeaaGreatDoor

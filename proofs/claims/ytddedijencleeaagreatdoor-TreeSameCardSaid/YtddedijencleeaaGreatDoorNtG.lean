/- The writer writes a minus of a literal. -/
import Derived.Test.YtddedijencleeaaGreatDoorNtF
set_option linter.all false
namespace Go.Proofs.YtddedijencleeaaGreatDoor
open Go.RowKit Go.Lib

set_option maxHeartbeats 2000000 in
set_option maxRecDepth 100000 in
theorem leafI_pr (B : Nat) (W0 : World) (hok : OkW W0) (hB : 0 < B) : PrOK B W0 ⟨1, 0, 2, 1, ⟨#[]⟩, none, 0, 0⟩ [49] 0 := by
  intro b o m l v W hW h ho hod hm hm2 hl
  have HS := hide fun (W' : World) (v' : Value) (h : Wr B b o m l v' W') => hide (says h ⟨#[49]⟩ hl)
  have HV := hide fun (W' : World) (hb : Below B W0 W') => hide (print1 W' (hok.belowB hB hb))
  have K := hide (h.box2 [.pointer (some ⟨b, 0, none⟩)] (X.cells ⟨1, 0, 2, 1, ⟨#[]⟩, none, 0, 0⟩) 70 34)
  have H := hide h
  clear h
  dsimp only [X.val]
  go_enter Tryz.func35, Tryz.ntmps35
  go_wp2_with fail
  have HD := hide ((WS.refl b v W).alloc (.cells #[.pointer (some ⟨b, 0, none⟩)] 70)).alloc (.cells (X.cells ⟨1, 0, 2, 1, ⟨#[]⟩, none, 0, 0⟩).toArray 34)
  go_region_with (first
    | (go_at_call 120; refine (unhide ((unhide HV) _ (by first | exact hW.trans ((unhide H).down (unhide HD)) | exact hW.trans ((unhide H).down (unhide HD).drew)))).mono ?_; rintro e wb ⟨rfl, hbb⟩; have w0 : wb.cell? ⟨W.heap.size, 0, none⟩ = some (.pointer (some ⟨b, 0, none⟩)) := by first | exact ((unhide K).1.step (WS.ofBelow b v hbb)).cell 0 | exact ((unhide K).1.drew.step (WS.ofBelow b v hbb)).cell 0)
    | (go_at_call 104; refine (unhide ((unhide HS) _ _ (by first | exact (((unhide H).alloc _).alloc _).keep hbb | exact (((unhide H).alloc _).alloc _).drew.keep hbb))).mono ?_; rintro e w1 ⟨rfl, v1, hw1, hs1⟩))
  all_goals
    have hws : WS b v v1 W w1 := by first | exact ((unhide HD).trans (WS.ofBelow b v hbb)).trans hs1 | exact ((unhide HD).drew.trans (WS.ofBelow b v hbb)).trans hs1
    clear hs1
    go_wp2
    go_end0
    exact ⟨rfl, v1, hw1, hws⟩

set_option maxRecDepth 100000 in
theorem arg1_pr {B b ge gw : Nat} {o m : Int} {l : List UInt8} {v : Value} {W : World} (h : Wr B b o m l v W) (hP : PrOK B W ⟨1, 0, 2, 1, ⟨#[]⟩, none, 0, 0⟩ [49] 0)
    (ho : 0 ≤ o) (hod : o ≤ 1000) (hm : 0 ≤ m) (hm2 : m ≤ 1000) (hl : l.length + [49].length ≤ 140737488355328)
    (KE : Keeps b v W ge (X.cells ⟨1, 0, 2, 1, ⟨#[]⟩, none, 0, 0⟩) 34) (KW : Keeps b v W gw [.pointer (some ⟨b, 0, none⟩)] 70) :
    Calls Tryz.prog 182 #[.pointer (some ⟨gw, 0, none⟩), .pointer (some ⟨ge, 0, none⟩)] W fun e W' => e = .returned (.tuple #[]) ∧ PW B b o (top o m 0) (l ++ [49]) v W W' := by
  obtain ⟨a0, a1, a2, a3, a4, a5, a6, a7, a8, a9, fa⟩ := KE.ten
  have w0 : W.cell? ⟨gw, 0, none⟩ = some (.pointer (some ⟨b, 0, none⟩)) := KW.cell 0
  have HP := hide (hP b o m l v W (Below.refl _ _) h ho (by omega) hm hm2 hl)
  clear h hP KE KW
  go_enter Tryz.func182, Tryz.ntmps182
  go_wp2_with fail
  refine (unhide HP).mono ?_
  rintro e w1 ⟨rfl, h1⟩
  go_wp2
  go_end0
  exact ⟨rfl, h1⟩
theorem box_at {B b g : Nat} {o m : Int} {l : List UInt8} {v : Value} {w : World} (h : Wr B b o m l v w) (cs : List Value) (t : TypeId) (hg : w.heap.size = g) : Keeps b v (w.alloc (.cells cs.toArray t)) g cs t := by
  rw [← hg]; exact h.box cs t
set_option maxHeartbeats 2000000 in
set_option maxRecDepth 100000 in
theorem arg_int {B b : Nat} {o m : Int} {l : List UInt8} {v : Value} {W : World} (h : Wr B b o m l v W) (y : X) (hy : y.k = 3 ∧ y.op = 1) (hP : PrOK B W ⟨1, 0, 2, 1, ⟨#[]⟩, none, 0, 0⟩ [49] 0) (ho : 0 ≤ o) (ho2 : o ≤ 900) (hm : 0 ≤ m) (hm2 : m ≤ 900) (hl : l.length + [40, 49, 41].length ≤ 140737488355328) :
    Calls Tryz.prog 122 #[.pointer (some ⟨b, 0, none⟩), y.val, X.val ⟨1, 0, 2, 1, ⟨#[]⟩, none, 0, 0⟩] W fun e W' => e = .returned (.tuple #[]) ∧ PW B b o (top o m 1) (l ++ [40, 49, 41]) v W W' := by
  have H := hide h
  have HP := hide hP
  obtain ⟨k, op, vk, vn, nm, A, n, c⟩ := y
  obtain ⟨rfl, rfl⟩ := hy
  have HX := hide ((h.alloc (.cells #[.pointer (some ⟨b, 0, none⟩)] 70)).alloc (.cells (X.cells ⟨3, 1, vk, vn, nm, A, n, c⟩).toArray 34))
  have K1 := hide ((h.box2 [.pointer (some ⟨b, 0, none⟩)] (X.cells ⟨3, 1, vk, vn, nm, A, n, c⟩) 70 34).1.alloc (.cells (X.cells ⟨1, 0, 2, 1, ⟨#[]⟩, none, 0, 0⟩).toArray 34))
  have K2 := hide (box_at (unhide HX) (X.cells ⟨1, 0, 2, 1, ⟨#[]⟩, none, 0, 0⟩) 34 (show _ = W.heap.size + 1 + 1 by simp))
  have HD := hide ((((WS.refl b v W).alloc (.cells #[.pointer (some ⟨b, 0, none⟩)] 70)).alloc (.cells (X.cells ⟨3, 1, vk, vn, nm, A, n, c⟩).toArray 34)).alloc (.cells (X.cells ⟨1, 0, 2, 1, ⟨#[]⟩, none, 0, 0⟩).toArray 34))
  clear h hP
  dsimp only [X.val]
  go_enter Tryz.func122, Tryz.ntmps122
  go_wp2_with fail
  refine (brackets_pr ((unhide HX).alloc (.cells (X.cells ⟨1, 0, 2, 1, ⟨#[]⟩, none, 0, 0⟩).toArray 34)) 182 (entersW Tryz.func182 (by kernel_rfl) rfl) _ _ [49] 0 ho (by omega) hm (by omega) hl (fun v' W' h' k' => arg1_pr h' ((unhide HP).from ((unhide H).down ((unhide HD).trans k'))) (by omega) (by omega) (by omega) (by omega) (by simp at hl ⊢; omega) ((unhide K2).step k') ((unhide K1).step k'))).mono ?_
  rintro e w1 ⟨rfl, v1, hw1, hs1⟩
  go_wp2
  (try simp only [Exit.inBlock, Exit.then]); refine bodyPost_ret (results_none rfl _ _ _) rfl ?_
  exact ⟨rfl, v1, hw1, (unhide HD).trans hs1⟩

set_option maxHeartbeats 2000000 in
set_option maxRecDepth 100000 in
theorem unary1_pr {B b g ge gw : Nat} {o m : Int} {l : List UInt8} {v : Value} {W : World} (h : Wr B b o m l v W) (hA : Args B g (X.cells ⟨1, 0, 2, 1, ⟨#[]⟩, none, 0, 0⟩) W) (hP : PrOK B W ⟨1, 0, 2, 1, ⟨#[]⟩, none, 0, 0⟩ [49] 0)
    (ho : 0 ≤ o) (ho2 : o ≤ 900) (hm : 0 ≤ m) (hm2 : m ≤ 900) (hl : l.length + [40, 49, 41].length ≤ 140737488355328)
    (KE : Keeps b v W ge (X.cells ⟨3, 1, 0, 0, ⟨#[]⟩, some ⟨g, 0, none⟩, 1, 1⟩) 34) (KW : Keeps b v W gw [.pointer (some ⟨b, 0, none⟩)] 70) :
    Calls Tryz.prog 181 #[.pointer (some ⟨gw, 0, none⟩), .pointer (some ⟨ge, 0, none⟩)] W fun e W' => e = .returned (.tuple #[]) ∧ PW B b o (top o m 1) (l ++ [40, 49, 41]) v W W' := by
  have HL := hide fun W' (k : Below B W W') (q : Wr B b o m l v W') => hide (arg_int q ⟨3, 1, 0, 0, ⟨#[]⟩, some ⟨g, 0, none⟩, 1, 1⟩ ⟨rfl, rfl⟩ (hP.from k) ho ho2 hm hm2 hl)
  obtain ⟨a0, a1, a2, a3, a4, a5, a6, a7, a8, a9, fa⟩ := KE.ten
  have w0 : W.cell? ⟨gw, 0, none⟩ = some (.pointer (some ⟨b, 0, none⟩)) := KW.cell 0
  obtain ⟨c0, c1, c2, c3, c4, c5, c6, c7, c8, c9⟩ := hA.ten ⟨1, 0, 2, 1, ⟨#[]⟩, none, 0, 0⟩ (off := 0) (fun i u hi => by rw [Nat.zero_add]; exact hi)
  have H := hide h
  clear h hA hP KE KW
  go_enter Tryz.func181, Tryz.ntmps181
  go_wp2_with fail
  go_region_with (go_at_call 122; refine (unhide ((unhide HL) _ (by first | exact Below.refl _ _ | exact (Below.refl _ _).drew) (by first | exact unhide H | exact (unhide H).drew))).mono ?_; rintro e w1 ⟨rfl, v1, hw1, hs1⟩)
  all_goals
    have hws : WS b v v1 W w1 := by first | exact hs1 | exact (WS.refl b v W).drew.trans hs1
    clear hs1
    go_wp2
    go_end0
    exact ⟨rfl, v1, hw1, hws⟩
def tNEG : ByteArray := ⟨#[45, 32]⟩
set_option maxHeartbeats 2000000 in
set_option maxRecDepth 100000 in
theorem unary_pr {B b g : Nat} {o m : Int} {l : List UInt8} {v : Value} {W : World} (h : Wr B b o m l v W) (hA : Args B g (X.cells ⟨1, 0, 2, 1, ⟨#[]⟩, none, 0, 0⟩) W) (hP : PrOK B W ⟨1, 0, 2, 1, ⟨#[]⟩, none, 0, 0⟩ [49] 0)
    (ho : 0 ≤ o) (ho2 : o ≤ 800) (hm : 0 ≤ m) (hm2 : m ≤ 800) (hl : l.length + [45, 32, 40, 49, 41].length ≤ 140737488355328) :
    Calls Tryz.prog 121 #[.pointer (some ⟨b, 0, none⟩), X.val ⟨3, 1, 0, 0, ⟨#[]⟩, some ⟨g, 0, none⟩, 1, 1⟩] W fun e W' => e = .returned (.tuple #[]) ∧ PW B b o (top o m 2) (l ++ [45, 32, 40, 49, 41]) v W W' := by
  have K := hide (h.box2 [.pointer (some ⟨b, 0, none⟩)] (X.cells ⟨3, 1, 0, 0, ⟨#[]⟩, some ⟨g, 0, none⟩, 1, 1⟩) 70 34)
  have H := hide ((h.alloc (.cells #[.pointer (some ⟨b, 0, none⟩)] 70)).alloc (.cells (X.cells ⟨3, 1, 0, 0, ⟨#[]⟩, some ⟨g, 0, none⟩, 1, 1⟩).toArray 34))
  have HD := hide (((WS.refl b v W).alloc (.cells #[.pointer (some ⟨b, 0, none⟩)] 70)).alloc (.cells (X.cells ⟨3, 1, 0, 0, ⟨#[]⟩, some ⟨g, 0, none⟩, 1, 1⟩).toArray 34))
  have HB := hide (h.down (unhide HD))
  have HC := hide (within_pr (unhide H) tNEG ⟨#[]⟩ 181 (entersW Tryz.func181 (by kernel_rfl) rfl) (.pointer (some ⟨W.heap.size, 0, none⟩)) (.pointer (some ⟨W.heap.size + 1, 0, none⟩)) [40, 49, 41] 1 ho (by omega) hm (by omega) (by simpa [tNEG] using hl)
    (fun v' W' h' k' => unary1_pr h' (hA.below ((unhide HB).trans ((unhide H).down k'))) (hP.from ((unhide HB).trans ((unhide H).down k'))) (by omega) (by omega) (by omega) (by omega) (by simp [tNEG] at hl ⊢; omega) ((unhide K).2.step k') ((unhide K).1.step k')))
  clear h hA hP hl
  dsimp only [X.val]
  go_enter Tryz.func121, Tryz.ntmps121
  go_wp2_with fail
  refine (unhide HC).mono ?_
  rintro e w1 ⟨rfl, v1, hw1, hs1⟩
  go_wp2
  go_end0
  exact ⟨rfl, v1, hw1, (unhide HD).trans hs1⟩
set_option maxRecDepth 100000 in
theorem node_neg {B g : Nat} {W0 : World} (hA : Args B g (X.cells ⟨1, 0, 2, 1, ⟨#[]⟩, none, 0, 0⟩) W0) (hP : PrOK B W0 ⟨1, 0, 2, 1, ⟨#[]⟩, none, 0, 0⟩ [49] 0) {b : Nat} {l : List UInt8} {v : Value} {W : World} (hW : Below B W0 W) (h : Wr B b 0 0 l v W) (hl : l.length + [45, 32, 40, 49, 41].length ≤ 140737488355328) :
    Calls Tryz.prog 35 #[.pointer (some ⟨b, 0, none⟩), X.val ⟨3, 1, 0, 0, ⟨#[]⟩, some ⟨g, 0, none⟩, 1, 1⟩] W fun e W' => e = .returned (.tuple #[]) ∧ PW B b 0 2 (l ++ [45, 32, 40, 49, 41]) v W W' := by
  have H := hide h
  have HG := hide fun (W' : World) (v' : Value) (h : Wr B b 0 0 l v' W') (hb : Below B W0 W') => hide (unary_pr h (hA.below hb) (hP.from hb) (by decide) (by decide) (by decide) (by decide) hl)
  clear h hA hP
  dsimp only [X.val]
  go_enter Tryz.func35, Tryz.ntmps35
  go_wp2_with fail
  refine (unhide ((unhide HG) _ _ (((unhide H).alloc _).alloc _) (hW.trans (((Below.refl B W).alloc (unhide H).hi _).alloc (by have := (unhide H).hi; simp; omega) _)))).mono ?_
  rintro e w1 ⟨rfl, v1, hw1, hs1⟩
  go_wp2
  go_end0
  exact ⟨rfl, v1, hw1, (((WS.refl b v W).alloc _).alloc _).trans hs1⟩
end Go.Proofs.YtddedijencleeaaGreatDoor

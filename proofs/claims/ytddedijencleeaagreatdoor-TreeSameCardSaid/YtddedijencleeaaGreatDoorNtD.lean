/- The writer writes a CASE, an IN, a minus whole. -/
import Derived.Test.YtddedijencleeaaGreatDoorNtC
set_option linter.all false
namespace Go.Proofs.YtddedijencleeaaGreatDoor
open Go.RowKit Go.Lib

/-- What a CASE of one way writes within. -/
def caseT (txt : List UInt8) : List UInt8 := [32, 87, 72, 69, 78, 32] ++ [70, 65, 76, 83, 69] ++ [32, 84, 72, 69, 78, 32] ++ txt
def tCASE : ByteArray := ⟨#[67, 65, 83, 69]⟩
def tEND : ByteArray := ⟨#[32, 69, 78, 68]⟩
set_option maxHeartbeats 2000000 in
set_option maxRecDepth 100000 in
theorem cases_pr {B b g c : Nat} {o m : Int} {l : List UInt8} {v : Value} {W : World} (h : Wr B b o m l v W) (x : X) (txt : List UInt8) (d : Nat) (hA : Args B g (X.cells ⟨1, 0, 1, 0, ⟨#[]⟩, none, 0, 0⟩ ++ x.cells) W) (hF : PrOK B W ⟨1, 0, 1, 0, ⟨#[]⟩, none, 0, 0⟩ [70, 65, 76, 83, 69] 0) (hP : PrOK B W x txt d)
    (ho : 0 ≤ o) (hod : o + (d + 1 : Nat) ≤ 1000) (hm : 0 ≤ m) (hm2 : m ≤ 1000) (hl : l.length + (tCASE.data.toList ++ caseT txt ++ tEND.data.toList).length ≤ 140737488355328) :
    Calls Tryz.prog 125 #[.pointer (some ⟨b, 0, none⟩), X.val ⟨6, 0, 0, 0, ⟨#[]⟩, some ⟨g, 0, none⟩, 2, c⟩] W fun e W' => e = .returned (.tuple #[]) ∧ PW B b o (top o m (d + 1)) (l ++ (tCASE.data.toList ++ caseT txt ++ tEND.data.toList)) v W W' := by
  have K := hide (h.box2 [.pointer (some ⟨b, 0, none⟩)] (X.cells ⟨6, 0, 0, 0, ⟨#[]⟩, some ⟨g, 0, none⟩, 2, c⟩) 70 34)
  have H := hide ((h.alloc (.cells #[.pointer (some ⟨b, 0, none⟩)] 70)).alloc (.cells (X.cells ⟨6, 0, 0, 0, ⟨#[]⟩, some ⟨g, 0, none⟩, 2, c⟩).toArray 34))
  have HD := hide (((WS.refl b v W).alloc (.cells #[.pointer (some ⟨b, 0, none⟩)] 70)).alloc (.cells (X.cells ⟨6, 0, 0, 0, ⟨#[]⟩, some ⟨g, 0, none⟩, 2, c⟩).toArray 34))
  have HB := hide (h.down (unhide HD))
  have HC := hide (within_pr (unhide H) tCASE tEND 183 (entersW Tryz.func183 (by kernel_rfl) rfl) (.pointer (some ⟨W.heap.size + 1, 0, none⟩)) (.pointer (some ⟨W.heap.size, 0, none⟩)) (caseT txt) d ho hod hm hm2 hl
    (fun v' W' h' k' => case1_pr h' x txt d (hA.below ((unhide HB).trans ((unhide H).down k'))) (hF.from ((unhide HB).trans ((unhide H).down k'))) (hP.from ((unhide HB).trans ((unhide H).down k'))) (by omega) (by omega) (by omega) (by omega) (len3 hl).2.1 ((unhide K).2.step k') ((unhide K).1.step k')))
  clear h hA hF hP hl
  dsimp only [X.val]
  go_enter Tryz.func125, Tryz.ntmps125
  go_wp2_with fail
  refine (unhide HC).mono ?_
  rintro e w1 ⟨rfl, v1, hw1, hs1⟩
  go_wp2
  go_end0
  exact ⟨rfl, v1, hw1, (unhide HD).trans hs1⟩
set_option maxRecDepth 100000 in
theorem node_case {B g c : Nat} {W0 : World} (x : X) (txt : List UInt8) (d : Nat) (hA : Args B g (X.cells ⟨1, 0, 1, 0, ⟨#[]⟩, none, 0, 0⟩ ++ x.cells) W0) (hF : PrOK B W0 ⟨1, 0, 1, 0, ⟨#[]⟩, none, 0, 0⟩ [70, 65, 76, 83, 69] 0) (hP : PrOK B W0 x txt d) :
    PrOK B W0 ⟨6, 0, 0, 0, ⟨#[]⟩, some ⟨g, 0, none⟩, 2, c⟩ (tCASE.data.toList ++ caseT txt ++ tEND.data.toList) (d + 1) := by
  intro b o m l v W hW h ho hod hm hm2 hl
  have H := hide h
  have HG := hide fun (W' : World) (v' : Value) (h : Wr B b o m l v' W') (hb : Below B W0 W') => hide (cases_pr (c := c) h x txt d (hA.below hb) (hF.from hb) (hP.from hb) ho hod hm hm2 hl)
  clear h hA hP hF
  dsimp only [X.val]
  go_enter Tryz.func35, Tryz.ntmps35
  go_wp2_with fail
  refine (unhide ((unhide HG) _ _ (((unhide H).alloc _).alloc _) (hW.trans (((Below.refl B W).alloc (unhide H).hi _).alloc (by have := (unhide H).hi; simp; omega) _)))).mono ?_
  rintro e w1 ⟨rfl, v1, hw1, hs1⟩
  go_wp2
  go_end0
  exact ⟨rfl, v1, hw1, (((WS.refl b v W).alloc _).alloc _).trans hs1⟩

set_option maxHeartbeats 2000000 in
set_option maxRecDepth 100000 in
/-- An argument that stands without brackets: a column. -/
theorem arg_col {B b : Nat} {o m : Int} {l : List UInt8} {v : Value} {W : World} (h : Wr B b o m l v W) (y : X) (nm : ByteArray) (hP : PrOK B W ⟨2, 0, 0, 0, nm, none, 0, 0⟩ nm.data.toList 0) (ho : 0 ≤ o) (ho2 : o ≤ 1000) (hm : 0 ≤ m) (hm2 : m ≤ 1000) (hl : l.length + nm.data.toList.length ≤ 140737488355328) :
    Calls Tryz.prog 122 #[.pointer (some ⟨b, 0, none⟩), y.val, X.val ⟨2, 0, 0, 0, nm, none, 0, 0⟩] W fun e W' => e = .returned (.tuple #[]) ∧ PW B b o m (l ++ nm.data.toList) v W W' := by
  have H := hide h
  have HP := hide fun W' v' (k : Below B W W') (q : Wr B b o m l v' W') => hide (hP b o m l v' W' k q ho (by omega) hm hm2 hl)
  clear h hP
  dsimp only [X.val]
  go_enter Tryz.func122, Tryz.ntmps122
  go_wp2_with fail
  refine (unhide ((unhide HP) _ _ ((unhide H).down ((((WS.refl b v W).alloc _).alloc _).alloc _)) ((((unhide H).alloc _).alloc _).alloc _))).mono ?_
  rintro e w1 ⟨rfl, v1, hw1, hs1⟩
  go_wp2
  go_end0
  exact ⟨rfl, v1, hw1, ((((WS.refl b v W).alloc _).alloc _).alloc _).trans hs1⟩

set_option maxHeartbeats 2000000 in
set_option maxRecDepth 100000 in
theorem in1_pr {B b g ge gw : Nat} {o m : Int} {l : List UInt8} {v : Value} {W : World} (h : Wr B b o m l v W) (nm : ByteArray) (x : X) (txt : List UInt8) (d : Nat) (hA : Args B g (X.cells ⟨2, 0, 0, 0, nm, none, 0, 0⟩ ++ x.cells) W) (hP : PrOK B W x txt d)
    (ho : 0 ≤ o) (hod : o + (d : Int) ≤ 1000) (hm : 0 ≤ m) (hm2 : m ≤ 1000) (hl : l.length + txt.length ≤ 140737488355328)
    (KE : Keeps b v W ge (X.cells ⟨5, 0, 0, 0, ⟨#[]⟩, some ⟨g, 0, none⟩, 2, 2⟩) 34) (KW : Keeps b v W gw [.pointer (some ⟨b, 0, none⟩)] 70) :
    Calls Tryz.prog 124 #[.pointer (some ⟨gw, 0, none⟩), .pointer (some ⟨ge, 0, none⟩)] W fun e W' => e = .returned (.tuple #[]) ∧ PW B b o (top o m d) (l ++ txt) v W W' := by
  have HL := hide fun W' (k : Below B W W') (q : Wr B b o m l v W') => hide (list1_pr (c := 1) q x txt d (hA.below k) (off := 10) (fun i u hi => by rw [List.getElem?_append_right (Nat.le_add_right 10 i), show 10 + i - (X.cells ⟨2, 0, 0, 0, nm, none, 0, 0⟩).length = i from by show 10 + i - 10 = i; omega]; exact hi) (hP.from k) ho hod hm hm2 hl)
  obtain ⟨a0, a1, a2, a3, a4, a5, a6, a7, a8, a9, fa⟩ := KE.ten
  have w0 : W.cell? ⟨gw, 0, none⟩ = some (.pointer (some ⟨b, 0, none⟩)) := KW.cell 0
  have H := hide h
  clear h hA hP KE KW
  go_enter Tryz.func124, Tryz.ntmps124
  go_wp2_with fail
  go_region_with (go_at_call 110; refine (unhide ((unhide HL) _ (by first | exact Below.refl _ _ | exact (Below.refl _ _).drew) (by first | exact unhide H | exact (unhide H).drew))).mono ?_; rintro e w1 ⟨rfl, v1, hw1, hs1⟩)
  all_goals
    have hws : WS b v v1 W w1 := by first | exact hs1 | exact (WS.refl b v W).drew.trans hs1
    clear hs1
    go_wp2
    go_end0
    exact ⟨rfl, v1, hw1, hws⟩
end Go.Proofs.YtddedijencleeaaGreatDoor

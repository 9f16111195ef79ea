/- The writer writes an IN, a minus whole. -/
import Derived.Test.YtddedijencleeaaGreatDoorNtD
set_option linter.all false
namespace Go.Proofs.YtddedijencleeaaGreatDoor
open Go.RowKit Go.Lib

def tIN : ByteArray := ⟨#[32, 73, 78, 32]⟩
theorem lenI {l a t : List UInt8} (h : l.length + (a ++ tIN.data.toList ++ ([40] ++ t ++ [41])).length ≤ 140737488355328) :
    l.length + a.length ≤ 140737488355328 ∧ (l ++ a).length + tIN.data.toList.length ≤ 140737488355328 ∧ (l ++ a ++ tIN.data.toList).length + ([40] ++ t ++ [41]).length ≤ 140737488355328 ∧ (l ++ a ++ tIN.data.toList ++ [40]).length + t.length ≤ 140737488355328 := by
  simp only [List.length_append] at h ⊢; omega
set_option maxHeartbeats 2000000 in
set_option maxRecDepth 100000 in
theorem node_in {B g : Nat} {W0 : World} (nm : ByteArray) (x : X) (txt : List UInt8) (d : Nat) (hA : Args B g (X.cells ⟨2, 0, 0, 0, nm, none, 0, 0⟩ ++ x.cells) W0) (hP : PrOK B W0 x txt d) :
    PrOK B W0 ⟨5, 0, 0, 0, ⟨#[]⟩, some ⟨g, 0, none⟩, 2, 2⟩ (nm.data.toList ++ tIN.data.toList ++ ([40] ++ txt ++ [41])) (d + 1) := by
  intro b o m l v W hW h ho hod hm hm2 hl
  have HL := hide (lenI hl)
  have K := hide (h.box2 [.pointer (some ⟨b, 0, none⟩)] (X.cells ⟨5, 0, 0, 0, ⟨#[]⟩, some ⟨g, 0, none⟩, 2, 2⟩) 70 34)
  have H := hide ((h.alloc (.cells #[.pointer (some ⟨b, 0, none⟩)] 70)).alloc (.cells (X.cells ⟨5, 0, 0, 0, ⟨#[]⟩, some ⟨g, 0, none⟩, 2, 2⟩).toArray 34))
  have HD := hide (((WS.refl b v W).alloc (.cells #[.pointer (some ⟨b, 0, none⟩)] 70)).alloc (.cells (X.cells ⟨5, 0, 0, 0, ⟨#[]⟩, some ⟨g, 0, none⟩, 2, 2⟩).toArray 34))
  have HB := hide (hW.trans (h.down (unhide HD)))
  have HA := hide (hA.below (unhide HB))
  have HP := hide (hP.from (unhide HB))
  clear h hA hP hl
  dsimp only [X.val]
  go_enter Tryz.func35, Tryz.ntmps35
  go_upto_region 15 with fail
  generalize hD : (W.alloc _).alloc _ = D
  replace K : Hid (Keeps b v D W.heap.size [.pointer (some ⟨b, 0, none⟩)] 70 ∧ Keeps b v D (W.heap.size + 1) (X.cells ⟨5, 0, 0, 0, ⟨#[]⟩, some ⟨g, 0, none⟩, 2, 2⟩) 34) := by rw [← hD]; exact K
  replace H : Hid (Wr B b o m l v D) := by rw [← hD]; exact H
  replace HD : Hid (WS b v v W D) := by rw [← hD]; exact HD
  replace HA : Hid (Args B g (X.cells ⟨2, 0, 0, 0, nm, none, 0, 0⟩ ++ x.cells) D) := by rw [← hD]; exact HA
  replace HP : Hid (PrOK B D x txt d) := by rw [← hD]; exact HP
  clear HB hW hD
  obtain ⟨a0, a1, a2, a3, a4, a5, a6, a7, a8, a9, fa⟩ := (unhide K).2.ten
  have w0 : D.cell? ⟨W.heap.size, 0, none⟩ = some (.pointer (some ⟨b, 0, none⟩)) := (unhide K).1.cell 0
  obtain ⟨c0, c1, c2, c3, c4, c5, c6, c7, c8, c9⟩ := (unhide HA).ten ⟨2, 0, 0, 0, nm, none, 0, 0⟩ (off := 0) (fun i u hi => by rw [Nat.zero_add, List.getElem?_append_left (List.getElem?_eq_some_iff.1 hi).1]; exact hi)
  have HG := hide fun W' (q : Wr B b o m l v W') => hide (arg_col q ⟨5, 0, 0, 0, ⟨#[]⟩, some ⟨g, 0, none⟩, 2, 2⟩ nm (leaf_pr B _ nm) ho (by omega) hm hm2 (unhide HL).1)
  go_cut [63] (fun _ wx => Hid (PW B b o m (l ++ nm.data.toList) v D wx))
  case first =>
    go_region_with (go_at_call 122; refine (unhide ((unhide HG) _ (by first | exact unhide H | exact (unhide H).drew))).mono ?_; rintro e w1 ⟨rfl, v1, hw1, hs1⟩)
    all_goals (go_wp2_with fail; go_meet; exact hide ⟨v1, hw1, by first | exact hs1 | exact (WS.refl b v D).drew.trans hs1⟩)
  case rest =>
    obtain ⟨v1, hw1, hs1⟩ := unhide hcut
    clear hcut a0 a1 a2 a3 a4 a5 a6 a7 a8 a9 fa w0 c0 c1 c2 c3 c4 c5 c6 c7 c8 c9 HG
    have w0 : wc.cell? ⟨W.heap.size, 0, none⟩ = some (.pointer (some ⟨b, 0, none⟩)) := ((unhide K).1.step hs1).cell 0
    go_wp2_with fail
    refine (says hw1 tIN (unhide HL).2.1).mono ?_
    rintro e w2 ⟨rfl, v2, hw2, hs2⟩
    have HS2 := hide (hs1.trans hs2)
    have HW2 := hide hw2
    clear w0 hw1 hs1 hw2 hs2
    have w0 : w2.cell? ⟨W.heap.size, 0, none⟩ = some (.pointer (some ⟨b, 0, none⟩)) := ((unhide K).1.step (unhide HS2)).cell 0
    go_wp2_with fail
    refine (brackets_pr (unhide HW2) 124 (entersW Tryz.func124 (by kernel_rfl) rfl) _ _ txt d ho hod hm hm2 (unhide HL).2.2.1 (fun v' W' h' k' => in1_pr h' nm x txt d ((unhide HA).below (((unhide H).down (unhide HS2)).trans ((unhide HW2).down k'))) ((unhide HP).from (((unhide H).down (unhide HS2)).trans ((unhide HW2).down k'))) (by omega) (by omega) (by omega) (by omega) (unhide HL).2.2.2 ((unhide K).2.step ((unhide HS2).trans k')) ((unhide K).1.step ((unhide HS2).trans k')))).mono ?_
    rintro e w3 ⟨rfl, v3, hw3, hs3⟩
    go_wp2
    go_end0
    exact ⟨rfl, v3, by simpa [List.append_assoc] using hw3, ((unhide HD).trans (unhide HS2)).trans hs3⟩
end Go.Proofs.YtddedijencleeaaGreatDoor

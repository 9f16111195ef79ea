/- The writer writes literals, CASEs, INs, a minus. -/
import Derived.Test.YtddedijencleeaaGreatDoorNtL
import Derived.Test.YtddedijencleeaaGreatDoorNtV
import Derived.Deep.DeepCutAuto
import Derived.Deep.CutBlock
set_option linter.all false
namespace Go.Proofs.YtddedijencleeaaGreatDoor
open Go.RowKit Go.Lib


set_option maxHeartbeats 2000000 in
set_option maxRecDepth 100000 in
theorem leafF_pr (B : Nat) (W0 : World) (hok : OkW W0) (hB : 0 < B) : PrOK B W0 ⟨1, 0, 1, 0, ⟨#[]⟩, none, 0, 0⟩ [70, 65, 76, 83, 69] 0 := by
  intro b o m l v W hW h ho hod hm hm2 hl
  have HS := hide fun (W' : World) (v' : Value) (h : Wr B b o m l v' W') => hide (says h ⟨#[70, 65, 76, 83, 69]⟩ hl)
  have HV := hide fun (W' : World) (hb : Below B W0 W') => hide (printF W' (hok.belowB hB hb))
  have K := hide (h.box2 [.pointer (some ⟨b, 0, none⟩)] (X.cells ⟨1, 0, 1, 0, ⟨#[]⟩, none, 0, 0⟩) 70 34)
  have H := hide h
  clear h
  dsimp only [X.val]
  go_enter Tryz.func35, Tryz.ntmps35
  go_wp2_with fail
  have HD := hide ((WS.refl b v W).alloc (.cells #[.pointer (some ⟨b, 0, none⟩)] 70)).alloc (.cells (X.cells ⟨1, 0, 1, 0, ⟨#[]⟩, none, 0, 0⟩).toArray 34)
  go_region_with (first
    | (go_at_call 120; refine (unhide ((unhide HV) _ (by first | exact hW.trans ((unhide H).down (unhide HD)) | exact hW.trans ((unhide H).down (unhide HD).drew)))).mono ?_; rintro e wb ⟨rfl, hbb⟩; have w0 : wb.cell? ⟨W.heap.size, 0, none⟩ = some (.pointer (some ⟨b, 0, none⟩)) := by first | exact ((unhide K).1.step (WS.ofBelow b v hbb)).cell 0 | exact ((unhide K).1.drew.step (WS.ofBelow b v hbb)).cell 0)
    | (go_at_call 104; refine (unhide ((unhide HS) _ _ (by first | exact (((unhide H).alloc _).alloc _).keep hbb | exact (((unhide H).alloc _).alloc _).drew.keep hbb))).mono ?_; rintro e w1 ⟨rfl, v1, hw1, hs1⟩))
  all_goals
    have hws : WS b v v1 W w1 := by first | exact ((unhide HD).trans (WS.ofBelow b v hbb)).trans hs1 | exact ((unhide HD).drew.trans (WS.ofBelow b v hbb)).trans hs1
    clear hs1
    go_wp2
    go_end0
    exact ⟨rfl, v1, hw1, hws⟩

theorem lenW {l t : List UInt8} (h : l.length + ([32, 87, 72, 69, 78, 32] ++ [70, 65, 76, 83, 69] ++ [32, 84, 72, 69, 78, 32] ++ t).length ≤ 140737488355328) :
    l.length + [32, 87, 72, 69, 78, 32].length ≤ 140737488355328 ∧ (l ++ [32, 87, 72, 69, 78, 32]).length + [70, 65, 76, 83, 69].length ≤ 140737488355328 ∧ (l ++ [32, 87, 72, 69, 78, 32] ++ [70, 65, 76, 83, 69]).length + [32, 84, 72, 69, 78, 32].length ≤ 140737488355328 ∧ (l ++ [32, 87, 72, 69, 78, 32] ++ [70, 65, 76, 83, 69] ++ [32, 84, 72, 69, 78, 32]).length + t.length ≤ 140737488355328 := by
  simp only [List.length_append, List.length_cons, List.length_nil] at h ⊢; omega
set_option maxHeartbeats 2000000 in
set_option maxRecDepth 100000 in
theorem case1_pr {B b g ge gw c : Nat} {o m : Int} {l : List UInt8} {v : Value} {W : World} (h : Wr B b o m l v W) (x : X) (txt : List UInt8) (d : Nat) (hA : Args B g (X.cells ⟨1, 0, 1, 0, ⟨#[]⟩, none, 0, 0⟩ ++ x.cells) W) (hF : PrOK B W ⟨1, 0, 1, 0, ⟨#[]⟩, none, 0, 0⟩ [70, 65, 76, 83, 69] 0) (hP : PrOK B W x txt d)
    (ho : 0 ≤ o) (hod : o + (d : Int) ≤ 1000) (hm : 0 ≤ m) (hm2 : m ≤ 1000) (hl : l.length + ([32, 87, 72, 69, 78, 32] ++ [70, 65, 76, 83, 69] ++ [32, 84, 72, 69, 78, 32] ++ txt).length ≤ 140737488355328)
    (KE : Keeps b v W ge (X.cells ⟨6, 0, 0, 0, ⟨#[]⟩, some ⟨g, 0, none⟩, 2, c⟩) 34) (KW : Keeps b v W gw [.pointer (some ⟨b, 0, none⟩)] 70) :
    Calls Tryz.prog 183 #[.pointer (some ⟨ge, 0, none⟩), .pointer (some ⟨gw, 0, none⟩)] W fun e W' => e = .returned (.tuple #[]) ∧ PW B b o (top o m d) (l ++ ([32, 87, 72, 69, 78, 32] ++ [70, 65, 76, 83, 69] ++ [32, 84, 72, 69, 78, 32] ++ txt)) v W W' := by
  have HL := hide (lenW hl)
  have H := hide h
  have HA := hide hA
  have HKE := hide KE
  have HKW := hide KW
  have HF := hide fun W' v' l' (k : Below B W W') (q : Wr B b o m l' v' W') hq => hide (hF b o m l' v' W' k q ho (by omega) hm hm2 hq)
  have HP := hide fun W' v' l' (k : Below B W W') (q : Wr B b o m l' v' W') hq => hide (hP b o m l' v' W' k q ho hod hm hm2 hq)
  clear hl h hA hF hP KE KW
  go_enter Tryz.func183, Tryz.ntmps183
  go_wp2_with fail
  go_loopw [2] (fun i wr => (i = .int .i64 0 ∧ wr = W) ∨ (i = .int .i64 2 ∧ Hid (PW B b o (top o m d) (l ++ ([32, 87, 72, 69, 78, 32] ++ [70, 65, 76, 83, 69] ++ [32, 84, 72, 69, 78, 32] ++ txt)) v W wr))) (fun i _ => 2 - (RowKit.intOf i).toNat)
  case atStart => exact .inl ⟨rfl, rfl⟩
  case round =>
    rcases hrel with ⟨rfl, rfl⟩ | ⟨rfl, HW⟩
    · obtain ⟨a0, a1, a2, a3, a4, a5, a6, a7, a8, a9, fa⟩ := (unhide HKE).ten
      have w0 : wr.cell? ⟨gw, 0, none⟩ = some (.pointer (some ⟨b, 0, none⟩)) := (unhide HKW).cell 0
      go_wp2_with fail
      refine (says (unhide H) ⟨#[32, 87, 72, 69, 78, 32]⟩ (unhide HL).1).mono ?_
      rintro e w1 ⟨rfl, v1, hw1, hs1⟩
      clear a0 a1 a2 a3 a4 a5 a6 a7 a8 a9 fa w0
      obtain ⟨a0, a1, a2, a3, a4, a5, a6, a7, a8, a9, fa⟩ := ((unhide HKE).step hs1).ten
      have w0 : w1.cell? ⟨gw, 0, none⟩ = some (.pointer (some ⟨b, 0, none⟩)) := ((unhide HKW).step hs1).cell 0
      obtain ⟨c0, c1, c2, c3, c4, c5, c6, c7, c8, c9⟩ := ((unhide HA).below ((unhide H).down hs1)).ten ⟨1, 0, 1, 0, ⟨#[]⟩, none, 0, 0⟩ (off := 0) (fun i u hi => by rw [Nat.zero_add, List.getElem?_append_left (List.getElem?_eq_some_iff.1 hi).1]; exact hi)
      have HS1 := hide hs1
      have HW1 := hide hw1
      clear hs1 hw1
      go_upto_region 4 with fail
      go_cut [20] (fun _ wx => Hid (∃ v', Wr B b o m (l ++ [32, 87, 72, 69, 78, 32] ++ [70, 65, 76, 83, 69]) v' wx ∧ WS b v v' wr wx))
      case first =>
        go_region_with (go_at_call 35; refine (unhide ((unhide HF) _ _ _ (by first | exact (unhide H).down (unhide HS1) | exact ((unhide H).down (unhide HS1)).drew) (by first | exact unhide HW1 | exact (unhide HW1).drew) (unhide HL).2.1)).mono ?_; rintro e w2 ⟨rfl, v2, hw2, hs2⟩)
        all_goals (go_wp2_with fail; go_meet; exact hide ⟨v2, hw2, by first | exact (unhide HS1).trans hs2 | exact (unhide HS1).drew.trans hs2⟩)
      case rest =>
        obtain ⟨v2, hw2, hs2⟩ := unhide hcut
        clear hcut a0 a1 a2 a3 a4 a5 a6 a7 a8 a9 fa w0 c0 c1 c2 c3 c4 c5 c6 c7 c8 c9
        have w0 : wc.cell? ⟨gw, 0, none⟩ = some (.pointer (some ⟨b, 0, none⟩)) := ((unhide HKW).step hs2).cell 0
        go_wp2_with fail
        refine (says hw2 ⟨#[32, 84, 72, 69, 78, 32]⟩ (unhide HL).2.2.1).mono ?_
        rintro e w3 ⟨rfl, v3, hw3, hs3⟩
        have HS3 := hide (hs2.trans hs3)
        have HW3 := hide hw3
        clear w0 hw2 hs2 hw3 hs3 HS1 HW1
        obtain ⟨a0, a1, a2, a3, a4, a5, a6, a7, a8, a9, fa⟩ := ((unhide HKE).step (unhide HS3)).ten
        have w0 : w3.cell? ⟨gw, 0, none⟩ = some (.pointer (some ⟨b, 0, none⟩)) := ((unhide HKW).step (unhide HS3)).cell 0
        obtain ⟨c0, c1, c2, c3, c4, c5, c6, c7, c8, c9⟩ := ((unhide HA).below ((unhide H).down (unhide HS3))).ten x (off := 10) (fun i u hi => by rw [List.getElem?_append_right (Nat.le_add_right 10 i), show 10 + i - (X.cells ⟨1, 0, 1, 0, ⟨#[]⟩, none, 0, 0⟩).length = i from by show 10 + i - 10 = i; omega]; exact hi)
        go_wp2_with fail
        go_region_with (go_at_call 35; refine (unhide ((unhide HP) _ _ _ (by first | exact (unhide H).down (unhide HS3) | exact ((unhide H).down (unhide HS3)).drew) (by first | exact unhide HW3 | exact (unhide HW3).drew) (unhide HL).2.2.2)).mono ?_; rintro e w4 ⟨rfl, v4, hw4, hs4⟩)
        all_goals
          have HQ : Hid (PW B b o (top o m d) (l ++ ([32, 87, 72, 69, 78, 32] ++ [70, 65, 76, 83, 69] ++ [32, 84, 72, 69, 78, 32] ++ txt)) v wr w4) := hide ⟨v4, by simpa [List.append_assoc] using hw4, by first | exact (unhide HS3).trans hs4 | exact (unhide HS3).drew.trans hs4⟩
          clear hw4 hs4
          go_wp2_with fail
          go_roundw
          case rel => exact .inr ⟨by go_num, HQ⟩
          case measure => simp [RowKit.intOf]
    · obtain ⟨v5, hw5, hs5⟩ := unhide HW
      obtain ⟨a0, a1, a2, a3, a4, a5, a6, a7, a8, a9, fa⟩ := ((unhide HKE).step hs5).ten
      go_wp2
      go_end0
      exact ⟨rfl, unhide HW⟩
end Go.Proofs.YtddedijencleeaaGreatDoor

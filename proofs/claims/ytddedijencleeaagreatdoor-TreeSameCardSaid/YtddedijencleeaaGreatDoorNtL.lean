/- The writer writes aggregates, CASEs, INs of one expression within. -/
import Derived.Test.YtddedijencleeaaGreatDoorNtE
import Derived.Deep.RegionWith
set_option linter.all false
namespace Go.Proofs.YtddedijencleeaaGreatDoor
open Go.RowKit Go.Lib

/-- A row of arguments below B. -/
def Args (B : Nat) (g : Nat) (cs : List Value) (W : World) : Prop := g < B ∧ W.heap[g]? = some (.cells cs.toArray 34 (0, 0))
theorem Args.below {B g : Nat} {cs : List Value} {W W' : World} (h : Args B g cs W) (hb : Below B W W') : Args B g cs W' := ⟨h.1, (hb.block g h.1).trans h.2⟩
theorem Args.cell {B g : Nat} {cs : List Value} {W : World} (h : Args B g cs W) (n : Nat) : W.cell? ⟨g, n, none⟩ = cs[n]? := by
  rw [Lib.cell_of_heap h.2]; simp

theorem Wr.down {B b : Nat} {o m : Int} {l : List UInt8} {v v' : Value} {W W' : World} (h : Wr B b o m l v W) (k : WS b v v' W W') : Below B W W' := k.below h.lo (fun g hg => (h.ownLo g hg).1) h.hi
theorem PrOK.from {B : Nat} {W0 W1 : World} {x : X} {txt : List UInt8} {d : Nat} (h : PrOK B W0 x txt d) (hb : Below B W0 W1) : PrOK B W1 x txt d := fun b o m l v W hW => h b o m l v W (hb.trans hW)
theorem Args.ten {B g off : Nat} {cs : List Value} {W : World} (h : Args B g cs W) (x : X) (hx : ∀ i u, x.cells[i]? = some u → cs[off + i]? = some u) :
    W.cell? ⟨g, off, none⟩ = some (.int .i64 x.k) ∧ W.cell? ⟨g, off + 1, none⟩ = some (.int .i64 x.op) ∧ W.cell? ⟨g, off + 2, none⟩ = some (.int .i64 x.vk) ∧ W.cell? ⟨g, off + 3, none⟩ = some (.int .i64 x.vn) ∧
    W.cell? ⟨g, off + 4, none⟩ = some (.string ⟨#[]⟩) ∧ W.cell? ⟨g, off + 5, none⟩ = some (.string ⟨#[]⟩) ∧ W.cell? ⟨g, off + 6, none⟩ = some (.string x.nm) ∧ W.cell? ⟨g, off + 7, none⟩ = some (.slice x.A x.n x.c) ∧ W.cell? ⟨g, off + 8, none⟩ = some (.int .i64 0) ∧ W.cell? ⟨g, off + 9, none⟩ = some (.int .i64 0) :=
  ⟨(h.cell _).trans (hx 0 _ rfl), (h.cell _).trans (hx 1 _ rfl), (h.cell _).trans (hx 2 _ rfl), (h.cell _).trans (hx 3 _ rfl), (h.cell _).trans (hx 4 _ rfl), (h.cell _).trans (hx 5 _ rfl), (h.cell _).trans (hx 6 _ rfl), (h.cell _).trans (hx 7 _ rfl), (h.cell _).trans (hx 8 _ rfl), (h.cell _).trans (hx 9 _ rfl)⟩

set_option maxRecDepth 100000 in
theorem list1_pr {B b g off c : Nat} {o m : Int} {l : List UInt8} {v : Value} {W : World} {cs : List Value} (h : Wr B b o m l v W) (x : X) (txt : List UInt8) (d : Nat) (hA : Args B g cs W) (hx : ∀ i u, x.cells[i]? = some u → cs[off + i]? = some u) (hP : PrOK B W x txt d)
    (ho : 0 ≤ o) (hod : o + (d : Int) ≤ 1000) (hm : 0 ≤ m) (hm2 : m ≤ 1000) (hl : l.length + txt.length ≤ 140737488355328) :
    Calls Tryz.prog 110 #[.pointer (some ⟨b, 0, none⟩), .slice (some ⟨g, off, none⟩) 1 c, .func (Fn.func 35) #[.pointer (some ⟨b, 0, none⟩)] #[]] W fun e W' => e = .returned (.tuple #[]) ∧ PW B b o (top o m d) (l ++ txt) v W W' := by
  have H := hide h
  have HA := hide hA
  have HP := hide fun W' v' (k : WS b v v' W W') (q : Wr B b o m l v' W') => hide (hP b o m l v' W' (h.down k) q ho hod hm hm2 hl)
  clear h hA hP
  go_enter Tryz.func110, Tryz.ntmps110
  go_wp2_with fail
  go_loopw [10] (fun i wr => (i = .int .i64 0 ∧ wr = W) ∨ (i = .int .i64 1 ∧ Hid (PW B b o (top o m d) (l ++ txt) v W wr))) (fun i _ => 1 - (RowKit.intOf i).toNat)
  case atStart => exact .inl ⟨rfl, rfl⟩
  case round =>
    rcases hrel with ⟨rfl, rfl⟩ | ⟨rfl, HW⟩
    · obtain ⟨a0, a1, a2, a3, a4, a5, a6, a7, a8, a9⟩ := (unhide HA).ten x hx
      go_wp2_with fail
      refine (unhide (HP _ _ ((WS.refl b v wr).alloc _) ((unhide H).alloc _))).mono ?_
      rintro e w1 ⟨rfl, v1, hw1, hs1⟩
      have HP1 : Hid (PW B b o (top o m d) (l ++ txt) v wr w1) := hide ⟨v1, hw1, ((WS.refl b v wr).alloc _).trans hs1⟩
      clear hw1 hs1
      go_wp2_with fail
      go_roundw
      case rel => exact .inr ⟨by go_num, HP1⟩
      case measure => simp [RowKit.intOf]
    · go_wp2
      go_end0
      exact ⟨rfl, unhide HW⟩
set_option maxRecDepth 100000 in
theorem agg1_pr {B b g ge gw c : Nat} {o m : Int} {l : List UInt8} {v : Value} {W : World} (h : Wr B b o m l v W) (op : Int) (x : X) (txt : List UInt8) (d : Nat) (hA : Args B g x.cells W) (hP : PrOK B W x txt d)
    (ho : 0 ≤ o) (hod : o + (d : Int) ≤ 1000) (hm : 0 ≤ m) (hm2 : m ≤ 1000) (hl : l.length + txt.length ≤ 140737488355328)
    (KE : Keeps b v W ge (X.cells ⟨7, op, 0, 0, ⟨#[]⟩, some ⟨g, 0, none⟩, 1, c⟩) 34) (KW : Keeps b v W gw [.pointer (some ⟨b, 0, none⟩)] 70) :
    Calls Tryz.prog 184 #[.pointer (some ⟨ge, 0, none⟩), .pointer (some ⟨gw, 0, none⟩)] W fun e W' => e = .returned (.tuple #[]) ∧ PW B b o (top o m d) (l ++ txt) v W W' := by
  obtain ⟨a0, a1, a2, a3, a4, a5, a6, a7, a8, a9, fa⟩ := KE.ten
  have w0 : W.cell? ⟨gw, 0, none⟩ = some (.pointer (some ⟨b, 0, none⟩)) := KW.cell 0
  have HL := hide (list1_pr (c := c) h x txt d hA (off := 0) (fun i u hi => by rw [Nat.zero_add]; exact hi) hP ho hod hm hm2 hl)
  clear h hA hP KE KW
  go_enter Tryz.func184, Tryz.ntmps184
  go_wp2_with fail
  refine (unhide HL).mono ?_
  rintro e w1 ⟨rfl, h1⟩
  go_wp2
  go_end0
  exact ⟨rfl, h1⟩
/-- Behind the boxes of a function's arguments. -/
theorem boxes {b ge gw : Nat} {v v1 : Value} {W w1 : World} {o1 o2 : Obj} {ce cw : List Value} {te tw : TypeId} (KE : Keeps b v ((W.alloc o1).alloc o2) ge ce te) (KW : Keeps b v ((W.alloc o1).alloc o2) gw cw tw) (hs : WS b v v1 ((W.alloc o1).alloc o2) w1 ∨ WS b v v1 ((W.alloc o1).alloc o2).drew w1) :
    WS b v v1 W w1 ∧ Keeps b v1 w1 ge ce te ∧ Keeps b v1 w1 gw cw tw := by
  rcases hs with hs | hs
  · exact ⟨(((WS.refl b v W).alloc _).alloc _).trans hs, KE.step hs, KW.step hs⟩
  · exact ⟨(((WS.refl b v W).alloc _).alloc _).drew.trans hs, KE.drew.step hs, KW.drew.step hs⟩
theorem len3' {l a t z : List UInt8} (h : l.length + (a ++ ([40] ++ t ++ z)).length ≤ 140737488355328) : l.length + a.length ≤ 140737488355328 ∧ (l ++ a).length + ([40] ++ t ++ z).length ≤ 140737488355328 ∧ (l ++ a ++ [40]).length + t.length ≤ 140737488355328 := by
  simp only [List.length_append] at h ⊢; omega
set_option maxHeartbeats 2000000 in
set_option maxRecDepth 100000 in
theorem aggregate_pr {B b g c : Nat} {o m : Int} {l : List UInt8} {v : Value} {W : World} (h : Wr B b o m l v W) (op : Int) (nm : ByteArray) (hop : (op = 19 ∧ nm = ⟨#[67, 79, 85, 78, 84]⟩) ∨ (op = 20 ∧ nm = ⟨#[83, 85, 77]⟩)) (x : X) (txt : List UInt8) (d : Nat) (hA : Args B g x.cells W) (hP : PrOK B W x txt d)
    (ho : 0 ≤ o) (hod : o + (d + 1 : Nat) ≤ 1000) (hm : 0 ≤ m) (hm2 : m ≤ 1000) (hl : l.length + (nm.data.toList ++ ([40] ++ txt ++ [41])).length ≤ 140737488355328) :
    Calls Tryz.prog 126 #[.pointer (some ⟨b, 0, none⟩), X.val ⟨7, op, 0, 0, ⟨#[]⟩, some ⟨g, 0, none⟩, 1, c⟩] W fun e W' => e = .returned (.tuple #[]) ∧ PW B b o (top o m (d + 1)) (l ++ (nm.data.toList ++ ([40] ++ txt ++ [41]))) v W W' := by
  have K1 := hide ((h.box [.pointer (some ⟨b, 0, none⟩)] 70).alloc (.cells (X.cells ⟨7, op, 0, 0, ⟨#[]⟩, some ⟨g, 0, none⟩, 1, c⟩).toArray 34))
  have K2 := hide (h.box2 [.pointer (some ⟨b, 0, none⟩)] (X.cells ⟨7, op, 0, 0, ⟨#[]⟩, some ⟨g, 0, none⟩, 1, c⟩) 70 34).2
  have HS := hide fun (W' : World) (h : Wr B b o m l v W') => hide (says h nm (len3' hl).1)
  have H := hide h
  have HA := hide hA
  have HP := hide hP
  have HL := hide hl
  clear h hA hP hl
  have wz0 : IntKind.i64.wrap 0 = 0 := by decide
  have wz1 : IntKind.i64.wrap 1 = 1 := by decide
  have ix0 : ∀ w, (Instr.index 154 (.agg #[.string ⟨#[67, 79, 85, 78, 84]⟩, .string ⟨#[83, 85, 77]⟩, .string ⟨#[77, 73, 78]⟩, .string ⟨#[77, 65, 88]⟩]) (.int .i64 0)).run Tryz.prog w = .ok (.string ⟨#[67, 79, 85, 78, 84]⟩) w := fun w => by kernel_rfl
  have ix1 : ∀ w, (Instr.index 154 (.agg #[.string ⟨#[67, 79, 85, 78, 84]⟩, .string ⟨#[83, 85, 77]⟩, .string ⟨#[77, 73, 78]⟩, .string ⟨#[77, 65, 88]⟩]) (.int .i64 1)).run Tryz.prog w = .ok (.string ⟨#[83, 85, 77]⟩) w := fun w => by kernel_rfl
  dsimp only [X.val]
  rcases hop with ⟨rfl, rfl⟩ | ⟨rfl, rfl⟩
  · go_enter Tryz.func126, Tryz.ntmps126
    go_wp2_with fail
    go_region_with (go_at_call 104; refine (unhide ((unhide HS) _ (by first | exact ((unhide H).alloc _).alloc _ | exact (((unhide H).alloc _).alloc _).drew))).mono ?_; rintro e w1 ⟨rfl, v1, hw1, hs1⟩)
    all_goals
      obtain ⟨hsW, ke, kw⟩ := boxes (unhide K2) (unhide K1) (by first | exact .inl hs1 | exact .inr hs1)
      have w0 : w1.cell? ⟨W.heap.size, 0, none⟩ = some (.pointer (some ⟨b, 0, none⟩)) := kw.cell 0
      have HKE := hide ke
      have HKW := hide kw
      have HSW := hide hsW
      have HW1 := hide hw1
      clear hs1 hsW ke kw hw1
      go_wp2_with fail
      refine (brackets_pr (unhide HW1) 184 (entersW Tryz.func184 (by kernel_rfl) rfl) _ _ txt d ho hod hm hm2 (len3' (unhide HL)).2.1 (fun v' W' h' k' => agg1_pr h' _ x txt d ((unhide HA).below (((unhide H).down (unhide HSW)).trans ((unhide HW1).down k'))) ((unhide HP).from (((unhide H).down (unhide HSW)).trans ((unhide HW1).down k'))) (by omega) (by omega) (by omega) (by omega) (len3' (unhide HL)).2.2 ((unhide HKE).step k') ((unhide HKW).step k'))).mono ?_
      rintro e w2 ⟨rfl, v2, hw2, hs2⟩
      go_wp2
      go_end0
      exact ⟨rfl, v2, by simpa [List.append_assoc] using hw2, (unhide HSW).trans hs2⟩
  · go_enter Tryz.func126, Tryz.ntmps126
    go_wp2_with fail
    go_region_with (go_at_call 104; refine (unhide ((unhide HS) _ (by first | exact ((unhide H).alloc _).alloc _ | exact (((unhide H).alloc _).alloc _).drew))).mono ?_; rintro e w1 ⟨rfl, v1, hw1, hs1⟩)
    all_goals
      obtain ⟨hsW, ke, kw⟩ := boxes (unhide K2) (unhide K1) (by first | exact .inl hs1 | exact .inr hs1)
      have w0 : w1.cell? ⟨W.heap.size, 0, none⟩ = some (.pointer (some ⟨b, 0, none⟩)) := kw.cell 0
      have HKE := hide ke
      have HKW := hide kw
      have HSW := hide hsW
      have HW1 := hide hw1
      clear hs1 hsW ke kw hw1
      go_wp2_with fail
      refine (brackets_pr (unhide HW1) 184 (entersW Tryz.func184 (by kernel_rfl) rfl) _ _ txt d ho hod hm hm2 (len3' (unhide HL)).2.1 (fun v' W' h' k' => agg1_pr h' _ x txt d ((unhide HA).below (((unhide H).down (unhide HSW)).trans ((unhide HW1).down k'))) ((unhide HP).from (((unhide H).down (unhide HSW)).trans ((unhide HW1).down k'))) (by omega) (by omega) (by omega) (by omega) (len3' (unhide HL)).2.2 ((unhide HKE).step k') ((unhide HKW).step k'))).mono ?_
      rintro e w2 ⟨rfl, v2, hw2, hs2⟩
      go_wp2
      go_end0
      exact ⟨rfl, v2, by simpa [List.append_assoc] using hw2, (unhide HSW).trans hs2⟩
set_option maxRecDepth 100000 in
theorem node_agg {B g c : Nat} {W0 : World} (op : Int) (nm : ByteArray) (hop : (op = 19 ∧ nm = ⟨#[67, 79, 85, 78, 84]⟩) ∨ (op = 20 ∧ nm = ⟨#[83, 85, 77]⟩)) (x : X) (txt : List UInt8) (d : Nat) (hA : Args B g x.cells W0) (hP : PrOK B W0 x txt d) :
    PrOK B W0 ⟨7, op, 0, 0, ⟨#[]⟩, some ⟨g, 0, none⟩, 1, c⟩ (nm.data.toList ++ ([40] ++ txt ++ [41])) (d + 1) := by
  intro b o m l v W hW h ho hod hm hm2 hl
  have HA := hide hA
  have HP := hide hP
  have H := hide h
  have HG := hide fun (W' : World) (v' : Value) (h : Wr B b o m l v' W') (hb : Below B W0 W') => hide (aggregate_pr (c := c) h op nm hop x txt d (hA.below hb) (hP.from hb) ho hod hm hm2 hl)
  clear h hA hP
  dsimp only [X.val]
  go_enter Tryz.func35, Tryz.ntmps35
  go_wp2_with fail
  refine (unhide ((unhide HG) _ _ (((unhide H).alloc _).alloc _) (hW.trans (((Below.refl B W).alloc (unhide H).hi _).alloc (by have := (unhide H).hi; simp; omega) _)))).mono ?_
  rintro e w1 ⟨rfl, v1, hw1, hs1⟩
  go_wp2
  go_end0
  exact ⟨rfl, v1, hw1, (((WS.refl b v W).alloc _).alloc _).trans hs1⟩
end Go.Proofs.YtddedijencleeaaGreatDoor

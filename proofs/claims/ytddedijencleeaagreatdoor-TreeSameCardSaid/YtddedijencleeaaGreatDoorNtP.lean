/- Statements that delete: whether they may be, their print, their depth. -/
import Derived.Test.YtddedijencleeaaGreatDoorNtI
import Derived.Test.YtddedijencleeaaGreatDoorNtG
import Derived.Test.YtddedijencleeaaGreatDoorNtB
set_option linter.all false
namespace Go.Proofs.YtddedijencleeaaGreatDoor
open Go.RowKit Go.Lib

theorem zero_no (x : X) (hk : (x.k == 0) = false) (W : World) : Calls Tryz.prog 161 #[x.val] W fun e W' => e = .returned (.bool false) ∧ Below W.heap.size W W' := by
  have HD := hide ((Below.refl W.heap.size W).alloc (Nat.le_refl _) (.cells x.cells.toArray 34))
  dsimp only [X.val]
  go_enter Tryz.func161, Tryz.ntmps161
  go_wp2_with fail
  go_ret
  exact ⟨rfl, unhide HD⟩
set_option maxRecDepth 100000 in
theorem maybe_ok {B : Nat} {W0 : World} (x : X) (hk : (x.k == 0) = false) (hX : IsOK B W0 x) (W : World) (hW : Below B W0 W) (hB : B ≤ W.heap.size) : Calls Tryz.prog 100 #[x.val] W fun e W' => e = .returned (.bool true) ∧ Below W.heap.size W W' := by
  have HD := hide ((Below.refl W.heap.size W).alloc (Nat.le_refl _) (.cells x.cells.toArray 34))
  have E := Box.new W x.cells
  have HZ := hide fun W' => hide (zero_no x hk W')
  have HI := hide fun W' (hb : Below B W W') (hB' : B ≤ W'.heap.size) => hide (hX W' (hW.trans hb) hB')
  clear hX
  dsimp only [X.val] at *
  go_enter Tryz.func100, Tryz.ntmps100
  go_wp2_with fail
  refine (unhide ((unhide HZ) _)).mono ?_
  rintro e w1 ⟨rfl, hb1⟩
  replace E := E.below hb1
  replace HD := hide (Below.andThen (unhide HD) hb1)
  clear hb1
  obtain ⟨a0, a1, a2, a3, a4, a5, a6, a7, a8, a9, fa⟩ := E.ten x
  go_wp2_with fail
  refine (unhide ((unhide HI) _ ((unhide HD).mono hB) (Nat.le_trans hB (unhide HD).size))).mono ?_
  rintro e w2 ⟨rfl, hb2⟩
  replace HD := hide (Below.andThen (unhide HD) hb2)
  clear hb2
  go_wp2
  go_ret
  exact ⟨rfl, unhide HD⟩
set_option maxHeartbeats 2000000 in
set_option maxRecDepth 100000 in
theorem check_del {B : Nat} {W0 : World} (hok : OkW W0) (hB : 0 < B) (x : X) (hk : (x.k == 0) = false) (hX : IsOK B W0 x) (W : World) (hW : Below B W0 W) (hBW : B ≤ W.heap.size) :
    Calls Tryz.prog 25 #[delV x] W fun e W' => e = .returned .nilIface ∧ Below W.heap.size W W' := by
  have HN := hide fun W' (hb : Below B W0 W') => hide (name_ok 116 (.inr (.inr rfl)) W' (hok.belowB hB hb))
  have HM := hide fun W' (hb : Below B W0 W') (hB' : B ≤ W'.heap.size) => hide (maybe_ok x hk hX W' hb hB')
  have HO := hide fun W' (hb : Below B W0 W') => hide (nothing_ok W' (hok.belowB hB hb))
  have HD := hide ((Below.refl W.heap.size W).alloc (Nat.le_refl _) (.cells (delC x).toArray 39))
  have E := hide (SB.new W (delC x) 39)
  clear hX
  dsimp only [X.val] at HM
  dsimp only [delV]
  go_enter Tryz.func25, Tryz.ntmps25
  go_upto_region 1 with fail
  generalize hD : W.alloc _ = D
  replace E : Hid (SB D W.heap.size (delC x)) := by rw [← hD]; exact E
  replace HD : Hid (Below W.heap.size W D) := by rw [← hD]; exact HD
  clear hD
  go_upto_region 2 with (first
    | (refine wpList_load_mid rfl 39 _ rfl _ _ rfl (delC x) _ (unhide E).at_ Tryz.underlying39 rfl WX.size41 ?_)
    | (refine wpList_store_mid rfl 39 _ _ rfl _ _ (delC x).toArray rfl rfl (SB.new D zeroS _).there WX.size41 (one_del x) ?_))
  have Y := hide ((SB.new D zeroS 39).put 0 (delC x) (Nat.le_refl 37))
  have E2 := hide (((unhide E).below ((Below.refl _ _).alloc (Nat.le_refl _) (.cells zeroS.toArray 39))).far (Nat.ne_of_gt (unhide E).lt) 0 (delC x))
  have HD2 := hide (Below.setCells (unhide HD).size (delC x) 0 _ ((unhide HD).alloc (unhide HD).size (.cells zeroS.toArray 39)))
  generalize hD : World.setCells _ _ _ _ = D2
  replace Y : Hid (SB D2 D.heap.size (delC x)) := by rw [← hD]; exact Y
  replace E2 : Hid (SB D2 W.heap.size (delC x)) := by rw [← hD]; exact E2
  replace HD2 : Hid (Below W.heap.size W D2) := by rw [← hD]; exact HD2
  have hgy : W.heap.size < D.heap.size := (unhide E).lt
  have hgy2 := (unhide HD).size
  clear hD HD E
  have y5 : D2.cell? ⟨D.heap.size, 5, none⟩ = some (.string ⟨#[116]⟩) := (unhide Y).cell 5 rfl
  have yf : D2.frozen? ⟨D.heap.size, 5, none⟩ = false := (unhide Y).free 5 (show 5 < 37 by decide)
  have e0 : D2.cell? ⟨W.heap.size, 0, none⟩ = some (.int .i64 7) := (unhide E2).cell 0 rfl
  go_upto_region 27 with (refine wpList_store_mid rfl 34 _ _ rfl _ 11 zeroX.toArray rfl rfl (World.there_setCells ((unhide Y).sub 11 10 (show 11 + 10 ≤ 37 by decide)) D.heap.size 5 [.string ⟨#[]⟩]) WX.size28 one_zero ?_)
  have Y3 : Hid (SB ((D2.setCells D.heap.size 5 [.string ⟨#[]⟩]).setCells D.heap.size 11 zeroX) D.heap.size delY) := hide (((unhide Y).put 5 [.string ⟨#[]⟩] (show 6 ≤ 37 by decide)).put 11 zeroX (show 21 ≤ 37 by decide))
  have E3 := hide (((unhide E2).far (Nat.ne_of_gt hgy) 5 [.string ⟨#[]⟩]).far (Nat.ne_of_gt hgy) 11 zeroX)
  have HD3 := hide (Below.setCells hgy2 zeroX 11 _ (Below.setCells hgy2 [.string ⟨#[]⟩] 5 _ (unhide HD2)))
  have hDD : (D2.setCell ⟨D.heap.size, 5, none⟩ (.string ⟨#[]⟩)).setCells D.heap.size 11 zeroX = (D2.setCells D.heap.size 5 [.string ⟨#[]⟩]).setCells D.heap.size 11 zeroX := rfl
  rw [hDD]
  generalize hD : World.setCells _ _ _ _ = D3
  replace Y3 : Hid (SB D3 D.heap.size delY) := by rw [← hD]; exact Y3
  replace E3 : Hid (SB D3 W.heap.size (delC x)) := by rw [← hD]; exact E3
  replace HD3 : Hid (Below W.heap.size W D3) := by rw [← hD]; exact HD3
  clear hD hDD HD2 E2 Y y5 yf e0
  have e5 : D3.cell? ⟨W.heap.size, 5, none⟩ = some (.string ⟨#[116]⟩) := (unhide E3).cell 5 rfl
  go_wp2_with fail
  refine (unhide ((unhide HN) _ (hW.trans ((unhide HD3).mono hBW)))).mono ?_
  rintro e w1 ⟨rfl, hb1⟩
  replace E3 := hide ((unhide E3).below hb1)
  replace Y3 := hide ((unhide Y3).below hb1)
  replace HD3 := hide (Below.andThen (unhide HD3) hb1)
  clear hb1 e5
  have e11 : w1.cell? ⟨W.heap.size, 11, none⟩ = some (.int .i64 x.k) := (unhide E3).cell 11 rfl
  have e12 : w1.cell? ⟨W.heap.size, 12, none⟩ = some (.int .i64 x.op) := (unhide E3).cell 12 rfl
  have e13 : w1.cell? ⟨W.heap.size, 13, none⟩ = some (.int .i64 x.vk) := (unhide E3).cell 13 rfl
  have e14 : w1.cell? ⟨W.heap.size, 14, none⟩ = some (.int .i64 x.vn) := (unhide E3).cell 14 rfl
  have e15 : w1.cell? ⟨W.heap.size, 15, none⟩ = some (.string ⟨#[]⟩) := (unhide E3).cell 15 rfl
  have e16 : w1.cell? ⟨W.heap.size, 16, none⟩ = some (.string ⟨#[]⟩) := (unhide E3).cell 16 rfl
  have e17 : w1.cell? ⟨W.heap.size, 17, none⟩ = some (.string x.nm) := (unhide E3).cell 17 rfl
  have e18 : w1.cell? ⟨W.heap.size, 18, none⟩ = some (.slice x.A x.n x.c) := (unhide E3).cell 18 rfl
  have e19 : w1.cell? ⟨W.heap.size, 19, none⟩ = some (.int .i64 0) := (unhide E3).cell 19 rfl
  have e20 : w1.cell? ⟨W.heap.size, 20, none⟩ = some (.int .i64 0) := (unhide E3).cell 20 rfl
  go_wp2_with fail
  refine (unhide ((unhide HM) _ (hW.trans ((unhide HD3).mono hBW)) (Nat.le_trans hBW (unhide HD3).size))).mono ?_
  rintro e w2 ⟨rfl, hb2⟩
  replace Y3 := hide ((unhide Y3).below hb2)
  replace HD3 := hide (Below.andThen (unhide HD3) hb2)
  clear hb2 e11 e12 e13 e14 e15 e16 e17 e18 e19 e20 E3
  go_wp2_with (refine wpList_load_mid rfl 39 _ rfl _ _ rfl delY _ (unhide Y3).at_ Tryz.underlying39 rfl WX.size41 ?_)
  refine (unhide ((unhide HO) _ (hW.trans ((unhide HD3).mono hBW)))).mono ?_
  rintro e w3 ⟨rfl, hb3⟩
  replace HD3 := hide (Below.andThen (unhide HD3) hb3)
  clear hb3
  go_wp2
  go_ret
  exact ⟨rfl, unhide HD3⟩
end Go.Proofs.YtddedijencleeaaGreatDoor

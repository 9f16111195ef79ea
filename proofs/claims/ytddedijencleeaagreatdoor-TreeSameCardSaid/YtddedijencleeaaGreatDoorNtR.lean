/- A statement that deletes: Is, Print, Depth. -/
import Derived.Test.YtddedijencleeaaGreatDoorNtQ
set_option linter.all false
namespace Go.Proofs.YtddedijencleeaaGreatDoor
open Go.RowKit Go.Lib

/-- What is known of a statement's condition. -/
structure XOK (B : Nat) (W0 : World) (x : X) (txt : List UInt8) (d : Nat) : Prop where
  k : (x.k == 0) = false
  is : IsOK B W0 x
  pr : PrOK B W0 x txt d
  ok : OkW W0
  g : 0 < B
theorem XOK.from {B : Nat} {W0 W : World} {x : X} {txt : List UInt8} {d : Nat} (h : XOK B W0 x txt d) (hb : Below B W0 W) : XOK B W x txt d := ⟨h.k, h.is.from hb, h.pr.from hb, h.ok.belowB h.g hb, h.g⟩
theorem Wr.up {B B' b : Nat} {o m : Int} {l : List UInt8} {v : Value} {w : World} (h : Wr B b o m l v w) (h1 : B' ≤ b) (h2 : B' ≤ w.heap.size) (h3 : ∀ g, v.ownBlock = some g → B' ≤ g) : Wr B' b o m l v w := by
  refine ⟨h1, h2, h.blk, h.own.1, ?_⟩
  rcases h.own.2 with q | ⟨g, cap, cur, hv, hb, q⟩
  · exact .inl q
  · exact .inr ⟨g, cap, cur, hv, h3 g (by rw [hv]; rfl), q⟩
theorem Wr.fresh {B : Nat} {W : World} (hB : B ≤ W.heap.size) : Wr B W.heap.size 0 0 [] (.slice none 0 0) (W.alloc (.cells #[.pointer none, .slice none 0 0, .int .i64 0, .int .i64 0] 76)) := by
  refine ⟨hB, by simp; omega, ⟨_, .inl rfl, ?_⟩, World.ownsRow_nil _ B _ 1⟩
  show (W.heap.push _)[W.heap.size]? = _
  simp

set_option maxHeartbeats 2000000 in
set_option maxRecDepth 100000 in
theorem is_del {B : Nat} {W0 : World} {x : X} {txt : List UInt8} {d : Nat} (hX : XOK B W0 x txt d) (W : World) (hW : Below B W0 W) (hBW : B ≤ W.heap.size) :
    Calls Tryz.prog 12 #[delV x] W fun e W' => e = .returned (.bool true) ∧ Below W.heap.size W W' := by
  have HD := hide ((Below.refl W.heap.size W).alloc (Nat.le_refl _) (.cells (delC x).toArray 39))
  have E := hide (SB.new W (delC x) 39)
  have HC := hide fun W' (hb : Below B W0 W') (hB' : B ≤ W'.heap.size) => hide (check_del hX.ok hX.g x hX.k hX.is W' hb hB')
  dsimp only [delV] at *
  go_enter Tryz.func12, Tryz.ntmps12
  go_upto_region 1 with fail
  generalize hD : W.alloc _ = D
  replace E : Hid (SB D W.heap.size (delC x)) := by rw [← hD]; exact E
  replace HD : Hid (Below W.heap.size W D) := by rw [← hD]; exact HD
  clear hD
  go_wp2_with (refine wpList_load_mid rfl 39 _ rfl _ _ rfl (delC x) _ (unhide E).at_ Tryz.underlying39 rfl WX.size41 ?_)
  refine (unhide ((unhide HC) _ (hW.trans ((unhide HD).mono hBW)) (Nat.le_trans hBW (unhide HD).size))).mono ?_
  rintro e w1 ⟨rfl, hb1⟩
  replace HD := hide (Below.andThen (unhide HD) hb1)
  clear hb1
  go_wp2
  go_ret
  exact ⟨rfl, unhide HD⟩

set_option maxHeartbeats 2000000 in
set_option maxRecDepth 100000 in
theorem print_del {B : Nat} {W0 : World} {x : X} {txt : List UInt8} {d : Nat} (hX : XOK B W0 x txt d) (hd : d ≤ 1000) (hl : (tDEL.data.toList ++ (tWHERE.data.toList ++ txt)).length ≤ 140737488355328) (W : World) (hW : Below B W0 W) (hBW : B ≤ W.heap.size) :
    Calls Tryz.prog 8 #[delV x] W fun e W' => e = .returned (.tuple #[.string ⟨(tDEL.data.toList ++ (tWHERE.data.toList ++ txt)).toArray⟩, .nilIface]) ∧ Below W.heap.size W W' := by
  have HD := hide ((Below.refl W.heap.size W).alloc (Nat.le_refl _) (.cells (delC x).toArray 39))
  have E := hide (SB.new W (delC x) 39)
  have HC := hide fun W' (hb : Below B W0 W') (hB' : B ≤ W'.heap.size) => hide (check_del hX.ok hX.g x hX.k hX.is W' hb hB')
  have HP := hide fun W' (hb : Below B W0 W') b v (h : Wr B b 0 0 [] v W') => hide (stmt_del h x hX.k txt d (hX.pr.from hb) hd hl)
  dsimp only [delV] at *
  go_enter Tryz.func8, Tryz.ntmps8
  go_upto_region 1 with fail
  generalize hD : W.alloc _ = D
  replace E : Hid (SB D W.heap.size (delC x)) := by rw [← hD]; exact E
  replace HD : Hid (Below W.heap.size W D) := by rw [← hD]; exact HD
  clear hD
  go_wp2_with (refine wpList_load_mid rfl 39 _ rfl _ _ rfl (delC x) _ (unhide E).at_ Tryz.underlying39 rfl WX.size41 ?_)
  refine (unhide ((unhide HC) _ (hW.trans ((unhide HD).mono hBW)) (Nat.le_trans hBW (unhide HD).size))).mono ?_
  rintro e w1 ⟨rfl, hb1⟩
  have E1 := hide ((unhide E).below hb1)
  have HD1 := hide (Below.andThen (unhide HD) hb1)
  clear hb1 E HD HC
  have E2 := hide ((unhide E1).below ((Below.refl _ _).alloc (Nat.le_refl _) (.cells #[.pointer none, .slice none 0 0, .int .i64 0, .int .i64 0] 76)))
  go_upto_region 5 with (refine wpList_load_mid rfl 39 _ rfl _ _ rfl (delC x) _ (unhide E1).at_ Tryz.underlying39 rfl WX.size41 ?_)
  have HWr := hide (Wr.fresh (B := B) (W := w1) (Nat.le_trans hBW (unhide HD1).size))
  have HD2 := hide ((unhide HD1).alloc (unhide HD1).size (.cells #[.pointer none, .slice none 0 0, .int .i64 0, .int .i64 0] 76))
  have hbw := (unhide HD1).size
  generalize hD : w1.alloc _ = D
  replace E2 : Hid (SB D W.heap.size (delC x)) := by rw [← hD]; exact E2
  replace HWr : Hid (Wr B w1.heap.size 0 0 [] (.slice none 0 0) D) := by rw [← hD]; exact HWr
  replace HD2 : Hid (Below W.heap.size W D) := by rw [← hD]; exact HD2
  clear hD
  go_wp2_with (refine wpList_load_mid rfl 39 _ rfl _ _ rfl (delC x) _ (unhide E2).at_ Tryz.underlying39 rfl WX.size41 ?_)
  refine (unhide ((unhide HP) _ (hW.trans ((unhide HD2).mono hBW)) _ _ (unhide HWr))).mono ?_
  rintro e w2 ⟨rfl, v2, hw2, hs2⟩
  have HS := hide (builderString (hw2.up (B' := W.heap.size) hbw (Nat.le_trans (unhide HD2).size hs2.size) (fun g hg => by
    rcases hs2.own g hg with q | q
    · cases q
    · exact Nat.le_trans (unhide HD2).size q)) (by simp [tDEL]))
  have HD3 := hide ((unhide HD2).trans (hs2.below (B := W.heap.size) hbw (fun g hg => by cases hg) (unhide HD2).size))
  clear hw2 hs2 E1 E2 HD1 HP HWr
  go_wp2_with fail
  refine (unhide HS).mono ?_
  rintro e w3 ⟨rfl, hb3⟩
  replace HD3 := hide ((unhide HD3).trans hb3)
  clear hb3
  go_wp2
  go_ret2
  exact ⟨rfl, unhide HD3⟩

set_option maxHeartbeats 2000000 in
set_option maxRecDepth 100000 in
theorem depth_del {B : Nat} {W0 : World} {x : X} {txt : List UInt8} {d : Nat} (hX : XOK B W0 x txt d) (hd : d ≤ 1000) (hl : (tDEL.data.toList ++ (tWHERE.data.toList ++ txt)).length ≤ 140737488355328) (W : World) (hW : Below B W0 W) (hBW : B ≤ W.heap.size) :
    Calls Tryz.prog 17 #[delV x] W fun e W' => e = .returned (.int .i64 d) ∧ Below W.heap.size W W' := by
  have HD := hide ((Below.refl W.heap.size W).alloc (Nat.le_refl _) (.cells (delC x).toArray 39))
  have E := hide (SB.new W (delC x) 39)
  have HC := hide fun W' (hb : Below B W0 W') (hB' : B ≤ W'.heap.size) => hide (is_del hX W' hb hB')
  have HP := hide fun W' (hb : Below B W0 W') b v (h : Wr B b 0 0 [] v W') => hide (stmt_del h x hX.k txt d (hX.pr.from hb) hd hl)
  have htop : top 0 0 d = (d : Int) := by cases d <;> simp only [top] <;> omega
  rw [htop] at HP
  dsimp only [delV] at *
  go_enter Tryz.func17, Tryz.ntmps17
  go_upto_region 1 with fail
  generalize hD : W.alloc _ = D
  replace E : Hid (SB D W.heap.size (delC x)) := by rw [← hD]; exact E
  replace HD : Hid (Below W.heap.size W D) := by rw [← hD]; exact HD
  clear hD
  go_wp2_with (refine wpList_load_mid rfl 39 _ rfl _ _ rfl (delC x) _ (unhide E).at_ Tryz.underlying39 rfl WX.size41 ?_)
  refine (unhide ((unhide HC) _ (hW.trans ((unhide HD).mono hBW)) (Nat.le_trans hBW (unhide HD).size))).mono ?_
  rintro e w1 ⟨rfl, hb1⟩
  have E1 := hide ((unhide E).below hb1)
  have HD1 := hide (Below.andThen (unhide HD) hb1)
  clear hb1 E HD HC
  have E2 := hide ((unhide E1).below ((Below.refl _ _).alloc (Nat.le_refl _) (.cells #[.pointer none, .slice none 0 0, .int .i64 0, .int .i64 0] 76)))
  go_upto_region 4 with (refine wpList_load_mid rfl 39 _ rfl _ _ rfl (delC x) _ (unhide E1).at_ Tryz.underlying39 rfl WX.size41 ?_)
  have HWr := hide (Wr.fresh (B := B) (W := w1) (Nat.le_trans hBW (unhide HD1).size))
  have HD2 := hide ((unhide HD1).alloc (unhide HD1).size (.cells #[.pointer none, .slice none 0 0, .int .i64 0, .int .i64 0] 76))
  have hbw := (unhide HD1).size
  generalize hD : w1.alloc _ = D
  replace E2 : Hid (SB D W.heap.size (delC x)) := by rw [← hD]; exact E2
  replace HWr : Hid (Wr B w1.heap.size 0 0 [] (.slice none 0 0) D) := by rw [← hD]; exact HWr
  replace HD2 : Hid (Below W.heap.size W D) := by rw [← hD]; exact HD2
  clear hD
  go_wp2_with (refine wpList_load_mid rfl 39 _ rfl _ _ rfl (delC x) _ (unhide E2).at_ Tryz.underlying39 rfl WX.size41 ?_)
  refine (unhide ((unhide HP) _ (hW.trans ((unhide HD2).mono hBW)) _ _ (unhide HWr))).mono ?_
  rintro e w2 ⟨rfl, v2, hw2, hs2⟩
  obtain ⟨c1, c2, c3, fc⟩ := hw2.cells
  have HD3 := hide ((unhide HD2).trans (hs2.below (B := W.heap.size) hbw (fun g hg => by cases hg) (unhide HD2).size))
  clear hw2 hs2 E1 E2 HD1 HP HWr
  go_wp2
  go_ret
  exact ⟨rfl, unhide HD3⟩
end Go.Proofs.YtddedijencleeaaGreatDoor

/- consistorylaw9.known yields true. -/
import Derived.Test.YtddedijencleeaaGreatDoorNtK
set_option linter.all false
namespace Go.Proofs.YtddedijencleeaaGreatDoor
open Go.RowKit Go.Lib

set_option maxHeartbeats 2000000 in
set_option maxRecDepth 100000 in
theorem known9 (W : World) (hok : OkW W) (hg : 0 < W.heap.size) : Calls Tryz.prog 5 #[] W fun e W' => e = .returned (.bool true) ∧ Below W.heap.size W W' := by
  have HD := hide (((Below.refl W.heap.size W).alloc (Nat.le_refl _) (.cells (X.cells ⟨1, 0, 2, 1, ⟨#[]⟩, none, 0, 0⟩).toArray 34)).alloc (by simp) (.cells (X.cells ⟨3, 1, 0, 0, ⟨#[]⟩, some ⟨W.heap.size, 0, none⟩, 1, 1⟩).toArray 34))
  have HE := hide (expr_neg (g := W.heap.size) _ (hok.belowB hg (unhide HD)) (by simp <;> omega) ⟨by simp; omega, ((Below.refl _ _).alloc (Nat.le_refl _) (.cells (X.cells ⟨3, 1, 0, 0, ⟨#[]⟩, some ⟨W.heap.size, 0, none⟩, 1, 1⟩).toArray 34)).block W.heap.size (by simp) |>.trans (Box.new W (X.cells ⟨1, 0, 2, 1, ⟨#[]⟩, none, 0, 0⟩))⟩)
  have HP := hide fun W' (hb : Below W.heap.size W W') => hide (print_drop W' (hok.belowB hg hb) (by have := hb.size; omega))
  have HB := hide fun W' (hb : Below W.heap.size W W') => hide (print_bad W' (hok.belowB hg hb))
  have HC := hide fun v W' (hb : Below W.heap.size W W') (hE : ErrV W' 100 v 20) => hide (Class_err 100 v 20 W' (hok.belowB hg hb) hE)
  dsimp only [stV, X.val] at *
  go_enter Tryz.func5, Tryz.ntmps5
  go_wp2_with fail
  refine (unhide HE).mono ?_
  rintro e w1 ⟨rfl, hb1⟩
  replace HD := hide (Below.andThen (unhide HD) hb1)
  clear hb1 HE
  go_wp2_with fail
  refine (unhide ((unhide HP) _ (unhide HD))).mono ?_
  rintro e w2 ⟨rfl, hb2⟩
  replace HD := hide (Below.andThen (unhide HD) hb2)
  clear hb2 HP
  go_wp2_with fail
  refine (unhide ((unhide HB) _ (unhide HD))).mono ?_
  rintro e w3 ⟨v3, rfl, hE3, hb3⟩
  replace HD := hide (Below.andThen (unhide HD) hb3)
  replace HC := hide (unhide ((unhide HC) v3 _ (unhide HD) hE3))
  clear hb3 HB hE3
  go_wp2_with fail
  refine (unhide HC).mono ?_
  rintro e w4 ⟨rfl, hb4⟩
  replace HD := hide (Below.andThen (unhide HD) hb4)
  clear hb4 HC
  go_wp2
  go_ret
  exact ⟨rfl, unhide HD⟩
end Go.Proofs.YtddedijencleeaaGreatDoor

/- tree.Same's closures: contracts. -/
import Derived.Test.YtddedijencleeaaGreatDoorGc
set_option linter.all false
namespace Go.Proofs.YtddedijencleeaaGreatDoor
open Go.RowKit Go.Lib

set_option maxRecDepth 100000 in
theorem same_Es (a b : Es) (v u : Value) (W : World) (hv : EsIn W a.n a.f v) (hu : EsIn W b.n b.f u) :
    Calls Tryz.prog 82 #[v, u] W fun r W' => r = .returned (.bool (sameEs sameE a b)) ∧ Below W.heap.size W W' := by
  have HC := hide (equalF_Expr (W := W) (q := fun i => sameE (a.f i) (b.f i)) (entersG Tryz.func84 (by kernel_rfl) rfl) hv hu
      (fun W2 hb2 i cs ds _ _ h h' => sameExpr (a.f i) (b.f i) cs ds W2 (EIn.sub (.below hb2) h) (EIn.sub (.below hb2) h')))
  obtain ⟨A, c, rfl, _⟩ := hv
  obtain ⟨A', c', rfl, _⟩ := hu
  go_enter Tryz.func82, Tryz.ntmps82
  go_wp2_with fail
  refine (unhide HC).mono ?_
  rintro e w1 ⟨rfl, hb1⟩
  go_wp2
  go_ret
  exact ⟨rfl, hb1⟩
set_option maxHeartbeats 1000000 in
set_option maxRecDepth 100000 in
theorem same_St (a b : St) (cs ds : List Value) (W : World) (ha : StIn W a cs) (hb : StIn W b ds) :
    Calls Tryz.prog 86 #[.agg cs.toArray, .agg ds.toArray] W fun r W' => r = .returned (.bool (sameSt sameE a b)) ∧ Below W.heap.size W W' := by
  obtain ⟨_, es, rfl, he⟩ := ha
  obtain ⟨_, es', rfl, he'⟩ := hb
  have HB : ∀ o o', Hid (Below W.heap.size W ((W.alloc o).alloc o')) := fun o o' => hide (((Below.refl _ _).alloc (Nat.le_refl _) o).alloc (by simp) o')
  have HC := hide fun W' (hb : Below W.heap.size W W') => hide (sameExpr a.e b.e _ _ W' (EIn.sub (.below hb) he) (EIn.sub (.below hb) he'))
  obtain ⟨k, op, vk, vn, vt, tb, nm, A, n, c, pl, ty, rfl⟩ := he.form
  obtain ⟨k', op', vk', vn', vt', tb', nm', A', n', c', pl', ty', rfl⟩ := he'.form
  clear he he'
  dsimp only [sameSt, strB]
  generalize sameE a.e b.e = z at HC ⊢
  generalize h0 : (a.nm.toList == b.nm.toList) = b0
  cases b0
  · go_enter Tryz.func86, Tryz.ntmps86
    go_wp2_with fail
    go_ret
    exact ⟨by simp, unhide (HB _ _)⟩
  go_enter Tryz.func86, Tryz.ntmps86
  go_wp2_with fail
  refine (unhide ((unhide HC) _ (unhide (HB _ _)))).mono ?_
  rintro e w1 ⟨rfl, hb1⟩
  have HW := hide (Below.andThen (unhide (HB _ _)) hb1)
  clear hb1
  go_wp2
  go_ret
  exact ⟨by simp, unhide HW⟩
set_option maxHeartbeats 1000000 in
set_option maxRecDepth 100000 in
theorem same_It (a b : It) (cs ds : List Value) (W : World) (ha : ItIn W a cs) (hb : ItIn W b ds) :
    Calls Tryz.prog 88 #[.agg cs.toArray, .agg ds.toArray] W fun r W' => r = .returned (.bool (sameIt sameE a b)) ∧ Below W.heap.size W W' := by
  obtain ⟨_, es, rfl, he⟩ := ha
  obtain ⟨_, es', rfl, he'⟩ := hb
  have HB : ∀ o o', Hid (Below W.heap.size W ((W.alloc o).alloc o')) := fun o o' => hide (((Below.refl _ _).alloc (Nat.le_refl _) o).alloc (by simp) o')
  have HC := hide fun W' (hb : Below W.heap.size W W') => hide (sameExpr a.e b.e _ _ W' (EIn.sub (.below hb) he) (EIn.sub (.below hb) he'))
  obtain ⟨k, op, vk, vn, vt, tb, nm, A, n, c, pl, ty, rfl⟩ := he.form
  obtain ⟨k', op', vk', vn', vt', tb', nm', A', n', c', pl', ty', rfl⟩ := he'.form
  clear he he'
  dsimp only [sameIt, strB]
  generalize sameE a.e b.e = z at HC ⊢
  generalize h0 : (a.star == b.star) = b0
  generalize h1 : (a.nm.toList == b.nm.toList) = b1
  cases b0
  · go_enter Tryz.func88, Tryz.ntmps88
    go_wp2_with fail
    go_ret
    exact ⟨by simp, unhide (HB _ _)⟩
  cases b1
  · go_enter Tryz.func88, Tryz.ntmps88
    go_wp2_with fail
    go_ret
    exact ⟨by simp, unhide (HB _ _)⟩
  go_enter Tryz.func88, Tryz.ntmps88
  go_wp2_with fail
  refine (unhide ((unhide HC) _ (unhide (HB _ _)))).mono ?_
  rintro e w1 ⟨rfl, hb1⟩
  have HW := hide (Below.andThen (unhide (HB _ _)) hb1)
  clear hb1
  go_wp2
  go_ret
  exact ⟨by simp, unhide HW⟩
set_option maxHeartbeats 1000000 in
set_option maxRecDepth 100000 in
theorem same_So (a b : So) (cs ds : List Value) (W : World) (ha : SoIn W a cs) (hb : SoIn W b ds) :
    Calls Tryz.prog 90 #[.agg cs.toArray, .agg ds.toArray] W fun r W' => r = .returned (.bool (sameSo sameE a b)) ∧ Below W.heap.size W W' := by
  obtain ⟨_, _, es, rfl, he⟩ := ha
  obtain ⟨_, _, es', rfl, he'⟩ := hb
  have HB : ∀ o o', Hid (Below W.heap.size W ((W.alloc o).alloc o')) := fun o o' => hide (((Below.refl _ _).alloc (Nat.le_refl _) o).alloc (by simp) o')
  have HC := hide fun W' (hb : Below W.heap.size W W') => hide (sameExpr a.e b.e _ _ W' (EIn.sub (.below hb) he) (EIn.sub (.below hb) he'))
  obtain ⟨k, op, vk, vn, vt, tb, nm, A, n, c, pl, ty, rfl⟩ := he.form
  obtain ⟨k', op', vk', vn', vt', tb', nm', A', n', c', pl', ty', rfl⟩ := he'.form
  clear he he'
  dsimp only [sameSo, strB]
  generalize sameE a.e b.e = z at HC ⊢
  generalize h0 : (a.nm.toList == b.nm.toList) = b0
  generalize h1 : (a.al.toList == b.al.toList) = b1
  generalize h2 : (a.left == b.left) = b2
  cases b0
  · go_enter Tryz.func90, Tryz.ntmps90
    go_wp2_with fail
    go_ret
    exact ⟨by simp, unhide (HB _ _)⟩
  cases b1
  · go_enter Tryz.func90, Tryz.ntmps90
    go_wp2_with fail
    go_ret
    exact ⟨by simp, unhide (HB _ _)⟩
  cases b2
  · go_enter Tryz.func90, Tryz.ntmps90
    go_wp2_with fail
    go_ret
    exact ⟨by simp, unhide (HB _ _)⟩
  go_enter Tryz.func90, Tryz.ntmps90
  go_wp2_with fail
  refine (unhide ((unhide HC) _ (unhide (HB _ _)))).mono ?_
  rintro e w1 ⟨rfl, hb1⟩
  have HW := hide (Below.andThen (unhide (HB _ _)) hb1)
  clear hb1
  go_wp2
  go_ret
  exact ⟨by simp, unhide HW⟩
set_option maxHeartbeats 1000000 in
set_option maxRecDepth 100000 in
theorem same_Od (a b : Od) (cs ds : List Value) (W : World) (ha : OdIn W a cs) (hb : OdIn W b ds) :
    Calls Tryz.prog 92 #[.agg cs.toArray, .agg ds.toArray] W fun r W' => r = .returned (.bool (sameOd sameE a b)) ∧ Below W.heap.size W W' := by
  obtain ⟨es, rfl, he⟩ := ha
  obtain ⟨es', rfl, he'⟩ := hb
  have HB : ∀ o o', Hid (Below W.heap.size W ((W.alloc o).alloc o')) := fun o o' => hide (((Below.refl _ _).alloc (Nat.le_refl _) o).alloc (by simp) o')
  have HC := hide fun W' (hb : Below W.heap.size W W') => hide (sameExpr a.e b.e _ _ W' (EIn.sub (.below hb) he) (EIn.sub (.below hb) he'))
  obtain ⟨k, op, vk, vn, vt, tb, nm, A, n, c, pl, ty, rfl⟩ := he.form
  obtain ⟨k', op', vk', vn', vt', tb', nm', A', n', c', pl', ty', rfl⟩ := he'.form
  clear he he'
  dsimp only [sameOd]
  generalize sameE a.e b.e = z at HC ⊢
  generalize h0 : (a.desc == b.desc) = b0
  cases b0
  · go_enter Tryz.func92, Tryz.ntmps92
    go_wp2_with fail
    go_ret
    exact ⟨by simp, unhide (HB _ _)⟩
  go_enter Tryz.func92, Tryz.ntmps92
  go_wp2_with fail
  refine (unhide ((unhide HC) _ (unhide (HB _ _)))).mono ?_
  rintro e w1 ⟨rfl, hb1⟩
  have HW := hide (Below.andThen (unhide (HB _ _)) hb1)
  clear hb1
  go_wp2
  go_ret
  exact ⟨by simp, unhide HW⟩
end Go.Proofs.YtddedijencleeaaGreatDoor

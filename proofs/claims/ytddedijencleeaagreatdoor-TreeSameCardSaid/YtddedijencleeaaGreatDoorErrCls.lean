/- errors.Is at an api.Class, consistoryhelp.Class: contracts. -/
import Derived.Test.YtddedijencleeaaGreatDoorErrAs
namespace Go.Proofs.YtddedijencleeaaGreatDoor
open Go.RowKit Go.Extern.Stop Go.Stop Go.Extern

set_option maxRecDepth 100000 in
set_option maxHeartbeats 1000000 in
theorem Is_class (d : Nat) (v : Value) (n m : Int) (W : World) (hE : ErrV W d v n) :
    Calls Tryz.prog 52 #[v, .iface 93 (.int .i64 m)] W fun e w' => e = .returned (.bool (n == m)) ∧ W = w' := by
  have hto := @run_callFunc_extern Tryz.prog 144 _ ReflectliteType.typeOf Tryz.func144 (by kernel_rfl) (by kernel_rfl) (by kernel_rfl) (by kernel_rfl)
  have hco := @run_callFunc_extern Tryz.prog 279 _ (ReflectliteType.method fun t => do Rtype.noPackHeld "Comparable" t; pure (.bool (← typeInfo t).comparable)) Tryz.func279 (by kernel_rfl) (by kernel_rfl) (by kernel_rfl) (by kernel_rfl)
  have f1 := EF.typeOfC
  have f2 := EF.methodComp
  have f3 := EF.compC'
  have HU := hide (is_any d v n m W hE)
  obtain ⟨T, x, rfl⟩ := hE.iface
  have q1 := fun w => run_eql_iface_nil_left (P := Tryz.prog) w T x Tryz.underlying44
  go_enter Tryz.func52, Tryz.ntmps52
  go_wp2_with (go_at_call 145; refine (unhide HU).mono ?_; rintro e w' ⟨rfl, rfl⟩)
  go_ret
  exact ⟨rfl, rfl⟩

theorem Class_nil (w : World) : Calls Tryz.prog 16 #[.nilIface] w fun e w' => e = .returned (.int .i64 0) ∧ w = w' := by
  go_enter Tryz.func16, Tryz.ntmps16
  go_wp2
  go_ret
  exact ⟨rfl, rfl⟩

set_option maxRecDepth 100000 in
set_option maxHeartbeats 1000000 in
theorem Class_err (d : Nat) (v : Value) (n : Int) (w : World) (hg : OkW w) (hE : ErrV w d v n) :
    Calls Tryz.prog 16 #[v] w fun e w' => e = .returned (.int .i64 n) ∧ Below w.heap.size w w' := by
  have hb0 : ∀ o, Below w.heap.size w (w.alloc o) := fun o => (Below.refl _ _).alloc (Nat.le_refl _) o
  have HA := fun o => hide (As_class d v n ⟨w.heap.size, 0, none⟩ (.int .i64 0) (w.alloc (.cells #[.int .i64 0] o)) (hg.alloc _) (hE.below (hb0 _)) (by simp) (by simp))
  have HI := fun W' (hb : Below w.heap.size w W') => hide (Is_class d v n n W' (hE.below hb))
  have hbg : ∀ o w', (w.alloc o).grownBy w' (some w.heap.size) → Below w.heap.size w w' := fun o w' h => (hb0 o).grown h (hb0 o).size (fun k hk => by injection hk; omega)
  have hnn : (n == n) = true := by simp
  obtain ⟨T, x, rfl⟩ := hE.iface
  clear hE hg
  go_enter Tryz.func16, Tryz.ntmps16
  go_wp2_with (go_at_call 51; refine (unhide (HA _)).mono ?_; rintro e w1 ⟨rfl, hgr, hc⟩)
  have hB := hbg _ _ hgr
  refine (unhide (HI w1 hB)).mono ?_
  rintro e w' ⟨rfl, rfl⟩
  go_wp2
  go_ret
  exact ⟨rfl, hB⟩
end Go.Proofs.YtddedijencleeaaGreatDoor

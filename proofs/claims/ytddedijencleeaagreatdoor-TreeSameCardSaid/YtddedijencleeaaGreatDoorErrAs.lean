/- errors.As at a *api.Class, errors.Is at an api.Class, consistoryhelp.Class: contracts. -/
import Derived.Test.YtddedijencleeaaGreatDoorErr
namespace Go.Proofs.YtddedijencleeaaGreatDoor
open Go.RowKit Go.Extern.Stop Go.Stop Go.Extern

/-- The one package-level variable that is read: errors.errorType. -/
def OkW (W : World) : Prop := W.cell? ⟨0, 0, none⟩ = some (.iface 218 (.agg #[.pointer (some ⟨7, 44, none⟩)]))
theorem OkW.below {W W' : World} (h : OkW W) (hb : Below W.heap.size W W') : OkW W' := (hb.cell (p := ⟨_, 0, none⟩) (lt_of_cell h)).trans h
theorem OkW.alloc {W : World} (h : OkW W) (o : Obj) : OkW (W.alloc o) := h.below ((Below.refl _ _).alloc (Nat.le_refl _) o)
theorem OkW.drew {W : World} (h : OkW W) : OkW W.drew := h
theorem OkW.drewN {W : World} (h : OkW W) (n : Nat) : OkW (W.drewN n) := h

theorem ErrV.below {W W' : World} {d : Nat} {v : Value} {n : Int} (h : ErrV W d v n) (hb : Below W.heap.size W W') : ErrV W' d v n := by
  induction d generalizing v with
  | zero => exact h
  | succ d ih =>
    rcases h with rfl | ⟨e, ⟨b, s, fr, hk, rfl⟩, he⟩
    · exact .inl rfl
    · exact .inr ⟨e, ⟨b, s, fr, (hb.block b (lt_of_heap hk)).trans hk, rfl⟩, ih he⟩

set_option maxRecDepth 100000 in
set_option maxHeartbeats 1000000 in
theorem As_class (d : Nat) (v : Value) (n : Int) (t : Addr) (old : Value) (W : World) (hg : OkW W) (hE : ErrV W d v n) (ht : W.cell? t = some old) (hf : W.frozen? t = false) :
    Calls Tryz.prog 51 #[v, .iface 95 (.pointer (some t))] W fun e w' => e = .returned (.bool true) ∧ W.grownBy w' (some t.block) ∧ w'.cell? t = some (.int .i64 n) := by
  have hvo := @run_callFunc_extern Tryz.prog 140 _ (fun args => ReflectliteValue.unpack (args.getD 0 (.tuple #[]))) Tryz.func140 (by kernel_rfl) (by kernel_rfl) (by kernel_rfl) (by kernel_rfl)
  have hty := @run_callFunc_extern Tryz.prog 141 _ (ReflectliteValue.methodAny (ReflectliteValue.valueError "reflectlite.Value.Type" 0) (fun t _ _ _ => ReflectliteType.toType t)) Tryz.func141 (by kernel_rfl) (by kernel_rfl) (by kernel_rfl) (by kernel_rfl)
  have hni := @run_callFunc_extern Tryz.prog 142 _ (ReflectliteValue.method (ReflectliteValue.valueError "reflectlite.Value.IsNil" 0) ReflectliteValue.isNil) Tryz.func142 (by kernel_rfl) (by kernel_rfl) (by kernel_rfl) (by kernel_rfl)
  have hki := @run_callFunc_extern Tryz.prog 267 _ (ReflectliteType.abiMethod fun t => do pure (.int .u8 (← Rtype.kind t))) Tryz.func267 (by kernel_rfl) (by kernel_rfl) (by kernel_rfl) (by kernel_rfl)
  have hel := @run_callFunc_extern Tryz.prog 280 _ (ReflectliteType.method ReflectliteType.elem) Tryz.func280 (by kernel_rfl) (by kernel_rfl) (by kernel_rfl) (by kernel_rfl)
  have him := @run_callFunc_extern Tryz.prog 281 _ (ReflectliteType.relation "Implements" ReflectliteType.implements_) Tryz.func281 (by kernel_rfl) (by kernel_rfl) (by kernel_rfl) (by kernel_rfl)
  obtain ⟨T, x, rfl⟩ := hE.iface
  have f1 := EF.valueOfT
  have f2 := EF.typeT
  have f3 := EF.method_
  have f4 := EF.kindT
  have f5 := EF.kindE
  have f6 := EF.methodElem
  have f7 := EF.methodImpl
  have f8 := EF.elemT
  have f9 := EF.implE
  have f10 := fun o => EF.isNilT ⟨W.heap.size, 0, none⟩ t ((W.alloc (.cells #[.pointer (some t)] 95)).alloc o) (by simp)
  have hg2 := fun o => (hg.alloc (.cells #[.pointer (some t)] 95)).alloc o
  unfold OkW at hg2
  have hu : ∀ o, Calls Tryz.prog 143 #[.iface T x, .iface 95 (.pointer (some t)), .agg #[.pointer (some ⟨7, 95, none⟩), .pointer (some ⟨W.heap.size, 0, none⟩), .int .u64 150], .iface 218 (.agg #[.pointer (some ⟨7, 93, none⟩)])] ((W.alloc (.cells #[.pointer (some t)] 95)).alloc o) fun e w' => e = .returned (.bool true) ∧ W.grownBy w' (some t.block) ∧ w'.cell? t = some (.int .i64 n) := by
    intro o
    have hlt := lt_of_cell ht
    have hb0 : Below W.heap.size W ((W.alloc (.cells #[.pointer (some t)] 95)).alloc o) := ((Below.refl _ _).alloc (Nat.le_refl _) _).alloc (by simp) _
    refine (as_any d _ n t ⟨W.heap.size, 0, none⟩ old _ (hE.below hb0) (by simp) ((hb0.cell hlt).trans ht) ((hb0.frozen hlt).trans hf)).mono ?_
    rintro e w' ⟨he, h1, h2⟩
    refine ⟨he, ⟨h1.os.trans hb0.os, h1.tape.trans hb0.tape, h1.output.trans hb0.output, Nat.le_trans hb0.size h1.size, fun i hi hne => (h1.block i (Nat.lt_of_lt_of_le hi hb0.size) hne).trans (hb0.block i hi)⟩, h2⟩
  have HU := hide hu
  clear hu
  go_enter Tryz.func51, Tryz.ntmps51
  go_wp2_with (go_at_call 143; refine ((unhide HU) _).mono ?_; rintro e w' ⟨rfl, hgr, hc⟩)
  go_ret
  exact ⟨rfl, hgr, hc⟩

namespace EF
theorem isC (v : Value) (xT : TypeId) (w : World) : (Instr.typeAssert (.iface 93 v) xT 229 true).run Tryz.prog w = .ok (.tuple #[.nilIface, .bool false]) w := run_typeAssert_lacksB Tryz.underlying229 (by kernel_rfl) (by kernel_rfl) v xT w
theorem isW (v : Value) (xT : TypeId) (w : World) : (Instr.typeAssert (.iface 156 v) xT 229 true).run Tryz.prog w = .ok (.tuple #[.nilIface, .bool false]) w := run_typeAssert_lacksB Tryz.underlying229 (by kernel_rfl) (by kernel_rfl) v xT w
theorem noUnwrapC (v : Value) (xT : TypeId) (w : World) : (Instr.typeAssert (.iface 93 v) xT 225 true).run Tryz.prog w = .ok (.tuple #[.nilIface, .bool false]) w := run_typeAssert_lacksB Tryz.underlying225 (by kernel_rfl) (by kernel_rfl) v xT w
theorem noUnwrapsC (v : Value) (xT : TypeId) (w : World) : (Instr.typeAssert (.iface 93 v) xT 226 true).run Tryz.prog w = .ok (.tuple #[.nilIface, .bool false]) w := run_typeAssert_lacksB Tryz.underlying226 (by kernel_rfl) (by kernel_rfl) v xT w
theorem compC (w : World) : (ReflectliteType.method (fun t => do Rtype.noPackHeld "Comparable" t; pure (.bool (← typeInfo t).comparable)) #[.agg #[.pointer (some ⟨7, 93, none⟩)]]).run Tryz.prog w = .ok (.bool true) w := by kernel_rfl
theorem compC' (w : World) : (ReflectliteType.method (fun t => do Rtype.noPackHeld "Comparable" t; (fun a => Value.bool a.comparable) <$> typeInfo t) #[.agg #[.pointer (some ⟨7, 93, none⟩)]]).run Tryz.prog w = .ok (.bool true) w := by kernel_rfl
theorem infoC : (Tryz.prog.info? 93).map (·.comparable) = some true := by kernel_rfl
end EF

set_option maxRecDepth 100000 in
set_option maxHeartbeats 1000000 in
theorem is_any (d : Nat) (v : Value) (n m : Int) (W : World) (hE : ErrV W d v n) :
    Calls Tryz.prog 145 #[v, .iface 93 (.int .i64 m), .bool true] W fun e w' => e = .returned (.bool (n == m)) ∧ W = w' := by
  obtain ⟨i, hi, hcmp⟩ := Option.map_eq_some_iff.1 EF.infoC
  have q1 := fun w => run_eql_iface_int (P := Tryz.prog) w n m Tryz.underlying44 Tryz.underlying93 hi hcmp
  have q2 := fun x w => run_eql_iface_types (P := Tryz.prog) 156 93 x (.int .i64 m) Tryz.underlying44 (by decide) w
  clear hi hcmp
  have f1 := EF.isC
  have f2 := EF.isW
  have f3 := EF.noUnwrapC
  have f4 := EF.noUnwrapsC
  have f8 := EF.unwrapsW
  have f9 := EF.methodUnwrapW
  have f10 := EF.nilUnwrapW
  go_enter Tryz.func145, Tryz.ntmps145
  go_wp2
  go_loopg [0] d (fun k u wr => wr = W ∧ ErrV W k u n)
  case atStart => exact ⟨rfl, hE⟩
  case round =>
    obtain ⟨rfl, hr⟩ := hrel
    have hcl : (n == m) = true ∨ (n == m) = false := by cases (n == m) <;> simp
    rcases gk with _ | gk
    · obtain rfl := hr
      rcases hcl with h | h
      · go_wp2
        go_ret
        exact ⟨by rw [h]; rfl, rfl⟩
      · go_wp2
        go_ret
        exact ⟨by rw [h]; rfl, rfl⟩
    · rcases hr with rfl | ⟨e, ⟨b, s, fr, hbk, rfl⟩, he⟩
      · rcases hcl with h | h
        · go_wp2
          go_ret
          exact ⟨by rw [h]; rfl, rfl⟩
        · go_wp2
          go_ret
          exact ⟨by rw [h]; rfl, rfl⟩
      · obtain ⟨T, x, rfl⟩ := he.iface
        have HU := hide (unwrapW b s fr (.iface T x) wr hbk)
        clear hcl
        go_wp2_with (go_at_call 273; refine ((unhide HU)).mono ?_; rintro e w' ⟨rfl, rfl⟩)
        go_roundg gk
        case measure => omega
        case rel => exact ⟨rfl, he⟩
end Go.Proofs.YtddedijencleeaaGreatDoor

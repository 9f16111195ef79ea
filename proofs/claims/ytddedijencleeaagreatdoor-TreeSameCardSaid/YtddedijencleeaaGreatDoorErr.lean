/- Errors of the project (api.Class, wrapped by *api.Within and *api.Placed): what they are in memory, and the contracts of errors.As at a *api.Class, errors.Is, consistoryhelp.Class. -/
import Derived.Test.YtddedijencleeaaGreatDoorProg
import Derived.Test.YtddedijencleeaaGreatDoorBase
import Derived.WalkKit
import Derived.LaidEql
import Derived.Stop.Asserts
import Derived.RowKitTokens
import Derived.Deep.LoopGhost
import Derived.Lib.Hide
namespace Go.Proofs.YtddedijencleeaaGreatDoor
open Go.RowKit Go.Extern.Stop Go.Stop Go.Extern

/-- '==' between two errors that are constants of one integer type. -/
theorem run_equalIn_iface_int {P : Program} (w : World) (d : Nat) {ti tn : TypeId} {ms : Array (String × TypeId)} {i : TypeInfo} {k : IntKind} (a b : Int)
    (hi : P.underlying ti = some (.interface ms)) (hn : P.underlying tn = some (.int k)) (hinfo : P.info? tn = some i) (hcomp : i.comparable = true) :
    (Op.equalIn (d + 2) ti (.iface tn (.int k a)) (.iface tn (.int k b))).run P w = .ok (a == b) w := by
  simp [Op.equalIn, run_underlying hi, run_underlying hn, typeInfo, hinfo, hcomp]
theorem run_eql_iface_int {P : Program} (w : World) {ti tn : TypeId} {ms : Array (String × TypeId)} {i : TypeInfo} {k : IntKind} (a b : Int)
    (hi : P.underlying ti = some (.interface ms)) (hn : P.underlying tn = some (.int k)) (hinfo : P.info? tn = some i) (hcomp : i.comparable = true) :
    (binOp .eql ti (.iface tn (.int k a)) (.iface tn (.int k b))).run P w = .ok (.bool (a == b)) w := by
  simp only [binOp]
  simp [Op.equal, Op.maxDepth, run_equalIn_iface_int w 9998 a b hi hn hinfo hcomp]

/- THE CLOSED FACTS -/
namespace EF
theorem method_ (h : Value) (w : World) : (Go.method 398 218 (.agg #[h]) "Kind").run Tryz.prog w = .ok (267, h) w := by kernel_rfl
theorem methodElem (h : Value) (w : World) : (Go.method 398 218 (.agg #[h]) "Elem").run Tryz.prog w = .ok (280, .agg #[h]) w := by kernel_rfl
theorem methodImpl (h : Value) (w : World) : (Go.method 398 218 (.agg #[h]) "Implements").run Tryz.prog w = .ok (281, .agg #[h]) w := by kernel_rfl
theorem methodAssign (h : Value) (w : World) : (Go.method 398 218 (.agg #[h]) "AssignableTo").run Tryz.prog w = .ok (278, .agg #[h]) w := by kernel_rfl
theorem methodComp (h : Value) (w : World) : (Go.method 398 218 (.agg #[h]) "Comparable").run Tryz.prog w = .ok (279, .agg #[h]) w := by kernel_rfl
theorem methodUnwrapW (h : Value) (w : World) : (Go.method 398 156 h "Unwrap").run Tryz.prog w = .ok (273, h) w := by kernel_rfl
theorem nilUnwrapW (a : Addr) (w : World) : (nilAhead 398 156 (.pointer (some a)) "Unwrap").run Tryz.prog w = .ok (some false) w := by kernel_rfl
theorem typeOfC (v : Value) (w : World) : (ReflectliteType.typeOf #[.iface 93 v]).run Tryz.prog w = .ok (.iface 218 (.agg #[.pointer (some ⟨7, 93, none⟩)])) w := by kernel_rfl
theorem typeOfW (v : Value) (w : World) : (ReflectliteType.typeOf #[.iface 156 v]).run Tryz.prog w = .ok (.iface 218 (.agg #[.pointer (some ⟨7, 156, none⟩)])) w := by kernel_rfl
theorem assignCC (w : World) : (ReflectliteType.relation "AssignableTo" ReflectliteType.assignableTo #[.agg #[.pointer (some ⟨7, 93, none⟩)], .iface 218 (.agg #[.pointer (some ⟨7, 93, none⟩)])]).run Tryz.prog w = .ok (.bool true) w := by kernel_rfl
theorem assignWC (w : World) : (ReflectliteType.relation "AssignableTo" ReflectliteType.assignableTo #[.agg #[.pointer (some ⟨7, 156, none⟩)], .iface 218 (.agg #[.pointer (some ⟨7, 93, none⟩)])]).run Tryz.prog w = .ok (.bool false) w := by kernel_rfl
theorem noAsC (v : Value) (xT : TypeId) (w : World) : (Instr.typeAssert (.iface 93 v) xT 222 true).run Tryz.prog w = .ok (.tuple #[.nilIface, .bool false]) w := run_typeAssert_lacksB Tryz.underlying222 (by kernel_rfl) (by kernel_rfl) v xT w
theorem noAsW (v : Value) (xT : TypeId) (w : World) : (Instr.typeAssert (.iface 156 v) xT 222 true).run Tryz.prog w = .ok (.tuple #[.nilIface, .bool false]) w := run_typeAssert_lacksB Tryz.underlying222 (by kernel_rfl) (by kernel_rfl) v xT w
theorem unwrapsW (v : Value) (xT : TypeId) (w : World) : (Instr.typeAssert (.iface 156 v) xT 225 true).run Tryz.prog w = .ok (.tuple #[.iface 156 v, .bool true]) w := run_typeAssert_hasB Tryz.underlying225 (by kernel_rfl) v xT w
theorem rlm (z : Sem Value) (f : TypeId → Addr → Nat → Nat → Sem Value) (v : Value) :
    ReflectliteValue.method z f #[v] = (do match ← ReflectliteValue.parts v with | none => z | some (t, a, fl) => f t a fl (fl % 32)) := rfl
theorem rls (v x : Value) : ReflectliteValue.set #[v, x] = (do
    let (some (dst, a, fl), some (src, b, _)) := (← ReflectliteValue.parts v, ← ReflectliteValue.parts x)
      | unsupported (.noEntry "extern/(internal/reflectlite.Value).Set.zeroValue")
    if fl / ReflectliteValue.flagAddr % 2 == 0 then unsupported (.noEntry "extern/(internal/reflectlite.Value).Set.unaddressable")
    let val ← loadVar src b
    if ← Rtype.directlyAssignable dst src then storeVar dst a val
    else if ← Rtype.implements dst src then
      if (← Rtype.kind src) == 20 then
        match val with
        | .nilIface => unsupported (.noEntry "extern/reflectlite: a nil value of one interface type handed on as a value of another")
        | _ => storeVar dst a val
      else storeVar dst a (.iface src val)
    else panicString ("reflectlite.Set: value of type " ++ (← Rtype.spelt src) ++ " is not assignable to type " ++ (← Rtype.spelt dst))
    pure (.tuple #[])) := rfl
theorem valueOfT (t : Addr) (w : World) : (ReflectliteValue.unpack (.iface 95 (.pointer (some t)))).run Tryz.prog w
    = .ok (.agg #[.pointer (some ⟨7, 95, none⟩), .pointer (some ⟨w.heap.size, 0, none⟩), .int .u64 150]) (w.alloc (.cells #[.pointer (some t)] 95)) := by kernel_rfl
theorem typeT (a : Addr) (w : World) : (ReflectliteValue.methodAny (ReflectliteValue.valueError "reflectlite.Value.Type" 0) (fun t _ _ _ => ReflectliteType.toType t) #[.agg #[.pointer (some ⟨7, 95, none⟩), .pointer (some a), .int .u64 150]]).run Tryz.prog w
    = .ok (.iface 218 (.agg #[.pointer (some ⟨7, 95, none⟩)])) w := by kernel_rfl
theorem kindT (w : World) : ((ReflectliteType.abiMethod fun t => (fun a : Nat => Value.int IntKind.u8 (a : Int)) <$> Rtype.kind t) #[.pointer (some ⟨7, 95, none⟩)]).run Tryz.prog w = .ok (.int .u8 22) w := by kernel_rfl
theorem kindE (w : World) : ((ReflectliteType.abiMethod fun t => (fun a : Nat => Value.int IntKind.u8 (a : Int)) <$> Rtype.kind t) #[.pointer (some ⟨7, 93, none⟩)]).run Tryz.prog w = .ok (.int .u8 2) w := by kernel_rfl
theorem partsT (a : Addr) (w : World) : (ReflectliteValue.parts (.agg #[.pointer (some ⟨7, 95, none⟩), .pointer (some a), .int .u64 150])).run Tryz.prog w = .ok (some (95, a, 150)) w := by kernel_rfl
theorem partsE (a : Addr) (w : World) : (ReflectliteValue.parts (.agg #[.pointer (some ⟨7, 93, none⟩), .pointer (some a), .int .u64 130])).run Tryz.prog w = .ok (some (93, a, 130)) w := by kernel_rfl
theorem partsA (a : Addr) (w : World) : (ReflectliteValue.parts (.agg #[.pointer (some ⟨7, 93, none⟩), .pointer (some a), .int .u64 386])).run Tryz.prog w = .ok (some (93, a, 386)) w := by kernel_rfl
theorem mkE (p : Addr) (w : World) : (ReflectliteValue.mk 93 p ReflectliteValue.flagAddr).run Tryz.prog w = .ok (.agg #[.pointer (some ⟨7, 93, none⟩), .pointer (some p), .int .u64 386]) w := by kernel_rfl
theorem elemOfT (w : World) : (Rtype.elem? 95).run Tryz.prog w = .ok (some 93) w := by kernel_rfl
theorem directE (w : World) : (Rtype.directlyAssignable 93 93).run Tryz.prog w = .ok true w := by kernel_rfl
theorem sizeE (w : World) : (sizeOf 93).run Tryz.prog w = .ok 1 w := by kernel_rfl
theorem elemT (w : World) : (ReflectliteType.method ReflectliteType.elem #[.agg #[.pointer (some ⟨7, 95, none⟩)]]).run Tryz.prog w = .ok (.iface 218 (.agg #[.pointer (some ⟨7, 93, none⟩)])) w := by kernel_rfl
theorem implE (w : World) : (ReflectliteType.relation "Implements" ReflectliteType.implements_ #[.agg #[.pointer (some ⟨7, 93, none⟩)], .iface 218 (.agg #[.pointer (some ⟨7, 44, none⟩)])]).run Tryz.prog w = .ok (.bool true) w := by kernel_rfl
theorem valueOfE (n : Int) (w : World) : (ReflectliteValue.unpack (.iface 93 (.int .i64 n))).run Tryz.prog w
    = .ok (.agg #[.pointer (some ⟨7, 93, none⟩), .pointer (some ⟨w.heap.size, 0, none⟩), .int .u64 130]) (w.alloc (.cells #[.int .i64 n] 93)) := by kernel_rfl
theorem isNilT (a p : Addr) (W : World) (ha : W.cell? a = some (.pointer (some p))) :
    (ReflectliteValue.method (ReflectliteValue.valueError "reflectlite.Value.IsNil" 0) ReflectliteValue.isNil #[.agg #[.pointer (some ⟨7, 95, none⟩), .pointer (some a), .int .u64 150]]).run Tryz.prog W = .ok (.bool false) W := by
  rw [rlm]
  simp only [Sem.run_bind, partsT, Result.andThen]
  simp [ReflectliteValue.isNil, loadVar, isAgg, underlying, Tryz.underlying95, ha, Result.andThen]
theorem elemV (a p : Addr) (W : World) (ha : W.cell? a = some (.pointer (some p))) :
    (ReflectliteValue.method (ReflectliteValue.valueError "reflectlite.Value.Elem" 0) ReflectliteValue.elem #[.agg #[.pointer (some ⟨7, 95, none⟩), .pointer (some a), .int .u64 150]]).run Tryz.prog W
      = .ok (.agg #[.pointer (some ⟨7, 93, none⟩), .pointer (some p), .int .u64 386]) W := by
  rw [rlm]
  simp only [Sem.run_bind, partsT, Result.andThen]
  simp [ReflectliteValue.elem, loadVar, isAgg, underlying, Tryz.underlying95, ha, Result.andThen, elemOfT, mkE]
theorem setE (ta b : Addr) (n : Int) (old : Value) (W : World) (hb : W.cell? b = some (.int .i64 n)) (ht : W.cell? ta = some old) (hf : W.frozen? ta = false) :
    (ReflectliteValue.set #[.agg #[.pointer (some ⟨7, 93, none⟩), .pointer (some ta), .int .u64 386], .agg #[.pointer (some ⟨7, 93, none⟩), .pointer (some b), .int .u64 130]]).run Tryz.prog W
      = .ok (.tuple #[]) (W.setCell ta (.int .i64 n)) := by
  rw [rls]
  simp only [Sem.run_bind, partsA, partsE, Result.andThen]
  simp [ReflectliteValue.flagAddr, loadVar, isAgg, underlying, Tryz.underlying93, hb, Result.andThen, directE, storeVar, Value.cells, storeCells, Addr.add]
  rw [run_store Tryz.prog W ta _ _ (by rfl)]
  simp [ht, hf]
end EF

def Wrap (W : World) (v e : Value) : Prop :=
  (∃ b s fr, W.heap[b]? = some (.cells #[.string s, e] 158 fr) ∧ v = .iface 156 (.pointer (some ⟨b, 0, none⟩)))

def ErrV (W : World) : Nat → Value → Int → Prop
  | 0, v, n => v = .iface 93 (.int .i64 n)
  | d + 1, v, n => v = .iface 93 (.int .i64 n) ∨ ∃ e, Wrap W v e ∧ ErrV W d e n

theorem ErrV.iface {W : World} {d : Nat} {v : Value} {n : Int} (h : ErrV W d v n) : ∃ T x, v = .iface T x := by
  rcases d with _ | d
  · exact ⟨_, _, h⟩
  · rcases h with rfl | ⟨e, ⟨b, s, _, _, rfl⟩, _⟩ <;> exact ⟨_, _, rfl⟩

theorem unwrapW (b : Nat) (s : ByteArray) (fr : Nat × Nat) (e : Value) (w : World) (h : w.heap[b]? = some (.cells #[.string s, e] 158 fr)) :
    Calls Tryz.prog 273 #[.pointer (some ⟨b, 0, none⟩)] w fun x w' => x = .returned e ∧ w = w' := by
  have h1 : w.cell? ⟨b, 0 + 1, none⟩ = some e := by simp [World.cell?, h]
  go_enter Tryz.func273, Tryz.ntmps273
  go_wp2
  go_ret
  exact ⟨rfl, rfl⟩

set_option maxRecDepth 100000 in
set_option maxHeartbeats 1000000 in
theorem as_any (d : Nat) (v : Value) (n : Int) (t tb : Addr) (old : Value) (W : World) (hE : ErrV W d v n) (hb : W.cell? tb = some (.pointer (some t))) (ht : W.cell? t = some old) (hf : W.frozen? t = false) :
    Calls Tryz.prog 143 #[v, .iface 95 (.pointer (some t)), .agg #[.pointer (some ⟨7, 95, none⟩), .pointer (some tb), .int .u64 150], .iface 218 (.agg #[.pointer (some ⟨7, 93, none⟩)])] W fun e w' => e = .returned (.bool true) ∧ W.grownBy w' (some t.block) ∧ w'.cell? t = some (.int .i64 n) := by
  have hto := @run_callFunc_extern Tryz.prog 144 _ ReflectliteType.typeOf Tryz.func144 (by kernel_rfl) (by kernel_rfl) (by kernel_rfl) (by kernel_rfl)
  have has := @run_callFunc_extern Tryz.prog 278 _ (ReflectliteType.relation "AssignableTo" ReflectliteType.assignableTo) Tryz.func278 (by kernel_rfl) (by kernel_rfl) (by kernel_rfl) (by kernel_rfl)
  have hel := @run_callFunc_extern Tryz.prog 190 _ (ReflectliteValue.method (ReflectliteValue.valueError "reflectlite.Value.Elem" 0) ReflectliteValue.elem) Tryz.func190 (by kernel_rfl) (by kernel_rfl) (by kernel_rfl) (by kernel_rfl)
  have hvo := @run_callFunc_extern Tryz.prog 140 _ (fun args => ReflectliteValue.unpack (args.getD 0 (.tuple #[]))) Tryz.func140 (by kernel_rfl) (by kernel_rfl) (by kernel_rfl) (by kernel_rfl)
  have hse := @run_callFunc_extern Tryz.prog 191 _ ReflectliteValue.set Tryz.func191 (by kernel_rfl) (by kernel_rfl) (by kernel_rfl) (by kernel_rfl)
  have f1 := EF.typeOfC
  have f2 := EF.typeOfW
  have f3 := EF.assignCC
  have f4 := EF.assignWC
  have f5 := EF.methodAssign
  have f6 := EF.noAsC
  have f7 := EF.noAsW
  have f8 := EF.unwrapsW
  have f9 := EF.methodUnwrapW
  have f10 := EF.nilUnwrapW
  have f11 := EF.valueOfE
  have hlt := lt_of_cell ht
  have hlb := lt_of_cell hb
  have hb1 := fun o => (World.cell?_alloc_lt W o tb hlb).trans hb
  have f12 := fun o => EF.elemV tb t (W.alloc o) (hb1 o)
  clear hb1
  have f13 := fun o o' => EF.setE t ⟨W.heap.size + 1, 0, none⟩ n old ((W.alloc o).alloc (.cells #[.int .i64 n] o')) (by simp) (by rw [World.cell?_alloc_lt _ _ t (by simp; omega), World.cell?_alloc_lt _ _ t hlt]; exact ht) (by rw [World.frozen?_alloc_old _ _ t (by simp; omega), World.frozen?_alloc_old _ _ t (by omega)]; exact hf)
  go_enter Tryz.func143, Tryz.ntmps143
  go_wp2
  go_loopg [0] d (fun k u wr => wr = W.alloc (.cells #[.pointer (some ⟨7, 95, none⟩), .pointer (some tb), .int .u64 150] 170) ∧ ErrV W k u n)
  case atStart => exact ⟨rfl, hE⟩
  case round =>
    obtain ⟨rfl, hr⟩ := hrel
    have hit : ∀ o o', W.grownBy (((W.alloc o).alloc o').setCell t (.int .i64 n)) (some t.block) ∧ (((W.alloc o).alloc o').setCell t (.int .i64 n)).cell? t = some (.int .i64 n) := fun o o' =>
      ⟨only_setCell (only_alloc (only_alloc (World.grownBy.refl W _) _) _) (.inl rfl) _, setCell_self (v := old) (by rw [World.cell?_alloc_lt _ _ t (by simp; omega), World.cell?_alloc_lt _ _ t hlt]; exact ht) _⟩
    have HIT := Lib.hid hit
    clear hit
    rcases gk with _ | gk
    · obtain rfl := hr
      go_wp2
      go_ret
      exact ⟨rfl, HIT.out _ _⟩
    · rcases hr with rfl | ⟨e, ⟨b, s, fr, hbk, rfl⟩, he⟩
      · go_wp2
        go_ret
        exact ⟨rfl, HIT.out _ _⟩
      · obtain ⟨T, x, rfl⟩ := he.iface
        have hu := fun o => unwrapW b s fr (.iface T x) (W.alloc o) ((Below.heap_alloc W o b (lt_of_heap hbk)).trans hbk)
        have HU := Lib.hid hu
        clear hu
        go_wp2_with (go_at_call 273; refine (HU.out _).mono ?_; rintro e w' ⟨rfl, rfl⟩)
        go_roundg gk
        case measure => omega
        case rel => exact ⟨rfl, he⟩
end Go.Proofs.YtddedijencleeaaGreatDoor

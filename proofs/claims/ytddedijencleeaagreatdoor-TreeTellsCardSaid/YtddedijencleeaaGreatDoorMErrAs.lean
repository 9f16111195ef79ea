/- Errors of the project (api.Class, wrapped by *api.Within and *api.Placed): what they are in memory, and the contracts of errors.As at a *api.Class, errors.Is, consistoryhelp.Class. -/
import Derived.Test.YtddedijencleeaaGreatDoorProg
import Derived.Test.YtddedijencleeaaGreatDoorMBits
import Derived.WalkKit
import Derived.LaidEql
import Derived.Stop.Asserts
import Derived.RowKitTokens
import Derived.Deep.LoopGhost
import Derived.Lib.Hide
namespace Go.Proofs.YtddedijencleeaaGreatDoor
set_option maxRecDepth 100000
set_option maxHeartbeats 1000000
open Tryz
open Go.RowKit Go.Extern.Stop Go.Stop Go.Extern

theorem run_equalIn_iface_int {P:Program} (w:World) (d:Nat) {ti tn:TypeId} {ms:Array (String × TypeId)} {i:TypeInfo} {k:IntKind} (a b:Int)
 (hi:P.underlying ti=some (.interface ms)) (hn:P.underlying tn=some (.int k)) (hinfo:P.info? tn=some i) (hcomp:i.comparable=true) :
 (Op.equalIn (d+2) ti (.iface tn (.int k a)) (.iface tn (.int k b))).run P w= .ok (a==b) w:=by
 simp [Op.equalIn,run_underlying hi,run_underlying hn,typeInfo,hinfo,hcomp]
theorem run_eql_iface_int {P:Program} (w:World) {ti tn:TypeId} {ms:Array (String × TypeId)} {i:TypeInfo} {k:IntKind} (a b:Int)
 (hi:P.underlying ti=some (.interface ms)) (hn:P.underlying tn=some (.int k)) (hinfo:P.info? tn=some i) (hcomp:i.comparable=true) :
 (binOp .eql ti (.iface tn (.int k a)) (.iface tn (.int k b))).run P w= .ok (.bool (a==b)) w:=by
 simp only [binOp]
 simp [Op.equal,Op.maxDepth,run_equalIn_iface_int w 9998 a b hi hn hinfo hcomp]

/- THE CLOSED FACTS -/
namespace EF
theorem method_ (h : Value) (w : World) : (Go.method 398 218 (.agg #[h]) "Kind").run prog w = .ok (267, h) w := by kernel_rfl
theorem methodElem (h : Value) (w : World) : (Go.method 398 218 (.agg #[h]) "Elem").run prog w = .ok (280, .agg #[h]) w := by kernel_rfl
theorem methodImpl (h : Value) (w : World) : (Go.method 398 218 (.agg #[h]) "Implements").run prog w = .ok (281, .agg #[h]) w := by kernel_rfl
theorem methodAssign (h : Value) (w : World) : (Go.method 398 218 (.agg #[h]) "AssignableTo").run prog w = .ok (278, .agg #[h]) w := by kernel_rfl
theorem methodComp (h : Value) (w : World) : (Go.method 398 218 (.agg #[h]) "Comparable").run prog w = .ok (279, .agg #[h]) w := by kernel_rfl
theorem methodUnwrapW (h : Value) (w : World) : (Go.method 398 156 h "Unwrap").run prog w = .ok (273, h) w := by kernel_rfl
theorem nilUnwrapW (a : Addr) (w : World) : (nilAhead 398 156 (.pointer (some a)) "Unwrap").run prog w = .ok (some false) w := by kernel_rfl
theorem typeOfC (v:Value) (w:World):(ReflectliteType.typeOf #[.iface 93 v]).run prog w= .ok (.iface 218 (.agg #[.pointer (some ⟨7,93,none⟩)])) w:=by kernel_rfl
theorem typeOfW (v:Value) (w:World):(ReflectliteType.typeOf #[.iface 156 v]).run prog w= .ok (.iface 218 (.agg #[.pointer (some ⟨7,156,none⟩)])) w:=by kernel_rfl
theorem assignCC (w : World) : (ReflectliteType.relation "AssignableTo" ReflectliteType.assignableTo #[.agg #[.pointer (some ⟨7, 93, none⟩)], .iface 218 (.agg #[.pointer (some ⟨7, 93, none⟩)])]).run prog w = .ok (.bool true) w := by kernel_rfl
theorem assignWC (w : World) : (ReflectliteType.relation "AssignableTo" ReflectliteType.assignableTo #[.agg #[.pointer (some ⟨7, 156, none⟩)], .iface 218 (.agg #[.pointer (some ⟨7, 93, none⟩)])]).run prog w = .ok (.bool false) w := by kernel_rfl
theorem noAsC (v:Value) (xT:TypeId) (w:World):(Instr.typeAssert (.iface 93 v) xT 222 true).run prog w= .ok (.tuple #[.nilIface,.bool false]) w:=run_typeAssert_lacksB underlying222 (by kernel_rfl) (by kernel_rfl) v xT w
theorem noAsW (v:Value) (xT:TypeId) (w:World):(Instr.typeAssert (.iface 156 v) xT 222 true).run prog w= .ok (.tuple #[.nilIface,.bool false]) w:=run_typeAssert_lacksB underlying222 (by kernel_rfl) (by kernel_rfl) v xT w
theorem unwrapsW (v:Value) (xT:TypeId) (w:World):(Instr.typeAssert (.iface 156 v) xT 225 true).run prog w= .ok (.tuple #[.iface 156 v,.bool true]) w:=run_typeAssert_hasB underlying225 (by kernel_rfl) v xT w
theorem rlm (z:Sem Value) (f:TypeId→Addr→Nat→Nat→Sem Value) (v:Value) :
 ReflectliteValue.method z f #[v]=(do match ← ReflectliteValue.parts v with | none=>z | some (t,a,fl)=>f t a fl (fl % 32)):=rfl
theorem rls (v x:Value):ReflectliteValue.set #[v,x]=(do
 let (some (dst,a,fl),some (src,b,_)):=(← ReflectliteValue.parts v, ← ReflectliteValue.parts x)
  | unsupported (.noEntry "extern/(internal/reflectlite.Value).Set.zeroValue")
 if fl / ReflectliteValue.flagAddr % 2 == 0 then unsupported (.noEntry "extern/(internal/reflectlite.Value).Set.unaddressable")
 let val ← loadVar src b
 if ← Rtype.directlyAssignable dst src then storeVar dst a val
 else if ← Rtype.implements dst src then
  if (← Rtype.kind src)==20 then
   match val with
   | .nilIface => unsupported (.noEntry "extern/reflectlite: a nil value of one interface type handed on as a value of another")
   | _=>storeVar dst a val
  else storeVar dst a (.iface src val)
 else panicString ("reflectlite.Set: value of type " ++ (← Rtype.spelt src) ++ " is not assignable to type " ++ (← Rtype.spelt dst))
 pure (.tuple #[])):=rfl
theorem valueOfT (t:Addr) (w:World):(ReflectliteValue.unpack (.iface 95 (.pointer (some t)))).run prog w
 = .ok (.agg #[.pointer (some ⟨7,95,none⟩),.pointer (some ⟨w.heap.size,0,none⟩),.int .u64 150]) (w.alloc (.cells #[.pointer (some t)] 95)):=by kernel_rfl
theorem typeT (a : Addr) (w : World) : (ReflectliteValue.methodAny (ReflectliteValue.valueError "reflectlite.Value.Type" 0) (fun t _ _ _ => ReflectliteType.toType t) #[.agg #[.pointer (some ⟨7, 95, none⟩), .pointer (some a), .int .u64 150]]).run prog w
 = .ok (.iface 218 (.agg #[.pointer (some ⟨7,95,none⟩)])) w:=by kernel_rfl
theorem kindT (w:World):((ReflectliteType.abiMethod fun t=>(fun a:Nat=>Value.int IntKind.u8 (a:Int)) <$> Rtype.kind t) #[.pointer (some ⟨7,95,none⟩)]).run prog w= .ok (.int .u8 22) w:=by kernel_rfl
theorem JK (w:World):((ReflectliteType.abiMethod fun t=>(fun a:Nat=>Value.int IntKind.u8 (a:Int)) <$> Rtype.kind t) #[.pointer (some ⟨7,93,none⟩)]).run prog w= .ok (.int .u8 2) w:=by kernel_rfl
theorem partsT (a:Addr) (w:World):(ReflectliteValue.parts (.agg #[.pointer (some ⟨7,95,none⟩),.pointer (some a),.int .u64 150])).run prog w= .ok (some (95,a,150)) w:=by kernel_rfl
theorem partsE (a:Addr) (w:World):(ReflectliteValue.parts (.agg #[.pointer (some ⟨7,93,none⟩),.pointer (some a),.int .u64 130])).run prog w= .ok (some (93,a,130)) w:=by kernel_rfl
theorem partsA (a:Addr) (w:World):(ReflectliteValue.parts (.agg #[.pointer (some ⟨7,93,none⟩),.pointer (some a),.int .u64 386])).run prog w= .ok (some (93,a,386)) w:=by kernel_rfl
theorem mkE (p:Addr) (w:World):(ReflectliteValue.mk 93 p ReflectliteValue.flagAddr).run prog w= .ok (.agg #[.pointer (some ⟨7,93,none⟩),.pointer (some p),.int .u64 386]) w:=by kernel_rfl
theorem elemOfT (w:World):(Rtype.elem? 95).run prog w= .ok (some 93) w:=by kernel_rfl
theorem directE (w:World):(Rtype.directlyAssignable 93 93).run prog w= .ok true w:=by kernel_rfl
theorem elemT (w:World):(ReflectliteType.method ReflectliteType.elem #[.agg #[.pointer (some ⟨7,95,none⟩)]]).run prog w= .ok (.iface 218 (.agg #[.pointer (some ⟨7,93,none⟩)])) w:=by kernel_rfl
theorem implE (w : World) : (ReflectliteType.relation "Implements" ReflectliteType.implements_ #[.agg #[.pointer (some ⟨7, 93, none⟩)], .iface 218 (.agg #[.pointer (some ⟨7, 44, none⟩)])]).run prog w = .ok (.bool true) w := by kernel_rfl
theorem valueOfE (n:Int) (w:World):(ReflectliteValue.unpack (.iface 93 (.int .i64 n))).run prog w
 = .ok (.agg #[.pointer (some ⟨7,93,none⟩),.pointer (some ⟨w.heap.size,0,none⟩),.int .u64 130]) (w.alloc (.cells #[.int .i64 n] 93)):=by kernel_rfl
theorem isNilT (a p:Addr) (W:World) (ha:W.cell? a=some (.pointer (some p))) :
 (ReflectliteValue.method (ReflectliteValue.valueError "reflectlite.Value.IsNil" 0) ReflectliteValue.isNil #[.agg #[.pointer (some ⟨7, 95, none⟩), .pointer (some a), .int .u64 150]]).run prog W = .ok (.bool false) W := by
 rw [rlm]
 simp only [Sem.run_bind,partsT,Result.andThen]
 simp [ReflectliteValue.isNil,loadVar,isAgg,underlying,underlying95,ha,Result.andThen]
theorem elemV (a p:Addr) (W:World) (ha:W.cell? a=some (.pointer (some p))) :
 (ReflectliteValue.method (ReflectliteValue.valueError "reflectlite.Value.Elem" 0) ReflectliteValue.elem #[.agg #[.pointer (some ⟨7, 95, none⟩), .pointer (some a), .int .u64 150]]).run prog W
   = .ok (.agg #[.pointer (some ⟨7,93,none⟩),.pointer (some p),.int .u64 386]) W:=by
 rw [rlm]
 simp only [Sem.run_bind,partsT,Result.andThen]
 simp [ReflectliteValue.elem,loadVar,isAgg,underlying,underlying95,ha,Result.andThen,elemOfT,mkE]
theorem setE (ta b:Addr) (n:Int) (old:Value) (W:World) (hb:W.cell? b=some (.int .i64 n)) (ht:W.cell? ta=some old) (hf:W.frozen? ta=false) :
 (ReflectliteValue.set #[.agg #[.pointer (some ⟨7,93,none⟩),.pointer (some ta),.int .u64 386],.agg #[.pointer (some ⟨7,93,none⟩),.pointer (some b),.int .u64 130]]).run prog W
   = .ok (.tuple #[]) (W.setCell ta (.int .i64 n)):=by
 rw [rls]
 simp only [Sem.run_bind,partsA,partsE,Result.andThen]
 simp [ReflectliteValue.flagAddr,loadVar,isAgg,underlying,underlying93,hb,Result.andThen,directE,storeVar,Value.cells,storeCells,Addr.add]
 rw [run_store prog W ta _ _ (by rfl)]
 simp [ht,hf]
end EF

def Wrap (W:World) (v e:Value):Prop:=
 (∃ b s fr,W.heap[b]?=some (.cells #[.string s,e] 158 fr)∧v= .iface 156 (.pointer (some ⟨b,0,none⟩)))

def ErrV (W:World):Nat→Value→Int→Prop
 | 0,v,n=>v= .iface 93 (.int .i64 n)
 | d+1,v,n=>v= .iface 93 (.int .i64 n)∨ ∃ e,Wrap W v e∧ErrV W d e n

theorem ErrV.iface {W:World} {d:Nat} {v:Value} {n:Int} (h:ErrV W d v n): ∃ T x,v= .iface T x:=by
 rcases d with _ | d
 · exact ⟨_,_,h⟩
 rcases h with rfl | ⟨e,⟨b,s,_,_,rfl⟩,_⟩ <;> exact ⟨_,_,rfl⟩

theorem unwrapW (b:Nat) (s:ByteArray) (fr:Nat × Nat) (e:Value) (w:World) (h:w.heap[b]?=some (.cells #[.string s,e] 158 fr)) :
 Calls prog 273 #[.pointer (some ⟨b,0,none⟩)] w fun x w'=>x= .returned e∧w=w':=by
 have h1:w.cell? ⟨b,0+1,none⟩=some e:=by simp [World.cell?,h]
 go_enter func273,ntmps273
 go_wp2
 go_ret
 exact ⟨rfl,rfl⟩

theorem as_any (d:Nat) (v:Value) (n:Int) (t tb:Addr) (old:Value) (W:World) (hE:ErrV W d v n) (hb:W.cell? tb=some (.pointer (some t))) (ht:W.cell? t=some old) (hf:W.frozen? t=false) :
 Calls prog 143 #[v,.iface 95 (.pointer (some t)),.agg #[.pointer (some ⟨7,95,none⟩),.pointer (some tb),.int .u64 150],.iface 218 (.agg #[.pointer (some ⟨7,93,none⟩)])] W fun e w'=>e= .returned (.bool true)∧W.grownBy w' (some t.block)∧w'.cell? t=some (.int .i64 n):=by
 have hto:= @run_callFunc_extern prog 144 _ ReflectliteType.typeOf func144 (by kernel_rfl) (by kernel_rfl) (by kernel_rfl) (by kernel_rfl)
 have has := @run_callFunc_extern prog 278 _ (ReflectliteType.relation "AssignableTo" ReflectliteType.assignableTo) func278 (by kernel_rfl) (by kernel_rfl) (by kernel_rfl) (by kernel_rfl)
 have hel := @run_callFunc_extern prog 190 _ (ReflectliteValue.method (ReflectliteValue.valueError "reflectlite.Value.Elem" 0) ReflectliteValue.elem) func190 (by kernel_rfl) (by kernel_rfl) (by kernel_rfl) (by kernel_rfl)
 have hvo:= @run_callFunc_extern prog 140 _ (fun args=>ReflectliteValue.unpack (args.getD 0 (.tuple #[]))) func140 (by kernel_rfl) (by kernel_rfl) (by kernel_rfl) (by kernel_rfl)
 have hse:= @run_callFunc_extern prog 191 _ ReflectliteValue.set func191 (by kernel_rfl) (by kernel_rfl) (by kernel_rfl) (by kernel_rfl)
 have f1:=EF.typeOfC
 have f2:=EF.typeOfW
 have f3:=EF.assignCC
 have f4:=EF.assignWC
 have f5:=EF.methodAssign
 have f6:=EF.noAsC
 have f7:=EF.noAsW
 have f8:=EF.unwrapsW
 have f9:=EF.methodUnwrapW
 have f10:=EF.nilUnwrapW
 have f11:=EF.valueOfE
 have hlt:=Kz ht
 have hlb:=Kz hb
 have hb1:=fun o=>(World.cell?_alloc_lt W o tb hlb).trans hb
 have f12:=fun o=>EF.elemV tb t (W.alloc o) (hb1 o)
 clear hb1
 have f13:=fun o o'=>EF.setE t ⟨W.heap.size+1,0,none⟩ n old ((W.alloc o).alloc (.cells #[.int .i64 n] o')) (by simp) (by rw [World.cell?_alloc_lt _ _ t (by simp;omega),World.cell?_alloc_lt _ _ t hlt];exact ht) (by rw [World.frozen?_alloc_old _ _ t (by simp;omega),World.frozen?_alloc_old _ _ t (by omega)];exact hf)
 go_enter func143,ntmps143
 go_wp2
 go_loopg [0] d (fun k u wr=>wr=W.alloc (.cells #[.pointer (some ⟨7,95,none⟩),.pointer (some tb),.int .u64 150] 170)∧ErrV W k u n)
 case atStart=>exact ⟨rfl,hE⟩
 case round=>
  obtain ⟨rfl,hr⟩:=hrel
  have hit: ∀ o o',W.grownBy (((W.alloc o).alloc o').setCell t (.int .i64 n)) (some t.block)∧(((W.alloc o).alloc o').setCell t (.int .i64 n)).cell? t=some (.int .i64 n):=fun o o' =>
   ⟨only_setCell (only_alloc (only_alloc (World.grownBy.refl W _) _) _) (.inl rfl) _,setCell_self (v:=old) (by rw [World.cell?_alloc_lt _ _ t (by simp;omega),World.cell?_alloc_lt _ _ t hlt];exact ht) _⟩
  have HIT:=Lib.hid hit
  clear hit
  rcases gk with _ | gk
  · obtain rfl:=hr
    go_wp2
    go_ret
    exact ⟨rfl,HIT.out _ _⟩
  rcases hr with rfl | ⟨e,⟨b,s,fr,hbk,rfl⟩,he⟩
  · go_wp2
    go_ret
    exact ⟨rfl,HIT.out _ _⟩
  obtain ⟨T,x,rfl⟩:=he.iface
  have hu:=fun o=>unwrapW b s fr (.iface T x) (W.alloc o) ((Below.heap_alloc W o b (lt_of_heap hbk)).trans hbk)
  have HU:=Lib.hid hu
  clear hu
  go_wp2_with (go_at_call 273;refine (HU.out _).mono ?_;rintro e w' ⟨rfl,rfl⟩)
  go_roundg gk
  case measure=>omega
  case rel=>exact ⟨rfl,he⟩
end Go.Proofs.YtddedijencleeaaGreatDoor

/- errors.As at a *api.Class, errors.Is at an api.Class, consistoryhelp.Class: contracts. -/
namespace Go.Proofs.YtddedijencleeaaGreatDoor
set_option maxRecDepth 100000
set_option maxHeartbeats 1000000
open Tryz
open Go.RowKit Go.Extern.Stop Go.Stop Go.Extern

def OkW (W:World):Prop:=W.cell? ⟨0,0,none⟩=some (.iface 218 (.agg #[.pointer (some ⟨7,44,none⟩)]))
theorem OkW.below {W W':World} (h:OkW W) (hb:Below W.heap.size W W'):OkW W':=(hb.cell (p:=⟨_,0,none⟩) (Kz h)).trans h
theorem OkW.alloc {W:World} (h:OkW W) (o:Obj):OkW (W.alloc o):=h.below ((Below.refl _ _).alloc (Nat.le_refl _) o)
theorem OkW.drew {W:World} (h:OkW W):OkW W.drew:=h
theorem ErrV.below {W W':World} {d:Nat} {v:Value} {n:Int} (h:ErrV W d v n) (hb:Below W.heap.size W W'):ErrV W' d v n:=by
 induction d generalizing v with
 | zero=>exact h
 | succ d ih=>
  rcases h with rfl | ⟨e,⟨b,s,fr,hk,rfl⟩,he⟩
  · exact .inl rfl
  exact .inr ⟨e,⟨b,s,fr,(hb.block b (lt_of_heap hk)).trans hk,rfl⟩,ih he⟩

theorem As_class (d:Nat) (v:Value) (n:Int) (t:Addr) (old:Value) (W:World) (hg:OkW W) (hE:ErrV W d v n) (ht:W.cell? t=some old) (hf:W.frozen? t=false) :
 Calls prog 51 #[v,.iface 95 (.pointer (some t))] W fun e w'=>e= .returned (.bool true)∧W.grownBy w' (some t.block)∧w'.cell? t=some (.int .i64 n):=by
 have hvo:= @run_callFunc_extern prog 140 _ (fun args=>ReflectliteValue.unpack (args.getD 0 (.tuple #[]))) func140 (by kernel_rfl) (by kernel_rfl) (by kernel_rfl) (by kernel_rfl)
 have hty := @run_callFunc_extern prog 141 _ (ReflectliteValue.methodAny (ReflectliteValue.valueError "reflectlite.Value.Type" 0) (fun t _ _ _ => ReflectliteType.toType t)) func141 (by kernel_rfl) (by kernel_rfl) (by kernel_rfl) (by kernel_rfl)
 have hni := @run_callFunc_extern prog 142 _ (ReflectliteValue.method (ReflectliteValue.valueError "reflectlite.Value.IsNil" 0) ReflectliteValue.isNil) func142 (by kernel_rfl) (by kernel_rfl) (by kernel_rfl) (by kernel_rfl)
 have hki:= @run_callFunc_extern prog 267 _ (ReflectliteType.abiMethod fun t=>do pure (.int .u8 (← Rtype.kind t))) func267 (by kernel_rfl) (by kernel_rfl) (by kernel_rfl) (by kernel_rfl)
 have hel:= @run_callFunc_extern prog 280 _ (ReflectliteType.method ReflectliteType.elem) func280 (by kernel_rfl) (by kernel_rfl) (by kernel_rfl) (by kernel_rfl)
 have him := @run_callFunc_extern prog 281 _ (ReflectliteType.relation "Implements" ReflectliteType.implements_) func281 (by kernel_rfl) (by kernel_rfl) (by kernel_rfl) (by kernel_rfl)
 obtain ⟨T,x,rfl⟩:=hE.iface
 have f1:=EF.valueOfT
 have f2:=EF.typeT
 have f3:=EF.method_
 have f4:=EF.kindT
 have f5:=EF.JK
 have f6:=EF.methodElem
 have f7:=EF.methodImpl
 have f8:=EF.elemT
 have f9:=EF.implE
 have f10:=fun o=>EF.isNilT ⟨W.heap.size,0,none⟩ t ((W.alloc (.cells #[.pointer (some t)] 95)).alloc o) (by simp)
 have hg2:=fun o=>(hg.alloc (.cells #[.pointer (some t)] 95)).alloc o
 unfold OkW at hg2
 have hu: ∀ o,Calls prog 143 #[.iface T x,.iface 95 (.pointer (some t)),.agg #[.pointer (some ⟨7,95,none⟩),.pointer (some ⟨W.heap.size,0,none⟩),.int .u64 150],.iface 218 (.agg #[.pointer (some ⟨7,93,none⟩)])] ((W.alloc (.cells #[.pointer (some t)] 95)).alloc o) fun e w'=>e= .returned (.bool true)∧W.grownBy w' (some t.block)∧w'.cell? t=some (.int .i64 n):=by
  intro o
  have hlt:=Kz ht
  have hb0:Below W.heap.size W ((W.alloc (.cells #[.pointer (some t)] 95)).alloc o):=((Below.refl _ _).alloc (Nat.le_refl _) _).alloc (by simp) _
  refine (as_any d _ n t ⟨W.heap.size,0,none⟩ old _ (hE.below hb0) (by simp) ((hb0.cell hlt).trans ht) ((hb0.frozen hlt).trans hf)).mono ?_
  rintro e w' ⟨he,h1,h2⟩
  refine ⟨he,⟨h1.os.trans hb0.os,h1.tape.trans hb0.tape,h1.output.trans hb0.output,Nat.le_trans hb0.size h1.size,fun i hi hne=>(h1.block i (Nat.lt_of_lt_of_le hi hb0.size) hne).trans (hb0.block i hi)⟩,h2⟩
 have HU:=Qh hu
 clear hu
 go_enter func51,ntmps51
 go_wp2_with (go_at_call 143;refine ((Qa HU) _).mono ?_;rintro e w' ⟨rfl,hgr,hc⟩)
 go_ret
 exact ⟨rfl,hgr,hc⟩

namespace EF
theorem isC (v:Value) (xT:TypeId) (w:World):(Instr.typeAssert (.iface 93 v) xT 229 true).run prog w= .ok (.tuple #[.nilIface,.bool false]) w:=run_typeAssert_lacksB underlying229 (by kernel_rfl) (by kernel_rfl) v xT w
theorem isW (v:Value) (xT:TypeId) (w:World):(Instr.typeAssert (.iface 156 v) xT 229 true).run prog w= .ok (.tuple #[.nilIface,.bool false]) w:=run_typeAssert_lacksB underlying229 (by kernel_rfl) (by kernel_rfl) v xT w
theorem noUnwrapC (v:Value) (xT:TypeId) (w:World):(Instr.typeAssert (.iface 93 v) xT 225 true).run prog w= .ok (.tuple #[.nilIface,.bool false]) w:=run_typeAssert_lacksB underlying225 (by kernel_rfl) (by kernel_rfl) v xT w
theorem noUnwrapsC (v:Value) (xT:TypeId) (w:World):(Instr.typeAssert (.iface 93 v) xT 226 true).run prog w= .ok (.tuple #[.nilIface,.bool false]) w:=run_typeAssert_lacksB underlying226 (by kernel_rfl) (by kernel_rfl) v xT w
theorem compC' (w : World) : (ReflectliteType.method (fun t => do Rtype.noPackHeld "Comparable" t; (fun a => Value.bool a.comparable) <$> typeInfo t) #[.agg #[.pointer (some ⟨7, 93, none⟩)]]).run prog w = .ok (.bool true) w := by kernel_rfl
theorem infoC:(prog.info? 93).map (·.comparable)=some true:=by kernel_rfl
end EF

theorem is_any (d:Nat) (v:Value) (n m:Int) (W:World) (hE:ErrV W d v n) :
 Calls prog 145 #[v,.iface 93 (.int .i64 m),.bool true] W fun e w'=>e= .returned (.bool (n==m))∧W=w':=by
 obtain ⟨i,hi,hcmp⟩:=Option.map_eq_some_iff.1 EF.infoC
 have q1:=fun w=>run_eql_iface_int (P:=prog) w n m underlying44 underlying93 hi hcmp
 have q2:=fun x w=>run_eql_iface_types (P:=prog) 156 93 x (.int .i64 m) underlying44 (by decide) w
 clear hi hcmp
 have f1:=EF.isC
 have f2:=EF.isW
 have f3:=EF.noUnwrapC
 have f4:=EF.noUnwrapsC
 have f8:=EF.unwrapsW
 have f9:=EF.methodUnwrapW
 have f10:=EF.nilUnwrapW
 go_enter func145,ntmps145
 go_wp2
 go_loopg [0] d (fun k u wr=>wr=W∧ErrV W k u n)
 case atStart=>exact ⟨rfl,hE⟩
 case round=>
  obtain ⟨rfl,hr⟩:=hrel
  have hcl:(n==m)=true∨(n==m)=false:=by cases (n==m) <;> simp
  rcases gk with _ | gk
  · obtain rfl:=hr
    rcases hcl with h | h
    · go_wp2
      go_ret
      exact ⟨by rw [h];rfl,rfl⟩
    go_wp2
    go_ret
    exact ⟨by rw [h];rfl,rfl⟩
  rcases hr with rfl | ⟨e,⟨b,s,fr,hbk,rfl⟩,he⟩
  · rcases hcl with h | h
    · go_wp2
      go_ret
      exact ⟨by rw [h];rfl,rfl⟩
    go_wp2
    go_ret
    exact ⟨by rw [h];rfl,rfl⟩
  obtain ⟨T,x,rfl⟩:=he.iface
  have HU:=Qh (unwrapW b s fr (.iface T x) wr hbk)
  clear hcl
  go_wp2_with (go_at_call 273;refine ((Qa HU)).mono ?_;rintro e w' ⟨rfl,rfl⟩)
  go_roundg gk
  case measure=>omega
  case rel=>exact ⟨rfl,he⟩
end Go.Proofs.YtddedijencleeaaGreatDoor

/- Facts for the evaluator: elements of slices, loads of what lies in memory; loops of a function. No program's code. -/
import Derived.Test.YtddedijencleeaaGreatDoorRd
import Derived.Test.YtddedijencleeaaGreatDoorGd
import Derived.Test.YtddedijencleeaaGreatDoorGh
set_option linter.all false
namespace Go.Proofs.YtddedijencleeaaGreatDoor
open Go.RowKit Go.Lib
namespace RC
def bodyOf (fn : Func) : Code := match fn.body with
  | some c => c
  | none => .skip
section
variable {P : Program} {N : Nat} {W : World}
/-- The address of an element. -/
theorem Said.elem {t e : TypeId} {b o n c size i : Nat} {k : IntKind} (hu : P.underlying t = some (.slice e)) (hs : sizT P e = some size) (hi : i < n) : Said.ok P N W (.idx t (.slice (some ⟨b, o, none⟩) n c) (.int k i) (.pointer (some ⟨b, o + i * size, none⟩))) := fun w => by
  have h0 : (0 : Int) ≤ (i : Int) := by omega
  have h1 : (i : Int) < (n : Int) := by omega
  simp [Instr.indexAt, asIntOf, run_underlying hu, sizT_ok hs, h0, h1, hi, Addr.add_at]
/-- A struct that lies in memory. -/
theorem Said.row {t : TypeId} {b o : Nat} {cs : List Value} (hr : rowT P t = some true) (hs : sizT P t = some cs.length) (h : W.rangeAt b o cs) (hb : b < W.heap.size) (hN : W.heap.size ≤ N) : Said.ok P N W (.get t (.pointer (some ⟨b, o, none⟩)) (.agg cs.toArray)) := fun w hw => by
  have := run_loadCells_list (P := P) w ⟨b, o, none⟩ cs (fun j v hv => by
    rw [Addr.add_at, hw.cell (p := ⟨b, o + j, none⟩) (by simp; omega)]
    exact h j v hv)
  simp [Instr.loadAt, Instr.sureAddr, loadVar, rowT_ok hr, sizT_ok hs, this]
/-- One cell that lies in memory. -/
theorem Said.cell {t : TypeId} {b o : Nat} {v : Value} (hr : rowT P t = some false) (h : W.cell? ⟨b, o, none⟩ = some v) (hb : b < W.heap.size) (hN : W.heap.size ≤ N) : Said.ok P N W (.get t (.pointer (some ⟨b, o, none⟩)) v) := fun w hw => by
  have : w.cell? ⟨b, o, none⟩ = some v := by rw [hw.cell (p := ⟨b, o, none⟩) (by simp; omega)]; exact h
  simp [Instr.loadAt, Instr.sureAddr, loadVar, rowT_ok hr, this]
theorem Said.addInt {t : TypeId} {k : IntKind} {a b c : Int} (h : k.wrap (a + b) = c) : Said.ok P N W (.bin .add t (.int k a) (.int k b) (.int k c)) := fun ox oy w => by
  rw [Sem.run_bind, eqg_int]; simp [binOp, Op.intArith, h]
theorem wrapI (i : Nat) (h : i < 9223372036854775807) : IntKind.wrap .i64 ((i : Int) + 1) = ((i + 1 : Nat) : Int) := by
  unfold IntKind.wrap
  have e1 : (2 ^ IntKind.i64.bits : Int) = 18446744073709551616 := by decide
  have e2 : (2 ^ (IntKind.i64.bits - 1) : Int) = 9223372036854775808 := by decide
  rw [e1, e2]
  have e3 : ((i : Int) + 1) % 18446744073709551616 = (i : Int) + 1 := Int.emod_eq_of_lt (by omega) (by omega)
  simp only [e3]
  rw [if_neg]
  · omega
  · simp only [Bool.and_eq_true, decide_eq_true_eq, not_and]
    intro _
    omega
/-- A loop's count goes on. -/
theorem Said.inc {t : TypeId} {i : Nat} (h : i < 9223372036854775807) : Said.ok P N W (.bin .add t (.int .i64 i) (.int .i64 1) (.int .i64 ((i + 1 : Nat) : Int))) := Said.addInt (wrapI i h)
theorem Said.ltN {t : TypeId} {i n : Nat} {z : Bool} (h : decide (i < n) = z) : Said.ok P N W (.bin .lss t (.int .i64 i) (.int .i64 n) (.bool z)) := Said.intLt (by rw [← h]; simp)
/-- Structs alike? -/
theorem Said.aggEq {t : TypeId} {x y : Array Value} {z : Bool} (hg : P.eqGuardType P.depth t = false) (h : ∀ w, (Op.equalIn 10000 t (.agg x) (.agg y)).run P w = .ok z w) : Said.ok P N W (.bin .eql t (.agg x) (.agg y) (.bool z)) := fun ox oy w => by
  have : (eqGuard .eql t ox oy (.agg x) (.agg y)).run P w = .ok () w := by
    unfold eqGuard
    simp [hg]
  rw [Sem.run_bind, this]
  simp [binOp, Op.equal, Op.maxDepth, h]
theorem Said.aggNe {t : TypeId} {x y : Array Value} {z : Bool} (hg : P.eqGuardType P.depth t = false) (h : ∀ w, (Op.equalIn 10000 t (.agg x) (.agg y)).run P w = .ok (!z) w) : Said.ok P N W (.bin .neq t (.agg x) (.agg y) (.bool z)) := fun ox oy w => by
  have : (eqGuard .neq t ox oy (.agg x) (.agg y)).run P w = .ok () w := by
    unfold eqGuard
    simp [hg]
  rw [Sem.run_bind, this]
  simp [binOp, Op.equal, Op.maxDepth, h]
theorem Said.boolNe {t : TypeId} {a b z : Bool} (hu : P.underlying t = some .bool) (h : (a != b) = z) : Said.ok P N W (.bin .neq t (.bool a) (.bool b) (.bool z)) := fun ox oy w => by
  rw [Sem.run_bind, eqg_bool]
  simp only [Result.andThen_ok, binOp, Op.equal, Op.maxDepth]
  rw [Op.equalIn]
  simp [run_underlying hu, ← h, bne]
variable {Q : Exit → Act → World → Prop}
/-- Boxes may be forgotten. -/
def okB (bs : List Res) : Bool := bs.all fun r => match r with
  | .box cs => allL (fun j => Nat.blt j bs.length) cs
  | _ => true
theorem okB_ok {bs : List Res} (h : okB bs = true) : ∀ i cs, lb bs i = some (.box cs) → allL (fun i => (lb bs i).isSome) cs = true := fun i cs hi => by
  unfold okB at h
  have := List.all_eq_true.1 h _ (List.mem_of_getElem? hi)
  exact allL_mono (fun j hj => by rw [lb_some]; exact hj) cs this
theorem St.pre {n : Nat} {fr : Fr} {bs ex : List Res} {G : Env} {a : Act} {w : World} (h : St N W n fr (bs ++ ex) G a w) (hf : okF bs.length fr = true) (hb : okB bs = true) : St N W n fr bs G a w :=
  ⟨h.env, h.rp.less (fun i r hi => by
    have := lb_lt hi
    unfold lb at hi ⊢
    rw [List.getElem?_append_left this]; exact hi) (okB_ok hb), hf⟩
/-- What was told. -/
def Said.ans : Said → Orc
  | .call _ _ r => .r r
  | .callR _ _ _ r => .r r
  | .opq _ _ m r po => .c m r po
  | .bin _ _ _ _ r => .r r
  | .idx _ _ _ r => .r r
  | .get _ _ r => .r r
  | .cut _ _ _ _ _ r => .r r
  | .app _ _ _ _ po => .c 1 (.x 0 0) po
def anss : List Said → List Orc
  | [] => []
  | s :: l => s.ans :: anss l
/-- A loop of a function. -/
theorem loopC (c : Code) (id : Nat) (hk : stackAt c (.loop id) = .c (.loop (loopAt c id)) :: .b id :: stackAt c (.out id)) (n : Nat) (I : Nat → Act → World → Prop) {a : Act} {w : World} (h0 : I 0 a w)
    (hb : ∀ i, i < n → ∀ a w, I i a w → wpX P (Exit.then (I (i + 1)) (wpX P Q (.b id :: stackAt c (.out id)))) [.c (loopAt c id)] .normal a w)
    (he : ∀ a w, I n a w → wpX P (Exit.then (fun _ _ => False) (wpX P Q (.b id :: stackAt c (.out id)))) [.c (loopAt c id)] .normal a w) : wpX P Q (stackAt c (.loop id)) .normal a w := by
  rw [hk]
  exact loop_at n I h0 hb he
/-- An end within loops. -/
theorem outs {J : Act → World → Prop} {k : List K} {a : Act} {w : World} (h : Q .ret a w) : Exit.then J (wpX P Q k) .ret a w := wpX_ret h k
/-- From a place to another one, by facts. -/
theorem go {n : Nat} (t : Tg) {k k' : List K} {fr : Fr} (lv : Fr) {bs : List Res} (bs' : List Res) {sd : List Said} {e : Ex} {G : Env} {a : Act} {w : World} (hst : St N W n fr bs G a w) (hs : allOk P N W sd)
    (h : runV P n t k fr bs (anss sd) (lv.map (·.1)) = some (e, k', lv.map (fun x => some x.2), bs', sd))
    (hq : ∀ G' a' w', St N W n lv bs' G' a' w' → (∀ i, i < bs.length → same G' G i) → wpX P Q k' e.conc a' w') : wpX P Q k .normal a w := seg t lv bs' (anss sd) hst h hs hq
/-- The same, the boxes as they were. -/
theorem goK {n : Nat} (t : Tg) {k k' : List K} {fr : Fr} (lv : Fr) {bs : List Res} {sd : List Said} {e : Ex} {G : Env} {a : Act} {w : World} (hst : St N W n fr bs G a w) (hs : allOk P N W sd)
    (h : runV P n t k fr bs (anss sd) (lv.map (·.1)) = some (e, k', lv.map (fun x => some x.2), bs, sd))
    (hq : ∀ G' a' w', St N W n lv bs G' a' w' → (∀ i, i < bs.length → same G' G i) → wpX P Q k' e.conc a' w') : wpX P Q k .normal a w := seg t lv bs (anss sd) hst h hs hq
/-- To the end. -/
theorem goE {n : Nat} {k : List K} {fr : Fr} {bs : List Res} {sd : List Said} {vs : List Value} {G : Env} {a : Act} {w : World} {fn : Func} {R : Ending → World → Prop} (hst : St N W n fr bs G a w) (hs : allOk P N W sd)
    (h : runE' P n k fr bs (anss sd) fn.results.toList = some (vs.map .v, sd)) (hR : ∀ w', Below N W w' → R (.returned (resR vs)) w') : wpX P (bodyPost P fn R) k .normal a w := fin (anss sd) hst h hs hR
/-- To the end, where the results are of what calls yielded. -/
theorem goX {n : Nat} {k : List K} {fr : Fr} {bs : List Res} (bs' : List Res) {sd : List Said} {vs : List RV} {G : Env} {a : Act} {w : World} {fn : Func} {R : Ending → World → Prop} (hst : St N W n fr bs G a w) (hs : allOk P N W sd)
    (h : runE P n k fr bs (anss sd) fn.results.toList = some (vs, bs', sd)) (hR : ∀ G' w', Rp N W G' bs' w' → (∀ i, i < bs.length → same G' G i) → R (.returned (resR (concL G' vs))) w') : wpX P (bodyPost P fn R) k .normal a w := finB (anss sd) hst h hs hR
/-- A CALL OF A FUNCTION WITHOUT LOOPS. -/
theorem calls_rc {f : FuncId} {fn : Func} {c : Code} {args : List Value} {sd : List Said} {r : Value} (hf : P.funcs[f]? = some fn) (hb : fn.body = some c) (hn : Nat.ble args.length fn.ntmps = true) (hs : allOk P W.heap.size W sd) (h : runE' P fn.ntmps [.c c] (argsFr 0 args) [] (anss sd) fn.results.toList = some ([.v r], sd)) :
    Calls P f args.toArray W fun e w => e = .returned r ∧ Below W.heap.size W w :=
  calls_rd hf hb hn fun a hst => goE hst hs (vs := [r]) h fun w' hb => ⟨rfl, hb⟩
theorem allOk_app {l r : List Said} (h : allOk P N W l) (k : allOk P N W r) : allOk P N W (l ++ r) := by
  induction l with
  | nil => exact k
  | cons s l ih => exact ⟨h.1, ih h.2⟩
def sLt (t : TypeId) (i n : Nat) (z : Bool) : Said := .bin .lss t (.int .i64 i) (.int .i64 n) (.bool z)
def sInc (t : TypeId) (i : Nat) : Said := .bin .add t (.int .i64 i) (.int .i64 1) (.int .i64 ((i + 1 : Nat) : Int))
def slotsOf (fr : Fr) : List (Option RV) := fr.map fun x => some x.2
def keysOf (fr : Fr) : List Nat := fr.map (·.1)
/-- A run of which the first boxes must be as they were; the new ones are forgotten. -/
def runT (P : Program) (n : Nat) (t : Tg) (k : List K) (fr : Fr) (bs : List Res) (rs : List Orc) (slots : List Nat) : Option (Ex × List K × List (Option RV) × List Res × List Said) :=
  match runV P n t k fr bs rs slots with
  | some (e, k', l, bs', sd) => some (e, k', l, bs'.take bs.length, sd)
  | none => none
/-- A run whose boxes don't matter. -/
def runN (P : Program) (n : Nat) (t : Tg) (k : List K) (fr : Fr) (bs : List Res) (rs : List Orc) (slots : List Nat) : Option (Ex × List K × List (Option RV) × List Said) :=
  match runV P n t k fr bs rs slots with
  | some (e, k', l, _, sd) => some (e, k', l, sd)
  | none => none
theorem goT {n : Nat} (t : Tg) {k k' : List K} {fr : Fr} (lv : Fr) {bs : List Res} {sd : List Said} {e : Ex} {G : Env} {a : Act} {w : World} (hst : St N W n fr bs G a w) (hs : allOk P N W sd)
    (h : runT P n t k fr bs (anss sd) (lv.map (·.1)) = some (e, k', lv.map (fun x => some x.2), bs, sd)) (cl : okF bs.length lv = true) (clb : okB bs = true)
    (hq : ∀ G' a' w', St N W n lv bs G' a' w' → (∀ i, i < bs.length → same G' G i) → wpX P Q k' e.conc a' w') : wpX P Q k .normal a w := by
  unfold runT at h
  split at h
  case h_2 => cases h
  rename_i e1 k1 l1 bs1 sd1 hr
  simp only [Option.some.injEq, Prod.mk.injEq] at h
  obtain ⟨rfl, rfl, rfl, hb, rfl⟩ := h
  refine go t lv bs1 hst hs hr fun G' a' w' hst' hg => hq G' a' w' (St.pre (ex := bs1.drop bs.length) ?_ cl clb) hg
  have : bs ++ bs1.drop bs.length = bs1 := by
    have := List.take_append_drop bs.length bs1
    rwa [hb] at this
  rw [this]
  exact hst'
theorem goN {n : Nat} (t : Tg) {k k' : List K} {fr : Fr} (lv : Fr) {bs : List Res} {sd : List Said} {e : Ex} {G : Env} {a : Act} {w : World} (hst : St N W n fr bs G a w) (hs : allOk P N W sd)
    (h : runN P n t k fr bs (anss sd) (lv.map (·.1)) = some (e, k', lv.map (fun x => some x.2), sd))
    (hq : ∀ bs' G' a' w', St N W n lv bs' G' a' w' → wpX P Q k' e.conc a' w') : wpX P Q k .normal a w := by
  unfold runN at h
  split at h
  case h_2 => cases h
  rename_i e1 k1 l1 bs1 sd1 hr
  simp only [Option.some.injEq, Prod.mk.injEq] at h
  obtain ⟨rfl, rfl, rfl, rfl⟩ := h
  exact go t lv bs1 hst hs hr fun G' a' w' hst' _ => hq bs1 G' a' w' hst'
/-- A loop that counts up to n and goes out with an answer at the first that isn't so. -/
theorem cmpLoop {nn : Nat} (c : Code) (id s r : Nat) (ti : TypeId) (n : Nat) (q : Nat → Bool) {lv : Fr} {bs : List Res} (ans : Value) {G : Env} {a : Act} {w : World} (hn : n ≤ 9223372036854775807)
    (hk : stackAt c (.loop id) = .c (.loop (loopAt c id)) :: .b id :: stackAt c (.out id)) (hst : St N W nn ((s, .v (.int .i64 (0 : Nat))) :: lv) bs G a w)
    (yes : ∀ i, i < n → q i = true → ∃ mid, allOk P N W mid ∧ runT P nn .fin [.c (loopAt c id)] ((s, .v (.int .i64 i)) :: lv) bs (anss (sLt ti i n true :: mid ++ [sInc ti i])) (s :: keysOf lv) = some (.nrm, [], some (.v (.int .i64 ((i + 1 : Nat) : Int))) :: slotsOf lv, bs, sLt ti i n true :: mid ++ [sInc ti i]))
    (no : ∀ i, i < n → q i = false → ∃ mid, allOk P N W mid ∧ runN P nn .fin [.c (loopAt c id)] ((s, .v (.int .i64 i)) :: lv) bs (anss (sLt ti i n true :: mid)) [r] = some (.ret, [], [some (.v ans)], sLt ti i n true :: mid))
    (ends : runV P nn .fin [.c (loopAt c id)] ((s, .v (.int .i64 n)) :: lv) bs (anss [sLt ti n n false]) (keysOf lv) = some (.ex id, [], slotsOf lv, bs, [sLt ti n n false]))
    (cl : okF bs.length lv = true) (clb : okB bs = true)
    (bad : ∀ i, i < n → q i = false → ∀ bs' G a w, St N W nn [(r, .v ans)] bs' G a w → Q .ret a w)
    (good : (∀ i, i < n → q i = true) → ∀ G a w, St N W nn lv bs G a w → wpX P Q (stackAt c (.out id)) .normal a w) : wpX P Q (stackAt c (.loop id)) .normal a w := by
  refine loopC c id hk n (fun i a' w' => (∃ G, St N W nn ((s, .v (.int .i64 (i : Nat))) :: lv) bs G a' w') ∧ ∀ j, j < i → q j = true) ⟨⟨G, hst⟩, fun j hj => by omega⟩ ?_ ?_
  · rintro i hi a2 w2 ⟨⟨g2, hs2⟩, hall⟩
    cases hq : q i with
    | true =>
      obtain ⟨mid, hm, hrun⟩ := yes i hi hq
      refine goT .fin ((s, .v (.int .i64 ((i + 1 : Nat) : Int))) :: lv) hs2 (okC (Said.ltN (by simp; exact hi)) (allOk_app hm (okC (Said.inc (by omega)) okN))) hrun (by simpa [okF, RV.lt, RV.all] using cl) clb fun g3 a3 w3 hst3 _ => ?_
      refine ⟨⟨g3, hst3⟩, fun j hj => ?_⟩
      by_cases e : j = i
      · rw [e]; exact hq
      · exact hall j (by omega)
    | false =>
      obtain ⟨mid, hm, hrun⟩ := no i hi hq
      exact goN .fin [(r, .v ans)] hs2 (okC (Said.ltN (by simp; exact hi)) hm) hrun fun bs' g3 a3 w3 hst3 => outs (bad i hi hq bs' g3 a3 w3 hst3)
  · rintro a2 w2 ⟨⟨g2, hs2⟩, hall⟩
    exact go .fin lv bs hs2 (okC (Said.ltN (by simp)) okN) ends fun g3 a3 w3 hst3 _ => brk (good hall g3 a3 w3 hst3)
theorem range_tail {w : World} {b o : Nat} {x : Value} {cs : List Value} (h : w.rangeAt b o (x :: cs)) : w.rangeAt b (o + 1) cs := fun j v hj => by
  have := h (j + 1) v (by simpa using hj)
  rwa [show o + 1 + j = o + (j + 1) by omega]
theorem range_init {w : World} {b o : Nat} {cs ds : List Value} (h : w.rangeAt b o (cs ++ ds)) : w.rangeAt b o cs := fun j v hj => h j v (by rw [List.getElem?_append_left (List.getElem?_eq_some_iff.1 hj).1]; exact hj)
/-- One value of which something is known. -/
def po1 (q : World → Value → Prop) (h : ∀ W1 W2 u, Sub W1 W2 → q W1 u → q W2 u) : Po := ⟨fun us w => ∃ u, us = [u] ∧ q w u, fun us W1 W2 hs ⟨u, h1, h2⟩ => ⟨u, h1, h W1 W2 u hs h2⟩⟩
/-- Cells of which something is known. -/
def poL (q : World → List Value → Prop) (h : ∀ W1 W2 u, Sub W1 W2 → q W1 u → q W2 u) : Po := ⟨fun us w => q w us, fun us W1 W2 hs h2 => h W1 W2 us hs h2⟩
def xsN (i m : Nat) : List RV := (List.range m).map (.x i)
theorem xsN_conc {G : Env} {i m : Nat} {us : List Value} (hu : G.u i = us) (h : us.length = m) : concL G (xsN i m) = us := by
  rw [concL_eq, xsN, List.map_map]
  refine List.ext_getElem (by simp [h]) fun j h1 h2 => ?_
  simp only [List.getElem_map, List.getElem_range, Function.comp, RV.conc, hu, List.getD_eq_getElem?_getD, List.getElem?_eq_getElem h2, Option.getD_some]
theorem Said.one {f : FuncId} {args : List Value} {q : World → Value → Prop} (h : ∀ W1 W2 u, Sub W1 W2 → q W1 u → q W2 u) {fn : Func} {c : Code} (hf : P.funcs[f]? = some fn) (hb : fn.body = some c) (hn : (fn.name == "runtime.NumGoroutine") = false) (h1 : ∀ w u, q w u → u.oneCell' = true)
    (hc : ∀ w, Below N W w → Calls P f args.toArray w fun e w' => ∃ u, e = .returned u ∧ q (World.only w' fun b => w.heap.size ≤ b) u ∧ Below w.heap.size w w') : Said.ok P N W (.opq f args 1 (.x 0 0) (po1 q h)) :=
  ⟨⟨fn, c, hf, hb, hn⟩, fun w hw => (hc w hw).mono fun e w' ⟨u, h2, h3, h4⟩ => ⟨[u], rfl, fun v hv => by rw [List.mem_singleton] at hv; rw [hv]; exact h1 _ u h3, h2, h4, u, rfl, h3⟩⟩
theorem Said.cells {f : FuncId} {args : List Value} {m : Nat} {q : World → List Value → Prop} (h : ∀ W1 W2 u, Sub W1 W2 → q W1 u → q W2 u) {fn : Func} {c : Code} (hf : P.funcs[f]? = some fn) (hb : fn.body = some c) (hn : (fn.name == "runtime.NumGoroutine") = false) (h1 : ∀ w ds, q w ds → ds.length = m ∧ ∀ v ∈ ds, v.oneCell' = true)
    (hc : ∀ w, Below N W w → Calls P f args.toArray w fun e w' => ∃ ds : List Value, e = .returned (.agg ds.toArray) ∧ q (World.only w' fun b => w.heap.size ≤ b) ds ∧ Below w.heap.size w w') : Said.ok P N W (.opq f args m (.agg (xsN 0 m)) (poL q h)) :=
  ⟨⟨fn, c, hf, hb, hn⟩, fun w hw => (hc w hw).mono fun e w' ⟨ds, h2, h3, h4⟩ => ⟨ds, (h1 _ ds h3).1, (h1 _ ds h3).2, by rw [h2]; simp only [RV.conc]; rw [xsN_conc rfl (h1 _ ds h3).1], h4, h3⟩⟩
/-- What is known of a call's values at the end. -/
theorem Rp.one {G : Env} {bs : List Res} {w : World} (h : Rp N W G bs w) {i : Nat} {q : World → Value → Prop} {hq : ∀ W1 W2 u, Sub W1 W2 → q W1 u → q W2 u} (hi : bs[i]? = some (.unk 1 (po1 q hq))) : ∃ u, G.u i = [u] ∧ q (World.only w fun b => N ≤ b) u := by
  obtain ⟨_, _, u, h1, h2⟩ := h.un i 1 _ hi
  exact ⟨u, h1, hq _ _ _ (only_only (Nat.le_refl _) fun b _ hb => ⟨hb.1, rfl⟩) h2⟩
theorem Rp.cells {G : Env} {bs : List Res} {w : World} (h : Rp N W G bs w) {i m : Nat} {q : World → List Value → Prop} {hq : ∀ W1 W2 u, Sub W1 W2 → q W1 u → q W2 u} (hi : bs[i]? = some (.unk m (poL q hq))) : (G.u i).length = m ∧ q (World.only w fun b => N ≤ b) (G.u i) := by
  obtain ⟨h0, _, h2⟩ := h.un i m _ hi
  exact ⟨h0, hq _ _ _ (only_only (Nat.le_refl _) fun b _ hb => ⟨hb.1, rfl⟩) h2⟩
end
end RC
end Go.Proofs.YtddedijencleeaaGreatDoor

/- Rows that grow by append, for the evaluator. No program's code. -/
set_option linter.all false
namespace Go.Proofs.YtddedijencleeaaGreatDoor
open Go.RowKit Go.Lib

section
variable {W wr : World} {e : TypeId} {size k : Nat} {v : Value} {css : Nat → List Value} {Q : World → Nat → List Value → Prop}
/-- One more element, whose memory is new. -/
theorem Out.next' (h : Out W wr e size k v css Q) (hQ : ∀ W1 W2 i cs, Sub W1 W2 → Q W1 i cs → Q W2 i cs) {W3 W4 : World} {B : Nat} (hB : wr.heap.size ≤ B) {ds : List Value} (hb : Below wr.heap.size wr W3) (hq : Q (World.only W3 fun g => B ≤ g) k ds) (hl : ds.length = size) (h1 : ds.toArray.all (·.oneCell') = true)
    {v' : Value} (ho : W4.ownsRow W.heap.size e size v' (k + 1) (flatN css k ++ ds)) (hg : W3.grownBy W4 v.ownBlock) (hat : v'.ownBlock = v.ownBlock ∨ v'.ownBlock = some W3.heap.size) :
    Out W W4 e size (k + 1) v' (fun j => if j = k then ds else css j) Q := by
  have hgs := hg.size
  have hbs := hb.size
  have hold : ∀ b, b < W3.heap.size → v.ownBlock ≠ some b → W4.heap[b]? = W3.heap[b]? := fun b h1 h2 => hg.block b h1 (Ne.symm h2)
  have hv : ∀ b, v.ownBlock = some b → W.heap.size ≤ b ∧ b < wr.heap.size := fun b hb' => h.own.lt b hb'
  have e1 : flatN (fun j => if j = k then ds else css j) (k + 1) = flatN css k ++ ds := by
    rw [flatN_succ, if_pos rfl, flatN_congr (dss := css) fun j hj => if_neg (by omega)]
  refine ⟨by rw [e1]; exact ho, ?_, fun j hj => ?_, fun j hj => ?_⟩
  · exact (h.bl.trans (hb.mono h.bl.size)).grown hg (by have := h.bl.size; omega) fun k hk => (hv k hk).1
  · split
    · exact ⟨hl, h1⟩
    · exact h.len j (by omega)
  · have fresh : ∀ b, b < W3.heap.size → v.ownBlock ≠ some b → v'.ownBlock ≠ some b := fun b hb1 hb2 => by
      rcases hat with hat | hat
      · rw [hat]; exact hb2
      · rw [hat]; exact fun hh => by injection hh; omega
    split
    · subst j
      refine hQ _ _ _ _ (only_only hgs fun b hb1 hb2 => ?_) hq
      have hne : v.ownBlock ≠ some b := fun hh => by have := (hv b hh).2; omega
      exact ⟨⟨by have := h.bl.size; omega, fresh b hb1 hne⟩, hold b hb1 hne⟩
    · refine hQ _ _ _ _ (only_only (by omega) fun b hb1 hb2 => ?_) (h.q j (by omega))
      exact ⟨⟨hb2.1, fresh b (by omega) hb2.2⟩, (hold b (by omega) hb2.2).trans (hb.block b hb1)⟩
end
theorem Out.keep {W wr w' : World} {e : TypeId} {size k : Nat} {v : Value} {css : Nat → List Value} {Q : World → Nat → List Value → Prop} (h : Out W wr e size k v css Q) (hQ : ∀ W1 W2 i cs, Sub W1 W2 → Q W1 i cs → Q W2 i cs) (hb : Below wr.heap.size wr w') : Out W w' e size k v css Q :=
  ⟨h.own.kept (row := none) ⟨hb.os, hb.tape, hb.output, hb.size, fun k hk _ => hb.block k hk⟩ (by cases v.ownBlock <;> simp), h.bl.trans (hb.mono h.bl.size), h.len, fun j hj => hQ _ _ _ _ (only_only hb.size fun b h1 h2 => ⟨h2, hb.block b h1⟩) (h.q j hj)⟩
namespace RC
/-- A frame of values as they are. -/
abbrev VF := List (Nat × Value)
def vfr : VF → Fr
  | [] => []
  | (s, x) :: l => (s, .v x) :: vfr l
def concF (G : Env) : Fr → VF
  | [] => []
  | (s, x) :: l => (s, x.conc G) :: concF G l
theorem get_conc {G : Env} : ∀ (fr : Fr) (s : Nat), get (vfr (concF G fr)) s = (get fr s).map fun v => .v (v.conc G)
  | [], s => rfl
  | (d, x) :: l, s => by
    simp only [concF, vfr, get]
    cases Nat.beq d s with
    | true => rfl
    | false => exact get_conc l s
theorem vfr_lt (b : Nat) : ∀ l : VF, okF b (vfr l) = true
  | [] => rfl
  | (s, x) :: l => by
    simp only [vfr, okF, List.all_cons, RV.lt, RV.all, Bool.true_and]
    exact vfr_lt b l
theorem RpP.base (w : World) : Rp w.heap.size w env0 [] w := Rp.start w
theorem wpX_pan {P : Program} : True := trivial
section
variable {P : Program} {N : Nat} {W : World} {Q : Exit → Act → World → Prop}
/-- All that was there is the world's, from here on. -/
theorem St.reb {n : Nat} {fr : Fr} {bs : List Res} {G : Env} {a : Act} {w : World} (h : St N W n fr bs G a w) : St w.heap.size w n (vfr (concF G fr)) [] env0 a w := by
  refine ⟨⟨h.env.defers, h.env.size, fun s v hs => ?_⟩, Rp.start w, vfr_lt _ _⟩
  rw [get_conc] at hs
  cases hv : get fr s with
  | none => rw [hv] at hs; cases hs
  | some u =>
    rw [hv] at hs
    simp only [Option.map_some, Option.some.injEq] at hs
    subst hs
    exact h.env.get s u hv
theorem vfr_v : ∀ {l : VF} {s : Nat} {v : RV}, (s, v) ∈ vfr l → ∃ x, v = .v x
  | [], s, v, h => by cases h
  | y :: l, s, v, h => by
    rcases List.mem_cons.1 h with e | h
    · cases e; exact ⟨_, rfl⟩
    · exact vfr_v h
/-- A frame of values, of an act alone. -/
def EV (n : Nat) (l : VF) (a : Act) : Prop := EnvOK env0 n (vfr l) a
theorem St.ev {n : Nat} {l : VF} {bs : List Res} {G : Env} {a : Act} {w : World} (h : St N W n (vfr l) bs G a w) : EV n l a :=
  ⟨h.env.defers, h.env.size, fun s v hs => by
    obtain ⟨x, rfl⟩ := vfr_v (get_mem hs)
    exact h.env.get s _ hs⟩
theorem EV.st {n : Nat} {l : VF} {a : Act} (h : EV n l a) (w : World) : St w.heap.size w n (vfr l) [] env0 a w := ⟨h, Rp.start w, vfr_lt _ _⟩
theorem EV.put {n : Nat} {l : VF} {a : Act} (h : EV n l a) {d : Nat} (hd : d < n) (v : Value) : EV n ((d, v) :: l) (a.put (some d) v) :=
  EnvOK.put (v := .v v) h (by
    have : Nat.blt d n = true := by rw [Nat.blt_eq]; exact hd
    simp only [RC.put, this, cond_true]; rfl)
def opOf (k : List K) : Oper := match k with
  | .l _ _ _ (o :: _) :: _ => o
  | _ => default
/-- AN ELEMENT IS APPENDED. 'w0': the world as the loop began, 'wr': as the round began. -/
theorem app_at {n : Nat} {k k' : List K} {fr : Fr} {bs : List Res} {G : Env} {a : Act} {wr w w0 : World} {o : Oper} {te e : TypeId} {z : Value} {size bytes sA sY d jb i : Nat} {row : Value} {cs : List RV} {css : Nat → List Value} {Qe : World → Nat → List Value → Prop} (lv : VF)
    (hst : St wr.heap.size wr n fr bs G a w) (h : opAt k fr = some (o, k')) (ho : o.op = .call { callee := .builtin .append, args := #[.tmp sA, .tmp sY], argTypes := #[te, te] }) (hd : o.dst = some d) (hdn : Nat.blt d n = true)
    (hA : get fr sA = some (.v row)) (hY : get fr sY = some (.s jb 0 1 1)) (hb : bs[jb]? = some (.box cs)) (hlv : (vfr lv).map (fun x => get fr x.1) = (vfr lv).map (fun x => some x.2))
    (ht : P.underlying te = some (.slice e)) (hi : (P.info? e).map (fun i => (i.zero, i.size, i.bytes)) = some (some z, size, bytes)) (hzs : z.cells.size = size) (hsz : 0 < size) (hby : (i + 1) * bytes ≤ 140737488355328) (hmax : i < 9223372036854775807)
    (hout : Out w0 wr e size i row css Qe) (hQ : ∀ W1 W2 i cs, Sub W1 W2 → Qe W1 i cs → Qe W2 i cs) (hcl : (concL G cs).length = size) (hone : ∀ u ∈ concL G cs, u.oneCell' = true) (hq : Qe (World.only w fun b => wr.heap.size ≤ b) i (concL G cs))
    (hk : ∀ v' w' a', Out w0 w' e size (i + 1) v' (fun j => if j = i then concL G cs else css j) Qe → EV n ((d, v') :: lv) a' → wpX P Q k' .normal a' w') : wpX P Q k .normal a w := by
  refine at_op hst h fun Q' => ?_
  obtain ⟨ti, h1, h2, h3, h4⟩ := (show ∃ i, P.info? e = some i ∧ i.zero = some z ∧ i.size = size ∧ i.bytes = bytes by
    cases hq : P.info? e with
    | none => rw [hq] at hi; cases hi
    | some i => rw [hq] at hi; simp only [Option.map_some, Option.some.injEq, Prod.mk.injEq] at hi; exact ⟨i, rfl, hi.1, hi.2.1, hi.2.2⟩)
  have hbl : Below wr.heap.size wr w := hst.rp.below
  have hrow : w.ownsRow w0.heap.size e size row i (flatN css i) :=
    hout.own.kept (row := none) ⟨hbl.os, hbl.tape, hbl.output, hbl.size, fun k hk _ => hbl.block k hk⟩ (by cases row.ownBlock <;> simp)
  have e1 : a.eval (.tmp sA) = row := hst.env.eval (x := .tmp sA) hA
  have e2 : a.eval (.tmp sY) = .slice (some ⟨G.g jb, 0, none⟩) 1 1 := hst.env.eval (x := .tmp sY) hY
  have hsb := (hst.rp.sb jb cs hb).1
  obtain ⟨v', w', q1, q2, q3, _, q5⟩ := run_append_own_at (P := P) w w0.heap.size te o.type e ti z size bytes ht h1 h2 h3 h4 hzs hsz row i (flatN css i) hrow ⟨G.g jb, 0, none⟩ 1 1 (concL G cs) (by rw [hcl]; omega) (fun j u hj => by rw [Addr.add_at, Nat.zero_add]; exact hsb.cell j hj) hone (by unfold maxLen; omega) hby (Nat.le_trans hout.bl.size hbl.size)
  have hev : EV n lv a := ⟨hst.env.defers, hst.env.size, fun s v hs => by
    obtain ⟨x, rfl⟩ := vfr_v (get_mem hs)
    have : get fr s = some (.v x) := by
      have hm := get_mem hs
      have := List.map_inj_left.1 hlv _ hm
      exact this
    exact hst.env.get s _ this⟩
  rw [Nat.blt_eq] at hdn
  unfold Oper.wp execOp
  simp only [ho, resolve, invoke, builtin, Sem.run_bind, Sem.run_pure, Result.andThen_ok, List.map_toArray, List.map_cons, List.map_nil, e1, e2, q1, hd]
  exact hk v' w' _ (hout.next' hQ (Nat.le_refl _) hbl hq hcl (all_oneCell_toArray hone) q2 q3 q5) (by rw [hd]; exact hev.put hdn v')
/-- A LOOP THAT APPENDS AN ELEMENT A ROUND: 'sC' counts, 'sR' is the row. -/
theorem rowLoop {nn : Nat} (c : Code) (id sC sR : Nat) (n : Nat) (e : TypeId) (size : Nat) (Qe : World → Nat → List Value → Prop) {lv : VF} {a : Act} {w0 : World}
    (hk : stackAt c (.loop id) = .c (.loop (loopAt c id)) :: .b id :: stackAt c (.out id)) (hst : EV nn ((sC, .int .i64 (0 : Nat)) :: (sR, .slice none 0 0) :: lv) a)
    (round : ∀ i, i < n → ∀ row wr a css, Out w0 wr e size i row css Qe → EV nn ((sC, .int .i64 (i : Nat)) :: (sR, row) :: lv) a →
      wpX P (Exit.then (fun a' w' => ∃ v' css', EV nn ((sC, .int .i64 ((i + 1 : Nat) : Int)) :: (sR, v') :: lv) a' ∧ Out w0 w' e size (i + 1) v' css' Qe) (wpX P Q (.b id :: stackAt c (.out id)))) [.c (loopAt c id)] .normal a wr)
    (ends : ∀ row wr a css, Out w0 wr e size n row css Qe → EV nn ((sC, .int .i64 (n : Nat)) :: (sR, row) :: lv) a → wpX P (Exit.then (fun _ _ => False) (wpX P Q (.b id :: stackAt c (.out id)))) [.c (loopAt c id)] .normal a wr) : wpX P Q (stackAt c (.loop id)) .normal a w0 := by
  refine loopC c id hk n (fun i a' w' => ∃ row css, EV nn ((sC, .int .i64 (i : Nat)) :: (sR, row) :: lv) a' ∧ Out w0 w' e size i row css Qe) ⟨_, fun _ => [], hst, Out.start⟩ ?_ ?_
  · rintro i hi a2 w2 ⟨row, css, h1, h2⟩
    exact round i hi row w2 a2 css h2 h1
  · rintro a2 w2 ⟨row, css, h1, h2⟩
    exact ends row w2 a2 css h2 h1
theorem concF_vfr {G : Env} : ∀ l : VF, concF G (vfr l) = l
  | [] => rfl
  | (s, x) :: l => by simp only [vfr, concF, RV.conc, concF_vfr l]
/-- Back to the boxes. -/
theorem St.back {n : Nat} {fr0 fr : Fr} {bs : List Res} {G : Env} {a a' : Act} {w w' : World} (h : St N W n fr0 bs G a w) (hb : Below w.heap.size w w') (hcl : okF bs.length fr = true) (he : EV n (concF G fr) a') : St N W n fr bs G a' w' :=
  ⟨⟨he.defers, he.size, fun s v hs => by
    have := he.get s (.v (v.conc G)) (by rw [get_conc, hs]; rfl)
    exact this⟩, h.rp.call hb, hcl⟩
/-- The same, at a place that has boxes. -/
theorem rowLoopR {nn : Nat} (c : Code) (id sC sR : Nat) (n : Nat) (e : TypeId) (size : Nat) (Qe : World → Nat → List Value → Prop) {lv : Fr} {bs : List Res} {G : Env} {a : Act} {w0 : World}
    (hk : stackAt c (.loop id) = .c (.loop (loopAt c id)) :: .b id :: stackAt c (.out id)) (hst : St N W nn ((sC, .v (.int .i64 (0 : Nat))) :: (sR, .v (.slice none 0 0)) :: lv) bs G a w0)
    (round : ∀ i, i < n → ∀ row wr a css, Out w0 wr e size i row css Qe → Rp N W G bs wr → St wr.heap.size wr nn (vfr ((sC, .int .i64 (i : Nat)) :: (sR, row) :: concF G lv)) [] env0 a wr →
      wpX P (Exit.then (fun a' w' => ∃ v' css', EV nn ((sC, .int .i64 ((i + 1 : Nat) : Int)) :: (sR, v') :: concF G lv) a' ∧ Out w0 w' e size (i + 1) v' css' Qe) (wpX P Q (.b id :: stackAt c (.out id)))) [.c (loopAt c id)] .normal a wr)
    (ends : ∀ row wr a css, Out w0 wr e size n row css Qe → St N W nn ((sC, .v (.int .i64 (n : Nat))) :: (sR, .v row) :: lv) bs G a wr → wpX P (Exit.then (fun _ _ => False) (wpX P Q (.b id :: stackAt c (.out id)))) [.c (loopAt c id)] .normal a wr) : wpX P Q (stackAt c (.loop id)) .normal a w0 := by
  have hcl : okF bs.length lv = true := by
    have := hst.cl
    simp only [okF, List.all_cons, Bool.and_eq_true] at this
    exact this.2.2
  refine rowLoop c id sC sR n e size Qe (lv := concF G lv) hk ?_ (fun i hi row wr a css h1 h2 => round i hi row wr a css h1 (hst.rp.call h1.bl) (h2.st wr)) fun row wr a css h1 h2 => ends row wr a css h1 ?_
  · have := hst.reb.ev
    simpa [concF, RV.conc] using this
  · exact hst.back h1.bl (by simpa [okF, RV.lt, RV.all] using hcl) (by simpa [concF, RV.conc] using h2)
/-- A cell of a box, for whoever sees it as what was there. -/
theorem Said.ofBox {G : Env} {bs : List Res} {w : World} (h : Rp N W G bs w) {i : Nat} {cs : List RV} (hi : bs[i]? = some (.box cs)) {t : TypeId} {o : Nat} {v : RV} (hr : rowT P t = some false) (ho : cs[o]? = some v) : Said.ok P w.heap.size w (.get t (.pointer (some ⟨G.g i, o, none⟩)) (v.conc G)) :=
  Said.cell hr ((h.sb i cs hi).1.cell o (concL_get ho)) (h.lt hi) (Nat.le_refl _)
/-- 'append(nil, s...)': s in memory of its own. -/
theorem Said.appNil {te e : TypeId} {z : Value} {size bytes n : Nat} {u : Value} {R : Nat → List Value → Prop} (ht : P.underlying te = some (.slice e)) (hi : (P.info? e).map (fun i => (i.zero, i.size, i.bytes)) = some (some z, size, bytes)) (hzs : z.cells.size = size) (hsz : 0 < size)
    (hu : SlF W size bytes n u R) (hN : N = W.heap.size) : Said.ok P N W (.app te te (.slice none 0 0) u (po1 (fun w v => SlF w size bytes n v R) (fun W1 W2 v hs h => h.sub hs))) := by
  subst hN
  intro ty w hw
  obtain ⟨ti, h1, h2, h3, h4⟩ := info_parts hi
  have hu' : SlF w size bytes n u R := hu.sub (.below hw)
  obtain ⟨A, c, css, rfl, hby, hn, hcss, hcell, hnone⟩ := hu'.named
  cases A with
  | none =>
    have h0 : n = 0 := hnone rfl
    subst h0
    refine ⟨.slice none 0 0, w, ?_, rfl, Below.refl _ _, .slice none 0 0, rfl, ⟨none, 0, rfl, Nat.le_refl _, by omega, hby, fun h => absurd h (by omega)⟩⟩
    simp [Builtin.append_, run_underlying ht, sizeOf, typeInfo, h1, Builtin.lenOf, Builtin.firstCells]
  | some ad =>
    obtain ⟨v', w', q1, q2, q3, _, q5⟩ := run_append_own_at (P := P) w w.heap.size te ty e ti z size bytes ht h1 h2 h3 h4 hzs hsz (.slice none 0 0) 0 [] (World.ownsRow_nil w _ e size) ad n c (flatN css n) (flatN_len fun j hj => (hcss j hj).1) (hcell ad rfl) (flatN_one fun j hj => (hcss j hj).2.1) (by unfold maxLen; omega) (by rw [Nat.zero_add]; exact hby) (Nat.le_refl _)
    rw [Nat.zero_add, List.nil_append] at q2
    have hO : Out w w' e size n v' css fun _ i cs => R i cs := ⟨q2, (Below.refl _ _).grown q3 (Nat.le_refl _) fun k hk => (by cases hk), fun j hj => ⟨(hcss j hj).1, (hcss j hj).2.1⟩, fun j hj => (hcss j hj).2.2⟩
    have hd := hO.done (fun _ _ _ _ _ h => h) hby
    refine ⟨v', w', q1, ?_, hO.bl, v', rfl, hd⟩
    obtain ⟨A', c', hv, _⟩ := hd
    rw [hv]; rfl
/-- Something becomes known of a slot's value. -/
theorem St.learn {n s : Nat} {x : Value} {fr : Fr} {bs : List Res} {G : Env} {a : Act} {w : World} (po : Po) (h : St N W n ((s, .v x) :: fr) bs G a w) (h1 : x.oneCell' = true) (hp : po.p [x] (World.only w (own N G (lb bs)))) :
    ∃ G', St N W n ((s, .x bs.length 0) :: fr) (bs ++ [.unk 1 po]) G' a w ∧ ∀ i, i < bs.length → same G' G i := by
  have hn : lb bs bs.length = none := List.getElem?_eq_none (Nat.le_refl _)
  let G' : Env := ⟨G.g, fun j => if j = bs.length then [x] else G.u j⟩
  have hs : ∀ i, i < bs.length → same G' G i := fun i hi => ⟨rfl, by simp only [G', show i ≠ bs.length by omega, if_false]⟩
  have hsB : ∀ i, (lb bs i).isSome = true → same G' G i := fun i hi => hs i (by rw [lb_some, Nat.blt_eq] at hi; exact hi)
  have hup : updB (lb bs) bs.length (.unk 1 po) = lb (bs ++ [.unk 1 po]) := lb_upd bs (.al (.unk 1 po)) (fun i cs e => by cases e)
  have old : ∀ i cs, updB (lb bs) bs.length (.unk 1 po) i = some (.box cs) → lb bs i = some (.box cs) := fun i cs hi => by
    unfold updB at hi
    split at hi
    · cases hi
    · exact hi
  have own' : ∀ b, own N G (lb bs) b → own N G' (updB (lb bs) bs.length (.unk 1 po)) b := fun b hb => ⟨hb.1, fun j ds hj => hb.2 j ds (old j ds hj)⟩
  have hcl := h.cl
  simp only [okF, List.all_cons, Bool.and_eq_true] at hcl
  refine ⟨G', ⟨⟨h.env.defers, h.env.size, fun t v ht => ?_⟩, ?_, ?_⟩, hs⟩
  · unfold get at ht
    have hold := h.env.get t
    unfold get at hold
    cases e : Nat.beq s t with
    | true =>
      rw [e, cond_true] at ht hold
      cases ht
      have := hold (.v x) rfl
      rw [this]
      simp [RV.conc, G']
    | false =>
      rw [e, cond_false] at ht hold
      rw [hold v ht]
      have hv := okF_get (b := bs.length) (fr := fr) (by simp only [okF]; exact hcl.2) ht
      exact congrArg some (conc_congr (f := fun i => Nat.blt i bs.length) (fun i hi => hs i (by simpa [Nat.blt_eq] using hi)) v hv).symm
  · show RpP N W G' (lb (bs ++ [.unk 1 po])) w
    rw [← hup]
    refine ⟨h.rp.below, fun i ds hi => ?_, fun i ds hi => allL_mono isSome_upd _ (h.rp.cl i ds (old i ds hi)), fun i m' po' hi => ?_, fun i j ci cj hi hj e => h.rp.inj i j ci cj (old i ci hi) (old j cj hj) e, h.rp.le⟩
    · rw [concL_congr hsB ds (h.rp.cl i ds (old i ds hi))]
      exact h.rp.sb i ds (old i ds hi)
    · by_cases e : i = bs.length
      · subst e
        unfold updB at hi
        rw [if_pos rfl] at hi
        cases hi
        simp only [G', if_true]
        exact ⟨rfl, fun v hv => by rw [List.mem_singleton] at hv; rw [hv]; exact h1, po.mono _ _ _ (only_only (Nat.le_refl _) fun b hlt hb2 => ⟨own' b hb2, rfl⟩) hp⟩
      · unfold updB at hi
        rw [if_neg e] at hi
        obtain ⟨q1, q2, q3⟩ := h.rp.un i m' po' hi
        simp only [G', e, if_false]
        exact ⟨q1, q2, po'.mono _ _ _ (only_only (Nat.le_refl _) fun b hlt hb2 => ⟨own' b hb2, rfl⟩) q3⟩
  · simp only [okF, List.all_cons, Bool.and_eq_true]
    refine ⟨by simp [RV.lt, RV.all, Nat.blt_eq], ?_⟩
    have := okF_mono (n := bs.length) (m := (bs ++ [Res.unk 1 po]).length) (by simp) (fr := fr) (by simp only [okF]; exact hcl.2)
    simpa [okF] using this
/-- The row of a loop, at its end. -/
theorem St.row {n s : Nat} {x : Value} {fr : Fr} {bs : List Res} {G : Env} {a : Act} {w0 w : World} {e : TypeId} {size bytes k : Nat} {css : Nat → List Value} {Qe : World → Nat → List Value → Prop} (po : Po) (h : St N W n ((s, .v x) :: fr) bs G a w) (h0 : Rp N W G bs w0) (hO : Out w0 w e size k x css Qe)
    (hQ : ∀ W1 W2 i cs, Sub W1 W2 → Qe W1 i cs → Qe W2 i cs) (hby : k * bytes ≤ 140737488355328) (hp : ∀ w, SlF w size bytes k x (fun i ds => Qe w i ds) → po.p [x] w) :
    ∃ G', St N W n ((s, .x bs.length 0) :: fr) (bs ++ [.unk 1 po]) G' a w ∧ ∀ i, i < bs.length → same G' G i := by
  have hd := hO.done hQ hby
  refine h.learn po (by obtain ⟨A, c, hx, _⟩ := hd; rw [hx]; rfl) (po.mono _ _ _ (only_only (p := fun b => w0.heap.size ≤ b) (Nat.le_refl _) fun b _ hb => ⟨⟨Nat.le_trans h0.le hb, fun i cs hi => ?_⟩, rfl⟩) (hp _ hd))
  have := h0.lt hi
  omega
end
end RC
end Go.Proofs.YtddedijencleeaaGreatDoor

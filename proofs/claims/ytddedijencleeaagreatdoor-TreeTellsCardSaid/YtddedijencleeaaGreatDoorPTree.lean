/- The claim: consistorylaw9.TreeTells answers true for every statement and every expression (its listed variables tied to the program's text); no further condition. -/
import Derived.Test.YtddedijencleeaaGreatDoorRowKit
import Derived.Test.YtddedijencleeaaGreatDoorYb
import Derived.Test.YtddedijencleeaaGreatDoorOp
import Derived.LaidSub
import Derived.ChangeSlices
import Derived.ChangeSame
import Derived.Carry
import Derived.ChangeOld
set_option linter.all false
namespace Go.Proofs.YtddedijencleeaaGreatDoor
open Go.ChangeShapes Go.WideShapes Go.ChangeAt Go.RowKit Go.Joins

theorem readSt : Tryz.prog.readableRec 39 = true := by kernel_rfl
theorem readEx : Tryz.prog.readableRec 34 = true := by kernel_rfl
theorem ltEx : 34 < Tryz.prog.types.size := of_decide_eq_true (by kernel_rfl)
theorem ltSt : 39 < Tryz.prog.types.size := of_decide_eq_true (by kernel_rfl)
theorem laid_B : laidOutB Tryz.prog = true := by kernel_rfl
end Go.Proofs.YtddedijencleeaaGreatDoor
namespace Go.Proofs.YtddedijencleeaaGreatDoor.lawTells
open Go.ChangeShapes Go.WideShapes Go.ChangeAt Go.RowKit

theorem laid_ok {W : World} (h : laidMetH Tryz.prog Rows.treeTellsRow.laid W) : OkW W := by
  have h1 := h.filter (fun x => x.1 == "errors.errorType")
  have e : Rows.treeTellsRow.laid.filter (fun x => x.1 == "errors.errorType") = [("errors.errorType", Rows.laid_errors_errorType)] := by kernel_rfl
  rw [e] at h1
  exact ok_of_laid h1
theorem laid_tab {W : World} (h : laidMetH Tryz.prog Rows.treeTellsRow.laid W) : Lib.TabIs Tryz.prog W "internal/strconv.uint64pow10" .u64 Lib.pow10Tab := by
  have h1 := (laidMetH_iff.1 (h.filter (fun x => x.1 == "internal/strconv.uint64pow10"))).1
  have e : (Rows.treeTellsRow.laid.filter (fun x => x.1 == "internal/strconv.uint64pow10")).filter (fun x => x.2.handleName?.isNone) = [("internal/strconv.uint64pow10", Lib.tabData .u64 Lib.pow10Tab)] := by kernel_rfl
  rw [e] at h1
  exact Lib.tabIs_of_head (g := 1) (t := 254) (e := 210) (n := 20) (by kernel_rfl) (by kernel_rfl) Tryz.underlying254 Tryz.underlying210 (by kernel_rfl) (by kernel_rfl) h1
theorem laid_pr {W : World} (h : laidMetH Tryz.prog Rows.treeTellsRow.laid W) (hs : W.ShapedOpen Tryz.prog) : PrW W := ⟨laid_tab h, Go.Proofs.cell_of_shapedOpen_int (zero := #[.int .i64 0]) (t := 3) hs (of_decide_eq_true (by kernel_rfl)) (by kernel_rfl) rfl (by kernel_rfl) (by kernel_rfl) Tryz.underlying3⟩
set_option maxRecDepth 100000 in
theorem open_Expr {H : Type} {enc : TypeId × Value → H} {W : World} {r : Reach} {b0 : Nat} {v : Value} {d : DataW H} {ps : List MemPlace} (hv : Value.okWide Tryz.prog W r b0 34 v) (h : DataW.Trod enc Tryz.prog W 0 (fun _ => true) true 34 v d ps) (hw : ∀ k ∈ DataW.weights Tryz.prog 34 d, k ≤ reachBytes) :
    ∃ a ca, v = .agg (List.toArray ca) ∧ QI W a ca := by
  obtain ⟨cs, rfl, _⟩ := okWide_struct Tryz.underlying34 hv
  obtain ⟨n, hn⟩ := h
  obtain ⟨a, h1, _⟩ := Op.fed_E (enc := enc) (W := W) n cs.toList ⟨(d, ps), hn, hw⟩
  exact ⟨a, cs.toList, rfl, h1⟩
def lits1 : DataW Unit → List Value
  | .lit (.int k n) => [.int k n]
  | _ => []
def lits2 : DataW Unit → List Value
  | .agg l => l.flatMap lits1
  | d => lits1 d
def lits3 : DataW Unit → Array Value
  | .agg l => (l.flatMap lits2).toArray
  | _ => #[]
def put (cs : Array Value) : Obj → Obj
  | .cells _ t frozen => .cells cs t frozen
  | o => o
/-- A world that meets the condition: the settled one, each listed variable's cells laid. -/
noncomputable def tellsWorld (os : Os) : World :=
  { laidWorld os with heap := (((((laidWorld os).heap.modify 5 (put (lits3 Rows.laid_math_bits_deBruijn32tab))).modify 6 (put (lits3 Rows.laid_math_bits_deBruijn64tab))).modify 1 (put (lits3 Rows.laid_internal_strconv_uint64pow10))).modify 4 (put (lits3 Rows.laid_unicode_utf8_acceptRanges))).modify 3 (put (lits3 Rows.laid_unicode_utf8_first)) }
theorem tells_met (os : Os) (args : Array Value) : laidMetH Tryz.prog Rows.treeTellsRow.laid ((tellsWorld os).forCall (fun _ _ => 0) ⟨#[], args, []⟩).memory :=
  laidMetH_of_parts (laidMet_of_run' 8 (by kernel_rfl) (by kernel_rfl)) (by kernel_rfl)

noncomputable def zSt : Value := .agg #[.int .i64 0, .string ⟨#[]⟩, .slice none 0 0, .slice none 0 0, .slice none 0 0, .string ⟨#[]⟩, .string ⟨#[]⟩, .bool false, .slice none 0 0, .slice none 0 0, .slice none 0 0, .int .i64 0, .int .i64 0, .int .i64 0, .int .i64 0, .string ⟨#[]⟩, .string ⟨#[]⟩, .string ⟨#[]⟩, .slice none 0 0, .int .i64 0, .int .i64 0, .bool false, .slice none 0 0, .slice none 0 0, .slice none 0 0, .int .i64 0, .int .i64 0, .int .i64 0, .int .i64 0, .string ⟨#[]⟩, .string ⟨#[]⟩, .string ⟨#[]⟩, .slice none 0 0, .int .i64 0, .int .i64 0, .slice none 0 0, .int .i64 0]
def dSt {H : Type} : DataW H := .agg [.lit (.int .i64 0), .agg [.lit (.string []), .nil, .nil], .nil, .lit (.string []), .lit (.string []), .lit (.bool false), .nil, .nil, .nil, .agg [.lit (.int .i64 0), .lit (.int .i64 0), .agg [.lit (.int .i64 0), .lit (.int .i64 0), .lit (.string [])], .lit (.string []), .lit (.string []), .nil, .lit (.int .i64 0), .lit (.int .i64 0)], .lit (.bool false), .nil, .nil, .nil, .agg [.lit (.int .i64 0), .lit (.int .i64 0), .agg [.lit (.int .i64 0), .lit (.int .i64 0), .lit (.string [])], .lit (.string []), .lit (.string []), .nil, .lit (.int .i64 0), .lit (.int .i64 0)], .nil, .lit (.int .i64 0)]
noncomputable def zEx : Value := .agg #[.int .i64 0, .int .i64 0, .int .i64 0, .int .i64 0, .string ⟨#[]⟩, .string ⟨#[]⟩, .string ⟨#[]⟩, .slice none 0 0, .int .i64 0, .int .i64 0]
def dEx {H : Type} : DataW H := .agg [.lit (.int .i64 0), .lit (.int .i64 0), .agg [.lit (.int .i64 0), .lit (.int .i64 0), .lit (.string [])], .lit (.string []), .lit (.string []), .nil, .lit (.int .i64 0), .lit (.int .i64 0)]
set_option maxRecDepth 100000 in
theorem contract (H : Type) (enc : TypeId × Value → H) (W : World) (base : Nat) (args : Array Value) (ds gs : List (DataW H)) (before : List MemPlace)
    (hval : ∀ (j : Nat) t v, Tryz.f3.params[j]? = some t → args[j]? = some v → Value.okWide Tryz.prog W .any base t v)
    (hW : DataW.Whole enc Tryz.prog Tryz.f3.params.toList Rows.treeTellsSpec.vars false W args.toList ds gs before)
    (hz : (DataW.weightsEach Tryz.prog (Tryz.f3.params.toList ++ (OpenSpec.ofChange Rows.treeTellsSpec).bare.plain.varTypes Tryz.prog) (ds ++ gs)).all (· ≤ reachBytes) = true)
    (hL : laidMetH Tryz.prog Rows.treeTellsRow.laid W) (hSh : W.ShapedOpen Tryz.prog) :
    Calls Tryz.prog 3 args W fun e W' => ∃ v, e = .returned v ∧ Rows.treeTellsSpec.post enc Tryz.prog Tryz.f3 false true false false W args v W' := by
  have hW' := hW
  obtain ⟨p, q, hA0, hV, rfl, hfz, hnd⟩ := hW
  have hA : DataW.TrodAll enc Tryz.prog W 0 (fun _ => true) true Tryz.f3.params.toList args.toList ds p := hA0
  rw [Tryz.params3] at hA hval hz
  obtain ⟨v0, vs0, d0, ds0, p0, q0, hargs, rfl, rfl, h0, r0⟩ := trodAll_cons hA
  obtain ⟨v1, vs1, d1, ds1, p1, q1, rfl, rfl, rfl, h1, r1⟩ := trodAll_cons r0
  obtain ⟨rfl, rfl, rfl⟩ := trodAll_nil r1
  obtain rfl : args = #[v0, v1] := by cases args; simp_all
  obtain ⟨rfl, rfl⟩ := trodVars_none hV
  have w0 : ∀ k ∈ DataW.weights Tryz.prog 39 d0, k ≤ reachBytes := fun k hk => by
    simpa using List.all_eq_true.1 hz k (DataW.weights_mem_each (j := 0) (t := 39) (d := d0) rfl rfl k hk)
  have w1 : ∀ k ∈ DataW.weights Tryz.prog 34 d1, k ≤ reachBytes := fun k hk => by
    simpa using List.all_eq_true.1 hz k (DataW.weights_mem_each (j := 1) (t := 34) (d := d1) rfl rfl k hk)
  obtain ⟨a, ca, rfl, ha⟩ := Op.open_Stmt (hval 0 39 v0 rfl rfl) h0 w0
  obtain ⟨b, cb, rfl, hb⟩ := open_Expr (hval 1 34 v1 rfl rfl) h1 w1
  clear hA0 hz w0 w1
  simp only [List.append_nil] at hW'
  have hlt : ∀ x ∈ p0 ++ p1, x.block < W.heap.size := fun x hx => by simpa using hW'.lt x hx
  have hOK := laid_ok hL
  refine (treeTells_walk a b ca cb W ha hb hOK (laid_pr hL hSh)).mono fun e W' ⟨he, hb⟩ => ?_
  subst he
  refine ⟨_, rfl, _, _, _, [], p0 ++ (p1 ++ []), [], (by simpa using hW'), ?_, ?_, ?_, hb.frame _, fun h => by cases h⟩
  · exact trodAll_cons_mk (shut_bool Tryz.underlying4 true) trodAll_mk0
  · exact trodAll_cons_mk (Below.trod laid_B readSt ltSt h0 hb fun x hx => hlt x (List.mem_append_left _ hx)) (trodAll_cons_mk (Below.trod laid_B readEx ltEx h1 hb fun x hx => hlt x (List.mem_append_right _ hx)) trodAll_mk0)
  · rfl

/-- A reading of the witness. -/
theorem reads (os : Os) {H : Type} (enc : TypeId × Value → H) : ∃ places, DataW.whole enc Tryz.prog ((tellsWorld os).forCall (fun _ _ => 0) ⟨#[], #[zSt, zEx], []⟩).memory Tryz.f3.params.toList Rows.treeTellsSpec.vars false #[zSt, zEx].toList 8 = some ([dSt, dEx], [], places) :=
  ⟨[], by kernel_rfl⟩

set_option maxRecDepth 100000 in
theorem lifted (os : Os) (started : os.Started) (H : Type) (enc : TypeId × Value → H) (F : Stop.Interp) :
    ReturnsInHanded {} Tryz.checked os 3 .any ((OpenSpec.ofChange Rows.treeTellsSpec).preRow enc Tryz.prog Tryz.f3 Rows.treeTellsRow.domain false Rows.treeTellsRow.laid) (((OpenSpec.ofChange Rows.treeTellsSpec).at F).post enc Tryz.prog Tryz.f3 false true false false) := by
  obtain ⟨places, hx⟩ := reads os enc
  refine returnsInHanded_of_row (C := Tryz.checked) (s := OpenSpec.ofChange Rows.treeTellsSpec) RK.own started (by kernel_rfl) Tryz.func3
    (witness_row_at (enc := enc) (C := Tryz.checked) false (tellsWorld os) #[zSt, zEx] rfl (by kernel_rfl) (by kernel_rfl) (by kernel_rfl)
      (OpenSpec.preRow_of_cond 8 hx (by kernel_rfl) (fun k hk => by cases hk) (by kernel_rfl) (tells_met os _))) ?_
  intro W base args ds gs before hval hW _ _ hz hL hSh _
  exact contract H enc W base args ds gs before hval hW hz hL hSh

set_option maxHeartbeats 20000000 in
theorem joined : joinedFacts Tryz.pinned.checked.prog 3 Tryz.f3 (OpenSpec.ofChange Rows.treeTellsSpec).bare Rows.treeTellsRow = true := by
  unfold joinedFacts
  repeat' (with_reducible refine Bool.and_eq_true_iff.2 ⟨?_, ?_⟩)
  all_goals (as_aux_lemma => kernel_rfl)
set_option maxHeartbeats 20000000 in
theorem said : Rows.TreeTellsSaid :=
  OpenClaim.holds_of_cond 3 Tryz.f3 rfl rfl rfl rfl rfl rfl rfl ⟨rfl, rfl, rfl, rfl, rfl⟩ rfl rfl rfl rfl rfl (by as_aux_lemma => kernel_rfl) Tryz.func3 joined
    (by as_aux_lemma => exact of_decide_eq_true (by kernel_rfl)) (by as_aux_lemma => (unfold Func.isWrapper; first | (rw [if_pos (by decide +kernel)]; kernel_rfl) | (rw [if_neg (by decide +kernel)]; exact ⟨rfl, rfl⟩)))
    (fun os started H enc _ F => by rw [OpenClaim.pre_eq_preRow]; exact lifted os started H enc F)

theorem plain (f : FuncId) (fn : Func) (hf : Tryz.pinned.checked.prog.funcNamed "consistory/consistorylaw9.TreeTells" = some f) (hfn : Tryz.pinned.checked.prog.funcs[f]? = some fn) :
    true = Tryz.pinned.checked.prog.looks [] ∧ ∀ (j : Nat) t, fn.params[j]? = some t → Tryz.pinned.checked.prog.wantsStandIn t = false := by
  obtain rfl : f = 3 := Option.some.inj ((show Tryz.prog.funcNamed "consistory/consistorylaw9.TreeTells" = some 3 by kernel_rfl).symm.trans hf) |>.symm
  obtain rfl : fn = Tryz.f3 := (Option.some.inj (Tryz.func3.symm.trans hfn)).symm
  refine ⟨by kernel_rfl, fun j t ht => ?_⟩
  rw [Tryz.params3] at ht
  have hm := Array.mem_of_getElem? ht
  have ht : t = 39 ∨ t = 34 := by simpa using hm
  rcases ht with rfl | rfl
  · exact (show Tryz.prog.wantsStandIn 39 = false by kernel_rfl)
  · exact (show Tryz.prog.wantsStandIn 34 = false by kernel_rfl)

set_option maxHeartbeats 20000000 in
theorem card : Rows.TreeTellsCardSaid :=
  Claim7.holds_tied_plain_at .later [] _ _ _ _ said (fun _ h => by cases h) (by kernel_rfl) (fun _ h => by cases h) treeTells_row_tie rfl ⟨rfl, rfl⟩ (by kernel_rfl) rfl plain (by kernel_rfl)
end Go.Proofs.YtddedijencleeaaGreatDoor.lawTells

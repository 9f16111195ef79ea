/- The claim: consistorylaw9.TreeNests answers true for every row of bytes (its listed variables tied to the program's text); no further condition. -/
import Derived.Test.YtmolojjhnbchbaaGreatDoorRowKit
import Derived.Test.YtmolojjhnbchbaaGreatDoorNtZ
import Derived.LaidSub
import Derived.ChangeSlices
import Derived.Deep.Slices
import Derived.ChangeSame
import Derived.Carry
import Derived.ChangeOld
set_option linter.all false
namespace Go.Proofs.YtmolojjhnbchbaaGreatDoor
open Go.ChangeShapes Go.WideShapes Go.ChangeAt Go.RowKit Go.Joins Go.Deep

theorem flat0 {W : World} {a : Addr} {u : Value} (h : W.cell? (a.add 0) = some u) : ∃ b o, a = ⟨b, o, none⟩ ∧ b < W.heap.size := by
  obtain ⟨b, o, s⟩ := a
  cases s with
  | none => exact ⟨b, o, rfl, by simpa [Addr.add] using lt_of_cell h⟩
  | some s =>
    exfalso
    have e : ((⟨b, o, some s⟩ : Addr).add 0) = ⟨b, o, some s⟩ := by simp [Addr.add]
    rw [e] at h
    unfold World.cell? at h
    split at h <;> simp at h
theorem add_flat (b o j : Nat) : (⟨b, o, none⟩ : Addr).add j = ⟨b, o + j, none⟩ := by unfold Addr.add; split <;> simp_all
section
variable {H : Type} {enc : TypeId × Value → H} {W : World}
set_option maxRecDepth 100000 in
theorem open_Bs {r : Reach} {b0 : Nat} {v : Value} {d : DataW H} {ps : List MemPlace} (hv : Value.okWide Tryz.prog W r b0 22 v) (h : DataW.Trod enc Tryz.prog W 0 (fun _ => true) true 22 v d ps) :
    ∃ A n c, ∃ xs : List Int, v = .slice A n c ∧ n ≤ c ∧ n ≤ maxLen ∧ Reads W 1 A n (nums xs) ∧ (∀ x, x ∈ xs → 0 ≤ x ∧ x < 256) := by
  obtain ⟨a0, len0, cap0, rfl⟩ := okWide_slice Tryz.underlying22 hv
  obtain ⟨fuel, hf⟩ := h
  have c1 : Tryz.prog.cellsOf 5 = 1 := by kernel_rfl
  rcases open_ints Tryz.underlying22 Tryz.underlying5 c1 hf with ⟨h0, _⟩ | ⟨a, len, cap, zs, hcs, hb, hl, hm, hmm, hx, hi, hw⟩
  · simp [Value.cells] at h0
    obtain ⟨rfl, rfl, rfl⟩ := h0
    exact ⟨none, 0, 0, [], rfl, Nat.le_refl _, by unfold maxLen; omega, Reads.none_, fun u hu => by simp at hu⟩
  · simp [Value.cells] at hcs
    obtain ⟨rfl, rfl, rfl⟩ := hcs
    have hlm : len0 ≤ zs.length := by rw [hmm]; split <;> omega
    refine ⟨some a, len0, cap0, zs.take len0, rfl, hl, by omega, ⟨by simp [nums]; omega, fun hpos => ?_⟩, fun x hxm => ?_⟩
    · obtain ⟨b, o, rfl, hlt⟩ := flat0 (hi 0 (by omega))
      refine ⟨b, o, rfl, hlt, fun j x hx => ?_⟩
      simp only [nums, List.getElem?_map, Option.map_eq_some_iff] at hx
      obtain ⟨y, hy, rfl⟩ := hx
      rw [List.getElem?_take] at hy
      split at hy
      · have h2 := hi j (by omega)
        rw [add_flat] at h2
        rw [h2, List.getD_eq_getElem?_getD, hy]
        rfl
      · cases hy
    · have := hw x (List.mem_of_mem_take hxm)
      simp [Lit.wf] at this
      have e1 : IntKind.u8.min = 0 := by decide
      have e2 : IntKind.u8.max = 255 := by decide
      omega
end
theorem readBs : Tryz.prog.readableRec 22 = true := by kernel_rfl
theorem ltBs : 22 < Tryz.prog.types.size := of_decide_eq_true (by kernel_rfl)
theorem laid_B : laidOutB Tryz.prog = true := by kernel_rfl
end Go.Proofs.YtmolojjhnbchbaaGreatDoor
namespace Go.Proofs.YtmolojjhnbchbaaGreatDoor.lawNests
open Go.ChangeShapes Go.WideShapes Go.ChangeAt Go.RowKit

theorem laid_ok {W : World} (h : laidMetH Tryz.prog Rows.treeNestsRow.laid W) : OkW W := by
  have h1 := h.filter (fun x => x.1 == "errors.errorType")
  have e : Rows.treeNestsRow.laid.filter (fun x => x.1 == "errors.errorType") = [("errors.errorType", Rows.laid_errors_errorType)] := by kernel_rfl
  rw [e] at h1
  exact ok_of_laid h1
def lits1 : DataW Unit → List Value
  | .lit (.int k n) => [.int k n]
  | _ => []
def lits2 : DataW Unit → List Value
  | .agg l => l.flatMap lits1
  | d => lits1 d
def lits3 : DataW Unit → Array Value
  | .agg l => (l.flatMap lits2).toArray
  | _ => #[]
def put (cs : Array Value) : Obj → Obj
  | .cells _ t frozen => .cells cs t frozen
  | o => o
/-- A world that meets the condition: the settled one, each listed variable's cells laid. -/
noncomputable def nestsWorld (os : Os) : World :=
  { laidWorld os with heap := (((((laidWorld os).heap.modify 5 (put (lits3 Rows.laid_math_bits_deBruijn32tab))).modify 6 (put (lits3 Rows.laid_math_bits_deBruijn64tab))).modify 1 (put (lits3 Rows.laid_internal_strconv_uint64pow10))).modify 4 (put (lits3 Rows.laid_unicode_utf8_acceptRanges))).modify 3 (put (lits3 Rows.laid_unicode_utf8_first)) }
theorem nests_met (os : Os) (args : Array Value) : laidMetH Tryz.prog Rows.treeNestsRow.laid ((nestsWorld os).forCall (fun _ _ => 0) ⟨#[], args, []⟩).memory :=
  laidMetH_of_parts (laidMet_of_run' 8 (by kernel_rfl) (by kernel_rfl)) (by kernel_rfl)

set_option maxRecDepth 100000 in
theorem contract (H : Type) (enc : TypeId × Value → H) (W : World) (base : Nat) (args : Array Value) (ds gs : List (DataW H)) (before : List MemPlace)
    (hval : ∀ (j : Nat) t v, Tryz.f3.params[j]? = some t → args[j]? = some v → Value.okWide Tryz.prog W .any base t v)
    (hW : DataW.Whole enc Tryz.prog Tryz.f3.params.toList Rows.treeNestsSpec.vars false W args.toList ds gs before) (hL : laidMetH Tryz.prog Rows.treeNestsRow.laid W) :
    Calls Tryz.prog 3 args W fun e W' => ∃ v, e = .returned v ∧ Rows.treeNestsSpec.post enc Tryz.prog Tryz.f3 false true false false W args v W' := by
  have hW' := hW
  obtain ⟨p, q, hA0, hV, rfl, hfz, hnd⟩ := hW
  have hA : DataW.TrodAll enc Tryz.prog W 0 (fun _ => true) true Tryz.f3.params.toList args.toList ds p := hA0
  rw [Tryz.params3] at hA hval
  obtain ⟨v0, vs0, d0, ds0, p0, q0, hargs, rfl, rfl, h0, r0⟩ := trodAll_cons hA
  obtain ⟨rfl, rfl, rfl⟩ := trodAll_nil r0
  obtain rfl : args = #[v0] := by cases args; simp_all
  obtain ⟨rfl, rfl⟩ := trodVars_none hV
  obtain ⟨B, m, d, xs, rfl, hmd, hm, rk, wk⟩ := open_Bs (hval 0 22 v0 rfl rfl) h0
  clear hA0
  simp only [List.append_nil] at hW'
  have hlt : ∀ x ∈ p0, x.block < W.heap.size := fun x hx => by simpa using hW'.lt x hx
  have hOK := laid_ok hL
  refine (nests_walk B m d xs W hOK (lt_of_cell (a := ⟨0, 0, none⟩) hOK) (by unfold maxLen at hm; omega) wk rk).mono fun e W' ⟨he, hb⟩ => ?_
  subst he
  refine ⟨_, rfl, _, _, _, [], p0 ++ [], [], (by simpa using hW'), ?_, ?_, ?_, hb.frame _, fun h => by cases h⟩
  · exact trodAll_cons_mk (shut_bool Tryz.underlying4 true) trodAll_mk0
  · exact trodAll_cons_mk (Below.trod laid_B readBs ltBs h0 hb fun x hx => hlt x hx) trodAll_mk0
  · rfl

/-- A reading of the witness. -/
theorem reads (os : Os) {H : Type} (enc : TypeId × Value → H) : ∃ places, DataW.whole enc Tryz.prog ((nestsWorld os).forCall (fun _ _ => 0) ⟨#[], #[.slice none 0 0], []⟩).memory Tryz.f3.params.toList Rows.treeNestsSpec.vars false #[.slice none 0 0].toList 8 = some ([.nil], [], places) :=
  ⟨[], by kernel_rfl⟩

set_option maxRecDepth 100000 in
theorem lifted (os : Os) (started : os.Started) (H : Type) (enc : TypeId × Value → H) (F : Stop.Interp) :
    ReturnsInHanded {} Tryz.checked os 3 .any ((OpenSpec.ofChange Rows.treeNestsSpec).preRow enc Tryz.prog Tryz.f3 Rows.treeNestsRow.domain false Rows.treeNestsRow.laid) (((OpenSpec.ofChange Rows.treeNestsSpec).at F).post enc Tryz.prog Tryz.f3 false true false false) := by
  obtain ⟨places, hx⟩ := reads os enc
  refine returnsInHanded_of_row (C := Tryz.checked) (s := OpenSpec.ofChange Rows.treeNestsSpec) RK.own started (by kernel_rfl) Tryz.func3
    (witness_row_at (enc := enc) (C := Tryz.checked) false (nestsWorld os) #[.slice none 0 0] rfl (by kernel_rfl) (by kernel_rfl) (by kernel_rfl)
      (OpenSpec.preRow_of_cond 8 hx (by kernel_rfl) (fun k hk => by cases hk) (by kernel_rfl) (nests_met os _))) ?_
  intro W base args ds gs before hval hW _ _ _ hL hSh _
  exact contract H enc W base args ds gs before hval hW hL

set_option maxHeartbeats 20000000 in
theorem joined : joinedFacts Tryz.pinned.checked.prog 3 Tryz.f3 (OpenSpec.ofChange Rows.treeNestsSpec).bare Rows.treeNestsRow = true := by
  unfold joinedFacts
  repeat' (with_reducible refine Bool.and_eq_true_iff.2 ⟨?_, ?_⟩)
  all_goals (as_aux_lemma => kernel_rfl)
set_option maxHeartbeats 20000000 in
theorem said : Rows.TreeNestsSaid :=
  OpenClaim.holds_of_cond 3 Tryz.f3 rfl rfl rfl rfl rfl rfl rfl ⟨rfl, rfl, rfl, rfl, rfl⟩ rfl rfl rfl rfl rfl (by as_aux_lemma => kernel_rfl) Tryz.func3 joined
    (by as_aux_lemma => exact of_decide_eq_true (by kernel_rfl)) (by as_aux_lemma => (unfold Func.isWrapper; first | (rw [if_pos (by decide +kernel)]; kernel_rfl) | (rw [if_neg (by decide +kernel)]; exact ⟨rfl, rfl⟩)))
    (fun os started H enc _ F => by rw [OpenClaim.pre_eq_preRow]; exact lifted os started H enc F)

theorem plain (f : FuncId) (fn : Func) (hf : Tryz.pinned.checked.prog.funcNamed "consistory/consistorylaw9.TreeNests" = some f) (hfn : Tryz.pinned.checked.prog.funcs[f]? = some fn) :
    true = Tryz.pinned.checked.prog.looks [] ∧ ∀ (j : Nat) t, fn.params[j]? = some t → Tryz.pinned.checked.prog.wantsStandIn t = false := by
  obtain rfl : f = 3 := Option.some.inj ((show Tryz.prog.funcNamed "consistory/consistorylaw9.TreeNests" = some 3 by kernel_rfl).symm.trans hf) |>.symm
  obtain rfl : fn = Tryz.f3 := (Option.some.inj (Tryz.func3.symm.trans hfn)).symm
  refine ⟨by kernel_rfl, fun j t ht => ?_⟩
  rw [Tryz.params3] at ht
  have hm := Array.mem_of_getElem? ht
  obtain rfl : t = 22 := by simpa using hm
  exact (show Tryz.prog.wantsStandIn 22 = false by kernel_rfl)

set_option maxHeartbeats 20000000 in
theorem card : Rows.TreeNestsCardSaid :=
  Claim7.holds_tied_plain_at .later [] _ _ _ _ said (fun _ h => by cases h) (by kernel_rfl) (fun _ h => by cases h) treeNests_row_tie rfl ⟨rfl, rfl⟩ (by kernel_rfl) rfl plain (by kernel_rfl)
end Go.Proofs.YtmolojjhnbchbaaGreatDoor.lawNests

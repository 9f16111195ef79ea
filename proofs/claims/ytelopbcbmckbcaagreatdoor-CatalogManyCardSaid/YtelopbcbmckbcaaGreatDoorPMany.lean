/- The claim: consistorylaw11.CatalogMany answers true for every three bytes (its listed variable tied to the program's text); no further condition. -/
import Derived.Test.YtelopbcbmckbcaaGreatDoorRowKit
import Derived.Test.YtelopbcbmckbcaaGreatDoorQMany1
import Derived.Test.YtelopbcbmckbcaaGreatDoorQMany2
import Derived.Test.YtelopbcbmckbcaaGreatDoorQMany3
import Derived.Test.YtelopbcbmckbcaaGreatDoorQMany4
set_option linter.all false
namespace Go.Proofs.YtelopbcbmckbcaaGreatDoor.lawMany
open Go.ChangeShapes Go.WideShapes Go.ChangeAt Go.RowKit

theorem all_cases (c n : Nat) (hc : c < 9) (hn : n < 9) : ∃ cx : Ev.Ctx, Ev.CallSound Tryz.prog cx.call ∧ Ev.manyF cx c n = true := by
  have h1 : c = 0 ∨ c = 1 ∨ c = 2 ∨ c = 3 ∨ c = 4 ∨ c = 5 ∨ c = 6 ∨ c = 7 ∨ c = 8 := by omega
  have h2 : n = 0 ∨ n = 1 ∨ n = 2 ∨ n = 3 ∨ n = 4 ∨ n = 5 ∨ n = 6 ∨ n = 7 ∨ n = 8 := by omega
  rcases h1 with rfl | rfl | rfl | rfl | rfl | rfl | rfl | rfl | rfl <;> rcases h2 with rfl | rfl | rfl | rfl | rfl | rfl | rfl | rfl | rfl
  · exact ⟨Ev.cs1, Ev.cs1_ok, Ev.many_0_0⟩
  · exact ⟨Ev.cs1, Ev.cs1_ok, Ev.many_0_1⟩
  · exact ⟨Ev.cs1, Ev.cs1_ok, Ev.many_0_2⟩
  · exact ⟨Ev.cs1, Ev.cs1_ok, Ev.many_0_3⟩
  · exact ⟨Ev.cs1, Ev.cs1_ok, Ev.many_0_4⟩
  · exact ⟨Ev.cs1, Ev.cs1_ok, Ev.many_0_5⟩
  · exact ⟨Ev.cs1, Ev.cs1_ok, Ev.many_0_6⟩
  · exact ⟨Ev.cs1, Ev.cs1_ok, Ev.many_0_7⟩
  · exact ⟨Ev.cs1, Ev.cs1_ok, Ev.many_0_8⟩
  · exact ⟨Ev.cs2, Ev.cs2_ok, Ev.many_1_0⟩
  · exact ⟨Ev.cs2, Ev.cs2_ok, Ev.many_1_1⟩
  · exact ⟨Ev.cs2, Ev.cs2_ok, Ev.many_1_2⟩
  · exact ⟨Ev.cs2, Ev.cs2_ok, Ev.many_1_3⟩
  · exact ⟨Ev.cs2, Ev.cs2_ok, Ev.many_1_4⟩
  · exact ⟨Ev.cs2, Ev.cs2_ok, Ev.many_1_5⟩
  · exact ⟨Ev.cs2, Ev.cs2_ok, Ev.many_1_6⟩
  · exact ⟨Ev.cs2, Ev.cs2_ok, Ev.many_1_7⟩
  · exact ⟨Ev.cs2, Ev.cs2_ok, Ev.many_1_8⟩
  · exact ⟨Ev.cs3, Ev.cs3_ok, Ev.many_2_0⟩
  · exact ⟨Ev.cs3, Ev.cs3_ok, Ev.many_2_1⟩
  · exact ⟨Ev.cs3, Ev.cs3_ok, Ev.many_2_2⟩
  · exact ⟨Ev.cs3, Ev.cs3_ok, Ev.many_2_3⟩
  · exact ⟨Ev.cs3, Ev.cs3_ok, Ev.many_2_4⟩
  · exact ⟨Ev.cs3, Ev.cs3_ok, Ev.many_2_5⟩
  · exact ⟨Ev.cs3, Ev.cs3_ok, Ev.many_2_6⟩
  · exact ⟨Ev.cs3, Ev.cs3_ok, Ev.many_2_7⟩
  · exact ⟨Ev.cs3, Ev.cs3_ok, Ev.many_2_8⟩
  · exact ⟨Ev.cs4, Ev.cs4_ok, Ev.many_3_0⟩
  · exact ⟨Ev.cs4, Ev.cs4_ok, Ev.many_3_1⟩
  · exact ⟨Ev.cs4, Ev.cs4_ok, Ev.many_3_2⟩
  · exact ⟨Ev.cs4, Ev.cs4_ok, Ev.many_3_3⟩
  · exact ⟨Ev.cs4, Ev.cs4_ok, Ev.many_3_4⟩
  · exact ⟨Ev.cs4, Ev.cs4_ok, Ev.many_3_5⟩
  · exact ⟨Ev.cs4, Ev.cs4_ok, Ev.many_3_6⟩
  · exact ⟨Ev.cs4, Ev.cs4_ok, Ev.many_3_7⟩
  · exact ⟨Ev.cs4, Ev.cs4_ok, Ev.many_3_8⟩
  · exact ⟨Ev.cs5, Ev.cs5_ok, Ev.many_4_0⟩
  · exact ⟨Ev.cs5, Ev.cs5_ok, Ev.many_4_1⟩
  · exact ⟨Ev.cs5, Ev.cs5_ok, Ev.many_4_2⟩
  · exact ⟨Ev.cs5, Ev.cs5_ok, Ev.many_4_3⟩
  · exact ⟨Ev.cs5, Ev.cs5_ok, Ev.many_4_4⟩
  · exact ⟨Ev.cs5, Ev.cs5_ok, Ev.many_4_5⟩
  · exact ⟨Ev.cs5, Ev.cs5_ok, Ev.many_4_6⟩
  · exact ⟨Ev.cs5, Ev.cs5_ok, Ev.many_4_7⟩
  · exact ⟨Ev.cs5, Ev.cs5_ok, Ev.many_4_8⟩
  · exact ⟨Ev.cs6, Ev.cs6_ok, Ev.many_5_0⟩
  · exact ⟨Ev.cs6, Ev.cs6_ok, Ev.many_5_1⟩
  · exact ⟨Ev.cs6, Ev.cs6_ok, Ev.many_5_2⟩
  · exact ⟨Ev.cs6, Ev.cs6_ok, Ev.many_5_3⟩
  · exact ⟨Ev.cs6, Ev.cs6_ok, Ev.many_5_4⟩
  · exact ⟨Ev.cs6, Ev.cs6_ok, Ev.many_5_5⟩
  · exact ⟨Ev.cs6, Ev.cs6_ok, Ev.many_5_6⟩
  · exact ⟨Ev.cs6, Ev.cs6_ok, Ev.many_5_7⟩
  · exact ⟨Ev.cs6, Ev.cs6_ok, Ev.many_5_8⟩
  · exact ⟨Ev.cs7, Ev.cs7_ok, Ev.many_6_0⟩
  · exact ⟨Ev.cs7, Ev.cs7_ok, Ev.many_6_1⟩
  · exact ⟨Ev.cs7, Ev.cs7_ok, Ev.many_6_2⟩
  · exact ⟨Ev.cs7, Ev.cs7_ok, Ev.many_6_3⟩
  · exact ⟨Ev.cs7, Ev.cs7_ok, Ev.many_6_4⟩
  · exact ⟨Ev.cs7, Ev.cs7_ok, Ev.many_6_5⟩
  · exact ⟨Ev.cs7, Ev.cs7_ok, Ev.many_6_6⟩
  · exact ⟨Ev.cs7, Ev.cs7_ok, Ev.many_6_7⟩
  · exact ⟨Ev.cs7, Ev.cs7_ok, Ev.many_6_8⟩
  · exact ⟨Ev.cs8, Ev.cs8_ok, Ev.many_7_0⟩
  · exact ⟨Ev.cs8, Ev.cs8_ok, Ev.many_7_1⟩
  · exact ⟨Ev.cs8, Ev.cs8_ok, Ev.many_7_2⟩
  · exact ⟨Ev.cs8, Ev.cs8_ok, Ev.many_7_3⟩
  · exact ⟨Ev.cs8, Ev.cs8_ok, Ev.many_7_4⟩
  · exact ⟨Ev.cs8, Ev.cs8_ok, Ev.many_7_5⟩
  · exact ⟨Ev.cs8, Ev.cs8_ok, Ev.many_7_6⟩
  · exact ⟨Ev.cs8, Ev.cs8_ok, Ev.many_7_7⟩
  · exact ⟨Ev.cs8, Ev.cs8_ok, Ev.many_7_8⟩
  · exact ⟨Ev.cs9, Ev.cs9_ok, Ev.many_8_0⟩
  · exact ⟨Ev.cs9, Ev.cs9_ok, Ev.many_8_1⟩
  · exact ⟨Ev.cs9, Ev.cs9_ok, Ev.many_8_2⟩
  · exact ⟨Ev.cs9, Ev.cs9_ok, Ev.many_8_3⟩
  · exact ⟨Ev.cs9, Ev.cs9_ok, Ev.many_8_4⟩
  · exact ⟨Ev.cs9, Ev.cs9_ok, Ev.many_8_5⟩
  · exact ⟨Ev.cs9, Ev.cs9_ok, Ev.many_8_6⟩
  · exact ⟨Ev.cs9, Ev.cs9_ok, Ev.many_8_7⟩
  · exact ⟨Ev.cs9, Ev.cs9_ok, Ev.many_8_8⟩

theorem symX {ρ : Ev.Env} {i p a : Nat} (hp : 0 < p) (h0 : ρ.y i = (a : Int)) (h1 : ρ.y (i + 1) = ((a % p : Nat) : Int)) : Ev.conc ρ (.sym .u8 i [(.rem, (p : Int))] ((a % p : Nat) : Int)) = some (.int .u8 (a : Int)) := by
  have p0 : ¬ ((p : Int) = 0) := by omega
  have e : ((a : Int)).tmod (p : Int) = ((a % p : Nat) : Int) := by rw [Int.ofNat_tmod]
  have ok : Ev.symOK .u8 ρ.y i [(.rem, (p : Int))] ((a % p : Nat) : Int) = true := by
    simp only [Ev.symOK, Ev.symStep, Nat.succ_eq_add_one, h0, h1, p0, if_false, e, decide_true, Bool.and_self]
  simp only [Ev.conc, Ev.symV]
  rw [if_pos ok, h0]
theorem symFr {ρ : Ev.Env} {i p a : Nat} (hp : 0 < p) (h0 : ρ.y i = (a : Int)) (h1 : ρ.y (i + 1) = ((a % p : Nat) : Int)) : Ev.conc ρ (.sym .u8 i [(.rem, (p : Int)), (.and, 0)] ((p : Int) - 1)) = some (.int .u8 (a : Int)) := by
  have p0 : ¬ ((p : Int) = 0) := by omega
  have e : ((a : Int)).tmod (p : Int) = ((a % p : Nat) : Int) := by rw [Int.ofNat_tmod]
  have hl : a % p < p := Nat.mod_lt _ hp
  have ok : Ev.symOK .u8 ρ.y i [(.rem, (p : Int)), (.and, 0)] ((p : Int) - 1) = true := by
    simp only [Ev.symOK, Ev.symStep, Nat.succ_eq_add_one, h0, h1, p0, if_false, e, decide_true, Bool.true_and, Bool.and_eq_true, decide_eq_true_eq]
    omega
  simp only [Ev.conc, Ev.symV]
  rw [if_pos ok, h0]
theorem walk (a b d : Int) (w : World) (hg : OkW w) (wa : 0 ≤ a) (wb : 0 ≤ b) (wd : 0 ≤ d) : Calls Tryz.prog 4 #[.int .u8 a, .int .u8 b, .int .u8 d] w fun e w' => e = .returned (.bool true) ∧ Below w.heap.size w w' := by
  obtain ⟨a, rfl⟩ := Int.eq_ofNat_of_zero_le wa
  obtain ⟨b, rfl⟩ := Int.eq_ofNat_of_zero_le wb
  obtain ⟨d, rfl⟩ := Int.eq_ofNat_of_zero_le wd
  obtain ⟨cx, hc, h⟩ := all_cases (b % 9) (a % 9) (Nat.mod_lt _ (by decide)) (Nat.mod_lt _ (by decide))
  unfold Ev.manyF at h
  refine Ev.runK_ok Ev.mixed hc (c := Ev.bodyOf Tryz.f4) Tryz.func4 rfl h (xs := [.int .u8 (a : Int), .int .u8 (b : Int), .int .u8 (d : Int)])
    (fun i => if i = 0 then (a : Int) else if i = 1 then ((a % 9 : Nat) : Int) else if i = 10 then (b : Int) else if i = 11 then ((b % 9 : Nat) : Int) else if i = 20 then (d : Int) else ((d % 8 : Nat) : Int)) (fun ρ hy => ?_) w hg
  exact Ev.concL_cons_mk (symX (p := 9) (by decide) (by rw [hy]; rfl) (by rw [hy]; rfl)) (Ev.concL_cons_mk (symX (p := 9) (by decide) (by rw [hy]; rfl) (by rw [hy]; rfl)) (Ev.concL_cons_mk (symFr (p := 8) (by decide) (by rw [hy]; rfl) (by rw [hy]; rfl)) rfl))

set_option maxRecDepth 100000 in
theorem contract (H : Type) (enc : TypeId × Value → H) (W : World) (base : Nat) (args : Array Value) (ds gs : List (DataW H)) (before : List MemPlace)
    (hval : ∀ (j : Nat) t v, Tryz.f4.params[j]? = some t → args[j]? = some v → Value.okWide Tryz.prog W .any base t v)
    (hW : DataW.Whole enc Tryz.prog Tryz.f4.params.toList Rows.catalogManySpec.vars false W args.toList ds gs before) (hL : laidMetH Tryz.prog Rows.catalogManyRow.laid W) :
    Calls Tryz.prog 4 args W fun e W' => ∃ v, e = .returned v ∧ Rows.catalogManySpec.post enc Tryz.prog Tryz.f4 false true false false W args v W' := by
  have hW' := hW
  obtain ⟨p, q, hA0, hV, rfl, hfz, hnd⟩ := hW
  have hA : DataW.TrodAll enc Tryz.prog W 0 (fun _ => true) true Tryz.f4.params.toList args.toList ds p := hA0
  rw [Tryz.params4] at hA hval
  obtain ⟨v0, vs0, d0, ds0, p0, q0, hargs, rfl, rfl, h0, r0⟩ := trodAll_cons hA
  obtain ⟨v1, vs1, d1, ds1, p1, q1, rfl, rfl, rfl, h1, r1⟩ := trodAll_cons r0
  obtain ⟨v2, vs2, d2, ds2, p2, q2, rfl, rfl, rfl, h2, r2⟩ := trodAll_cons r1
  obtain ⟨rfl, rfl, rfl⟩ := trodAll_nil r2
  obtain rfl : args = #[v0, v1, v2] := by cases args; simp_all
  obtain ⟨rfl, rfl⟩ := trodVars_none hV
  obtain ⟨a, rfl, rfl, rfl, wa⟩ := open_int Tryz.underlying5 (hval 0 5 v0 rfl rfl) h0
  obtain ⟨b, rfl, rfl, rfl, wb⟩ := open_int Tryz.underlying5 (hval 1 5 v1 rfl rfl) h1
  obtain ⟨d, rfl, rfl, rfl, wd⟩ := open_int Tryz.underlying5 (hval 2 5 v2 rfl rfl) h2
  clear hA0
  simp only [List.append_nil] at hW'
  refine (walk a b d W (ok_of_laid hL) (bounds_u8 wa).1 (bounds_u8 wb).1 (bounds_u8 wd).1).mono fun e W' ⟨he, hb⟩ => ?_
  subst he
  refine ⟨_, rfl, _, _, _, [], [], [], hW', ?_, ?_, ?_, hb.frame _, fun h => by cases h⟩
  · exact trodAll_cons_mk (shut_bool Tryz.underlying4 true) trodAll_mk0
  · exact trodAll_cons_mk (shut_int Tryz.underlying5 wa) (trodAll_cons_mk (shut_int Tryz.underlying5 wb) (trodAll_cons_mk (shut_int Tryz.underlying5 wd) trodAll_mk0))
  · rfl

/-- A reading of the witness. -/
theorem reads (os : Os) {H : Type} (enc : TypeId × Value → H) : ∃ places, DataW.whole enc Tryz.prog ((laidWorld os).forCall (fun _ _ => 0) ⟨#[], #[.int .u8 0, .int .u8 0, .int .u8 0], []⟩).memory Tryz.f4.params.toList Rows.catalogManySpec.vars false #[.int .u8 0, .int .u8 0, .int .u8 0].toList 8 = some ([.lit (.int .u8 0), .lit (.int .u8 0), .lit (.int .u8 0)], [], places) :=
  ⟨[], by kernel_rfl⟩

set_option maxRecDepth 100000 in
theorem lifted (os : Os) (started : os.Started) (H : Type) (enc : TypeId × Value → H) (F : Stop.Interp) :
    ReturnsInHanded {} Tryz.checked os 4 .any ((OpenSpec.ofChange Rows.catalogManySpec).preRow enc Tryz.prog Tryz.f4 Rows.catalogManyRow.domain false Rows.catalogManyRow.laid) (((OpenSpec.ofChange Rows.catalogManySpec).at F).post enc Tryz.prog Tryz.f4 false true false false) := by
  obtain ⟨places, hx⟩ := reads os enc
  refine returnsInHanded_of_row (C := Tryz.checked) (s := OpenSpec.ofChange Rows.catalogManySpec) RK.own started (by kernel_rfl) Tryz.func4
    (witness_row_at (enc := enc) (C := Tryz.checked) false (laidWorld os) #[.int .u8 0, .int .u8 0, .int .u8 0] rfl (by kernel_rfl) (by kernel_rfl) (by kernel_rfl)
      (OpenSpec.preRow_of_cond 8 hx (by kernel_rfl) (fun k hk => by cases hk) (by kernel_rfl) (laid_met os _))) ?_
  intro W base args ds gs before hval hW _ _ _ hL _ _
  exact contract H enc W base args ds gs before hval hW hL

set_option maxHeartbeats 20000000 in
theorem joined : joinedFacts Tryz.pinned.checked.prog 4 Tryz.f4 (OpenSpec.ofChange Rows.catalogManySpec).bare Rows.catalogManyRow = true := by
  unfold joinedFacts
  repeat' (with_reducible refine Bool.and_eq_true_iff.2 ⟨?_, ?_⟩)
  all_goals (as_aux_lemma => kernel_rfl)
set_option maxHeartbeats 20000000 in
theorem said : Rows.CatalogManySaid :=
  OpenClaim.holds_of_cond 4 Tryz.f4 rfl rfl rfl rfl rfl rfl rfl ⟨rfl, rfl, rfl, rfl, rfl⟩ rfl rfl rfl rfl rfl (by as_aux_lemma => kernel_rfl) Tryz.func4 joined
    (by as_aux_lemma => exact of_decide_eq_true (by kernel_rfl)) (by as_aux_lemma => (unfold Func.isWrapper; first | (rw [if_pos (by decide +kernel)]; kernel_rfl) | (rw [if_neg (by decide +kernel)]; exact ⟨rfl, rfl⟩)))
    (fun os started H enc _ F => by rw [OpenClaim.pre_eq_preRow]; exact lifted os started H enc F)

theorem plain (f : FuncId) (fn : Func) (hf : Tryz.pinned.checked.prog.funcNamed "consistory/consistorylaw11.CatalogMany" = some f) (hfn : Tryz.pinned.checked.prog.funcs[f]? = some fn) :
    true = Tryz.pinned.checked.prog.looks [] ∧ ∀ (j : Nat) t, fn.params[j]? = some t → Tryz.pinned.checked.prog.wantsStandIn t = false := by
  obtain rfl : f = 4 := Option.some.inj ((show Tryz.prog.funcNamed "consistory/consistorylaw11.CatalogMany" = some 4 by kernel_rfl).symm.trans hf) |>.symm
  obtain rfl : fn = Tryz.f4 := (Option.some.inj (Tryz.func4.symm.trans hfn)).symm
  refine ⟨by kernel_rfl, fun j t ht => ?_⟩
  rw [Tryz.params4] at ht
  have hm := Array.mem_of_getElem? ht
  (obtain rfl : t = 5 := by simpa using hm); exact (show Tryz.prog.wantsStandIn 5 = false by kernel_rfl)


set_option maxHeartbeats 20000000 in
theorem card : Rows.CatalogManyCardSaid :=
  Claim7.holds_tied_plain_at .later [] _ _ _ _ said (fun _ h => by cases h) (by kernel_rfl) (fun _ h => by cases h) catalogMany_row_tie rfl ⟨rfl, rfl⟩ (by kernel_rfl) rfl plain (by kernel_rfl)
end Go.Proofs.YtelopbcbmckbcaaGreatDoor.lawMany

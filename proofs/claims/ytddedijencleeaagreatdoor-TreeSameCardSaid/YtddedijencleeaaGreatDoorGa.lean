/- slices.IndexFunc, slices.ContainsFunc, tree.all: contracts over rows of structs. -/
import Derived.Test.YtddedijencleeaaGreatDoorChecked
import Derived.Test.YtddedijencleeaaGreatDoorGm
import Derived.WalkKit
import Derived.ProofKit
import Derived.Deep.QuietTactic
import Derived.Deep.RegionHeld3
import Derived.Deep.LoopGhost
import Derived.Lib.Hide
import Derived.BigQuiet
import Derived.RegionTactic
import Derived.Deep.RegionWith
import Derived.Deep.DeepCutAuto
import Derived.Deep.CutBlock
import Derived.OwnWalk
import Derived.ChangeAlike
import Derived.Lib.Builder
set_option linter.all false
namespace Go.Proofs.YtddedijencleeaaGreatDoor
open Go.RowKit Go.Lib

theorem entersG {g : FuncId} {fn : Func} {c : Code} (hg : Tryz.prog.funcs[g]? = some fn) (hname : (fn.name == "runtime.NumGoroutine") = false) (hb : fn.body = some c) (xs : Array Value) (w : World) :
    (callFunc g xs).run Tryz.prog w = .ok (.enter g xs) w := by
  simp only [callFunc, Sem.run_bind, run_program, Result.andThen_ok, hg, hname, hb, Option.isNone_some, Bool.false_eq_true, if_false, Sem.run_pure]
/-- The first of n that is so; -1. -/
def idxN (n : Nat) (q : Nat → Bool) : Int := match (List.range n).find? q with | some i => (i : Int) | none => -1
theorem idxN_at {n k : Nat} {q : Nat → Bool} (hk : k < n) (hq : q k = true) (h : ∀ j, j < k → q j = false) : idxN n q = k := by
  have : (List.range n).find? q = some k := List.find?_range_eq_some.2 ⟨hq, List.mem_range.2 hk, fun j hj => by simp [h j hj]⟩
  rw [idxN, this]
theorem idxN_none {n : Nat} {q : Nat → Bool} (h : ∀ j, j < n → q j = false) : idxN n q = -1 := by
  have : (List.range n).find? q = none := by simpa using h
  rw [idxN, this]
theorem idxN_all (n : Nat) (r : Nat → Bool) : decide (0 ≤ idxN n fun i => !r i) = !allN n r := by
  unfold idxN allN
  rw [List.all_eq_not_any_not, Bool.not_not]
  cases h : (List.range n).find? fun i => !r i with
  | none =>
    have h2 := List.find?_eq_none.1 h
    have : (List.range n).any (fun i => !r i) = false := by
      rw [List.any_eq_false]; simpa using h2
    rw [this]; decide
  | some i =>
    have h2 := List.find?_some h
    have h3 := List.mem_of_find?_eq_some h
    have : (List.range n).any (fun i => !r i) = true := List.any_eq_true.2 ⟨i, h3, h2⟩
    rw [this]
    simp
theorem size_Expr : (Tryz.prog.info? 34).map (·.size) = some 10 := by kernel_rfl
set_option maxRecDepth 100000 in
theorem all1_Expr {W : World} {cs : List Value} {gi f : Nat} {r : Bool} (he : ∀ args w, (callFunc f args).run Tryz.prog w = .ok (.enter f args) w) (hl : cs.length = 10) (hi : W.cell? ⟨gi, 0, none⟩ = some (.func (Fn.func f) #[] #[]))
    (hf : ∀ W', Below W.heap.size W W' → Calls Tryz.prog f #[.agg cs.toArray] W' fun e W2 => e = .returned (.bool r) ∧ Below W'.heap.size W' W2) :
    Calls Tryz.prog 138 #[.agg cs.toArray, .pointer (some ⟨gi, 0, none⟩)] W fun e W' => e = .returned (.bool (!r)) ∧ Below W.heap.size W W' := by
  have hD : Below W.heap.size W (W.alloc (.cells cs.toArray 34)) := (Below.refl _ _).alloc (Nat.le_refl _) _
  have hlt := lt_of_cell hi
  have hi2 : (W.alloc (.cells cs.toArray 34)).cell? ⟨gi, 0, none⟩ = some (.func (Fn.func f) #[] #[]) := (hD.cell (p := ⟨gi, 0, none⟩) hlt).trans hi
  have hr : (W.alloc (.cells cs.toArray 34)).rangeAt W.heap.size 0 cs := fun j v hj => by
    rw [Nat.zero_add, Lib.cell_of_heap (show (W.alloc (.cells cs.toArray 34)).heap[W.heap.size]? = some (.cells cs.toArray 34 (0, 0)) by show (W.heap.push _)[W.heap.size]? = _; simp)]
    simpa using hj
  have HX := hide (hf _ hD)
  have HD := hide hD
  clear hf hD
  go_enter Tryz.func138, Tryz.ntmps138
  go_wp2_with (refine wpList_load_mid rfl 34 _ rfl _ _ rfl cs _ hr Tryz.underlying34 rfl (by rw [hl]; exact size_Expr) ?_)
  refine (unhide HX).mono ?_
  rintro e w1 ⟨rfl, hb⟩
  have HW := hide (Below.andThen (unhide HD) hb)
  clear hb
  cases r
  all_goals
    go_wp2
    go_ret
    exact ⟨rfl, unhide HW⟩
set_option maxRecDepth 100000 in
theorem index_Expr {W : World} {n : Nat} {v p : Value} {P : Nat → List Value → Prop} {q : Nat → Bool} {g : Nat} (he : ∀ args w, (callFunc g args).run Tryz.prog w = .ok (.enter g args) w) (hv : SlF W 10 120 n v P)
    (hf : ∀ W', Below W.heap.size W W' → ∀ i cs, i < n → P i cs → cs.length = 10 → Calls Tryz.prog g #[.agg cs.toArray, p] W' fun e W2 => e = .returned (.bool (q i)) ∧ Below W'.heap.size W' W2) :
    Calls Tryz.prog 189 #[v, .func (Fn.func g) #[] #[p]] W fun e W' => e = .returned (.int .i64 (idxN n q)) ∧ Below W.heap.size W W' := by
  obtain ⟨A, c, rfl, hnc, hc, hby, hA⟩ := hv
  have HA := hide hA
  have HF := hide hf
  have hn : n ≤ 9223372036854775807 := by omega
  clear hA hf hnc hc hby
  go_enter Tryz.func189, Tryz.ntmps189
  go_wp2
  go_loopw [8] (fun i wr => ∃ k : Nat, k ≤ n ∧ i = .int .i64 k ∧ Hid ((∀ j, j < k → q j = false) ∧ Below W.heap.size W wr)) (fun i _ => n - (RowKit.intOf i).toNat)
  case atStart => exact ⟨0, Nat.zero_le _, rfl, hide ⟨fun j hj => by omega, Below.refl _ _⟩⟩
  case round =>
    obtain ⟨k, hk, rfl, HBW⟩ := hrel
    by_cases hlt : k < n
    · obtain ⟨b, o, rfl, hb, hcs⟩ := (unhide HA) (by omega)
      obtain ⟨cs, hl, _, hP, hr⟩ := hcs k hlt
      have hr' := rangeAt_below hr (unhide HBW).2
      have HC := hide ((unhide HF) wr (unhide HBW).2 k cs hlt hP hl)
      clear hcs hr hb hP
      generalize hq : q k = qk at HC
      go_wp2_with (refine wpList_load_mid rfl 34 _ rfl _ _ rfl cs _ hr' Tryz.underlying34 rfl (by rw [hl]; exact size_Expr) ?_)
      refine (unhide HC).mono ?_
      rintro e w2 ⟨rfl, hb2⟩
      have HQ := hide hq
      have HB2 := hide (Below.andThen (unhide HBW).2 hb2)
      clear hb2 hr' hq
      cases qk with
      | true =>
        go_wp2
        go_ret
        exact ⟨by rw [idxN_at hlt (unhide HQ) (unhide HBW).1]; rfl, unhide HB2⟩
      | false =>
        go_wp2
        go_roundw
        case rel => exact ⟨k + 1, by omega, by go_num, hide ⟨fun j hj => by rcases Nat.lt_succ_iff_lt_or_eq.1 hj with h | h; exact (unhide HBW).1 j h; rw [h]; exact unhide HQ, unhide HB2⟩⟩
        case measure => simp [RowKit.intOf]; omega
    · go_wp2
      go_ret
      have : k = n := by omega
      subst this
      exact ⟨by rw [idxN_none (unhide HBW).1]; rfl, (unhide HBW).2⟩
set_option maxRecDepth 100000 in
theorem contains_Expr {W : World} {n : Nat} {v p : Value} {P : Nat → List Value → Prop} {q : Nat → Bool} {g : Nat} (he : ∀ args w, (callFunc g args).run Tryz.prog w = .ok (.enter g args) w) (hv : SlF W 10 120 n v P)
    (hf : ∀ W', Below W.heap.size W W' → ∀ i cs, i < n → P i cs → cs.length = 10 → Calls Tryz.prog g #[.agg cs.toArray, p] W' fun e W2 => e = .returned (.bool (q i)) ∧ Below W'.heap.size W' W2) :
    Calls Tryz.prog 137 #[v, .func (Fn.func g) #[] #[p]] W fun e W' => e = .returned (.bool (decide (0 ≤ idxN n q))) ∧ Below W.heap.size W W' := by
  have HF := hide (index_Expr he hv hf)
  clear hf he
  obtain ⟨A, c, rfl, _⟩ := hv
  go_enter Tryz.func137, Tryz.ntmps137
  go_wp2_with fail
  refine (unhide HF).mono ?_
  rintro e w2 ⟨rfl, hb2⟩
  go_wp2
  go_ret
  exact ⟨rfl, hb2⟩
set_option maxRecDepth 100000 in
theorem all_Expr {W : World} {n : Nat} {v : Value} {P : Nat → List Value → Prop} {r : Nat → Bool} {f : Nat} (he : ∀ args w, (callFunc f args).run Tryz.prog w = .ok (.enter f args) w) (hv : SlF W 10 120 n v P)
    (hf : ∀ W', Below W.heap.size W W' → ∀ i cs, i < n → P i cs → cs.length = 10 → Calls Tryz.prog f #[.agg cs.toArray] W' fun e W2 => e = .returned (.bool (r i)) ∧ Below W'.heap.size W' W2) :
    Calls Tryz.prog 48 #[v, .func (Fn.func f) #[] #[]] W fun e W' => e = .returned (.bool (allN n r)) ∧ Below W.heap.size W W' := by
  have hD : ∀ o, Below W.heap.size W (W.alloc o) := fun o => (Below.refl _ _).alloc (Nat.le_refl _) o
  have HF := hide fun o (ho : (W.alloc o).cell? ⟨W.heap.size, 0, none⟩ = some (.func (Fn.func f) #[] #[])) => hide (contains_Expr (W := W.alloc o) (q := fun i => !r i) (p := .pointer (some ⟨W.heap.size, 0, none⟩)) (entersG Tryz.func138 (by kernel_rfl) rfl) (hv.sub (.below (hD o))) (fun W' hb i cs hi hP hl => all1_Expr he hl ((hb.cell (p := ⟨W.heap.size, 0, none⟩) (by simp)).trans ho) (fun W2 hb2 => hf W2 (Below.andThen (Below.andThen (hD o) hb) hb2) i cs hi hP hl)))
  have HD := hide hD
  clear hf hD he
  obtain ⟨A, c, rfl, _⟩ := hv
  go_enter Tryz.func48, Tryz.ntmps48
  go_wp2_with fail
  refine (unhide ((unhide HF) _ (by simp))).mono ?_
  rintro e w2 ⟨rfl, hb2⟩
  have HW := hide (Below.andThen ((unhide HD) _) hb2)
  clear hb2
  rw [idxN_all]
  go_wp2
  go_ret
  exact ⟨by simp, unhide HW⟩
theorem size_Key : (Tryz.prog.info? 59).map (·.size) = some 4 := by kernel_rfl
set_option maxRecDepth 100000 in
theorem all1_Key {W : World} {cs : List Value} {gi f : Nat} {r : Bool} (he : ∀ args w, (callFunc f args).run Tryz.prog w = .ok (.enter f args) w) (hl : cs.length = 4) (hi : W.cell? ⟨gi, 0, none⟩ = some (.func (Fn.func f) #[] #[]))
    (hf : ∀ W', Below W.heap.size W W' → Calls Tryz.prog f #[.agg cs.toArray] W' fun e W2 => e = .returned (.bool r) ∧ Below W'.heap.size W' W2) :
    Calls Tryz.prog 196 #[.agg cs.toArray, .pointer (some ⟨gi, 0, none⟩)] W fun e W' => e = .returned (.bool (!r)) ∧ Below W.heap.size W W' := by
  have hD : Below W.heap.size W (W.alloc (.cells cs.toArray 59)) := (Below.refl _ _).alloc (Nat.le_refl _) _
  have hlt := lt_of_cell hi
  have hi2 : (W.alloc (.cells cs.toArray 59)).cell? ⟨gi, 0, none⟩ = some (.func (Fn.func f) #[] #[]) := (hD.cell (p := ⟨gi, 0, none⟩) hlt).trans hi
  have hr : (W.alloc (.cells cs.toArray 59)).rangeAt W.heap.size 0 cs := fun j v hj => by
    rw [Nat.zero_add, Lib.cell_of_heap (show (W.alloc (.cells cs.toArray 59)).heap[W.heap.size]? = some (.cells cs.toArray 59 (0, 0)) by show (W.heap.push _)[W.heap.size]? = _; simp)]
    simpa using hj
  have HX := hide (hf _ hD)
  have HD := hide hD
  clear hf hD
  go_enter Tryz.func196, Tryz.ntmps196
  go_wp2_with (refine wpList_load_mid rfl 59 _ rfl _ _ rfl cs _ hr Tryz.underlying59 rfl (by rw [hl]; exact size_Key) ?_)
  refine (unhide HX).mono ?_
  rintro e w1 ⟨rfl, hb⟩
  have HW := hide (Below.andThen (unhide HD) hb)
  clear hb
  cases r
  all_goals
    go_wp2
    go_ret
    exact ⟨rfl, unhide HW⟩
set_option maxRecDepth 100000 in
theorem index_Key {W : World} {n : Nat} {v p : Value} {P : Nat → List Value → Prop} {q : Nat → Bool} {g : Nat} (he : ∀ args w, (callFunc g args).run Tryz.prog w = .ok (.enter g args) w) (hv : SlF W 4 48 n v P)
    (hf : ∀ W', Below W.heap.size W W' → ∀ i cs, i < n → P i cs → cs.length = 4 → Calls Tryz.prog g #[.agg cs.toArray, p] W' fun e W2 => e = .returned (.bool (q i)) ∧ Below W'.heap.size W' W2) :
    Calls Tryz.prog 214 #[v, .func (Fn.func g) #[] #[p]] W fun e W' => e = .returned (.int .i64 (idxN n q)) ∧ Below W.heap.size W W' := by
  obtain ⟨A, c, rfl, hnc, hc, hby, hA⟩ := hv
  have HA := hide hA
  have HF := hide hf
  have hn : n ≤ 9223372036854775807 := by omega
  clear hA hf hnc hc hby
  go_enter Tryz.func214, Tryz.ntmps214
  go_wp2
  go_loopw [8] (fun i wr => ∃ k : Nat, k ≤ n ∧ i = .int .i64 k ∧ Hid ((∀ j, j < k → q j = false) ∧ Below W.heap.size W wr)) (fun i _ => n - (RowKit.intOf i).toNat)
  case atStart => exact ⟨0, Nat.zero_le _, rfl, hide ⟨fun j hj => by omega, Below.refl _ _⟩⟩
  case round =>
    obtain ⟨k, hk, rfl, HBW⟩ := hrel
    by_cases hlt : k < n
    · obtain ⟨b, o, rfl, hb, hcs⟩ := (unhide HA) (by omega)
      obtain ⟨cs, hl, _, hP, hr⟩ := hcs k hlt
      have hr' := rangeAt_below hr (unhide HBW).2
      have HC := hide ((unhide HF) wr (unhide HBW).2 k cs hlt hP hl)
      clear hcs hr hb hP
      generalize hq : q k = qk at HC
      go_wp2_with (refine wpList_load_mid rfl 59 _ rfl _ _ rfl cs _ hr' Tryz.underlying59 rfl (by rw [hl]; exact size_Key) ?_)
      refine (unhide HC).mono ?_
      rintro e w2 ⟨rfl, hb2⟩
      have HQ := hide hq
      have HB2 := hide (Below.andThen (unhide HBW).2 hb2)
      clear hb2 hr' hq
      cases qk with
      | true =>
        go_wp2
        go_ret
        exact ⟨by rw [idxN_at hlt (unhide HQ) (unhide HBW).1]; rfl, unhide HB2⟩
      | false =>
        go_wp2
        go_roundw
        case rel => exact ⟨k + 1, by omega, by go_num, hide ⟨fun j hj => by rcases Nat.lt_succ_iff_lt_or_eq.1 hj with h | h; exact (unhide HBW).1 j h; rw [h]; exact unhide HQ, unhide HB2⟩⟩
        case measure => simp [RowKit.intOf]; omega
    · go_wp2
      go_ret
      have : k = n := by omega
      subst this
      exact ⟨by rw [idxN_none (unhide HBW).1]; rfl, (unhide HBW).2⟩
set_option maxRecDepth 100000 in
theorem contains_Key {W : World} {n : Nat} {v p : Value} {P : Nat → List Value → Prop} {q : Nat → Bool} {g : Nat} (he : ∀ args w, (callFunc g args).run Tryz.prog w = .ok (.enter g args) w) (hv : SlF W 4 48 n v P)
    (hf : ∀ W', Below W.heap.size W W' → ∀ i cs, i < n → P i cs → cs.length = 4 → Calls Tryz.prog g #[.agg cs.toArray, p] W' fun e W2 => e = .returned (.bool (q i)) ∧ Below W'.heap.size W' W2) :
    Calls Tryz.prog 195 #[v, .func (Fn.func g) #[] #[p]] W fun e W' => e = .returned (.bool (decide (0 ≤ idxN n q))) ∧ Below W.heap.size W W' := by
  have HF := hide (index_Key he hv hf)
  clear hf he
  obtain ⟨A, c, rfl, _⟩ := hv
  go_enter Tryz.func195, Tryz.ntmps195
  go_wp2_with fail
  refine (unhide HF).mono ?_
  rintro e w2 ⟨rfl, hb2⟩
  go_wp2
  go_ret
  exact ⟨rfl, hb2⟩
set_option maxRecDepth 100000 in
theorem all_Key {W : World} {n : Nat} {v : Value} {P : Nat → List Value → Prop} {r : Nat → Bool} {f : Nat} (he : ∀ args w, (callFunc f args).run Tryz.prog w = .ok (.enter f args) w) (hv : SlF W 4 48 n v P)
    (hf : ∀ W', Below W.heap.size W W' → ∀ i cs, i < n → P i cs → cs.length = 4 → Calls Tryz.prog f #[.agg cs.toArray] W' fun e W2 => e = .returned (.bool (r i)) ∧ Below W'.heap.size W' W2) :
    Calls Tryz.prog 154 #[v, .func (Fn.func f) #[] #[]] W fun e W' => e = .returned (.bool (allN n r)) ∧ Below W.heap.size W W' := by
  have hD : ∀ o, Below W.heap.size W (W.alloc o) := fun o => (Below.refl _ _).alloc (Nat.le_refl _) o
  have HF := hide fun o (ho : (W.alloc o).cell? ⟨W.heap.size, 0, none⟩ = some (.func (Fn.func f) #[] #[])) => hide (contains_Key (W := W.alloc o) (q := fun i => !r i) (p := .pointer (some ⟨W.heap.size, 0, none⟩)) (entersG Tryz.func196 (by kernel_rfl) rfl) (hv.sub (.below (hD o))) (fun W' hb i cs hi hP hl => all1_Key he hl ((hb.cell (p := ⟨W.heap.size, 0, none⟩) (by simp)).trans ho) (fun W2 hb2 => hf W2 (Below.andThen (Below.andThen (hD o) hb) hb2) i cs hi hP hl)))
  have HD := hide hD
  clear hf hD he
  obtain ⟨A, c, rfl, _⟩ := hv
  go_enter Tryz.func154, Tryz.ntmps154
  go_wp2_with fail
  refine (unhide ((unhide HF) _ (by simp))).mono ?_
  rintro e w2 ⟨rfl, hb2⟩
  have HW := hide (Below.andThen ((unhide HD) _) hb2)
  clear hb2
  rw [idxN_all]
  go_wp2
  go_ret
  exact ⟨by simp, unhide HW⟩
theorem size_Column : (Tryz.prog.info? 105).map (·.size) = some 3 := by kernel_rfl
set_option maxRecDepth 100000 in
theorem all1_Column {W : World} {cs : List Value} {gi f : Nat} {r : Bool} (he : ∀ args w, (callFunc f args).run Tryz.prog w = .ok (.enter f args) w) (hl : cs.length = 3) (hi : W.cell? ⟨gi, 0, none⟩ = some (.func (Fn.func f) #[] #[]))
    (hf : ∀ W', Below W.heap.size W W' → Calls Tryz.prog f #[.agg cs.toArray] W' fun e W2 => e = .returned (.bool r) ∧ Below W'.heap.size W' W2) :
    Calls Tryz.prog 213 #[.agg cs.toArray, .pointer (some ⟨gi, 0, none⟩)] W fun e W' => e = .returned (.bool (!r)) ∧ Below W.heap.size W W' := by
  have hD : Below W.heap.size W (W.alloc (.cells cs.toArray 105)) := (Below.refl _ _).alloc (Nat.le_refl _) _
  have hlt := lt_of_cell hi
  have hi2 : (W.alloc (.cells cs.toArray 105)).cell? ⟨gi, 0, none⟩ = some (.func (Fn.func f) #[] #[]) := (hD.cell (p := ⟨gi, 0, none⟩) hlt).trans hi
  have hr : (W.alloc (.cells cs.toArray 105)).rangeAt W.heap.size 0 cs := fun j v hj => by
    rw [Nat.zero_add, Lib.cell_of_heap (show (W.alloc (.cells cs.toArray 105)).heap[W.heap.size]? = some (.cells cs.toArray 105 (0, 0)) by show (W.heap.push _)[W.heap.size]? = _; simp)]
    simpa using hj
  have HX := hide (hf _ hD)
  have HD := hide hD
  clear hf hD
  go_enter Tryz.func213, Tryz.ntmps213
  go_wp2_with (refine wpList_load_mid rfl 105 _ rfl _ _ rfl cs _ hr Tryz.underlying105 rfl (by rw [hl]; exact size_Column) ?_)
  refine (unhide HX).mono ?_
  rintro e w1 ⟨rfl, hb⟩
  have HW := hide (Below.andThen (unhide HD) hb)
  clear hb
  cases r
  all_goals
    go_wp2
    go_ret
    exact ⟨rfl, unhide HW⟩
set_option maxRecDepth 100000 in
theorem index_Column {W : World} {n : Nat} {v p : Value} {P : Nat → List Value → Prop} {q : Nat → Bool} {g : Nat} (he : ∀ args w, (callFunc g args).run Tryz.prog w = .ok (.enter g args) w) (hv : SlF W 3 32 n v P)
    (hf : ∀ W', Below W.heap.size W W' → ∀ i cs, i < n → P i cs → cs.length = 3 → Calls Tryz.prog g #[.agg cs.toArray, p] W' fun e W2 => e = .returned (.bool (q i)) ∧ Below W'.heap.size W' W2) :
    Calls Tryz.prog 233 #[v, .func (Fn.func g) #[] #[p]] W fun e W' => e = .returned (.int .i64 (idxN n q)) ∧ Below W.heap.size W W' := by
  obtain ⟨A, c, rfl, hnc, hc, hby, hA⟩ := hv
  have HA := hide hA
  have HF := hide hf
  have hn : n ≤ 9223372036854775807 := by omega
  clear hA hf hnc hc hby
  go_enter Tryz.func233, Tryz.ntmps233
  go_wp2
  go_loopw [8] (fun i wr => ∃ k : Nat, k ≤ n ∧ i = .int .i64 k ∧ Hid ((∀ j, j < k → q j = false) ∧ Below W.heap.size W wr)) (fun i _ => n - (RowKit.intOf i).toNat)
  case atStart => exact ⟨0, Nat.zero_le _, rfl, hide ⟨fun j hj => by omega, Below.refl _ _⟩⟩
  case round =>
    obtain ⟨k, hk, rfl, HBW⟩ := hrel
    by_cases hlt : k < n
    · obtain ⟨b, o, rfl, hb, hcs⟩ := (unhide HA) (by omega)
      obtain ⟨cs, hl, _, hP, hr⟩ := hcs k hlt
      have hr' := rangeAt_below hr (unhide HBW).2
      have HC := hide ((unhide HF) wr (unhide HBW).2 k cs hlt hP hl)
      clear hcs hr hb hP
      generalize hq : q k = qk at HC
      go_wp2_with (refine wpList_load_mid rfl 105 _ rfl _ _ rfl cs _ hr' Tryz.underlying105 rfl (by rw [hl]; exact size_Column) ?_)
      refine (unhide HC).mono ?_
      rintro e w2 ⟨rfl, hb2⟩
      have HQ := hide hq
      have HB2 := hide (Below.andThen (unhide HBW).2 hb2)
      clear hb2 hr' hq
      cases qk with
      | true =>
        go_wp2
        go_ret
        exact ⟨by rw [idxN_at hlt (unhide HQ) (unhide HBW).1]; rfl, unhide HB2⟩
      | false =>
        go_wp2
        go_roundw
        case rel => exact ⟨k + 1, by omega, by go_num, hide ⟨fun j hj => by rcases Nat.lt_succ_iff_lt_or_eq.1 hj with h | h; exact (unhide HBW).1 j h; rw [h]; exact unhide HQ, unhide HB2⟩⟩
        case measure => simp [RowKit.intOf]; omega
    · go_wp2
      go_ret
      have : k = n := by omega
      subst this
      exact ⟨by rw [idxN_none (unhide HBW).1]; rfl, (unhide HBW).2⟩
set_option maxRecDepth 100000 in
theorem contains_Column {W : World} {n : Nat} {v p : Value} {P : Nat → List Value → Prop} {q : Nat → Bool} {g : Nat} (he : ∀ args w, (callFunc g args).run Tryz.prog w = .ok (.enter g args) w) (hv : SlF W 3 32 n v P)
    (hf : ∀ W', Below W.heap.size W W' → ∀ i cs, i < n → P i cs → cs.length = 3 → Calls Tryz.prog g #[.agg cs.toArray, p] W' fun e W2 => e = .returned (.bool (q i)) ∧ Below W'.heap.size W' W2) :
    Calls Tryz.prog 212 #[v, .func (Fn.func g) #[] #[p]] W fun e W' => e = .returned (.bool (decide (0 ≤ idxN n q))) ∧ Below W.heap.size W W' := by
  have HF := hide (index_Column he hv hf)
  clear hf he
  obtain ⟨A, c, rfl, _⟩ := hv
  go_enter Tryz.func212, Tryz.ntmps212
  go_wp2_with fail
  refine (unhide HF).mono ?_
  rintro e w2 ⟨rfl, hb2⟩
  go_wp2
  go_ret
  exact ⟨rfl, hb2⟩
set_option maxRecDepth 100000 in
theorem all_Column {W : World} {n : Nat} {v : Value} {P : Nat → List Value → Prop} {r : Nat → Bool} {f : Nat} (he : ∀ args w, (callFunc f args).run Tryz.prog w = .ok (.enter f args) w) (hv : SlF W 3 32 n v P)
    (hf : ∀ W', Below W.heap.size W W' → ∀ i cs, i < n → P i cs → cs.length = 3 → Calls Tryz.prog f #[.agg cs.toArray] W' fun e W2 => e = .returned (.bool (r i)) ∧ Below W'.heap.size W' W2) :
    Calls Tryz.prog 194 #[v, .func (Fn.func f) #[] #[]] W fun e W' => e = .returned (.bool (allN n r)) ∧ Below W.heap.size W W' := by
  have hD : ∀ o, Below W.heap.size W (W.alloc o) := fun o => (Below.refl _ _).alloc (Nat.le_refl _) o
  have HF := hide fun o (ho : (W.alloc o).cell? ⟨W.heap.size, 0, none⟩ = some (.func (Fn.func f) #[] #[])) => hide (contains_Column (W := W.alloc o) (q := fun i => !r i) (p := .pointer (some ⟨W.heap.size, 0, none⟩)) (entersG Tryz.func213 (by kernel_rfl) rfl) (hv.sub (.below (hD o))) (fun W' hb i cs hi hP hl => all1_Column he hl ((hb.cell (p := ⟨W.heap.size, 0, none⟩) (by simp)).trans ho) (fun W2 hb2 => hf W2 (Below.andThen (Below.andThen (hD o) hb) hb2) i cs hi hP hl)))
  have HD := hide hD
  clear hf hD he
  obtain ⟨A, c, rfl, _⟩ := hv
  go_enter Tryz.func194, Tryz.ntmps194
  go_wp2_with fail
  refine (unhide ((unhide HF) _ (by simp))).mono ?_
  rintro e w2 ⟨rfl, hb2⟩
  have HW := hide (Below.andThen ((unhide HD) _) hb2)
  clear hb2
  rw [idxN_all]
  go_wp2
  go_ret
  exact ⟨by simp, unhide HW⟩
theorem size_Set : (Tryz.prog.info? 61).map (·.size) = some 11 := by kernel_rfl
set_option maxRecDepth 100000 in
theorem all1_Set {W : World} {cs : List Value} {gi f : Nat} {r : Bool} (he : ∀ args w, (callFunc f args).run Tryz.prog w = .ok (.enter f args) w) (hl : cs.length = 11) (hi : W.cell? ⟨gi, 0, none⟩ = some (.func (Fn.func f) #[] #[]))
    (hf : ∀ W', Below W.heap.size W W' → Calls Tryz.prog f #[.agg cs.toArray] W' fun e W2 => e = .returned (.bool r) ∧ Below W'.heap.size W' W2) :
    Calls Tryz.prog 204 #[.agg cs.toArray, .pointer (some ⟨gi, 0, none⟩)] W fun e W' => e = .returned (.bool (!r)) ∧ Below W.heap.size W W' := by
  have hD : Below W.heap.size W (W.alloc (.cells cs.toArray 61)) := (Below.refl _ _).alloc (Nat.le_refl _) _
  have hlt := lt_of_cell hi
  have hi2 : (W.alloc (.cells cs.toArray 61)).cell? ⟨gi, 0, none⟩ = some (.func (Fn.func f) #[] #[]) := (hD.cell (p := ⟨gi, 0, none⟩) hlt).trans hi
  have hr : (W.alloc (.cells cs.toArray 61)).rangeAt W.heap.size 0 cs := fun j v hj => by
    rw [Nat.zero_add, Lib.cell_of_heap (show (W.alloc (.cells cs.toArray 61)).heap[W.heap.size]? = some (.cells cs.toArray 61 (0, 0)) by show (W.heap.push _)[W.heap.size]? = _; simp)]
    simpa using hj
  have HX := hide (hf _ hD)
  have HD := hide hD
  clear hf hD
  go_enter Tryz.func204, Tryz.ntmps204
  go_wp2_with (refine wpList_load_mid rfl 61 _ rfl _ _ rfl cs _ hr Tryz.underlying61 rfl (by rw [hl]; exact size_Set) ?_)
  refine (unhide HX).mono ?_
  rintro e w1 ⟨rfl, hb⟩
  have HW := hide (Below.andThen (unhide HD) hb)
  clear hb
  cases r
  all_goals
    go_wp2
    go_ret
    exact ⟨rfl, unhide HW⟩
set_option maxRecDepth 100000 in
theorem index_Set {W : World} {n : Nat} {v p : Value} {P : Nat → List Value → Prop} {q : Nat → Bool} {g : Nat} (he : ∀ args w, (callFunc g args).run Tryz.prog w = .ok (.enter g args) w) (hv : SlF W 11 136 n v P)
    (hf : ∀ W', Below W.heap.size W W' → ∀ i cs, i < n → P i cs → cs.length = 11 → Calls Tryz.prog g #[.agg cs.toArray, p] W' fun e W2 => e = .returned (.bool (q i)) ∧ Below W'.heap.size W' W2) :
    Calls Tryz.prog 218 #[v, .func (Fn.func g) #[] #[p]] W fun e W' => e = .returned (.int .i64 (idxN n q)) ∧ Below W.heap.size W W' := by
  obtain ⟨A, c, rfl, hnc, hc, hby, hA⟩ := hv
  have HA := hide hA
  have HF := hide hf
  have hn : n ≤ 9223372036854775807 := by omega
  clear hA hf hnc hc hby
  go_enter Tryz.func218, Tryz.ntmps218
  go_wp2
  go_loopw [8] (fun i wr => ∃ k : Nat, k ≤ n ∧ i = .int .i64 k ∧ Hid ((∀ j, j < k → q j = false) ∧ Below W.heap.size W wr)) (fun i _ => n - (RowKit.intOf i).toNat)
  case atStart => exact ⟨0, Nat.zero_le _, rfl, hide ⟨fun j hj => by omega, Below.refl _ _⟩⟩
  case round =>
    obtain ⟨k, hk, rfl, HBW⟩ := hrel
    by_cases hlt : k < n
    · obtain ⟨b, o, rfl, hb, hcs⟩ := (unhide HA) (by omega)
      obtain ⟨cs, hl, _, hP, hr⟩ := hcs k hlt
      have hr' := rangeAt_below hr (unhide HBW).2
      have HC := hide ((unhide HF) wr (unhide HBW).2 k cs hlt hP hl)
      clear hcs hr hb hP
      generalize hq : q k = qk at HC
      go_wp2_with (refine wpList_load_mid rfl 61 _ rfl _ _ rfl cs _ hr' Tryz.underlying61 rfl (by rw [hl]; exact size_Set) ?_)
      refine (unhide HC).mono ?_
      rintro e w2 ⟨rfl, hb2⟩
      have HQ := hide hq
      have HB2 := hide (Below.andThen (unhide HBW).2 hb2)
      clear hb2 hr' hq
      cases qk with
      | true =>
        go_wp2
        go_ret
        exact ⟨by rw [idxN_at hlt (unhide HQ) (unhide HBW).1]; rfl, unhide HB2⟩
      | false =>
        go_wp2
        go_roundw
        case rel => exact ⟨k + 1, by omega, by go_num, hide ⟨fun j hj => by rcases Nat.lt_succ_iff_lt_or_eq.1 hj with h | h; exact (unhide HBW).1 j h; rw [h]; exact unhide HQ, unhide HB2⟩⟩
        case measure => simp [RowKit.intOf]; omega
    · go_wp2
      go_ret
      have : k = n := by omega
      subst this
      exact ⟨by rw [idxN_none (unhide HBW).1]; rfl, (unhide HBW).2⟩
set_option maxRecDepth 100000 in
theorem contains_Set {W : World} {n : Nat} {v p : Value} {P : Nat → List Value → Prop} {q : Nat → Bool} {g : Nat} (he : ∀ args w, (callFunc g args).run Tryz.prog w = .ok (.enter g args) w) (hv : SlF W 11 136 n v P)
    (hf : ∀ W', Below W.heap.size W W' → ∀ i cs, i < n → P i cs → cs.length = 11 → Calls Tryz.prog g #[.agg cs.toArray, p] W' fun e W2 => e = .returned (.bool (q i)) ∧ Below W'.heap.size W' W2) :
    Calls Tryz.prog 203 #[v, .func (Fn.func g) #[] #[p]] W fun e W' => e = .returned (.bool (decide (0 ≤ idxN n q))) ∧ Below W.heap.size W W' := by
  have HF := hide (index_Set he hv hf)
  clear hf he
  obtain ⟨A, c, rfl, _⟩ := hv
  go_enter Tryz.func203, Tryz.ntmps203
  go_wp2_with fail
  refine (unhide HF).mono ?_
  rintro e w2 ⟨rfl, hb2⟩
  go_wp2
  go_ret
  exact ⟨rfl, hb2⟩
set_option maxRecDepth 100000 in
theorem all_Set {W : World} {n : Nat} {v : Value} {P : Nat → List Value → Prop} {r : Nat → Bool} {f : Nat} (he : ∀ args w, (callFunc f args).run Tryz.prog w = .ok (.enter f args) w) (hv : SlF W 11 136 n v P)
    (hf : ∀ W', Below W.heap.size W W' → ∀ i cs, i < n → P i cs → cs.length = 11 → Calls Tryz.prog f #[.agg cs.toArray] W' fun e W2 => e = .returned (.bool (r i)) ∧ Below W'.heap.size W' W2) :
    Calls Tryz.prog 160 #[v, .func (Fn.func f) #[] #[]] W fun e W' => e = .returned (.bool (allN n r)) ∧ Below W.heap.size W W' := by
  have hD : ∀ o, Below W.heap.size W (W.alloc o) := fun o => (Below.refl _ _).alloc (Nat.le_refl _) o
  have HF := hide fun o (ho : (W.alloc o).cell? ⟨W.heap.size, 0, none⟩ = some (.func (Fn.func f) #[] #[])) => hide (contains_Set (W := W.alloc o) (q := fun i => !r i) (p := .pointer (some ⟨W.heap.size, 0, none⟩)) (entersG Tryz.func204 (by kernel_rfl) rfl) (hv.sub (.below (hD o))) (fun W' hb i cs hi hP hl => all1_Set he hl ((hb.cell (p := ⟨W.heap.size, 0, none⟩) (by simp)).trans ho) (fun W2 hb2 => hf W2 (Below.andThen (Below.andThen (hD o) hb) hb2) i cs hi hP hl)))
  have HD := hide hD
  clear hf hD he
  obtain ⟨A, c, rfl, _⟩ := hv
  go_enter Tryz.func160, Tryz.ntmps160
  go_wp2_with fail
  refine (unhide ((unhide HF) _ (by simp))).mono ?_
  rintro e w2 ⟨rfl, hb2⟩
  have HW := hide (Below.andThen ((unhide HD) _) hb2)
  clear hb2
  rw [idxN_all]
  go_wp2
  go_ret
  exact ⟨by simp, unhide HW⟩
theorem size_Item : (Tryz.prog.info? 63).map (·.size) = some 12 := by kernel_rfl
set_option maxRecDepth 100000 in
theorem all1_Item {W : World} {cs : List Value} {gi f : Nat} {r : Bool} (he : ∀ args w, (callFunc f args).run Tryz.prog w = .ok (.enter f args) w) (hl : cs.length = 12) (hi : W.cell? ⟨gi, 0, none⟩ = some (.func (Fn.func f) #[] #[]))
    (hf : ∀ W', Below W.heap.size W W' → Calls Tryz.prog f #[.agg cs.toArray] W' fun e W2 => e = .returned (.bool r) ∧ Below W'.heap.size W' W2) :
    Calls Tryz.prog 222 #[.agg cs.toArray, .pointer (some ⟨gi, 0, none⟩)] W fun e W' => e = .returned (.bool (!r)) ∧ Below W.heap.size W W' := by
  have hD : Below W.heap.size W (W.alloc (.cells cs.toArray 63)) := (Below.refl _ _).alloc (Nat.le_refl _) _
  have hlt := lt_of_cell hi
  have hi2 : (W.alloc (.cells cs.toArray 63)).cell? ⟨gi, 0, none⟩ = some (.func (Fn.func f) #[] #[]) := (hD.cell (p := ⟨gi, 0, none⟩) hlt).trans hi
  have hr : (W.alloc (.cells cs.toArray 63)).rangeAt W.heap.size 0 cs := fun j v hj => by
    rw [Nat.zero_add, Lib.cell_of_heap (show (W.alloc (.cells cs.toArray 63)).heap[W.heap.size]? = some (.cells cs.toArray 63 (0, 0)) by show (W.heap.push _)[W.heap.size]? = _; simp)]
    simpa using hj
  have HX := hide (hf _ hD)
  have HD := hide hD
  clear hf hD
  go_enter Tryz.func222, Tryz.ntmps222
  go_wp2_with (refine wpList_load_mid rfl 63 _ rfl _ _ rfl cs _ hr Tryz.underlying63 rfl (by rw [hl]; exact size_Item) ?_)
  refine (unhide HX).mono ?_
  rintro e w1 ⟨rfl, hb⟩
  have HW := hide (Below.andThen (unhide HD) hb)
  clear hb
  cases r
  all_goals
    go_wp2
    go_ret
    exact ⟨rfl, unhide HW⟩
set_option maxRecDepth 100000 in
theorem index_Item {W : World} {n : Nat} {v p : Value} {P : Nat → List Value → Prop} {q : Nat → Bool} {g : Nat} (he : ∀ args w, (callFunc g args).run Tryz.prog w = .ok (.enter g args) w) (hv : SlF W 12 144 n v P)
    (hf : ∀ W', Below W.heap.size W W' → ∀ i cs, i < n → P i cs → cs.length = 12 → Calls Tryz.prog g #[.agg cs.toArray, p] W' fun e W2 => e = .returned (.bool (q i)) ∧ Below W'.heap.size W' W2) :
    Calls Tryz.prog 235 #[v, .func (Fn.func g) #[] #[p]] W fun e W' => e = .returned (.int .i64 (idxN n q)) ∧ Below W.heap.size W W' := by
  obtain ⟨A, c, rfl, hnc, hc, hby, hA⟩ := hv
  have HA := hide hA
  have HF := hide hf
  have hn : n ≤ 9223372036854775807 := by omega
  clear hA hf hnc hc hby
  go_enter Tryz.func235, Tryz.ntmps235
  go_wp2
  go_loopw [8] (fun i wr => ∃ k : Nat, k ≤ n ∧ i = .int .i64 k ∧ Hid ((∀ j, j < k → q j = false) ∧ Below W.heap.size W wr)) (fun i _ => n - (RowKit.intOf i).toNat)
  case atStart => exact ⟨0, Nat.zero_le _, rfl, hide ⟨fun j hj => by omega, Below.refl _ _⟩⟩
  case round =>
    obtain ⟨k, hk, rfl, HBW⟩ := hrel
    by_cases hlt : k < n
    · obtain ⟨b, o, rfl, hb, hcs⟩ := (unhide HA) (by omega)
      obtain ⟨cs, hl, _, hP, hr⟩ := hcs k hlt
      have hr' := rangeAt_below hr (unhide HBW).2
      have HC := hide ((unhide HF) wr (unhide HBW).2 k cs hlt hP hl)
      clear hcs hr hb hP
      generalize hq : q k = qk at HC
      go_wp2_with (refine wpList_load_mid rfl 63 _ rfl _ _ rfl cs _ hr' Tryz.underlying63 rfl (by rw [hl]; exact size_Item) ?_)
      refine (unhide HC).mono ?_
      rintro e w2 ⟨rfl, hb2⟩
      have HQ := hide hq
      have HB2 := hide (Below.andThen (unhide HBW).2 hb2)
      clear hb2 hr' hq
      cases qk with
      | true =>
        go_wp2
        go_ret
        exact ⟨by rw [idxN_at hlt (unhide HQ) (unhide HBW).1]; rfl, unhide HB2⟩
      | false =>
        go_wp2
        go_roundw
        case rel => exact ⟨k + 1, by omega, by go_num, hide ⟨fun j hj => by rcases Nat.lt_succ_iff_lt_or_eq.1 hj with h | h; exact (unhide HBW).1 j h; rw [h]; exact unhide HQ, unhide HB2⟩⟩
        case measure => simp [RowKit.intOf]; omega
    · go_wp2
      go_ret
      have : k = n := by omega
      subst this
      exact ⟨by rw [idxN_none (unhide HBW).1]; rfl, (unhide HBW).2⟩
set_option maxRecDepth 100000 in
theorem contains_Item {W : World} {n : Nat} {v p : Value} {P : Nat → List Value → Prop} {q : Nat → Bool} {g : Nat} (he : ∀ args w, (callFunc g args).run Tryz.prog w = .ok (.enter g args) w) (hv : SlF W 12 144 n v P)
    (hf : ∀ W', Below W.heap.size W W' → ∀ i cs, i < n → P i cs → cs.length = 12 → Calls Tryz.prog g #[.agg cs.toArray, p] W' fun e W2 => e = .returned (.bool (q i)) ∧ Below W'.heap.size W' W2) :
    Calls Tryz.prog 221 #[v, .func (Fn.func g) #[] #[p]] W fun e W' => e = .returned (.bool (decide (0 ≤ idxN n q))) ∧ Below W.heap.size W W' := by
  have HF := hide (index_Item he hv hf)
  clear hf he
  obtain ⟨A, c, rfl, _⟩ := hv
  go_enter Tryz.func221, Tryz.ntmps221
  go_wp2_with fail
  refine (unhide HF).mono ?_
  rintro e w2 ⟨rfl, hb2⟩
  go_wp2
  go_ret
  exact ⟨rfl, hb2⟩
set_option maxRecDepth 100000 in
theorem all_Item {W : World} {n : Nat} {v : Value} {P : Nat → List Value → Prop} {r : Nat → Bool} {f : Nat} (he : ∀ args w, (callFunc f args).run Tryz.prog w = .ok (.enter f args) w) (hv : SlF W 12 144 n v P)
    (hf : ∀ W', Below W.heap.size W W' → ∀ i cs, i < n → P i cs → cs.length = 12 → Calls Tryz.prog f #[.agg cs.toArray] W' fun e W2 => e = .returned (.bool (r i)) ∧ Below W'.heap.size W' W2) :
    Calls Tryz.prog 206 #[v, .func (Fn.func f) #[] #[]] W fun e W' => e = .returned (.bool (allN n r)) ∧ Below W.heap.size W W' := by
  have hD : ∀ o, Below W.heap.size W (W.alloc o) := fun o => (Below.refl _ _).alloc (Nat.le_refl _) o
  have HF := hide fun o (ho : (W.alloc o).cell? ⟨W.heap.size, 0, none⟩ = some (.func (Fn.func f) #[] #[])) => hide (contains_Item (W := W.alloc o) (q := fun i => !r i) (p := .pointer (some ⟨W.heap.size, 0, none⟩)) (entersG Tryz.func222 (by kernel_rfl) rfl) (hv.sub (.below (hD o))) (fun W' hb i cs hi hP hl => all1_Item he hl ((hb.cell (p := ⟨W.heap.size, 0, none⟩) (by simp)).trans ho) (fun W2 hb2 => hf W2 (Below.andThen (Below.andThen (hD o) hb) hb2) i cs hi hP hl)))
  have HD := hide hD
  clear hf hD he
  obtain ⟨A, c, rfl, _⟩ := hv
  go_enter Tryz.func206, Tryz.ntmps206
  go_wp2_with fail
  refine (unhide ((unhide HF) _ (by simp))).mono ?_
  rintro e w2 ⟨rfl, hb2⟩
  have HW := hide (Below.andThen ((unhide HD) _) hb2)
  clear hb2
  rw [idxN_all]
  go_wp2
  go_ret
  exact ⟨by simp, unhide HW⟩
theorem size_Order : (Tryz.prog.info? 67).map (·.size) = some 11 := by kernel_rfl
set_option maxRecDepth 100000 in
theorem all1_Order {W : World} {cs : List Value} {gi f : Nat} {r : Bool} (he : ∀ args w, (callFunc f args).run Tryz.prog w = .ok (.enter f args) w) (hl : cs.length = 11) (hi : W.cell? ⟨gi, 0, none⟩ = some (.func (Fn.func f) #[] #[]))
    (hf : ∀ W', Below W.heap.size W W' → Calls Tryz.prog f #[.agg cs.toArray] W' fun e W2 => e = .returned (.bool r) ∧ Below W'.heap.size W' W2) :
    Calls Tryz.prog 220 #[.agg cs.toArray, .pointer (some ⟨gi, 0, none⟩)] W fun e W' => e = .returned (.bool (!r)) ∧ Below W.heap.size W W' := by
  have hD : Below W.heap.size W (W.alloc (.cells cs.toArray 67)) := (Below.refl _ _).alloc (Nat.le_refl _) _
  have hlt := lt_of_cell hi
  have hi2 : (W.alloc (.cells cs.toArray 67)).cell? ⟨gi, 0, none⟩ = some (.func (Fn.func f) #[] #[]) := (hD.cell (p := ⟨gi, 0, none⟩) hlt).trans hi
  have hr : (W.alloc (.cells cs.toArray 67)).rangeAt W.heap.size 0 cs := fun j v hj => by
    rw [Nat.zero_add, Lib.cell_of_heap (show (W.alloc (.cells cs.toArray 67)).heap[W.heap.size]? = some (.cells cs.toArray 67 (0, 0)) by show (W.heap.push _)[W.heap.size]? = _; simp)]
    simpa using hj
  have HX := hide (hf _ hD)
  have HD := hide hD
  clear hf hD
  go_enter Tryz.func220, Tryz.ntmps220
  go_wp2_with (refine wpList_load_mid rfl 67 _ rfl _ _ rfl cs _ hr Tryz.underlying67 rfl (by rw [hl]; exact size_Order) ?_)
  refine (unhide HX).mono ?_
  rintro e w1 ⟨rfl, hb⟩
  have HW := hide (Below.andThen (unhide HD) hb)
  clear hb
  cases r
  all_goals
    go_wp2
    go_ret
    exact ⟨rfl, unhide HW⟩
set_option maxRecDepth 100000 in
theorem index_Order {W : World} {n : Nat} {v p : Value} {P : Nat → List Value → Prop} {q : Nat → Bool} {g : Nat} (he : ∀ args w, (callFunc g args).run Tryz.prog w = .ok (.enter g args) w) (hv : SlF W 11 128 n v P)
    (hf : ∀ W', Below W.heap.size W W' → ∀ i cs, i < n → P i cs → cs.length = 11 → Calls Tryz.prog g #[.agg cs.toArray, p] W' fun e W2 => e = .returned (.bool (q i)) ∧ Below W'.heap.size W' W2) :
    Calls Tryz.prog 234 #[v, .func (Fn.func g) #[] #[p]] W fun e W' => e = .returned (.int .i64 (idxN n q)) ∧ Below W.heap.size W W' := by
  obtain ⟨A, c, rfl, hnc, hc, hby, hA⟩ := hv
  have HA := hide hA
  have HF := hide hf
  have hn : n ≤ 9223372036854775807 := by omega
  clear hA hf hnc hc hby
  go_enter Tryz.func234, Tryz.ntmps234
  go_wp2
  go_loopw [8] (fun i wr => ∃ k : Nat, k ≤ n ∧ i = .int .i64 k ∧ Hid ((∀ j, j < k → q j = false) ∧ Below W.heap.size W wr)) (fun i _ => n - (RowKit.intOf i).toNat)
  case atStart => exact ⟨0, Nat.zero_le _, rfl, hide ⟨fun j hj => by omega, Below.refl _ _⟩⟩
  case round =>
    obtain ⟨k, hk, rfl, HBW⟩ := hrel
    by_cases hlt : k < n
    · obtain ⟨b, o, rfl, hb, hcs⟩ := (unhide HA) (by omega)
      obtain ⟨cs, hl, _, hP, hr⟩ := hcs k hlt
      have hr' := rangeAt_below hr (unhide HBW).2
      have HC := hide ((unhide HF) wr (unhide HBW).2 k cs hlt hP hl)
      clear hcs hr hb hP
      generalize hq : q k = qk at HC
      go_wp2_with (refine wpList_load_mid rfl 67 _ rfl _ _ rfl cs _ hr' Tryz.underlying67 rfl (by rw [hl]; exact size_Order) ?_)
      refine (unhide HC).mono ?_
      rintro e w2 ⟨rfl, hb2⟩
      have HQ := hide hq
      have HB2 := hide (Below.andThen (unhide HBW).2 hb2)
      clear hb2 hr' hq
      cases qk with
      | true =>
        go_wp2
        go_ret
        exact ⟨by rw [idxN_at hlt (unhide HQ) (unhide HBW).1]; rfl, unhide HB2⟩
      | false =>
        go_wp2
        go_roundw
        case rel => exact ⟨k + 1, by omega, by go_num, hide ⟨fun j hj => by rcases Nat.lt_succ_iff_lt_or_eq.1 hj with h | h; exact (unhide HBW).1 j h; rw [h]; exact unhide HQ, unhide HB2⟩⟩
        case measure => simp [RowKit.intOf]; omega
    · go_wp2
      go_ret
      have : k = n := by omega
      subst this
      exact ⟨by rw [idxN_none (unhide HBW).1]; rfl, (unhide HBW).2⟩
set_option maxRecDepth 100000 in
theorem contains_Order {W : World} {n : Nat} {v p : Value} {P : Nat → List Value → Prop} {q : Nat → Bool} {g : Nat} (he : ∀ args w, (callFunc g args).run Tryz.prog w = .ok (.enter g args) w) (hv : SlF W 11 128 n v P)
    (hf : ∀ W', Below W.heap.size W W' → ∀ i cs, i < n → P i cs → cs.length = 11 → Calls Tryz.prog g #[.agg cs.toArray, p] W' fun e W2 => e = .returned (.bool (q i)) ∧ Below W'.heap.size W' W2) :
    Calls Tryz.prog 219 #[v, .func (Fn.func g) #[] #[p]] W fun e W' => e = .returned (.bool (decide (0 ≤ idxN n q))) ∧ Below W.heap.size W W' := by
  have HF := hide (index_Order he hv hf)
  clear hf he
  obtain ⟨A, c, rfl, _⟩ := hv
  go_enter Tryz.func219, Tryz.ntmps219
  go_wp2_with fail
  refine (unhide HF).mono ?_
  rintro e w2 ⟨rfl, hb2⟩
  go_wp2
  go_ret
  exact ⟨rfl, hb2⟩
set_option maxRecDepth 100000 in
theorem all_Order {W : World} {n : Nat} {v : Value} {P : Nat → List Value → Prop} {r : Nat → Bool} {f : Nat} (he : ∀ args w, (callFunc f args).run Tryz.prog w = .ok (.enter f args) w) (hv : SlF W 11 128 n v P)
    (hf : ∀ W', Below W.heap.size W W' → ∀ i cs, i < n → P i cs → cs.length = 11 → Calls Tryz.prog f #[.agg cs.toArray] W' fun e W2 => e = .returned (.bool (r i)) ∧ Below W'.heap.size W' W2) :
    Calls Tryz.prog 205 #[v, .func (Fn.func f) #[] #[]] W fun e W' => e = .returned (.bool (allN n r)) ∧ Below W.heap.size W W' := by
  have hD : ∀ o, Below W.heap.size W (W.alloc o) := fun o => (Below.refl _ _).alloc (Nat.le_refl _) o
  have HF := hide fun o (ho : (W.alloc o).cell? ⟨W.heap.size, 0, none⟩ = some (.func (Fn.func f) #[] #[])) => hide (contains_Order (W := W.alloc o) (q := fun i => !r i) (p := .pointer (some ⟨W.heap.size, 0, none⟩)) (entersG Tryz.func220 (by kernel_rfl) rfl) (hv.sub (.below (hD o))) (fun W' hb i cs hi hP hl => all1_Order he hl ((hb.cell (p := ⟨W.heap.size, 0, none⟩) (by simp)).trans ho) (fun W2 hb2 => hf W2 (Below.andThen (Below.andThen (hD o) hb) hb2) i cs hi hP hl)))
  have HD := hide hD
  clear hf hD he
  obtain ⟨A, c, rfl, _⟩ := hv
  go_enter Tryz.func205, Tryz.ntmps205
  go_wp2_with fail
  refine (unhide ((unhide HF) _ (by simp))).mono ?_
  rintro e w2 ⟨rfl, hb2⟩
  have HW := hide (Below.andThen ((unhide HD) _) hb2)
  clear hb2
  rw [idxN_all]
  go_wp2
  go_ret
  exact ⟨by simp, unhide HW⟩
end Go.Proofs.YtddedijencleeaaGreatDoor

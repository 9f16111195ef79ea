/- Expressions that the law nests, as they lie in memory: whether they may be, their prints, their depths. -/
import Derived.Test.YtmolojjhnbchbaaGreatDoorNtK
set_option linter.all false
namespace Go.Proofs.YtmolojjhnbchbaaGreatDoor
open Go.RowKit Go.Lib

/-- Nested d times, all blocks behind block g0. -/
inductive T (g0 : Nat) : World → X → List UInt8 → Nat → Prop
  | col (W : World) : T g0 W ⟨2, 0, 0, 0, ⟨#[97]⟩, none, 0, 0⟩ [97] 0
  | sum {W : World} {x : X} {txt : List UInt8} {d g : Nat} (h : T g0 W x txt d) (hg : g0 < g) (hb : W.heap[g]? = some (.cells x.cells.toArray 28 (0, 0))) :
      T g0 W ⟨7, 20, 0, 0, ⟨#[]⟩, some ⟨g, 0, none⟩, 1, 1⟩ ([83, 85, 77] ++ ([40] ++ txt ++ [41])) (d + 1)
  | count {W : World} {x : X} {txt : List UInt8} {d g : Nat} (h : T g0 W x txt d) (hg : g0 < g) (hb : W.heap[g]? = some (.cells x.cells.toArray 28 (0, 0))) :
      T g0 W ⟨7, 19, 0, 0, ⟨#[]⟩, some ⟨g, 0, none⟩, 1, 1⟩ ([67, 79, 85, 78, 84] ++ ([40] ++ txt ++ [41])) (d + 1)
  | case {W : World} {x : X} {txt : List UInt8} {d g : Nat} (h : T g0 W x txt d) (hg : g0 < g) (hb : W.heap[g]? = some (.cells (X.cells ⟨1, 0, 1, 0, ⟨#[]⟩, none, 0, 0⟩ ++ x.cells).toArray 28 (0, 0))) :
      T g0 W ⟨6, 0, 0, 0, ⟨#[]⟩, some ⟨g, 0, none⟩, 2, 2⟩ (tCASE.data.toList ++ caseT txt ++ tEND.data.toList) (d + 1)
  | isin {W : World} {x : X} {txt : List UInt8} {d g : Nat} (h : T g0 W x txt d) (hg : g0 < g) (hb : W.heap[g]? = some (.cells (X.cells ⟨2, 0, 0, 0, ⟨#[98]⟩, none, 0, 0⟩ ++ x.cells).toArray 28 (0, 0))) :
      T g0 W ⟨5, 0, 0, 0, ⟨#[]⟩, some ⟨g, 0, none⟩, 2, 2⟩ ([98] ++ tIN.data.toList ++ ([40] ++ txt ++ [41])) (d + 1)
section
variable {g0 d : Nat} {W W' : World} {x : X} {txt : List UInt8}
theorem T.step (h : T g0 W x txt d) (hs : ∀ g, g0 < g → g < W.heap.size → W'.heap[g]? = W.heap[g]?) : T g0 W' x txt d := by
  have key : ∀ {g : Nat} {o : Obj}, g0 < g → W.heap[g]? = some o → W'.heap[g]? = some o := fun hg hb => (hs _ hg (lt_of_heap hb)).trans hb
  induction h with
  | col => exact .col W'
  | sum h hg hb ih => exact .sum ih hg (key hg hb)
  | count h hg hb ih => exact .count ih hg (key hg hb)
  | case h hg hb ih => exact .case ih hg (key hg hb)
  | isin h hg hb ih => exact .isin ih hg (key hg hb)
theorem T.len (h : T g0 W x txt d) : d + 1 ≤ txt.length ∧ txt.length ≤ 40 * d + 1 := by
  induction h with
  | col => decide
  | sum h hg hb ih => simp only [List.length_append, List.length_cons, List.length_nil]; omega
  | count h hg hb ih => simp only [List.length_append, List.length_cons, List.length_nil]; omega
  | case h hg hb ih =>
    have e1 : tCASE.data.toList.length = 4 := by decide
    have e2 : tEND.data.toList.length = 4 := by decide
    simp only [caseT, List.length_append, List.length_cons, List.length_nil, e1, e2]; omega
  | isin h hg hb ih =>
    have e1 : tIN.data.toList.length = 4 := by decide
    simp only [List.length_append, List.length_cons, List.length_nil, e1]; omega
theorem one_of {B : Nat} {W : World} {x : X} (h : IsOK B W x) : ∀ k, k < 1 → ∃ y, IsOK B W y ∧ ∀ i u, y.cells[i]? = some u → x.cells[k * 10 + i]? = some u := fun k hk => ⟨x, h, fun i u hi => by
  have : k = 0 := by omega
  subst this
  simpa using hi⟩
theorem two_of {B : Nat} {W : World} {x y : X} (h : IsOK B W x) (h' : IsOK B W y) : ∀ k, k < 2 → ∃ z, IsOK B W z ∧ ∀ i u, z.cells[i]? = some u → (x.cells ++ y.cells)[k * 10 + i]? = some u := fun k hk => by
  have hl : x.cells.length = 10 := rfl
  rcases (show k = 0 ∨ k = 1 by omega) with rfl | rfl
  · refine ⟨x, h, fun i u hi => ?_⟩
    rw [Nat.zero_mul, Nat.zero_add, List.getElem?_append_left (List.getElem?_eq_some_iff.1 hi).1]; exact hi
  · refine ⟨y, h', fun i u hi => ?_⟩
    rw [List.getElem?_append_right (by rw [hl]; omega), hl, show 1 * 10 + i - 10 = i by omega]; exact hi
theorem T.ok (h : T g0 W x txt d) (hok : OkW W) (hB : 0 < W.heap.size) : XOK W.heap.size W x txt d := by
  induction h with
  | col => exact ⟨rfl, is_col _ _ hok hB 97 (.inl rfl), leaf_pr _ _ ⟨#[97]⟩, hok, hB⟩
  | sum h hg hb ih =>
    have i := ih
    have hA : Args _ _ _ _ := ⟨lt_of_heap hb, hb⟩
    exact ⟨rfl, is_agg20 hA (one_of i.is), node_agg 20 ⟨#[83, 85, 77]⟩ (.inr ⟨rfl, rfl⟩) _ _ _ hA i.pr, hok, hB⟩
  | count h hg hb ih =>
    have i := ih
    have hA : Args _ _ _ _ := ⟨lt_of_heap hb, hb⟩
    exact ⟨rfl, is_agg19 hA (one_of i.is), node_agg 19 ⟨#[67, 79, 85, 78, 84]⟩ (.inl ⟨rfl, rfl⟩) _ _ _ hA i.pr, hok, hB⟩
  | case h hg hb ih =>
    have i := ih
    have hA : Args _ _ _ _ := ⟨lt_of_heap hb, hb⟩
    exact ⟨rfl, is_case hA (two_of (is_val _ _ hok hB 1 0 (.inl ⟨rfl, rfl⟩)) i.is), node_case _ _ _ hA (leafF_pr _ _ hok hB) i.pr, hok, hB⟩
  | isin h hg hb ih =>
    have i := ih
    have hA : Args _ _ _ _ := ⟨lt_of_heap hb, hb⟩
    exact ⟨rfl, is_in hA (two_of (is_col _ _ hok hB 98 (.inr (.inl rfl))) i.is), node_in ⟨#[98]⟩ _ _ _ hA i.pr, hok, hB⟩
end
end Go.Proofs.YtmolojjhnbchbaaGreatDoor

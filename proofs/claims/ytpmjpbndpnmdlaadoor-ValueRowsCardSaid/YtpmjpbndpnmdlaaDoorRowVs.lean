/- Arguments that are rows of values, opened. -/
import Derived.Test.YtpmjpbndpnmdlaaDoorRowKit
import Derived.Test.YtpmjpbndpnmdlaaDoorRw1
import Derived.Deep.Slices
import Derived.Deep.Fields
import Derived.ChangeSame
import Derived.Carry
import Derived.ChangeOld
set_option linter.all false
namespace Go.Proofs.YtpmjpbndpnmdlaaDoor
open Go.ChangeShapes Go.WideShapes Go.ChangeAt Go.RowKit Go.Joins Go.Deep

theorem flat0 {W : World} {a : Addr} {u : Value} (h : W.cell? (a.add 0) = some u) : ∃ b o, a = ⟨b, o, none⟩ ∧ b < W.heap.size := by
  obtain ⟨b, o, s⟩ := a
  cases s with
  | none => exact ⟨b, o, rfl, by simpa [Addr.add] using lt_of_cell h⟩
  | some s =>
    exfalso
    have e : ((⟨b, o, some s⟩ : Addr).add 0) = ⟨b, o, some s⟩ := by simp [Addr.add]
    rw [e] at h
    unfold World.cell? at h
    split at h <;> simp at h
theorem add_flat (b o j : Nat) : (⟨b, o, none⟩ : Addr).add j = ⟨b, o + j, none⟩ := by unfold Addr.add; split <;> simp_all
section
variable {H : Type} {enc : TypeId × Value → H} {W : World}
set_option maxRecDepth 100000 in
theorem one_V {n : Nat} {cs : List Value} {x : DataW H × List MemPlace} (h : DataW.trod enc Tryd.prog W 0 (fun _ => true) true n 23 cs = some x) : ∃ u : V, cs = u.cells ∧ u.wf := by
  obtain ⟨xs, m, _, _, hlen, hx, hf⟩ := DataW.trod_struct Tryd.underlying23 h
  have h3 : cs.length = 3 := hlen.trans cellsV
  have hx3 : xs.length = 3 := hx
  have f0 : DataW.trod enc Tryd.prog W 0 (fun _ => true) true m 3 ((cs.drop 0).take (Tryd.prog.cellsOf 3)) = xs[0]? := hf 0 _ rfl
  have f1 : DataW.trod enc Tryd.prog W 0 (fun _ => true) true m 2 ((cs.drop 1).take (Tryd.prog.cellsOf 2)) = xs[1]? := hf 1 _ rfl
  have f2 : DataW.trod enc Tryd.prog W 0 (fun _ => true) true m 9 ((cs.drop 2).take (Tryd.prog.cellsOf 9)) = xs[2]? := hf 2 _ rfl
  have c1 : Tryd.prog.cellsOf 3 = 1 := by kernel_rfl
  have c2 : Tryd.prog.cellsOf 2 = 1 := by kernel_rfl
  have c3 : Tryd.prog.cellsOf 9 = 1 := by kernel_rfl
  rw [c1] at f0
  rw [c2] at f1
  rw [c3] at f2
  match cs, h3 with
  | [a, b, c], _ =>
    rw [List.getElem?_eq_getElem (by omega)] at f0 f1 f2
    obtain ⟨k, e0, _, w0⟩ := DataW.trod_int Tryd.underlying3 f0
    obtain ⟨i, e1, _, w1⟩ := DataW.trod_int Tryd.underlying2 f1
    obtain ⟨s, e2, _, w2⟩ := DataW.trod_string Tryd.underlying9 f2
    simp at e0 e1 e2
    subst e0 e1 e2
    exact ⟨⟨k, i, s⟩, rfl, w0, w1, w2⟩
set_option maxRecDepth 100000 in
theorem open_Vs {r : Reach} {b0 : Nat} {v : Value} {d : DataW H} {ps : List MemPlace} (hv : Value.okWide Tryd.prog W r b0 26 v) (h : DataW.Trod enc Tryd.prog W 0 (fun _ => true) true 26 v d ps) :
    ∃ A n c, ∃ l : List V, v = .slice A n c ∧ n ≤ maxLen ∧ Reads W 3 A n (vcells l) ∧ ∀ u ∈ l, u.wf := by
  obtain ⟨a0, len0, cap0, rfl⟩ := okWide_slice Tryd.underlying26 hv
  obtain ⟨fuel, hf⟩ := h
  rcases open_slice Tryd.underlying26 hf with ⟨h0, _⟩ | ⟨a, len, cap, m, n, D, Pl, hcs, hb, hl, hm, hmm, hx, hi⟩
  · simp [Value.cells] at h0
    obtain ⟨rfl, rfl, rfl⟩ := h0
    exact ⟨none, 0, 0, [], rfl, by unfold maxLen; omega, Reads.none_, fun u hu => by simp at hu⟩
  · simp [Value.cells] at hcs
    obtain ⟨rfl, rfl, rfl⟩ := hcs
    have hlm : len0 ≤ m := by rw [hmm]; split <;> omega
    have each : ∀ i, ∃ u : V, i < len0 → u.wf ∧ ∀ j x, u.cells[j]? = some x → W.cell? (a.add (i * 3 + j)) = some x := by
      intro i
      by_cases hil : i < len0
      · obtain ⟨cs', hc, ht⟩ := hi i (by omega)
        obtain ⟨u, rfl, hw⟩ := one_V ht
        rw [cellsV] at hc
        obtain ⟨_, _, hat⟩ := World.cells?_some hc
        refine ⟨u, fun _ => ⟨hw, fun j x hx => ?_⟩⟩
        have hj : j < 3 := (List.getElem?_eq_some_iff.1 hx).1
        rw [← add_add, hat j hj, hx]
      · exact ⟨⟨0, 0, ⟨#[]⟩⟩, fun h => absurd h hil⟩
    obtain ⟨f, hfun⟩ := Classical.axiomOfChoice each
    have hlen : ((List.range len0).map f).length = len0 := by simp
    refine ⟨some a, len0, cap0, (List.range len0).map f, rfl, by omega, ⟨by rw [vcells_length, hlen], fun hpos => ?_⟩, fun u hu => ?_⟩
    · obtain ⟨b, o, rfl, hlt⟩ := flat0 ((hfun 0 hpos).2 0 _ rfl)
      refine ⟨b, o, rfl, hlt, fun j x hx => ?_⟩
      have hjl : j < len0 * 3 := by have := (List.getElem?_eq_some_iff.1 hx).1; rw [vcells_length, hlen] at this; exact this
      have hi : j / 3 < len0 := by omega
      have hget : ((List.range len0).map f)[j / 3]? = some (f (j / 3)) := by simp [hi]
      obtain ⟨g0, g1, g2⟩ := vcells_get hget
      have hj : j = j / 3 * 3 + j % 3 := by omega
      have hr : j % 3 = 0 ∨ j % 3 = 1 ∨ j % 3 = 2 := by omega
      have fin : ∀ r y, j % 3 = r → (f (j / 3)).cells[r]? = some y → x = y → W.cell? ⟨b, o + j, none⟩ = some x := by
        intro r y hr hy hxy
        have h1 := (hfun (j / 3) hi).2 r y hy
        rw [add_flat] at h1
        rw [hxy]
        rwa [show o + j = o + (j / 3 * 3 + r) by omega]
      rcases hr with h | h | h
      · rw [show j = j / 3 * 3 by omega] at hx
        rw [g0] at hx
        exact fin 0 _ h rfl (Option.some.inj hx).symm
      · rw [show j = j / 3 * 3 + 1 by omega] at hx
        rw [g1] at hx
        exact fin 1 _ h rfl (Option.some.inj hx).symm
      · rw [show j = j / 3 * 3 + 2 by omega] at hx
        rw [g2] at hx
        exact fin 2 _ h rfl (Option.some.inj hx).symm
    · simp only [List.mem_map, List.mem_range] at hu
      obtain ⟨i, hil, rfl⟩ := hu
      exact (hfun i hil).1
end
theorem laid_B : laidOutB Tryd.prog = true := by kernel_rfl
theorem readVs : Tryd.prog.readableRec 26 = true := by kernel_rfl
theorem ltVs : 26 < Tryd.prog.types.size := of_decide_eq_true (by kernel_rfl)
end Go.Proofs.YtpmjpbndpnmdlaaDoor

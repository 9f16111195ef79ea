/- value.unkey of bytes that are no value's: contract, unknown kinds. -/
import Derived.Test.YtpmjpbndpnmdlaaDoorKey5
import Derived.Deep.RegionHeld3
import Derived.Test.YtpmjpbndpnmdlaaDoorVal5
set_option linter.all false
namespace Go.Proofs.YtpmjpbndpnmdlaaDoor
open Go.RowKit Go.Lib

/-- It is refused. -/
def UBad (w : World) (e : Ending) (w' : World) : Prop := ∃ k n t r, e = .returned (.tuple #[.agg #[.int .i64 k, .int .i64 n, .string t], .slice none 0 0, r]) ∧ IsErr w' r 20 ∧ Below w.heap.size w w'
set_option maxRecDepth 100000 in
set_option maxHeartbeats 1000000 in
theorem unkey_kind (b o m c : Nat) (x : Int) (rest : List Int) (w : World) (hx : 3 < x ∧ x < 256) (hm : m ≤ 9223372036854775807) (hc : m ≤ c) (h : Reads w 1 (some ⟨b, o, none⟩) m (nums ([x] ++ rest))) :
    Calls Tryd.prog 45 #[.slice (some ⟨b, o, none⟩) m c] w (UBad w) := by
  have hl : m = rest.length + 1 := by have := h.1; simp [nums] at this; omega
  subst hl
  have c0 : (w.alloc (.cells #[.int .i64 0, .int .i64 0, .string ⟨#[]⟩] 23)).cell? ⟨b, o, none⟩ = some (.int .u8 x) := (h.alloc _).byte (j := 0) rfl
  have BR := (Blk3.new w 23 (.int .i64 0) (.int .i64 0) (.string ⟨#[]⟩)).alloc (.cells #[.int .i64 x, .int .i64 0, .string ⟨#[]⟩] 23)
  have BV := Blk3.new1 w (.cells #[.int .i64 0, .int .i64 0, .string ⟨#[]⟩] 23) 23 (.int .i64 x) (.int .i64 0) (.string ⟨#[]⟩)
  obtain ⟨b0, b1, b2, fB⟩ := BV.cells
  obtain ⟨r0, r1, r2, fR⟩ := BR.cells
  have HF := fun w => hide (value_fault 20 (by decide) w)
  have q0 : (x == 0) = false := by rw [beq_eq_false_iff_ne]; omega
  have q1 : (x == 1) = false := by rw [beq_eq_false_iff_ne]; omega
  have q2 : (x == 2) = false := by rw [beq_eq_false_iff_ne]; omega
  have q3 : (x == 3) = false := by rw [beq_eq_false_iff_ne]; omega
  have hw : IntKind.wrap .i64 x = x := by
    unfold IntKind.wrap
    have e1 : (2 ^ IntKind.i64.bits : Int) = 18446744073709551616 := by decide
    have e2 : (2 ^ (IntKind.i64.bits - 1) : Int) = 9223372036854775808 := by decide
    rw [e1, e2]
    have e4 : IntKind.i64.signed = true := rfl
    simp only [e4, Bool.true_and, decide_eq_true_eq]
    split <;> omega
  clear h
  by_cases hc1 : 1 < c
  · go_enter Tryd.func45, Tryd.ntmps45
    go_wp2_with fail
    have KS : ∀ W4, Below ((w.alloc (.cells #[.int .i64 0, .int .i64 0, .string ⟨#[]⟩] 23)).alloc (.cells #[.int .i64 x, .int .i64 0, .string ⟨#[]⟩] 23)).drew.heap.size ((w.alloc (.cells #[.int .i64 0, .int .i64 0, .string ⟨#[]⟩] 23)).alloc (.cells #[.int .i64 x, .int .i64 0, .string ⟨#[]⟩] 23)).drew W4 → Blk3 W4 (w.heap.size + 1) 23 (.int .i64 x) (.int .i64 0) (.string ⟨#[]⟩) ∧ Blk3 W4 w.heap.size 23 (.int .i64 0) (.int .i64 0) (.string ⟨#[]⟩) := fun W4 hb => ⟨BV.drew.below hb, BR.drew.below hb⟩
    replace KS := hide KS
    go_region_held3 (fun w' => w'.cell? ⟨w.heap.size + 1, 0, none⟩ = some (.int .i64 x) ∧ w'.cell? ⟨w.heap.size + 1, 1, none⟩ = some (.int .i64 0) ∧ w'.cell? ⟨w.heap.size + 1, 2, none⟩ = some (.string ⟨#[]⟩))
      (first | exact ⟨b0, b1, b2⟩ | exact ⟨e0, e1, e2⟩ | exact (by obtain ⟨f0, f1, f2, _⟩ := (((unhide KS) _ hb2).1.far3 (g' := w.heap.size) (by omega) (.int .i64 x) (.int .i64 0) (.string ⟨#[]⟩)).cells; exact ⟨f0, f1, f2⟩))
      (first | (go_at_call 35; refine (unhide (HF _)).mono ?_; rintro e w2 ⟨v, rfl, he, hb2⟩; obtain ⟨e0, e1, e2, _⟩ := ((unhide KS) _ hb2).1.cells; obtain ⟨g0, g1, g2, g3⟩ := ((unhide KS) _ hb2).2.cells))
    go_wp2
    have kr := ((unhide KS) _ hb2).2
    have hbw : Below w.heap.size w w2 := Below.andThen (show Below w.heap.size w ((w.alloc (.cells #[.int .i64 0, .int .i64 0, .string ⟨#[]⟩] 23)).alloc (.cells #[.int .i64 x, .int .i64 0, .string ⟨#[]⟩] 23)).drew from (((Below.refl _ _).alloc (Nat.le_refl _) _).alloc (by simp) _).drew) hb2
    obtain ⟨z0, z1, z2, _⟩ := (kr.set3 (.int .i64 x) (.int .i64 0) (.string ⟨#[]⟩)).cells
    exact bodyPost_ret (v := .tuple #[.agg #[.int .i64 x, .int .i64 0, .string ⟨#[]⟩], .slice none 0 0, v]) (by simp [results, Tryd.results45, go_sem, z0, z1, z2]) rfl ⟨_, _, _, _, rfl, IsErr.set3 he kr _ _ _, below_set3 hbw (Nat.le_refl _) _ _ _⟩
  · have hr0 : rest = [] := List.eq_nil_of_length_eq_zero (by omega)
    subst hr0
    have hce : c = 1 := by simp at hc; omega
    subst hce
    go_enter Tryd.func45, Tryd.ntmps45
    go_wp2_with fail
    have KS : ∀ W4, Below ((w.alloc (.cells #[.int .i64 0, .int .i64 0, .string ⟨#[]⟩] 23)).alloc (.cells #[.int .i64 x, .int .i64 0, .string ⟨#[]⟩] 23)).drew.heap.size ((w.alloc (.cells #[.int .i64 0, .int .i64 0, .string ⟨#[]⟩] 23)).alloc (.cells #[.int .i64 x, .int .i64 0, .string ⟨#[]⟩] 23)).drew W4 → Blk3 W4 (w.heap.size + 1) 23 (.int .i64 x) (.int .i64 0) (.string ⟨#[]⟩) ∧ Blk3 W4 w.heap.size 23 (.int .i64 0) (.int .i64 0) (.string ⟨#[]⟩) := fun W4 hb => ⟨BV.drew.below hb, BR.drew.below hb⟩
    replace KS := hide KS
    go_region_held3 (fun w' => w'.cell? ⟨w.heap.size + 1, 0, none⟩ = some (.int .i64 x) ∧ w'.cell? ⟨w.heap.size + 1, 1, none⟩ = some (.int .i64 0) ∧ w'.cell? ⟨w.heap.size + 1, 2, none⟩ = some (.string ⟨#[]⟩))
      (first | exact ⟨b0, b1, b2⟩ | exact ⟨e0, e1, e2⟩ | exact (by obtain ⟨f0, f1, f2, _⟩ := (((unhide KS) _ hb2).1.far3 (g' := w.heap.size) (by omega) (.int .i64 x) (.int .i64 0) (.string ⟨#[]⟩)).cells; exact ⟨f0, f1, f2⟩))
      (first | (go_at_call 35; refine (unhide (HF _)).mono ?_; rintro e w2 ⟨v, rfl, he, hb2⟩; obtain ⟨e0, e1, e2, _⟩ := ((unhide KS) _ hb2).1.cells; obtain ⟨g0, g1, g2, g3⟩ := ((unhide KS) _ hb2).2.cells))
    go_wp2
    have kr := ((unhide KS) _ hb2).2
    have hbw : Below w.heap.size w w2 := Below.andThen (show Below w.heap.size w ((w.alloc (.cells #[.int .i64 0, .int .i64 0, .string ⟨#[]⟩] 23)).alloc (.cells #[.int .i64 x, .int .i64 0, .string ⟨#[]⟩] 23)).drew from (((Below.refl _ _).alloc (Nat.le_refl _) _).alloc (by simp) _).drew) hb2
    obtain ⟨z0, z1, z2, _⟩ := (kr.set3 (.int .i64 x) (.int .i64 0) (.string ⟨#[]⟩)).cells
    exact bodyPost_ret (v := .tuple #[.agg #[.int .i64 x, .int .i64 0, .string ⟨#[]⟩], .slice none 0 0, v]) (by simp [results, Tryd.results45, go_sem, z0, z1, z2]) rfl ⟨_, _, _, _, rfl, IsErr.set3 he kr _ _ _, below_set3 hbw (Nat.le_refl _) _ _ _⟩
end Go.Proofs.YtpmjpbndpnmdlaaDoor

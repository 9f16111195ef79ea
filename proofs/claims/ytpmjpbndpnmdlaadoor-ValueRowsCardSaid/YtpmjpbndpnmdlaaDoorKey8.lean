/- value.unkey of bytes that are no value's: contract, kinds 1 to 3. -/
import Derived.Test.YtpmjpbndpnmdlaaDoorKey7
import Derived.Test.YtpmjpbndpnmdlaaDoorDecP
set_option linter.all false
namespace Go.Proofs.YtpmjpbndpnmdlaaDoor
open Go.RowKit Go.Lib

theorem wrap64_byte {x : Int} (h : 0 ≤ x ∧ x < 256) : IntKind.wrap .i64 x = x := by
  unfold IntKind.wrap
  have e1 : (2 ^ IntKind.i64.bits : Int) = 18446744073709551616 := by decide
  have e2 : (2 ^ (IntKind.i64.bits - 1) : Int) = 9223372036854775808 := by decide
  rw [e1, e2]
  have e4 : IntKind.i64.signed = true := rfl
  simp only [e4, Bool.true_and, decide_eq_true_eq]
  split <;> omega

set_option maxRecDepth 100000 in
set_option maxHeartbeats 1000000 in
theorem unkey_1_short (b o c : Nat) (w : World) (hc : 1 ≤ c) (h : Reads w 1 (some ⟨b, o, none⟩) 1 (nums [1])) :
    Calls Tryd.prog 45 #[.slice (some ⟨b, o, none⟩) 1 c] w (UBad w) := by
  have c0 : (w.alloc (.cells #[.int .i64 0, .int .i64 0, .string ⟨#[]⟩] 23)).cell? ⟨b, o, none⟩ = some (.int .u8 (1)) := (h.alloc _).byte (j := 0) rfl
  have BR := (Blk3.new w 23 (.int .i64 0) (.int .i64 0) (.string ⟨#[]⟩)).alloc (.cells #[.int .i64 (1), .int .i64 0, .string ⟨#[]⟩] 23)
  have BV := Blk3.new1 w (.cells #[.int .i64 0, .int .i64 0, .string ⟨#[]⟩] 23) 23 (.int .i64 (1)) (.int .i64 0) (.string ⟨#[]⟩)
  obtain ⟨b0, b1, b2, fB⟩ := BV.cells
  obtain ⟨r0, r1, r2, fR⟩ := BR.cells
  have HF := fun w => hide (value_fault 20 (by decide) w)
  have hal : Below w.heap.size w ((w.alloc (.cells #[.int .i64 0, .int .i64 0, .string ⟨#[]⟩] 23)).alloc (.cells #[.int .i64 (1), .int .i64 0, .string ⟨#[]⟩] 23)) := ((Below.refl _ _).alloc (Nat.le_refl _) _).alloc (by simp) _
  have HBW := hide hal
  clear hal
  clear h
  by_cases hc1 : 1 < c
  · skip
    go_enter Tryd.func45, Tryd.ntmps45
    go_wp2_with fail
    have KS : ∀ W4, Below ((w.alloc (.cells #[.int .i64 0, .int .i64 0, .string ⟨#[]⟩] 23)).alloc (.cells #[.int .i64 (1), .int .i64 0, .string ⟨#[]⟩] 23)).drew.heap.size ((w.alloc (.cells #[.int .i64 0, .int .i64 0, .string ⟨#[]⟩] 23)).alloc (.cells #[.int .i64 (1), .int .i64 0, .string ⟨#[]⟩] 23)).drew W4 → Blk3 W4 (w.heap.size + 1) 23 (.int .i64 (1)) (.int .i64 0) (.string ⟨#[]⟩) ∧ Blk3 W4 w.heap.size 23 (.int .i64 0) (.int .i64 0) (.string ⟨#[]⟩) := fun W4 hb => ⟨BV.drew.below hb, BR.drew.below hb⟩
    replace KS := hide KS
    have HBD : Hid (Below w.heap.size w ((w.alloc (.cells #[.int .i64 0, .int .i64 0, .string ⟨#[]⟩] 23)).alloc (.cells #[.int .i64 (1), .int .i64 0, .string ⟨#[]⟩] 23)).drew) := hide (unhide HBW).drew
    go_region_held3 (fun w' => w'.cell? ⟨w.heap.size + 1, 0, none⟩ = some (.int .i64 (1)) ∧ w'.cell? ⟨w.heap.size + 1, 1, none⟩ = some (.int .i64 0) ∧ w'.cell? ⟨w.heap.size + 1, 2, none⟩ = some (.string ⟨#[]⟩))
      (first | exact ⟨b0, b1, b2⟩ | exact ⟨e0, e1, e2⟩ | exact (by obtain ⟨f0, f1, f2, _⟩ := (((unhide KS) _ hb2).1.far3 (g' := w.heap.size) (by omega) (.int .i64 (1)) (.int .i64 0) (.string ⟨#[]⟩)).cells; exact ⟨f0, f1, f2⟩))
      (first | (go_at_call 35; refine (unhide (HF _)).mono ?_; rintro e w2 ⟨v, rfl, he, hb2⟩; obtain ⟨e0, e1, e2, _⟩ := ((unhide KS) _ hb2).1.cells; obtain ⟨g0, g1, g2, g3⟩ := ((unhide KS) _ hb2).2.cells))
    go_wp2
    have kr := ((unhide KS) _ hb2).2
    have hbw : Below w.heap.size w w2 := Below.andThen (unhide HBD) hb2
    obtain ⟨z0, z1, z2, _⟩ := (kr.set3 (.int .i64 (1)) (.int .i64 0) (.string ⟨#[]⟩)).cells
    exact bodyPost_ret (v := .tuple #[.agg #[.int .i64 (1), .int .i64 0, .string ⟨#[]⟩], .slice none 0 0, v]) (by simp [results, Tryd.results45, go_sem, z0, z1, z2]) rfl ⟨_, _, _, _, rfl, IsErr.set3 he kr _ _ _, below_set3 hbw (Nat.le_refl _) _ _ _⟩
  · have hce : c = 1 := by omega
    subst hce
    go_enter Tryd.func45, Tryd.ntmps45
    go_wp2_with fail
    have KS : ∀ W4, Below ((w.alloc (.cells #[.int .i64 0, .int .i64 0, .string ⟨#[]⟩] 23)).alloc (.cells #[.int .i64 (1), .int .i64 0, .string ⟨#[]⟩] 23)).drew.heap.size ((w.alloc (.cells #[.int .i64 0, .int .i64 0, .string ⟨#[]⟩] 23)).alloc (.cells #[.int .i64 (1), .int .i64 0, .string ⟨#[]⟩] 23)).drew W4 → Blk3 W4 (w.heap.size + 1) 23 (.int .i64 (1)) (.int .i64 0) (.string ⟨#[]⟩) ∧ Blk3 W4 w.heap.size 23 (.int .i64 0) (.int .i64 0) (.string ⟨#[]⟩) := fun W4 hb => ⟨BV.drew.below hb, BR.drew.below hb⟩
    replace KS := hide KS
    have HBD : Hid (Below w.heap.size w ((w.alloc (.cells #[.int .i64 0, .int .i64 0, .string ⟨#[]⟩] 23)).alloc (.cells #[.int .i64 (1), .int .i64 0, .string ⟨#[]⟩] 23)).drew) := hide (unhide HBW).drew
    go_region_held3 (fun w' => w'.cell? ⟨w.heap.size + 1, 0, none⟩ = some (.int .i64 (1)) ∧ w'.cell? ⟨w.heap.size + 1, 1, none⟩ = some (.int .i64 0) ∧ w'.cell? ⟨w.heap.size + 1, 2, none⟩ = some (.string ⟨#[]⟩))
      (first | exact ⟨b0, b1, b2⟩ | exact ⟨e0, e1, e2⟩ | exact (by obtain ⟨f0, f1, f2, _⟩ := (((unhide KS) _ hb2).1.far3 (g' := w.heap.size) (by omega) (.int .i64 (1)) (.int .i64 0) (.string ⟨#[]⟩)).cells; exact ⟨f0, f1, f2⟩))
      (first | (go_at_call 35; refine (unhide (HF _)).mono ?_; rintro e w2 ⟨v, rfl, he, hb2⟩; obtain ⟨e0, e1, e2, _⟩ := ((unhide KS) _ hb2).1.cells; obtain ⟨g0, g1, g2, g3⟩ := ((unhide KS) _ hb2).2.cells))
    go_wp2
    have kr := ((unhide KS) _ hb2).2
    have hbw : Below w.heap.size w w2 := Below.andThen (unhide HBD) hb2
    obtain ⟨z0, z1, z2, _⟩ := (kr.set3 (.int .i64 (1)) (.int .i64 0) (.string ⟨#[]⟩)).cells
    exact bodyPost_ret (v := .tuple #[.agg #[.int .i64 (1), .int .i64 0, .string ⟨#[]⟩], .slice none 0 0, v]) (by simp [results, Tryd.results45, go_sem, z0, z1, z2]) rfl ⟨_, _, _, _, rfl, IsErr.set3 he kr _ _ _, below_set3 hbw (Nat.le_refl _) _ _ _⟩
set_option maxRecDepth 100000 in
set_option maxHeartbeats 1000000 in
theorem unkey_1_bad (b o m c : Nat) (y : Int) (rest : List Int) (w : World) (hy : 2 ≤ y ∧ y < 256) (hm : m ≤ 9223372036854775807) (hc : m ≤ c) (h : Reads w 1 (some ⟨b, o, none⟩) m (nums ([1, y] ++ rest))) :
    Calls Tryd.prog 45 #[.slice (some ⟨b, o, none⟩) m c] w (UBad w) := by
  have hl : m = rest.length + 2 := by have := h.1; simp [nums] at this; omega
  subst hl
  have c1 : ((w.alloc (.cells #[.int .i64 0, .int .i64 0, .string ⟨#[]⟩] 23)).alloc (.cells #[.int .i64 1, .int .i64 0, .string ⟨#[]⟩] 23)).cell? ⟨b, o + 1, none⟩ = some (.int .u8 y) := ((h.alloc _).alloc _).byte (j := 1) rfl
  have c0 : (w.alloc (.cells #[.int .i64 0, .int .i64 0, .string ⟨#[]⟩] 23)).cell? ⟨b, o, none⟩ = some (.int .u8 (1)) := (h.alloc _).byte (j := 0) rfl
  have BR := (Blk3.new w 23 (.int .i64 0) (.int .i64 0) (.string ⟨#[]⟩)).alloc (.cells #[.int .i64 (1), .int .i64 y, .string ⟨#[]⟩] 23)
  have BV := Blk3.new1 w (.cells #[.int .i64 0, .int .i64 0, .string ⟨#[]⟩] 23) 23 (.int .i64 (1)) (.int .i64 y) (.string ⟨#[]⟩)
  obtain ⟨b0, b1, b2, fB⟩ := BV.cells
  obtain ⟨r0, r1, r2, fR⟩ := BR.cells
  have HF := fun w => hide (value_fault 20 (by decide) w)
  have hal : Below w.heap.size w ((w.alloc (.cells #[.int .i64 0, .int .i64 0, .string ⟨#[]⟩] 23)).alloc (.cells #[.int .i64 (1), .int .i64 y, .string ⟨#[]⟩] 23)) := ((Below.refl _ _).alloc (Nat.le_refl _) _).alloc (by simp) _
  have HBW := hide hal
  clear hal
  clear h
  have hw : IntKind.wrap .i64 y = y := wrap64_byte (by omega)
  have hmay : mayB 1 y ⟨#[]⟩ = false := by
    unfold mayB
    rw [if_neg (by decide), if_pos rfl, decide_eq_false (by omega), decide_eq_false (by omega)]
    rfl
  have hI := fun w => value_Is 1 y ⟨#[]⟩ w (by decide)
  rw [hmay] at hI
  have HI := fun w => hide (hI w)
  clear hI
  have q1 : decide ((rest.length : Int) + 1 < 1) = false := decide_eq_false (by omega)
  have hc1 : 1 < c := by omega
  go_enter Tryd.func45, Tryd.ntmps45
  go_wp2_with fail
  refine (unhide (HI _)).mono ?_
  rintro e w3 ⟨rfl, hb3⟩
  replace BR := BR.below hb3
  replace BV := BV.below hb3
  clear b0 b1 b2 fB r0 r1 r2 fR
  obtain ⟨b0, b1, b2, fB⟩ := BV.cells
  obtain ⟨r0, r1, r2, fR⟩ := BR.cells
  replace HBW := hide (Below.andThen (unhide HBW) hb3)
  clear hb3 c0
  go_wp2_with fail
  have KS : ∀ W4, Below (w3).drew.heap.size (w3).drew W4 → Blk3 W4 (w.heap.size + 1) 23 (.int .i64 (1)) (.int .i64 y) (.string ⟨#[]⟩) ∧ Blk3 W4 w.heap.size 23 (.int .i64 0) (.int .i64 0) (.string ⟨#[]⟩) := fun W4 hb => ⟨BV.drew.below hb, BR.drew.below hb⟩
  replace KS := hide KS
  have HBD : Hid (Below w.heap.size w (w3).drew) := hide (unhide HBW).drew
  go_region_held3 (fun w' => w'.cell? ⟨w.heap.size + 1, 0, none⟩ = some (.int .i64 (1)) ∧ w'.cell? ⟨w.heap.size + 1, 1, none⟩ = some (.int .i64 y) ∧ w'.cell? ⟨w.heap.size + 1, 2, none⟩ = some (.string ⟨#[]⟩))
    (first | exact ⟨b0, b1, b2⟩ | exact ⟨e0, e1, e2⟩ | exact (by obtain ⟨f0, f1, f2, _⟩ := (((unhide KS) _ hb2).1.far3 (g' := w.heap.size) (by omega) (.int .i64 (1)) (.int .i64 y) (.string ⟨#[]⟩)).cells; exact ⟨f0, f1, f2⟩))
    (first | (go_at_call 35; refine (unhide (HF _)).mono ?_; rintro e w2 ⟨v, rfl, he, hb2⟩; obtain ⟨e0, e1, e2, _⟩ := ((unhide KS) _ hb2).1.cells; obtain ⟨g0, g1, g2, g3⟩ := ((unhide KS) _ hb2).2.cells))
  go_wp2
  have kr := ((unhide KS) _ hb2).2
  have hbw : Below w.heap.size w w2 := Below.andThen (unhide HBD) hb2
  obtain ⟨z0, z1, z2, _⟩ := (kr.set3 (.int .i64 (1)) (.int .i64 y) (.string ⟨#[]⟩)).cells
  exact bodyPost_ret (v := .tuple #[.agg #[.int .i64 (1), .int .i64 y, .string ⟨#[]⟩], .slice none 0 0, v]) (by simp [results, Tryd.results45, go_sem, z0, z1, z2]) rfl ⟨_, _, _, _, rfl, IsErr.set3 he kr _ _ _, below_set3 hbw (Nat.le_refl _) _ _ _⟩
set_option maxRecDepth 100000 in
set_option maxHeartbeats 1000000 in
theorem unkey_2_short (b o m c : Nat) (rest : List Int) (w : World) (h8 : rest.length < 8) (hc : m ≤ c) (h : Reads w 1 (some ⟨b, o, none⟩) m (nums ([2] ++ rest))) :
    Calls Tryd.prog 45 #[.slice (some ⟨b, o, none⟩) m c] w (UBad w) := by
  have hl : m = rest.length + 1 := by have := h.1; simp [nums] at this; omega
  subst hl
  have c0 : (w.alloc (.cells #[.int .i64 0, .int .i64 0, .string ⟨#[]⟩] 23)).cell? ⟨b, o, none⟩ = some (.int .u8 (2)) := (h.alloc _).byte (j := 0) rfl
  have BR := (Blk3.new w 23 (.int .i64 0) (.int .i64 0) (.string ⟨#[]⟩)).alloc (.cells #[.int .i64 (2), .int .i64 0, .string ⟨#[]⟩] 23)
  have BV := Blk3.new1 w (.cells #[.int .i64 0, .int .i64 0, .string ⟨#[]⟩] 23) 23 (.int .i64 (2)) (.int .i64 0) (.string ⟨#[]⟩)
  obtain ⟨b0, b1, b2, fB⟩ := BV.cells
  obtain ⟨r0, r1, r2, fR⟩ := BR.cells
  have HF := fun w => hide (value_fault 20 (by decide) w)
  have hal : Below w.heap.size w ((w.alloc (.cells #[.int .i64 0, .int .i64 0, .string ⟨#[]⟩] 23)).alloc (.cells #[.int .i64 (2), .int .i64 0, .string ⟨#[]⟩] 23)) := ((Below.refl _ _).alloc (Nat.le_refl _) _).alloc (by simp) _
  have HBW := hide hal
  clear hal
  clear h
  have q1 : decide ((8 : Int) ≤ (rest.length : Int)) = false := decide_eq_false (by omega)
  have q2 : decide ((rest.length : Int) < 8) = true := decide_eq_true (by omega)
  by_cases hc1 : 1 < c
  · skip
    go_enter Tryd.func45, Tryd.ntmps45
    go_wp2_with fail
    have KS : ∀ W4, Below ((w.alloc (.cells #[.int .i64 0, .int .i64 0, .string ⟨#[]⟩] 23)).alloc (.cells #[.int .i64 (2), .int .i64 0, .string ⟨#[]⟩] 23)).drew.heap.size ((w.alloc (.cells #[.int .i64 0, .int .i64 0, .string ⟨#[]⟩] 23)).alloc (.cells #[.int .i64 (2), .int .i64 0, .string ⟨#[]⟩] 23)).drew W4 → Blk3 W4 (w.heap.size + 1) 23 (.int .i64 (2)) (.int .i64 0) (.string ⟨#[]⟩) ∧ Blk3 W4 w.heap.size 23 (.int .i64 0) (.int .i64 0) (.string ⟨#[]⟩) := fun W4 hb => ⟨BV.drew.below hb, BR.drew.below hb⟩
    replace KS := hide KS
    have HBD : Hid (Below w.heap.size w ((w.alloc (.cells #[.int .i64 0, .int .i64 0, .string ⟨#[]⟩] 23)).alloc (.cells #[.int .i64 (2), .int .i64 0, .string ⟨#[]⟩] 23)).drew) := hide (unhide HBW).drew
    go_region_held3 (fun w' => w'.cell? ⟨w.heap.size + 1, 0, none⟩ = some (.int .i64 (2)) ∧ w'.cell? ⟨w.heap.size + 1, 1, none⟩ = some (.int .i64 0) ∧ w'.cell? ⟨w.heap.size + 1, 2, none⟩ = some (.string ⟨#[]⟩))
      (first | exact ⟨b0, b1, b2⟩ | exact ⟨e0, e1, e2⟩ | exact (by obtain ⟨f0, f1, f2, _⟩ := (((unhide KS) _ hb2).1.far3 (g' := w.heap.size) (by omega) (.int .i64 (2)) (.int .i64 0) (.string ⟨#[]⟩)).cells; exact ⟨f0, f1, f2⟩))
      (first | (go_at_call 35; refine (unhide (HF _)).mono ?_; rintro e w2 ⟨v, rfl, he, hb2⟩; obtain ⟨e0, e1, e2, _⟩ := ((unhide KS) _ hb2).1.cells; obtain ⟨g0, g1, g2, g3⟩ := ((unhide KS) _ hb2).2.cells))
    go_wp2
    have kr := ((unhide KS) _ hb2).2
    have hbw : Below w.heap.size w w2 := Below.andThen (unhide HBD) hb2
    obtain ⟨z0, z1, z2, _⟩ := (kr.set3 (.int .i64 (2)) (.int .i64 0) (.string ⟨#[]⟩)).cells
    exact bodyPost_ret (v := .tuple #[.agg #[.int .i64 (2), .int .i64 0, .string ⟨#[]⟩], .slice none 0 0, v]) (by simp [results, Tryd.results45, go_sem, z0, z1, z2]) rfl ⟨_, _, _, _, rfl, IsErr.set3 he kr _ _ _, below_set3 hbw (Nat.le_refl _) _ _ _⟩
  · have hr0 : rest = [] := List.eq_nil_of_length_eq_zero (by omega)
    subst hr0
    have hce : c = 1 := by simp at hc; omega
    subst hce
    go_enter Tryd.func45, Tryd.ntmps45
    go_wp2_with fail
    have KS : ∀ W4, Below ((w.alloc (.cells #[.int .i64 0, .int .i64 0, .string ⟨#[]⟩] 23)).alloc (.cells #[.int .i64 (2), .int .i64 0, .string ⟨#[]⟩] 23)).drew.heap.size ((w.alloc (.cells #[.int .i64 0, .int .i64 0, .string ⟨#[]⟩] 23)).alloc (.cells #[.int .i64 (2), .int .i64 0, .string ⟨#[]⟩] 23)).drew W4 → Blk3 W4 (w.heap.size + 1) 23 (.int .i64 (2)) (.int .i64 0) (.string ⟨#[]⟩) ∧ Blk3 W4 w.heap.size 23 (.int .i64 0) (.int .i64 0) (.string ⟨#[]⟩) := fun W4 hb => ⟨BV.drew.below hb, BR.drew.below hb⟩
    replace KS := hide KS
    have HBD : Hid (Below w.heap.size w ((w.alloc (.cells #[.int .i64 0, .int .i64 0, .string ⟨#[]⟩] 23)).alloc (.cells #[.int .i64 (2), .int .i64 0, .string ⟨#[]⟩] 23)).drew) := hide (unhide HBW).drew
    go_region_held3 (fun w' => w'.cell? ⟨w.heap.size + 1, 0, none⟩ = some (.int .i64 (2)) ∧ w'.cell? ⟨w.heap.size + 1, 1, none⟩ = some (.int .i64 0) ∧ w'.cell? ⟨w.heap.size + 1, 2, none⟩ = some (.string ⟨#[]⟩))
      (first | exact ⟨b0, b1, b2⟩ | exact ⟨e0, e1, e2⟩ | exact (by obtain ⟨f0, f1, f2, _⟩ := (((unhide KS) _ hb2).1.far3 (g' := w.heap.size) (by omega) (.int .i64 (2)) (.int .i64 0) (.string ⟨#[]⟩)).cells; exact ⟨f0, f1, f2⟩))
      (first | (go_at_call 35; refine (unhide (HF _)).mono ?_; rintro e w2 ⟨v, rfl, he, hb2⟩; obtain ⟨e0, e1, e2, _⟩ := ((unhide KS) _ hb2).1.cells; obtain ⟨g0, g1, g2, g3⟩ := ((unhide KS) _ hb2).2.cells))
    go_wp2
    have kr := ((unhide KS) _ hb2).2
    have hbw : Below w.heap.size w w2 := Below.andThen (unhide HBD) hb2
    obtain ⟨z0, z1, z2, _⟩ := (kr.set3 (.int .i64 (2)) (.int .i64 0) (.string ⟨#[]⟩)).cells
    exact bodyPost_ret (v := .tuple #[.agg #[.int .i64 (2), .int .i64 0, .string ⟨#[]⟩], .slice none 0 0, v]) (by simp [results, Tryd.results45, go_sem, z0, z1, z2]) rfl ⟨_, _, _, _, rfl, IsErr.set3 he kr _ _ _, below_set3 hbw (Nat.le_refl _) _ _ _⟩
set_option maxRecDepth 100000 in
set_option maxHeartbeats 1000000 in
theorem unkey_3_none (b o m c : Nat) (rest : List Int) (w : World) (hr : InB rest) (h0 : ¬ 0 ∈ rest) (hm : m ≤ 9223372036854775807) (hc : m ≤ c) (h : Reads w 1 (some ⟨b, o, none⟩) m (nums ([3] ++ rest))) :
    Calls Tryd.prog 45 #[.slice (some ⟨b, o, none⟩) m c] w (UBad w) := by
  have hl : m = rest.length + 1 := by have := h.1; simp [nums] at this; omega
  subst hl
  have h' : Reads ((w.alloc (.cells #[.int .i64 0, .int .i64 0, .string ⟨#[]⟩] 23)).alloc (.cells #[.int .i64 3, .int .i64 0, .string ⟨#[]⟩] 23)) 1 (some ⟨b, o + 1, none⟩) rest.length (nums rest) :=
    ((h.alloc (.cells #[.int .i64 0, .int .i64 0, .string ⟨#[]⟩] 23)).alloc (.cells #[.int .i64 3, .int .i64 0, .string ⟨#[]⟩] 23)).shift
  have hidx : Lib.indexByte (Lib.bytesOf rest) (0 : Int).toNat.toUInt8 = -1 := indexByte_none (bytesOf_no0 hr h0)
  have c0 : (w.alloc (.cells #[.int .i64 0, .int .i64 0, .string ⟨#[]⟩] 23)).cell? ⟨b, o, none⟩ = some (.int .u8 (3)) := (h.alloc _).byte (j := 0) rfl
  have BR := (Blk3.new w 23 (.int .i64 0) (.int .i64 0) (.string ⟨#[]⟩)).alloc (.cells #[.int .i64 (3), .int .i64 0, .string ⟨#[]⟩] 23)
  have BV := Blk3.new1 w (.cells #[.int .i64 0, .int .i64 0, .string ⟨#[]⟩] 23) 23 (.int .i64 (3)) (.int .i64 0) (.string ⟨#[]⟩)
  obtain ⟨b0, b1, b2, fB⟩ := BV.cells
  obtain ⟨r0, r1, r2, fR⟩ := BR.cells
  have HF := fun w => hide (value_fault 20 (by decide) w)
  have hal : Below w.heap.size w ((w.alloc (.cells #[.int .i64 0, .int .i64 0, .string ⟨#[]⟩] 23)).alloc (.cells #[.int .i64 (3), .int .i64 0, .string ⟨#[]⟩] 23)) := ((Below.refl _ _).alloc (Nat.le_refl _) _).alloc (by simp) _
  have HBW := hide hal
  clear hal
  clear h
  by_cases hc1 : 1 < c
  · have hix := bytes_IndexByte b (o + 1) _ (c - 1) _ 0 _ h'
    rw [hidx] at hix
    have HIX := hide hix
    clear h' hix hidx
    go_enter Tryd.func45, Tryd.ntmps45
    go_wp2_with fail
    refine (unhide HIX).mono ?_
    rintro e w1 ⟨rfl, rfl⟩
    go_wp2_with fail
    have KS : ∀ W4, Below ((w.alloc (.cells #[.int .i64 0, .int .i64 0, .string ⟨#[]⟩] 23)).alloc (.cells #[.int .i64 (3), .int .i64 0, .string ⟨#[]⟩] 23)).drew.heap.size ((w.alloc (.cells #[.int .i64 0, .int .i64 0, .string ⟨#[]⟩] 23)).alloc (.cells #[.int .i64 (3), .int .i64 0, .string ⟨#[]⟩] 23)).drew W4 → Blk3 W4 (w.heap.size + 1) 23 (.int .i64 (3)) (.int .i64 0) (.string ⟨#[]⟩) ∧ Blk3 W4 w.heap.size 23 (.int .i64 0) (.int .i64 0) (.string ⟨#[]⟩) := fun W4 hb => ⟨BV.drew.below hb, BR.drew.below hb⟩
    replace KS := hide KS
    have HBD : Hid (Below w.heap.size w ((w.alloc (.cells #[.int .i64 0, .int .i64 0, .string ⟨#[]⟩] 23)).alloc (.cells #[.int .i64 (3), .int .i64 0, .string ⟨#[]⟩] 23)).drew) := hide (unhide HBW).drew
    go_region_held3 (fun w' => w'.cell? ⟨w.heap.size + 1, 0, none⟩ = some (.int .i64 (3)) ∧ w'.cell? ⟨w.heap.size + 1, 1, none⟩ = some (.int .i64 0) ∧ w'.cell? ⟨w.heap.size + 1, 2, none⟩ = some (.string ⟨#[]⟩))
      (first | exact ⟨b0, b1, b2⟩ | exact ⟨e0, e1, e2⟩ | exact (by obtain ⟨f0, f1, f2, _⟩ := (((unhide KS) _ hb2).1.far3 (g' := w.heap.size) (by omega) (.int .i64 (3)) (.int .i64 0) (.string ⟨#[]⟩)).cells; exact ⟨f0, f1, f2⟩))
      (first | (go_at_call 35; refine (unhide (HF _)).mono ?_; rintro e w2 ⟨v, rfl, he, hb2⟩; obtain ⟨e0, e1, e2, _⟩ := ((unhide KS) _ hb2).1.cells; obtain ⟨g0, g1, g2, g3⟩ := ((unhide KS) _ hb2).2.cells))
    go_wp2
    have kr := ((unhide KS) _ hb2).2
    have hbw : Below w.heap.size w w2 := Below.andThen (unhide HBD) hb2
    obtain ⟨z0, z1, z2, _⟩ := (kr.set3 (.int .i64 (3)) (.int .i64 0) (.string ⟨#[]⟩)).cells
    exact bodyPost_ret (v := .tuple #[.agg #[.int .i64 (3), .int .i64 0, .string ⟨#[]⟩], .slice none 0 0, v]) (by simp [results, Tryd.results45, go_sem, z0, z1, z2]) rfl ⟨_, _, _, _, rfl, IsErr.set3 he kr _ _ _, below_set3 hbw (Nat.le_refl _) _ _ _⟩
  · have hr0 : rest = [] := List.eq_nil_of_length_eq_zero (by omega)
    subst hr0
    have hce : c = 1 := by simp at hc; omega
    subst hce
    have hix := bytes_IndexByte b o 0 0 [] 0 ((w.alloc (.cells #[.int .i64 0, .int .i64 0, .string ⟨#[]⟩] 23)).alloc (.cells #[.int .i64 3, .int .i64 0, .string ⟨#[]⟩] 23)) ⟨rfl, fun h => absurd h (by omega)⟩
    rw [show Lib.indexByte (Lib.bytesOf []) (0 : Int).toNat.toUInt8 = -1 from rfl] at hix
    have HIX := hide hix
    clear h' hix hidx
    go_enter Tryd.func45, Tryd.ntmps45
    go_wp2_with fail
    refine (unhide HIX).mono ?_
    rintro e w1 ⟨rfl, rfl⟩
    go_wp2_with fail
    have KS : ∀ W4, Below ((w.alloc (.cells #[.int .i64 0, .int .i64 0, .string ⟨#[]⟩] 23)).alloc (.cells #[.int .i64 (3), .int .i64 0, .string ⟨#[]⟩] 23)).drew.heap.size ((w.alloc (.cells #[.int .i64 0, .int .i64 0, .string ⟨#[]⟩] 23)).alloc (.cells #[.int .i64 (3), .int .i64 0, .string ⟨#[]⟩] 23)).drew W4 → Blk3 W4 (w.heap.size + 1) 23 (.int .i64 (3)) (.int .i64 0) (.string ⟨#[]⟩) ∧ Blk3 W4 w.heap.size 23 (.int .i64 0) (.int .i64 0) (.string ⟨#[]⟩) := fun W4 hb => ⟨BV.drew.below hb, BR.drew.below hb⟩
    replace KS := hide KS
    have HBD : Hid (Below w.heap.size w ((w.alloc (.cells #[.int .i64 0, .int .i64 0, .string ⟨#[]⟩] 23)).alloc (.cells #[.int .i64 (3), .int .i64 0, .string ⟨#[]⟩] 23)).drew) := hide (unhide HBW).drew
    go_region_held3 (fun w' => w'.cell? ⟨w.heap.size + 1, 0, none⟩ = some (.int .i64 (3)) ∧ w'.cell? ⟨w.heap.size + 1, 1, none⟩ = some (.int .i64 0) ∧ w'.cell? ⟨w.heap.size + 1, 2, none⟩ = some (.string ⟨#[]⟩))
      (first | exact ⟨b0, b1, b2⟩ | exact ⟨e0, e1, e2⟩ | exact (by obtain ⟨f0, f1, f2, _⟩ := (((unhide KS) _ hb2).1.far3 (g' := w.heap.size) (by omega) (.int .i64 (3)) (.int .i64 0) (.string ⟨#[]⟩)).cells; exact ⟨f0, f1, f2⟩))
      (first | (go_at_call 35; refine (unhide (HF _)).mono ?_; rintro e w2 ⟨v, rfl, he, hb2⟩; obtain ⟨e0, e1, e2, _⟩ := ((unhide KS) _ hb2).1.cells; obtain ⟨g0, g1, g2, g3⟩ := ((unhide KS) _ hb2).2.cells))
    go_wp2
    have kr := ((unhide KS) _ hb2).2
    have hbw : Below w.heap.size w w2 := Below.andThen (unhide HBD) hb2
    obtain ⟨z0, z1, z2, _⟩ := (kr.set3 (.int .i64 (3)) (.int .i64 0) (.string ⟨#[]⟩)).cells
    exact bodyPost_ret (v := .tuple #[.agg #[.int .i64 (3), .int .i64 0, .string ⟨#[]⟩], .slice none 0 0, v]) (by simp [results, Tryd.results45, go_sem, z0, z1, z2]) rfl ⟨_, _, _, _, rfl, IsErr.set3 he kr _ _ _, below_set3 hbw (Nat.le_refl _) _ _ _⟩
set_option maxRecDepth 100000 in
set_option maxHeartbeats 1000000 in
theorem unkey_3_bad (b o m c : Nat) (t : ByteArray) (rest : List Int) (w : World) (ht0 : ∀ b, b ∈ t.data.toList → b ≠ 0) (hv : mayB 3 0 t = false) (hm : m ≤ 9223372036854775807) (hc : m ≤ c) (h : Reads w 1 (some ⟨b, o, none⟩) m (nums ((3 :: (txtI t ++ [0])) ++ rest))) :
    Calls Tryd.prog 45 #[.slice (some ⟨b, o, none⟩) m c] w (UBad w) := by
  have hl : m = (t.size + 1 + rest.length) + 1 := by have := h.1; simp [nums, txt_len] at this; omega
  subst hl
  have h' : Reads ((w.alloc (.cells #[.int .i64 0, .int .i64 0, .string ⟨#[]⟩] 23)).alloc (.cells #[.int .i64 3, .int .i64 0, .string ⟨#[]⟩] 23)) 1 (some ⟨b, o + 1, none⟩) (t.size + 1 + rest.length) (nums (txtI t ++ 0 :: rest)) := by
    have := ((h.alloc (.cells #[.int .i64 0, .int .i64 0, .string ⟨#[]⟩] 23)).alloc (.cells #[.int .i64 3, .int .i64 0, .string ⟨#[]⟩] 23))
    have e : (3 :: (txtI t ++ [0])) ++ rest = [3] ++ (txtI t ++ 0 :: rest) := by simp
    rw [e] at this
    have := this.shift
    simpa [txt_len, Nat.add_assoc, Nat.add_comm 1] using this
  have hix := bytes_IndexByte b (o + 1) _ (c - 1) _ 0 _ h'
  have hidx : Lib.indexByte (Lib.bytesOf (txtI t ++ 0 :: rest)) (0 : Int).toNat.toUInt8 = (t.size : Int) := by
    have e : Lib.bytesOf (txtI t ++ 0 :: rest) = t.data.toList ++ 0 :: Lib.bytesOf rest := by
      rw [← bytesOf_txt t]; simp [Lib.bytesOf]
    rw [e]
    exact (indexByte_text _ _ ht0).trans (by rw [Array.length_toList]; rfl)
  rw [hidx] at hix
  have HIX := hide hix
  have htx : Reads ((w.alloc (.cells #[.int .i64 0, .int .i64 0, .string ⟨#[]⟩] 23)).alloc (.cells #[.int .i64 3, .int .i64 0, .string ⟨#[]⟩] 23)) 1 (some ⟨b, o + 1, none⟩) t.size (nums (txtI t)) := by
    refine ⟨by simp [nums, txt_len], fun ht0 => ?_⟩
    obtain ⟨b', o', e, hlt, hcell⟩ := h'.2 (by omega)
    cases e
    refine ⟨b, o + 1, rfl, hlt, fun j u hu => hcell j u ?_⟩
    rw [nums_append, List.getElem?_append_left (List.getElem?_eq_some_iff.1 hu).1]
    exact hu
  have hcv := htx.conv (P := Tryd.prog) 49 5 Tryd.underlying49 Tryd.underlying5 (c - 1) 9 Tryd.underlying9
  rw [str_txt] at hcv
  have c0 : (w.alloc (.cells #[.int .i64 0, .int .i64 0, .string ⟨#[]⟩] 23)).cell? ⟨b, o, none⟩ = some (.int .u8 (3)) := (h.alloc _).byte (j := 0) rfl
  have BR := (Blk3.new w 23 (.int .i64 0) (.int .i64 0) (.string ⟨#[]⟩)).alloc (.cells #[.int .i64 (3), .int .i64 0, .string t] 23)
  have BV := Blk3.new1 w (.cells #[.int .i64 0, .int .i64 0, .string ⟨#[]⟩] 23) 23 (.int .i64 (3)) (.int .i64 0) (.string t)
  obtain ⟨b0, b1, b2, fB⟩ := BV.cells
  obtain ⟨r0, r1, r2, fR⟩ := BR.cells
  have HF := fun w => hide (value_fault 20 (by decide) w)
  have hal : Below w.heap.size w ((w.alloc (.cells #[.int .i64 0, .int .i64 0, .string ⟨#[]⟩] 23)).alloc (.cells #[.int .i64 (3), .int .i64 0, .string t] 23)) := ((Below.refl _ _).alloc (Nat.le_refl _) _).alloc (by simp) _
  have HBW := hide hal
  clear hal
  clear h h' hix hidx htx
  have hI := fun w => value_Is 3 0 t w (by omega)
  rw [hv] at hI
  have HI := fun w => hide (hI w)
  clear hI hv ht0
  have hc1 : 1 < c := by omega
  go_enter Tryd.func45, Tryd.ntmps45
  go_wp2_with fail
  refine (unhide HIX).mono ?_
  rintro e w1 ⟨rfl, rfl⟩
  go_wp2_with fail
  refine (unhide (HI _)).mono ?_
  rintro e w3 ⟨rfl, hb3⟩
  replace BR := BR.below hb3
  replace BV := BV.below hb3
  clear b0 b1 b2 fB r0 r1 r2 fR
  obtain ⟨b0, b1, b2, fB⟩ := BV.cells
  obtain ⟨r0, r1, r2, fR⟩ := BR.cells
  replace HBW := hide (Below.andThen (unhide HBW) hb3)
  clear hb3 c0
  go_wp2_with fail
  have KS : ∀ W4, Below (w3).drew.heap.size (w3).drew W4 → Blk3 W4 (w.heap.size + 1) 23 (.int .i64 (3)) (.int .i64 0) (.string t) ∧ Blk3 W4 w.heap.size 23 (.int .i64 0) (.int .i64 0) (.string ⟨#[]⟩) := fun W4 hb => ⟨BV.drew.below hb, BR.drew.below hb⟩
  replace KS := hide KS
  have HBD : Hid (Below w.heap.size w (w3).drew) := hide (unhide HBW).drew
  go_region_held3 (fun w' => w'.cell? ⟨w.heap.size + 1, 0, none⟩ = some (.int .i64 (3)) ∧ w'.cell? ⟨w.heap.size + 1, 1, none⟩ = some (.int .i64 0) ∧ w'.cell? ⟨w.heap.size + 1, 2, none⟩ = some (.string t))
    (first | exact ⟨b0, b1, b2⟩ | exact ⟨e0, e1, e2⟩ | exact (by obtain ⟨f0, f1, f2, _⟩ := (((unhide KS) _ hb2).1.far3 (g' := w.heap.size) (by omega) (.int .i64 (3)) (.int .i64 0) (.string t)).cells; exact ⟨f0, f1, f2⟩))
    (first | (go_at_call 35; refine (unhide (HF _)).mono ?_; rintro e w2 ⟨v, rfl, he, hb2⟩; obtain ⟨e0, e1, e2, _⟩ := ((unhide KS) _ hb2).1.cells; obtain ⟨g0, g1, g2, g3⟩ := ((unhide KS) _ hb2).2.cells))
  go_wp2
  have kr := ((unhide KS) _ hb2).2
  have hbw : Below w.heap.size w w2 := Below.andThen (unhide HBD) hb2
  obtain ⟨z0, z1, z2, _⟩ := (kr.set3 (.int .i64 (3)) (.int .i64 0) (.string t)).cells
  exact bodyPost_ret (v := .tuple #[.agg #[.int .i64 (3), .int .i64 0, .string t], .slice none 0 0, v]) (by simp [results, Tryd.results45, go_sem, z0, z1, z2]) rfl ⟨_, _, _, _, rfl, IsErr.set3 he kr _ _ _, below_set3 hbw (Nat.le_refl _) _ _ _⟩
theorem value_unkey_bad (b o m c : Nat) (xs : List Int) (w : World) (hx : InB xs) (hd : ¬ Dec xs) (hp : 0 < xs.length) (hm : m ≤ 9223372036854775807) (hc : m ≤ c) (h : Reads w 1 (some ⟨b, o, none⟩) m (nums xs)) :
    Calls Tryd.prog 45 #[.slice (some ⟨b, o, none⟩) m c] w (UBad w) := by
  obtain _ | ⟨x, xs⟩ := xs
  · simp at hp
  have hl : m = xs.length + 1 := by have := h.1; simp [nums] at this; omega
  rcases not_dec hx hd (by omega) with h3 | ⟨rfl, rfl⟩ | ⟨rfl, y, r, rfl, hy⟩ | ⟨rfl, h8⟩ | ⟨rfl, h0⟩ | ⟨rfl, t, r, rfl, ht, hv⟩
  · exact unkey_kind b o m c x xs w h3 hm hc h
  · simp only [List.length_nil] at hl
    subst hl
    exact unkey_1_short b o c w hc h
  · exact unkey_1_bad b o m c y r w hy hm hc h
  · exact unkey_2_short b o m c xs w h8 hc h
  · exact unkey_3_none b o m c xs w (fun y hy => hx y (List.mem_cons_of_mem _ hy)) h0 hm hc h
  · refine unkey_3_bad b o m c t r w ht hv hm hc ?_
    have e : (3 :: (txtI t ++ [0])) ++ r = 3 :: (txtI t ++ 0 :: r) := by simp
    rw [e]
    exact h
end Go.Proofs.YtpmjpbndpnmdlaaDoor

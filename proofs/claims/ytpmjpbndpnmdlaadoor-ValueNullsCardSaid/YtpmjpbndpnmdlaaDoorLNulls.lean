/- consistorylaw6.ValueNulls: the walk. -/
import Derived.Test.YtpmjpbndpnmdlaaDoorKn6
import Derived.Test.YtpmjpbndpnmdlaaDoorOrd
namespace Go.Proofs.YtpmjpbndpnmdlaaDoor
open Go.RowKit

theorem may00 : mayB 0 0 ⟨#[]⟩ = true := by simp [mayB]
theorem test_null1 {op k n : Int} {s : ByteArray} (h1 : 5 ≤ op) (h2 : op ≤ 10) (hm : mayB k n s = true) : testR op 0 0 ⟨#[]⟩ k n s = (2, 0) := by
  unfold testR; rw [if_neg (by rw [may00, hm]; simp; omega), if_pos (.inl rfl)]
theorem test_null2 {op k n : Int} {s : ByteArray} (h1 : 5 ≤ op) (h2 : op ≤ 10) (hm : mayB k n s = true) : testR op k n s 0 0 ⟨#[]⟩ = (2, 0) := by
  unfold testR; rw [if_neg (by rw [may00, hm]; simp; omega), if_pos (.inr rfl)]
theorem do_null1 {op k n : Int} {s : ByteArray} (h : op = 1 ∨ (11 ≤ op ∧ op ≤ 16)) (hm : mayB k n s = true) : doR op 0 0 ⟨#[]⟩ k n s = (0, 0, ⟨#[]⟩, 0) := by
  unfold doR; rw [if_neg (by rw [may00, hm]; simp; omega), if_pos (.inl rfl)]
theorem do_null2 {op k n : Int} {s : ByteArray} (h : 11 ≤ op ∧ op ≤ 16) (hm : mayB k n s = true) : doR op k n s 0 0 ⟨#[]⟩ = (0, 0, ⟨#[]⟩, 0) := by
  unfold doR; rw [if_neg (by rw [may00, hm]; simp; omega), if_pos (.inr ⟨by omega, rfl⟩)]
theorem do_other (op k n : Int) (s : ByteArray) (k' n' : Int) (s' : ByteArray) (h : op ≠ 1) (h' : op < 11 ∨ 16 < op) : doR op k n s k' n' s' = (0, 0, ⟨#[]⟩, 20) := by
  unfold doR; rw [if_pos (.inl ⟨h, h'⟩)]

set_option maxRecDepth 100000 in
theorem nulls_skip (op k n : Int) (s : ByteArray) (w : World) (hg : OkW w) (hs : s.size ≤ 9223372036854775807) (h : fewB [⟨k, n, s⟩] 1 = false ∨ mayB k n s = false) :
    Calls Tryd.prog 5 #[.int .i64 op, .agg #[.int .i64 k, .int .i64 n, .string s]] w fun e w' => e = .returned (.bool true) ∧ Below w.heap.size w w' := by
  have hB0 : ∀ o, Below w.heap.size w (w.alloc o) := fun o => (Below.refl _ _).alloc (Nat.le_refl _) o
  have HBW := hide (hB0 (.cells #[.int .i64 k, .int .i64 n, .string s] 23))
  clear hB0
  have BA := Blk3.new w 23 (.int .i64 k) (.int .i64 n) (.string s)
  have HK := hide (known6 _ (hg.below (unhide HBW)))
  have HI1 := fun w => hide (value_Is k n s w hs)
  have hF : ∀ W : World, Calls Tryd.prog 12 #[.slice (some ⟨W.heap.size, 0, none⟩) 1 1, .int .i64 1] (W.alloc (.cells #[.int .i64 k, .int .i64 n, .string s] 23)) fun e w' => e = .returned (.bool (fewB [⟨k, n, s⟩] 1)) ∧ (W.alloc (.cells #[.int .i64 k, .int .i64 n, .string s] 23)) = w' := fun W =>
    help_Few _ 1 1 [⟨k, n, s⟩] 1 _ (by decide) (Reads.new W 23 3 1 (vcells [⟨k, n, s⟩]) rfl)
      (fun i v h => by
        match i, h with
        | 0, h => simp at h; subst h; exact hs
        | i + 1, h => simp at h)
  generalize fewB [⟨k, n, s⟩] 1 = few at *
  have HF := fun W => hide (hF W)
  clear hF
  cases few
  · clear h
    go_enter Tryd.func5, Tryd.ntmps5
    go_wp2_with fail
    refine (unhide HK).mono ?_
    rintro e w1 ⟨rfl, hb1⟩
    replace BA := BA.below hb1
    obtain ⟨a0, a1, a2, fA⟩ := BA.cells
    replace HBW := hide (Below.andThen (unhide HBW) hb1)
    clear hb1
    go_wp2_with fail
    refine (unhide (HF _)).mono ?_
    rintro e w2 ⟨rfl, rfl⟩
    have hal : Below w1.heap.size w1 (w1.alloc (.cells #[.int .i64 k, .int .i64 n, .string s] 23)) := (Below.refl _ _).alloc (Nat.le_refl _) _
    replace BA := BA.below hal
    obtain ⟨a0, a1, a2, fA⟩ := BA.cells
    replace HBW := hide (Below.andThen (unhide HBW) hal)
    clear hal
    generalize w1.alloc _ = w2 at *
    clear HK HF
    go_wp2
    go_ret
    exact ⟨rfl, unhide HBW⟩
  · have hm : mayB k n s = false := by simpa using h
    clear h
    go_enter Tryd.func5, Tryd.ntmps5
    go_wp2_with fail
    refine (unhide HK).mono ?_
    rintro e w1 ⟨rfl, hb1⟩
    replace BA := BA.below hb1
    obtain ⟨a0, a1, a2, fA⟩ := BA.cells
    replace HBW := hide (Below.andThen (unhide HBW) hb1)
    clear hb1
    go_wp2_with fail
    refine (unhide (HF _)).mono ?_
    rintro e w2 ⟨rfl, rfl⟩
    have hal : Below w1.heap.size w1 (w1.alloc (.cells #[.int .i64 k, .int .i64 n, .string s] 23)) := (Below.refl _ _).alloc (Nat.le_refl _) _
    replace BA := BA.below hal
    obtain ⟨a0, a1, a2, fA⟩ := BA.cells
    replace HBW := hide (Below.andThen (unhide HBW) hal)
    clear hal
    generalize w1.alloc _ = w2 at *
    clear HK HF
    go_wp2_with fail
    refine (unhide (HI1 _)).mono ?_
    rintro e w3 ⟨rfl, hb3⟩
    replace BA := BA.below hb3
    obtain ⟨a0, a1, a2, fA⟩ := BA.cells
    replace HBW := hide (Below.andThen (unhide HBW) hb3)
    clear hb3
    go_wp2
    go_ret
    exact ⟨rfl, unhide HBW⟩

set_option maxRecDepth 100000 in
theorem nulls_test (op k n : Int) (s : ByteArray) (w : World) (hg : OkW w) (hs : s.size ≤ 9223372036854775807) (hw : fewB [⟨k, n, s⟩] 1 = true) (hm : mayB k n s = true) (h1 : 5 ≤ op) (h2 : op ≤ 10) :
    Calls Tryd.prog 5 #[.int .i64 op, .agg #[.int .i64 k, .int .i64 n, .string s]] w fun e w' => e = .returned (.bool true) ∧ Below w.heap.size w w' := by
  have T1 := fun w => value_Test op 0 0 ⟨#[]⟩ k n s w (by decide) hs
  have T2 := fun w => value_Test op k n s 0 0 ⟨#[]⟩ w hs (by decide)
  rw [test_null1 h1 h2 hm] at T1
  rw [test_null2 h1 h2 hm] at T2
  have HT1 := fun w => hide (T1 w)
  have HT2 := fun w => hide (T2 w)
  clear T1 T2
  have hB0 : ∀ o, Below w.heap.size w (w.alloc o) := fun o => (Below.refl _ _).alloc (Nat.le_refl _) o
  have HBW := hide (hB0 (.cells #[.int .i64 k, .int .i64 n, .string s] 23))
  clear hB0
  have BA := Blk3.new w 23 (.int .i64 k) (.int .i64 n) (.string s)
  have HK := hide (known6 _ (hg.below (unhide HBW)))
  have HI1 := fun w => hide (value_Is k n s w hs)
  have hF : ∀ W : World, Calls Tryd.prog 12 #[.slice (some ⟨W.heap.size, 0, none⟩) 1 1, .int .i64 1] (W.alloc (.cells #[.int .i64 k, .int .i64 n, .string s] 23)) fun e w' => e = .returned (.bool (fewB [⟨k, n, s⟩] 1)) ∧ (W.alloc (.cells #[.int .i64 k, .int .i64 n, .string s] 23)) = w' := fun W =>
    help_Few _ 1 1 [⟨k, n, s⟩] 1 _ (by decide) (Reads.new W 23 3 1 (vcells [⟨k, n, s⟩]) rfl)
      (fun i v h => by
        match i, h with
        | 0, h => simp at h; subst h; exact hs
        | i + 1, h => simp at h)
  generalize fewB [⟨k, n, s⟩] 1 = few at *
  have HF := fun W => hide (hF W)
  clear hF
  subst hw
  go_enter Tryd.func5, Tryd.ntmps5
  go_wp2_with fail
  refine (unhide HK).mono ?_
  rintro e w1 ⟨rfl, hb1⟩
  replace BA := BA.below hb1
  obtain ⟨a0, a1, a2, fA⟩ := BA.cells
  replace HBW := hide (Below.andThen (unhide HBW) hb1)
  clear hb1
  go_wp2_with fail
  refine (unhide (HF _)).mono ?_
  rintro e w2 ⟨rfl, rfl⟩
  have hal : Below w1.heap.size w1 (w1.alloc (.cells #[.int .i64 k, .int .i64 n, .string s] 23)) := (Below.refl _ _).alloc (Nat.le_refl _) _
  replace BA := BA.below hal
  obtain ⟨a0, a1, a2, fA⟩ := BA.cells
  replace HBW := hide (Below.andThen (unhide HBW) hal)
  clear hal
  generalize w1.alloc _ = w2 at *
  clear HK HF
  go_wp2_with fail
  refine (unhide (HI1 _)).mono ?_
  rintro e w3 ⟨rfl, hb3⟩
  replace BA := BA.below hb3
  obtain ⟨a0, a1, a2, fA⟩ := BA.cells
  replace HBW := hide (Below.andThen (unhide HBW) hb3)
  clear hb3
  go_wp2_with fail
  refine (unhide (HT1 _)).mono ?_
  rintro e w4 ⟨v4, rfl, he4, hb4⟩
  obtain rfl := he4.nil
  clear he4
  replace BA := BA.below hb4
  obtain ⟨a0, a1, a2, fA⟩ := BA.cells
  replace HBW := hide (Below.andThen (unhide HBW) hb4)
  clear hb4
  go_wp2_with fail
  refine (unhide (HT2 _)).mono ?_
  rintro e w5 ⟨v5, rfl, he5, hb5⟩
  obtain rfl := he5.nil
  clear he5
  replace BA := BA.below hb5
  obtain ⟨a0, a1, a2, fA⟩ := BA.cells
  replace HBW := hide (Below.andThen (unhide HBW) hb5)
  clear hb5
  go_wp2
  go_ret
  exact ⟨rfl, unhide HBW⟩

set_option maxRecDepth 100000 in
theorem nulls_ops (op k n : Int) (s : ByteArray) (w : World) (hg : OkW w) (hs : s.size ≤ 2305843009213693952) (hn : In64 n) (hw : fewB [⟨k, n, s⟩] 1 = true) (hm : mayB k n s = true) (h1 : 11 ≤ op) (h2 : op ≤ 16) :
    Calls Tryd.prog 5 #[.int .i64 op, .agg #[.int .i64 k, .int .i64 n, .string s]] w fun e w' => e = .returned (.bool true) ∧ Below w.heap.size w w' := by
  have T1 := fun w => value_Do op 0 0 ⟨#[]⟩ k n s w (by decide) hs (by constructor <;> decide) hn
  have T2 := fun w => value_Do op k n s 0 0 ⟨#[]⟩ w hs (by decide) hn (by constructor <;> decide)
  rw [do_null1 (.inr ⟨h1, h2⟩) hm] at T1
  rw [do_null2 ⟨h1, h2⟩ hm] at T2
  have HD1 := fun w => hide (T1 w)
  have HD2 := fun w => hide (T2 w)
  clear T1 T2
  replace hs : s.size ≤ 9223372036854775807 := by omega
  have h3 : decide (op ≤ 10) = false := by simp; omega
  have hB0 : ∀ o, Below w.heap.size w (w.alloc o) := fun o => (Below.refl _ _).alloc (Nat.le_refl _) o
  have HBW := hide (hB0 (.cells #[.int .i64 k, .int .i64 n, .string s] 23))
  clear hB0
  have BA := Blk3.new w 23 (.int .i64 k) (.int .i64 n) (.string s)
  have HK := hide (known6 _ (hg.below (unhide HBW)))
  have HI1 := fun w => hide (value_Is k n s w hs)
  have hF : ∀ W : World, Calls Tryd.prog 12 #[.slice (some ⟨W.heap.size, 0, none⟩) 1 1, .int .i64 1] (W.alloc (.cells #[.int .i64 k, .int .i64 n, .string s] 23)) fun e w' => e = .returned (.bool (fewB [⟨k, n, s⟩] 1)) ∧ (W.alloc (.cells #[.int .i64 k, .int .i64 n, .string s] 23)) = w' := fun W =>
    help_Few _ 1 1 [⟨k, n, s⟩] 1 _ (by decide) (Reads.new W 23 3 1 (vcells [⟨k, n, s⟩]) rfl)
      (fun i v h => by
        match i, h with
        | 0, h => simp at h; subst h; exact hs
        | i + 1, h => simp at h)
  generalize fewB [⟨k, n, s⟩] 1 = few at *
  have HF := fun W => hide (hF W)
  clear hF
  subst hw
  go_enter Tryd.func5, Tryd.ntmps5
  go_wp2_with fail
  refine (unhide HK).mono ?_
  rintro e w1 ⟨rfl, hb1⟩
  replace BA := BA.below hb1
  obtain ⟨a0, a1, a2, fA⟩ := BA.cells
  replace HBW := hide (Below.andThen (unhide HBW) hb1)
  clear hb1
  go_wp2_with fail
  refine (unhide (HF _)).mono ?_
  rintro e w2 ⟨rfl, rfl⟩
  have hal : Below w1.heap.size w1 (w1.alloc (.cells #[.int .i64 k, .int .i64 n, .string s] 23)) := (Below.refl _ _).alloc (Nat.le_refl _) _
  replace BA := BA.below hal
  obtain ⟨a0, a1, a2, fA⟩ := BA.cells
  replace HBW := hide (Below.andThen (unhide HBW) hal)
  clear hal
  generalize w1.alloc _ = w2 at *
  clear HK HF
  go_wp2_with fail
  refine (unhide (HI1 _)).mono ?_
  rintro e w3 ⟨rfl, hb3⟩
  replace BA := BA.below hb3
  obtain ⟨a0, a1, a2, fA⟩ := BA.cells
  replace HBW := hide (Below.andThen (unhide HBW) hb3)
  clear hb3
  go_wp2_with fail
  refine (unhide (HD1 _)).mono ?_
  rintro e w4 ⟨v4, rfl, he4, hb4⟩
  replace BA := BA.below hb4
  obtain ⟨a0, a1, a2, fA⟩ := BA.cells
  replace HBW := hide (Below.andThen (unhide HBW) hb4)
  clear hb4
  dsimp only at he4
  obtain rfl := he4.nil
  have BX := Blk3.new w4 23 (.int .i64 0) (.int .i64 0) (.string ⟨#[]⟩)
  have hal : Below w4.heap.size w4 (w4.alloc (.cells #[.int .i64 0, .int .i64 0, .string ⟨#[]⟩] 23)) := (Below.refl _ _).alloc (Nat.le_refl _) _
  replace BA := BA.below hal
  obtain ⟨a0, a1, a2, fA⟩ := BA.cells
  replace HBW := hide (Below.andThen (unhide HBW) hal)
  clear hal
  go_wp2_with fail
  refine (unhide (HD2 _)).mono ?_
  rintro e w5 ⟨v5, rfl, he5, hb5⟩
  replace BX := BX.below hb5
  obtain rfl := he5.nil
  have BY := Blk3.new w5 23 (.int .i64 0) (.int .i64 0) (.string ⟨#[]⟩)
  replace BX := BX.alloc (.cells #[.int .i64 0, .int .i64 0, .string ⟨#[]⟩] 23)
  have hal : Below w5.heap.size w5 (w5.alloc (.cells #[.int .i64 0, .int .i64 0, .string ⟨#[]⟩] 23)) := (Below.refl _ _).alloc (Nat.le_refl _) _
  replace HBW := hide (Below.andThen (Below.andThen (unhide HBW) hb5) hal)
  obtain ⟨x0, x1, x2, fX⟩ := BX.cells
  obtain ⟨y0, y1, y2, fY⟩ := BY.cells
  clear he4 he5 hal hb5
  go_wp2
  go_ret
  exact ⟨rfl, unhide HBW⟩

set_option maxRecDepth 100000 in
theorem nulls_neg (k n : Int) (s : ByteArray) (w : World) (hg : OkW w) (hs : s.size ≤ 2305843009213693952) (hn : In64 n) (hw : fewB [⟨k, n, s⟩] 1 = true) (hm : mayB k n s = true) :
    Calls Tryd.prog 5 #[.int .i64 1, .agg #[.int .i64 k, .int .i64 n, .string s]] w fun e w' => e = .returned (.bool true) ∧ Below w.heap.size w w' := by
  have T1 := fun w => value_Do 1 0 0 ⟨#[]⟩ k n s w (by decide) hs (by constructor <;> decide) hn
  have T2 := fun w => value_Do 1 k n s 0 0 ⟨#[]⟩ w hs (by decide) hn (by constructor <;> decide)
  rw [do_null1 (.inl rfl) hm] at T1
  generalize doR 1 k n s 0 0 ⟨#[]⟩ = r at T2
  obtain ⟨rk, rn, rt, rc⟩ := r
  have HD1 := fun w => hide (T1 w)
  have HD2 := fun w => hide (T2 w)
  clear T1 T2
  replace hs : s.size ≤ 9223372036854775807 := by omega
  have hB0 : ∀ o, Below w.heap.size w (w.alloc o) := fun o => (Below.refl _ _).alloc (Nat.le_refl _) o
  have HBW := hide (hB0 (.cells #[.int .i64 k, .int .i64 n, .string s] 23))
  clear hB0
  have BA := Blk3.new w 23 (.int .i64 k) (.int .i64 n) (.string s)
  have HK := hide (known6 _ (hg.below (unhide HBW)))
  have HI1 := fun w => hide (value_Is k n s w hs)
  have hF : ∀ W : World, Calls Tryd.prog 12 #[.slice (some ⟨W.heap.size, 0, none⟩) 1 1, .int .i64 1] (W.alloc (.cells #[.int .i64 k, .int .i64 n, .string s] 23)) fun e w' => e = .returned (.bool (fewB [⟨k, n, s⟩] 1)) ∧ (W.alloc (.cells #[.int .i64 k, .int .i64 n, .string s] 23)) = w' := fun W =>
    help_Few _ 1 1 [⟨k, n, s⟩] 1 _ (by decide) (Reads.new W 23 3 1 (vcells [⟨k, n, s⟩]) rfl)
      (fun i v h => by
        match i, h with
        | 0, h => simp at h; subst h; exact hs
        | i + 1, h => simp at h)
  generalize fewB [⟨k, n, s⟩] 1 = few at *
  have HF := fun W => hide (hF W)
  clear hF
  subst hw
  go_enter Tryd.func5, Tryd.ntmps5
  go_wp2_with fail
  refine (unhide HK).mono ?_
  rintro e w1 ⟨rfl, hb1⟩
  replace BA := BA.below hb1
  obtain ⟨a0, a1, a2, fA⟩ := BA.cells
  replace HBW := hide (Below.andThen (unhide HBW) hb1)
  clear hb1
  go_wp2_with fail
  refine (unhide (HF _)).mono ?_
  rintro e w2 ⟨rfl, rfl⟩
  have hal : Below w1.heap.size w1 (w1.alloc (.cells #[.int .i64 k, .int .i64 n, .string s] 23)) := (Below.refl _ _).alloc (Nat.le_refl _) _
  replace BA := BA.below hal
  obtain ⟨a0, a1, a2, fA⟩ := BA.cells
  replace HBW := hide (Below.andThen (unhide HBW) hal)
  clear hal
  generalize w1.alloc _ = w2 at *
  clear HK HF
  go_wp2_with fail
  refine (unhide (HI1 _)).mono ?_
  rintro e w3 ⟨rfl, hb3⟩
  replace BA := BA.below hb3
  obtain ⟨a0, a1, a2, fA⟩ := BA.cells
  replace HBW := hide (Below.andThen (unhide HBW) hb3)
  clear hb3
  go_wp2_with fail
  refine (unhide (HD1 _)).mono ?_
  rintro e w4 ⟨v4, rfl, he4, hb4⟩
  replace BA := BA.below hb4
  obtain ⟨a0, a1, a2, fA⟩ := BA.cells
  replace HBW := hide (Below.andThen (unhide HBW) hb4)
  clear hb4
  dsimp only at he4
  obtain rfl := he4.nil
  have BX := Blk3.new w4 23 (.int .i64 0) (.int .i64 0) (.string ⟨#[]⟩)
  have hal : Below w4.heap.size w4 (w4.alloc (.cells #[.int .i64 0, .int .i64 0, .string ⟨#[]⟩] 23)) := (Below.refl _ _).alloc (Nat.le_refl _) _
  replace BA := BA.below hal
  obtain ⟨a0, a1, a2, fA⟩ := BA.cells
  replace HBW := hide (Below.andThen (unhide HBW) hal)
  clear hal
  go_wp2_with fail
  refine (unhide (HD2 _)).mono ?_
  rintro e w5 ⟨v5, rfl, he5, hb5⟩
  replace BX := BX.below hb5
  have BY := Blk3.new w5 23 (.int .i64 rk) (.int .i64 rn) (.string rt)
  replace BX := BX.alloc (.cells #[.int .i64 rk, .int .i64 rn, .string rt] 23)
  have hal : Below w5.heap.size w5 (w5.alloc (.cells #[.int .i64 rk, .int .i64 rn, .string rt] 23)) := (Below.refl _ _).alloc (Nat.le_refl _) _
  replace HBW := hide (Below.andThen (Below.andThen (unhide HBW) hb5) hal)
  obtain ⟨x0, x1, x2, fX⟩ := BX.cells
  obtain ⟨y0, y1, y2, fY⟩ := BY.cells
  clear he4 he5 hal hb5
  go_wp2
  go_ret
  exact ⟨rfl, unhide HBW⟩

set_option maxRecDepth 100000 in
theorem nulls_other (op k n : Int) (s : ByteArray) (w : World) (hg : OkW w) (hs : s.size ≤ 2305843009213693952) (hn : In64 n) (hw : fewB [⟨k, n, s⟩] 1 = true) (hm : mayB k n s = true) (h1 : op ≠ 1) (h3 : op < 5 ∨ 16 < op) :
    Calls Tryd.prog 5 #[.int .i64 op, .agg #[.int .i64 k, .int .i64 n, .string s]] w fun e w' => e = .returned (.bool true) ∧ Below w.heap.size w w' := by
  have T1 := fun w => value_Do op 0 0 ⟨#[]⟩ k n s w (by decide) hs (by constructor <;> decide) hn
  have T2 := fun w => value_Do op k n s 0 0 ⟨#[]⟩ w hs (by decide) hn (by constructor <;> decide)
  rw [do_other _ _ _ _ _ _ _ h1 (by omega)] at T1
  rw [do_other _ _ _ _ _ _ _ h1 (by omega)] at T2
  have HD1 := fun w => hide (T1 w)
  have HD2 := fun w => hide (T2 w)
  clear T1 T2
  replace hs : s.size ≤ 9223372036854775807 := by omega
  have q1 : (op == 1) = false := by simpa using h1
  have HG := hide hg
  clear h1
  rcases h3 with h3 | h3
  · have q2 : decide (5 ≤ op) = false := by simp; omega
    have q3 : decide (11 ≤ op) = false := by simp; omega
    have hB0 : ∀ o, Below w.heap.size w (w.alloc o) := fun o => (Below.refl _ _).alloc (Nat.le_refl _) o
    have HBW := hide (hB0 (.cells #[.int .i64 k, .int .i64 n, .string s] 23))
    clear hB0
    have BA := Blk3.new w 23 (.int .i64 k) (.int .i64 n) (.string s)
    have HK := hide (known6 _ (hg.below (unhide HBW)))
    have HI1 := fun w => hide (value_Is k n s w hs)
    have hF : ∀ W : World, Calls Tryd.prog 12 #[.slice (some ⟨W.heap.size, 0, none⟩) 1 1, .int .i64 1] (W.alloc (.cells #[.int .i64 k, .int .i64 n, .string s] 23)) fun e w' => e = .returned (.bool (fewB [⟨k, n, s⟩] 1)) ∧ (W.alloc (.cells #[.int .i64 k, .int .i64 n, .string s] 23)) = w' := fun W =>
      help_Few _ 1 1 [⟨k, n, s⟩] 1 _ (by decide) (Reads.new W 23 3 1 (vcells [⟨k, n, s⟩]) rfl)
        (fun i v h => by
          match i, h with
          | 0, h => simp at h; subst h; exact hs
          | i + 1, h => simp at h)
    generalize fewB [⟨k, n, s⟩] 1 = few at *
    have HF := fun W => hide (hF W)
    clear hF
    subst hw
    go_enter Tryd.func5, Tryd.ntmps5
    go_wp2_with fail
    refine (unhide HK).mono ?_
    rintro e w1 ⟨rfl, hb1⟩
    replace BA := BA.below hb1
    obtain ⟨a0, a1, a2, fA⟩ := BA.cells
    replace HBW := hide (Below.andThen (unhide HBW) hb1)
    clear hb1
    go_wp2_with fail
    refine (unhide (HF _)).mono ?_
    rintro e w2 ⟨rfl, rfl⟩
    have hal : Below w1.heap.size w1 (w1.alloc (.cells #[.int .i64 k, .int .i64 n, .string s] 23)) := (Below.refl _ _).alloc (Nat.le_refl _) _
    replace BA := BA.below hal
    obtain ⟨a0, a1, a2, fA⟩ := BA.cells
    replace HBW := hide (Below.andThen (unhide HBW) hal)
    clear hal
    generalize w1.alloc _ = w2 at *
    clear HK HF
    go_wp2_with fail
    refine (unhide (HI1 _)).mono ?_
    rintro e w3 ⟨rfl, hb3⟩
    replace BA := BA.below hb3
    obtain ⟨a0, a1, a2, fA⟩ := BA.cells
    replace HBW := hide (Below.andThen (unhide HBW) hb3)
    clear hb3
    go_wp2_with fail
    refine (unhide (HD1 _)).mono ?_
    rintro e w4 ⟨v4, rfl, he4, hb4⟩
    replace BA := BA.below hb4
    obtain ⟨a0, a1, a2, fA⟩ := BA.cells
    replace HBW := hide (Below.andThen (unhide HBW) hb4)
    clear hb4
    dsimp only at he4
    have BX := Blk3.new w4 23 (.int .i64 0) (.int .i64 0) (.string ⟨#[]⟩)
    have hal : Below w4.heap.size w4 (w4.alloc (.cells #[.int .i64 0, .int .i64 0, .string ⟨#[]⟩] 23)) := (Below.refl _ _).alloc (Nat.le_refl _) _
    replace BA := BA.below hal
    obtain ⟨a0, a1, a2, fA⟩ := BA.cells
    replace HBW := hide (Below.andThen (unhide HBW) hal)
    clear hal
    go_wp2_with fail
    refine (unhide (HD2 _)).mono ?_
    rintro e w5 ⟨v5, rfl, he5, hb5⟩
    replace BX := BX.below hb5
    have BY := Blk3.new w5 23 (.int .i64 0) (.int .i64 0) (.string ⟨#[]⟩)
    replace BX := BX.alloc (.cells #[.int .i64 0, .int .i64 0, .string ⟨#[]⟩] 23)
    have hal : Below w5.heap.size w5 (w5.alloc (.cells #[.int .i64 0, .int .i64 0, .string ⟨#[]⟩] 23)) := (Below.refl _ _).alloc (Nat.le_refl _) _
    replace HBW := hide (Below.andThen (Below.andThen (unhide HBW) hb5) hal)
    obtain ⟨x0, x1, x2, fX⟩ := BX.cells
    obtain ⟨y0, y1, y2, fY⟩ := BY.cells
    obtain ⟨d4, hE4⟩ : ∃ d, ErrV w4 d v4 20 := he4.resolve_left (fun h => absurd h.1 (by decide)) |>.2
    obtain ⟨d5, hE5⟩ : ∃ d, ErrV w5 d v5 20 := he5.resolve_left (fun h => absurd h.1 (by decide)) |>.2
    have hal4 : Below w4.heap.size w4 (w4.alloc (.cells #[.int .i64 0, .int .i64 0, .string ⟨#[]⟩] 23)) := (Below.refl _ _).alloc (Nat.le_refl _) _
    have HC4 := hide (Class_err d4 v4 20 _ ((unhide HG).below (unhide HBW)) (((hE4.below hal4).below hb5).below hal))
    have HC5 := fun (W : World) (hb : Below (w5.alloc (.cells #[.int .i64 0, .int .i64 0, .string ⟨#[]⟩] 23)).heap.size (w5.alloc (.cells #[.int .i64 0, .int .i64 0, .string ⟨#[]⟩] 23)) W) => hide (Class_err d5 v5 20 W (((unhide HG).below (unhide HBW)).below hb) ((hE5.below hal).below hb))
    clear he4 he5 hal hal4 hb5 hE4 hE5
    go_wp2_with fail
    refine (unhide HC4).mono ?_
    rintro e w6 ⟨rfl, hb6⟩
    have HC5' := HC5 w6 hb6
    clear HC5
    replace HBW := hide (Below.andThen (unhide HBW) hb6)
    clear hb6
    go_wp2_with fail
    refine (unhide HC5').mono ?_
    rintro e w7 ⟨rfl, hb7⟩
    replace HBW := hide (Below.andThen (unhide HBW) hb7)
    clear hb7
    go_wp2
    go_ret
    exact ⟨rfl, unhide HBW⟩
  · have q2 : decide (op ≤ 10) = false := by simp; omega
    have q3 : decide (op ≤ 16) = false := by simp; omega
    have hB0 : ∀ o, Below w.heap.size w (w.alloc o) := fun o => (Below.refl _ _).alloc (Nat.le_refl _) o
    have HBW := hide (hB0 (.cells #[.int .i64 k, .int .i64 n, .string s] 23))
    clear hB0
    have BA := Blk3.new w 23 (.int .i64 k) (.int .i64 n) (.string s)
    have HK := hide (known6 _ (hg.below (unhide HBW)))
    have HI1 := fun w => hide (value_Is k n s w hs)
    have hF : ∀ W : World, Calls Tryd.prog 12 #[.slice (some ⟨W.heap.size, 0, none⟩) 1 1, .int .i64 1] (W.alloc (.cells #[.int .i64 k, .int .i64 n, .string s] 23)) fun e w' => e = .returned (.bool (fewB [⟨k, n, s⟩] 1)) ∧ (W.alloc (.cells #[.int .i64 k, .int .i64 n, .string s] 23)) = w' := fun W =>
      help_Few _ 1 1 [⟨k, n, s⟩] 1 _ (by decide) (Reads.new W 23 3 1 (vcells [⟨k, n, s⟩]) rfl)
        (fun i v h => by
          match i, h with
          | 0, h => simp at h; subst h; exact hs
          | i + 1, h => simp at h)
    generalize fewB [⟨k, n, s⟩] 1 = few at *
    have HF := fun W => hide (hF W)
    clear hF
    subst hw
    go_enter Tryd.func5, Tryd.ntmps5
    go_wp2_with fail
    refine (unhide HK).mono ?_
    rintro e w1 ⟨rfl, hb1⟩
    replace BA := BA.below hb1
    obtain ⟨a0, a1, a2, fA⟩ := BA.cells
    replace HBW := hide (Below.andThen (unhide HBW) hb1)
    clear hb1
    go_wp2_with fail
    refine (unhide (HF _)).mono ?_
    rintro e w2 ⟨rfl, rfl⟩
    have hal : Below w1.heap.size w1 (w1.alloc (.cells #[.int .i64 k, .int .i64 n, .string s] 23)) := (Below.refl _ _).alloc (Nat.le_refl _) _
    replace BA := BA.below hal
    obtain ⟨a0, a1, a2, fA⟩ := BA.cells
    replace HBW := hide (Below.andThen (unhide HBW) hal)
    clear hal
    generalize w1.alloc _ = w2 at *
    clear HK HF
    go_wp2_with fail
    refine (unhide (HI1 _)).mono ?_
    rintro e w3 ⟨rfl, hb3⟩
    replace BA := BA.below hb3
    obtain ⟨a0, a1, a2, fA⟩ := BA.cells
    replace HBW := hide (Below.andThen (unhide HBW) hb3)
    clear hb3
    go_wp2_with fail
    refine (unhide (HD1 _)).mono ?_
    rintro e w4 ⟨v4, rfl, he4, hb4⟩
    replace BA := BA.below hb4
    obtain ⟨a0, a1, a2, fA⟩ := BA.cells
    replace HBW := hide (Below.andThen (unhide HBW) hb4)
    clear hb4
    dsimp only at he4
    have BX := Blk3.new w4 23 (.int .i64 0) (.int .i64 0) (.string ⟨#[]⟩)
    have hal : Below w4.heap.size w4 (w4.alloc (.cells #[.int .i64 0, .int .i64 0, .string ⟨#[]⟩] 23)) := (Below.refl _ _).alloc (Nat.le_refl _) _
    replace BA := BA.below hal
    obtain ⟨a0, a1, a2, fA⟩ := BA.cells
    replace HBW := hide (Below.andThen (unhide HBW) hal)
    clear hal
    go_wp2_with fail
    refine (unhide (HD2 _)).mono ?_
    rintro e w5 ⟨v5, rfl, he5, hb5⟩
    replace BX := BX.below hb5
    have BY := Blk3.new w5 23 (.int .i64 0) (.int .i64 0) (.string ⟨#[]⟩)
    replace BX := BX.alloc (.cells #[.int .i64 0, .int .i64 0, .string ⟨#[]⟩] 23)
    have hal : Below w5.heap.size w5 (w5.alloc (.cells #[.int .i64 0, .int .i64 0, .string ⟨#[]⟩] 23)) := (Below.refl _ _).alloc (Nat.le_refl _) _
    replace HBW := hide (Below.andThen (Below.andThen (unhide HBW) hb5) hal)
    obtain ⟨x0, x1, x2, fX⟩ := BX.cells
    obtain ⟨y0, y1, y2, fY⟩ := BY.cells
    obtain ⟨d4, hE4⟩ : ∃ d, ErrV w4 d v4 20 := he4.resolve_left (fun h => absurd h.1 (by decide)) |>.2
    obtain ⟨d5, hE5⟩ : ∃ d, ErrV w5 d v5 20 := he5.resolve_left (fun h => absurd h.1 (by decide)) |>.2
    have hal4 : Below w4.heap.size w4 (w4.alloc (.cells #[.int .i64 0, .int .i64 0, .string ⟨#[]⟩] 23)) := (Below.refl _ _).alloc (Nat.le_refl _) _
    have HC4 := hide (Class_err d4 v4 20 _ ((unhide HG).below (unhide HBW)) (((hE4.below hal4).below hb5).below hal))
    have HC5 := fun (W : World) (hb : Below (w5.alloc (.cells #[.int .i64 0, .int .i64 0, .string ⟨#[]⟩] 23)).heap.size (w5.alloc (.cells #[.int .i64 0, .int .i64 0, .string ⟨#[]⟩] 23)) W) => hide (Class_err d5 v5 20 W (((unhide HG).below (unhide HBW)).below hb) ((hE5.below hal).below hb))
    clear he4 he5 hal hal4 hb5 hE4 hE5
    go_wp2_with fail
    refine (unhide HC4).mono ?_
    rintro e w6 ⟨rfl, hb6⟩
    have HC5' := HC5 w6 hb6
    clear HC5
    replace HBW := hide (Below.andThen (unhide HBW) hb6)
    clear hb6
    go_wp2_with fail
    refine (unhide HC5').mono ?_
    rintro e w7 ⟨rfl, hb7⟩
    replace HBW := hide (Below.andThen (unhide HBW) hb7)
    clear hb7
    go_wp2
    go_ret
    exact ⟨rfl, unhide HBW⟩

/-- The law, whole. -/
theorem nulls_walk (op k n : Int) (s : ByteArray) (w : World) (hg : OkW w) (hs : s.size ≤ 9223372036854775807) (hn : In64 n) :
    Calls Tryd.prog 5 #[.int .i64 op, .agg #[.int .i64 k, .int .i64 n, .string s]] w fun e w' => e = .returned (.bool true) ∧ Below w.heap.size w w' := by
  by_cases hw : fewB [⟨k, n, s⟩] 1 = true
  · by_cases hm : mayB k n s = true
    · have hs' : s.size ≤ 2305843009213693952 := by
        have : s.size ≤ 100 := by simp [fewB] at hw; exact hw
        omega
      by_cases h1 : 5 ≤ op ∧ op ≤ 10
      · exact nulls_test op k n s w hg hs hw hm h1.1 h1.2
      · by_cases h2 : 11 ≤ op ∧ op ≤ 16
        · exact nulls_ops op k n s w hg hs' hn hw hm h2.1 h2.2
        · by_cases h3 : op = 1
          · subst h3; exact nulls_neg k n s w hg hs' hn hw hm
          · exact nulls_other op k n s w hg hs' hn hw hm h3 (by omega)
    · exact nulls_skip op k n s w hg hs (.inr (by simpa using hm))
  · exact nulls_skip op k n s w hg hs (.inl (by simpa using hw))
end Go.Proofs.YtpmjpbndpnmdlaaDoor

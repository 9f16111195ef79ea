/- consistoryref6.Compare: contract. -/
import Derived.Test.YtjcpmdbgjjmcdaaDoorRw3
set_option linter.all false
namespace Go.Proofs.YtjcpmdbgjjmcdaaDoor
open Go.RowKit

set_option maxRecDepth 100000 in
set_option maxHeartbeats 1000000 in
theorem ref6_Compare (k n : Int) (s : ByteArray) (k' n' : Int) (s' : ByteArray) (w : World) (hs : s.size ≤ 9223372036854775807) (hs' : s'.size ≤ 9223372036854775807) :
    Calls Tryd.prog 9 #[.agg #[.int .i64 k, .int .i64 n, .string s], .agg #[.int .i64 k', .int .i64 n', .string s']] w fun e w' => e = .returned (.int .i64 (compareV k n s k' n' s')) ∧ Below w.heap.size w w' := by
  have h1 : mayB k n s = true ∨ mayB k n s = false := by cases mayB k n s <;> simp
  have h2 : mayB k' n' s' = true ∨ mayB k' n' s' = false := by cases mayB k' n' s' <;> simp
  have hI1 := fun w => hide (ref1_Is k n s w hs)
  have hI2 := fun w => hide (ref1_Is k' n' s' w hs')
  have hO := fun a b w => hide (ref6_order a b w)
  have hB0 : ∀ o o', Below w.heap.size w ((w.alloc o).alloc o') := fun o o' => ((Below.refl _ _).alloc (Nat.le_refl _) o).alloc (by simp) o'
  have HB0 := hide hB0
  clear hB0
  have BA := (Blk3.new w 23 (.int .i64 k) (.int .i64 n) (.string s)).alloc (.cells #[.int .i64 k', .int .i64 n', .string s'] 23)
  have BB := Blk3.new1 w (.cells #[.int .i64 k, .int .i64 n, .string s] 23) 23 (.int .i64 k') (.int .i64 n') (.string s')
  generalize hR : compareV k n s k' n' s' = R
  have hcomp : R = cmp3 (normK k n s) (normI k n s) (normT k n s).toList (normK k' n' s') (normI k' n' s') (normT k' n' s').toList := hR.symm
  clear hR
  simp only [normK, normI, normT] at hcomp
  rcases h1 with h1 | h1 <;> rcases h2 with h2 | h2 <;> simp only [h1, h2, if_true, if_false, Bool.false_eq_true] at hcomp <;> have HR := hide hcomp <;> clear hcomp
  · go_enter Tryd.func9, Tryd.ntmps9
    go_wp2_with fail
    refine (unhide (hI1 _)).mono ?_
    rintro e w1 ⟨rfl, hb1⟩
    replace BA := BA.below hb1
    replace BB := BB.below hb1
    obtain ⟨b0, b1, b2, fB⟩ := BB.cells
    go_wp2_with fail
    refine (unhide (hI2 _)).mono ?_
    rintro e w2 ⟨rfl, hb2⟩
    replace BA := BA.below hb2
    replace BB := BB.below hb2
    have HBW := hide (Below.andThen (Below.andThen (unhide HB0 _ _) hb1) hb2)
    clear hb1 hb2 b0 b1 b2 fB hI1 hI2
    generalize k = k1 at *; generalize n = n1 at *; generalize s = s1 at *; generalize k' = k2 at *; generalize n' = n2 at *; generalize s' = s2 at *
    obtain ⟨a0, a1, a2, fA⟩ := BA.cells
    obtain ⟨b0, b1, b2, fB⟩ := BB.cells
    rcases Int.lt_trichotomy k1 k2 with hk | hk | hk
    · have f1 : decide (k1 < k2) = true := decide_eq_true hk
      go_wp2_with (go_at_call 24; refine (unhide (hO _ _ _)).mono ?_; rintro e w' ⟨rfl, rfl⟩)
      go_ret
      refine ⟨ret_int ?_, unhide HBW⟩
      rw [unhide HR]
      simp [cmp3, or3, cmpI, hk]
    · subst hk
      rcases Int.lt_trichotomy n1 n2 with hn | hn | hn
      · have f1 : decide (n1 < n2) = true := decide_eq_true hn
        go_wp2_with (go_at_call 24; refine (unhide (hO _ _ _)).mono ?_; rintro e w' ⟨rfl, rfl⟩)
        go_ret
        refine ⟨ret_int ?_, unhide HBW⟩
        rw [unhide HR]
        simp [cmp3, or3, cmpI, hn]
      · subst hn
        go_wp2_with (go_at_call 24; refine (unhide (hO _ _ _)).mono ?_; rintro e w' ⟨rfl, rfl⟩)
        all_goals (go_ret; refine ⟨ret_int ?_, unhide HBW⟩; rw [unhide HR])
        all_goals (simp_all [cmp3, or3, cmpI, cmpS])
      · have f1 : decide (n1 < n2) = false := decide_eq_false (by omega)
        have f2 : decide (n2 < n1) = true := decide_eq_true hn
        go_wp2_with (go_at_call 24; refine (unhide (hO _ _ _)).mono ?_; rintro e w' ⟨rfl, rfl⟩)
        go_ret
        refine ⟨ret_int ?_, unhide HBW⟩
        rw [unhide HR]
        simp [cmp3, or3, cmpI, hn, show ¬ n1 < n2 by omega]
    · have f1 : decide (k1 < k2) = false := decide_eq_false (by omega)
      have f2 : decide (k2 < k1) = true := decide_eq_true hk
      go_wp2_with (go_at_call 24; refine (unhide (hO _ _ _)).mono ?_; rintro e w' ⟨rfl, rfl⟩)
      go_ret
      refine ⟨ret_int ?_, unhide HBW⟩
      rw [unhide HR]
      simp [cmp3, or3, cmpI, hk, show ¬ k1 < k2 by omega]
  · go_enter Tryd.func9, Tryd.ntmps9
    go_wp2_with fail
    refine (unhide (hI1 _)).mono ?_
    rintro e w1 ⟨rfl, hb1⟩
    replace BA := BA.below hb1
    replace BB := BB.below hb1
    obtain ⟨b0, b1, b2, fB⟩ := BB.cells
    go_wp2_with fail
    refine (unhide (hI2 _)).mono ?_
    rintro e w2 ⟨rfl, hb2⟩
    replace BA := BA.below hb2
    replace BB := BB.below hb2
    have HBW := hide (Below.andThen (Below.andThen (unhide HB0 _ _) hb1) hb2)
    clear b0 b1 b2 fB
    obtain ⟨b0, b1, b2, fB⟩ := BB.cells
    replace BA := BA.far3 (by omega : w.heap.size ≠ w.heap.size + 1) (.int .i64 0) (.int .i64 0) (.string ⟨#[]⟩)
    replace BB := BB.set3 (.int .i64 0) (.int .i64 0) (.string ⟨#[]⟩)
    replace HBW := hide (below_set3 (unhide HBW) (by omega : w.heap.size ≤ w.heap.size + 1) (.int .i64 0) (.int .i64 0) (.string ⟨#[]⟩))
    clear hb1 hb2 hI1 hI2
    generalize k = k1 at *; generalize n = n1 at *; generalize s = s1 at *
    obtain ⟨a0, a1, a2, fA⟩ := BA.cells
    obtain ⟨c0, c1, c2, fC⟩ := BB.cells
    rcases Int.lt_trichotomy k1 0 with hk | hk | hk
    · have f1 : decide (k1 < 0) = true := decide_eq_true hk
      go_wp2_with (go_at_call 24; refine (unhide (hO _ _ _)).mono ?_; rintro e w' ⟨rfl, rfl⟩)
      go_ret
      refine ⟨ret_int ?_, unhide HBW⟩
      rw [unhide HR]
      simp [cmp3, or3, cmpI, hk]
    · subst hk
      rcases Int.lt_trichotomy n1 0 with hn | hn | hn
      · have f1 : decide (n1 < 0) = true := decide_eq_true hn
        go_wp2_with (go_at_call 24; refine (unhide (hO _ _ _)).mono ?_; rintro e w' ⟨rfl, rfl⟩)
        go_ret
        refine ⟨ret_int ?_, unhide HBW⟩
        rw [unhide HR]
        simp [cmp3, or3, cmpI, hn]
      · subst hn
        go_wp2_with (go_at_call 24; refine (unhide (hO _ _ _)).mono ?_; rintro e w' ⟨rfl, rfl⟩)
        all_goals (go_ret; refine ⟨ret_int ?_, unhide HBW⟩; rw [unhide HR])
        all_goals (simp_all [cmp3, or3, cmpI, cmpS])
      · have f1 : decide (n1 < 0) = false := decide_eq_false (by omega)
        have f2 : decide (0 < n1) = true := decide_eq_true hn
        go_wp2_with (go_at_call 24; refine (unhide (hO _ _ _)).mono ?_; rintro e w' ⟨rfl, rfl⟩)
        go_ret
        refine ⟨ret_int ?_, unhide HBW⟩
        rw [unhide HR]
        simp [cmp3, or3, cmpI, hn, show ¬ n1 < 0 by omega]
    · have f1 : decide (k1 < 0) = false := decide_eq_false (by omega)
      have f2 : decide (0 < k1) = true := decide_eq_true hk
      go_wp2_with (go_at_call 24; refine (unhide (hO _ _ _)).mono ?_; rintro e w' ⟨rfl, rfl⟩)
      go_ret
      refine ⟨ret_int ?_, unhide HBW⟩
      rw [unhide HR]
      simp [cmp3, or3, cmpI, hk, show ¬ k1 < 0 by omega]
  · go_enter Tryd.func9, Tryd.ntmps9
    go_wp2_with fail
    refine (unhide (hI1 _)).mono ?_
    rintro e w1 ⟨rfl, hb1⟩
    replace BA := BA.below hb1
    replace BB := BB.below hb1
    have BAo := BA.cells
    obtain ⟨a0, a1, a2, fA⟩ := BAo
    obtain ⟨b0, b1, b2, fB⟩ := BB.cells
    replace BA := BA.set3 (.int .i64 0) (.int .i64 0) (.string ⟨#[]⟩)
    replace BB := BB.far3 (by omega : w.heap.size + 1 ≠ w.heap.size) (.int .i64 0) (.int .i64 0) (.string ⟨#[]⟩)
    have HBV := hide (below_set3 (Below.andThen (unhide HB0 _ _) hb1) (Nat.le_refl w.heap.size) (.int .i64 0) (.int .i64 0) (.string ⟨#[]⟩))
    go_wp2_with fail
    refine (unhide (hI2 _)).mono ?_
    rintro e w2 ⟨rfl, hb2⟩
    replace BA := BA.below hb2
    replace BB := BB.below hb2
    have HBW := hide (Below.andThen (unhide HBV) hb2)
    clear hb1 hb2 b0 b1 b2 fB a0 a1 a2 fA hI1 hI2 HBV
    obtain ⟨k1, hk1⟩ : ∃ z : Int, z = 0 := ⟨0, rfl⟩
    obtain ⟨n1, hn1⟩ : ∃ z : Int, z = 0 := ⟨0, rfl⟩
    obtain ⟨s1, hs1⟩ : ∃ z : ByteArray, z = ⟨#[]⟩ := ⟨_, rfl⟩
    replace BA : Blk3 w2 w.heap.size 23 (.int .i64 k1) (.int .i64 n1) (.string s1) := by rw [hk1, hn1, hs1]; exact BA
    replace HR : Hid (R = cmp3 k1 n1 s1.toList k' n' s'.toList) := by rw [hk1, hn1, hs1]; exact HR
    clear hk1 hn1 hs1
    generalize k' = k2 at *; generalize n' = n2 at *; generalize s' = s2 at *
    obtain ⟨a0, a1, a2, fA⟩ := BA.cells
    obtain ⟨b0, b1, b2, fB⟩ := BB.cells
    rcases Int.lt_trichotomy k1 k2 with hk | hk | hk
    · have f1 : decide (k1 < k2) = true := decide_eq_true hk
      go_wp2_with (go_at_call 24; refine (unhide (hO _ _ _)).mono ?_; rintro e w' ⟨rfl, rfl⟩)
      go_ret
      refine ⟨ret_int ?_, unhide HBW⟩
      rw [unhide HR]
      simp [cmp3, or3, cmpI, hk]
    · subst hk
      rcases Int.lt_trichotomy n1 n2 with hn | hn | hn
      · have f1 : decide (n1 < n2) = true := decide_eq_true hn
        go_wp2_with (go_at_call 24; refine (unhide (hO _ _ _)).mono ?_; rintro e w' ⟨rfl, rfl⟩)
        go_ret
        refine ⟨ret_int ?_, unhide HBW⟩
        rw [unhide HR]
        simp [cmp3, or3, cmpI, hn]
      · subst hn
        go_wp2_with (go_at_call 24; refine (unhide (hO _ _ _)).mono ?_; rintro e w' ⟨rfl, rfl⟩)
        all_goals (go_ret; refine ⟨ret_int ?_, unhide HBW⟩; rw [unhide HR])
        all_goals (simp_all [cmp3, or3, cmpI, cmpS])
      · have f1 : decide (n1 < n2) = false := decide_eq_false (by omega)
        have f2 : decide (n2 < n1) = true := decide_eq_true hn
        go_wp2_with (go_at_call 24; refine (unhide (hO _ _ _)).mono ?_; rintro e w' ⟨rfl, rfl⟩)
        go_ret
        refine ⟨ret_int ?_, unhide HBW⟩
        rw [unhide HR]
        simp [cmp3, or3, cmpI, hn, show ¬ n1 < n2 by omega]
    · have f1 : decide (k1 < k2) = false := decide_eq_false (by omega)
      have f2 : decide (k2 < k1) = true := decide_eq_true hk
      go_wp2_with (go_at_call 24; refine (unhide (hO _ _ _)).mono ?_; rintro e w' ⟨rfl, rfl⟩)
      go_ret
      refine ⟨ret_int ?_, unhide HBW⟩
      rw [unhide HR]
      simp [cmp3, or3, cmpI, hk, show ¬ k1 < k2 by omega]
  · go_enter Tryd.func9, Tryd.ntmps9
    go_wp2_with fail
    refine (unhide (hI1 _)).mono ?_
    rintro e w1 ⟨rfl, hb1⟩
    replace BA := BA.below hb1
    replace BB := BB.below hb1
    have BAo := BA.cells
    obtain ⟨a0, a1, a2, fA⟩ := BAo
    obtain ⟨b0, b1, b2, fB⟩ := BB.cells
    replace BA := BA.set3 (.int .i64 0) (.int .i64 0) (.string ⟨#[]⟩)
    replace BB := BB.far3 (by omega : w.heap.size + 1 ≠ w.heap.size) (.int .i64 0) (.int .i64 0) (.string ⟨#[]⟩)
    have HBV := hide (below_set3 (Below.andThen (unhide HB0 _ _) hb1) (Nat.le_refl w.heap.size) (.int .i64 0) (.int .i64 0) (.string ⟨#[]⟩))
    go_wp2_with fail
    refine (unhide (hI2 _)).mono ?_
    rintro e w2 ⟨rfl, hb2⟩
    replace BA := BA.below hb2
    replace BB := BB.below hb2
    have HBW := hide (Below.andThen (unhide HBV) hb2)
    clear b0 b1 b2 fB
    obtain ⟨b0, b1, b2, fB⟩ := BB.cells
    replace BA := BA.far3 (by omega : w.heap.size ≠ w.heap.size + 1) (.int .i64 0) (.int .i64 0) (.string ⟨#[]⟩)
    replace BB := BB.set3 (.int .i64 0) (.int .i64 0) (.string ⟨#[]⟩)
    replace HBW := hide (below_set3 (unhide HBW) (by omega : w.heap.size ≤ w.heap.size + 1) (.int .i64 0) (.int .i64 0) (.string ⟨#[]⟩))
    clear hb1 hb2 hI1 hI2 HBV
    obtain ⟨a0, a1, a2, fA⟩ := BA.cells
    obtain ⟨c0, c1, c2, fC⟩ := BB.cells
    go_wp2_with (go_at_call 24; refine (unhide (hO _ _ _)).mono ?_; rintro e w' ⟨rfl, rfl⟩)
    all_goals (go_ret; refine ⟨ret_int ?_, unhide HBW⟩; rw [unhide HR])
    all_goals (simp_all [cmp3, or3, cmpI, cmpS])
end Go.Proofs.YtjcpmdbgjjmcdaaDoor

/- value.Compare: walk. -/
import Derived.Test.YtjcpmdbgjjmcdaaDoorVal1
import Derived.StillTailTactics
namespace Go.Proofs.YtjcpmdbgjjmcdaaDoor
open Go.RowKit

def cmp3 (k n : Int) (s : List UInt8) (k' n' : Int) (s' : List UInt8) : Int := or3 (cmpI k k') (cmpI n n') (cmpS s s')

/-- What may be, else NULL. -/
def normK (k n : Int) (s : ByteArray) : Int := if mayB k n s = true then k else 0
def normI (k n : Int) (s : ByteArray) : Int := if mayB k n s = true then n else 0
def normT (k n : Int) (s : ByteArray) : ByteArray := if mayB k n s = true then s else ⟨#[]⟩
def compareV (k n : Int) (s : ByteArray) (k' n' : Int) (s' : ByteArray) : Int :=
  cmp3 (normK k n s) (normI k n s) (normT k n s).toList (normK k' n' s') (normI k' n' s') (normT k' n' s').toList

set_option maxRecDepth 100000 in
set_option maxHeartbeats 1000000 in
theorem value_Compare (k n : Int) (s : ByteArray) (k' n' : Int) (s' : ByteArray) (w : World) (hs : s.size ≤ 9223372036854775807) (hs' : s'.size ≤ 9223372036854775807) :
    Calls Tryd.prog 8 #[.agg #[.int .i64 k, .int .i64 n, .string s], .agg #[.int .i64 k', .int .i64 n', .string s']] w fun e w' => e = .returned (.int .i64 (compareV k n s k' n' s')) ∧ Below w.heap.size w w' := by
  have h1 : mayB k n s = true ∨ mayB k n s = false := by cases mayB k n s <;> simp
  have h2 : mayB k' n' s' = true ∨ mayB k' n' s' = false := by cases mayB k' n' s' <;> simp
  have hI1 := fun w => hide (value_Is k n s w hs)
  have hI2 := fun w => hide (value_Is k' n' s' w hs')
  have hB0 : ∀ o o', Below w.heap.size w ((w.alloc o).alloc o') := fun o o' => ((Below.refl _ _).alloc (Nat.le_refl _) o).alloc (by simp) o'
  have HB0 := hide hB0
  clear hB0
  rcases h1 with h1 | h1 <;> rcases h2 with h2 | h2 <;> have H1 := hide h1 <;> have H2 := hide h2
  · go_enter Tryd.func8, Tryd.ntmps8
    have BA := (Blk3.new w 23 (.int .i64 k) (.int .i64 n) (.string s)).alloc (.cells #[.int .i64 k', .int .i64 n', .string s'] 23)
    have BB := Blk3.new1 w (.cells #[.int .i64 k, .int .i64 n, .string s] 23) 23 (.int .i64 k') (.int .i64 n') (.string s')
    go_wp2_with (go_at_call 6; with_reducible refine (unhide (hI1 _)).mono ?_; rintro e w1 ⟨rfl, hb1⟩; replace BA := BA.below hb1; replace BB := BB.below hb1; obtain ⟨a0, a1, a2, fA⟩ := BA.cells; obtain ⟨b0, b1, b2, fB⟩ := BB.cells)
    refine (unhide (hI2 _)).mono ?_
    rintro e w2 ⟨rfl, hb2⟩
    replace BA := BA.below hb2
    replace BB := BB.below hb2
    have HBW := hide (Below.andThen (Below.andThen (unhide HB0 _ _) hb1) hb2)
    go_wp2_with fail
    obtain ⟨a0, a1, a2, fA⟩ := BA.cells
    obtain ⟨b0, b1, b2, fB⟩ := BB.cells
    refine wp_region_still_tail 15 (by kernel_rfl) (by kernel_rfl) ?_
    simp only [List.take_succ_cons, List.take_zero, List.drop_succ_cons, List.drop_zero]
    repeat (first | still_step | still_call (cmp_int _ _ _) | still_call (cmp_int64 _ _ _) | still_call (cmp_string _ _ _))
    refine wpStill_nil ?_
    change wpList _ _ _ _ _ w2.drew
    clear a0 a1 a2 fA b0 b1 b2 fB
    go_wp2_with (go_at_call 20; refine (cmp_Or3 w2.heap.size (cmpI k k') (cmpI n n') (cmpS s.toList s'.toList) _ ?_ ?_ ?_).mono ?_; exact (Blk3.new w2 _ _ _ _).cells.1; exact (Blk3.new w2 _ _ _ _).cells.2.1; exact (Blk3.new w2 _ _ _ _).cells.2.2.1; rintro e w' ⟨rfl, rfl⟩)
    go_ret
    refine ⟨ret_int (by simp [compareV, normK, normI, normT, unhide H1, unhide H2, cmp3]), ?_⟩
    exact (unhide HBW).drew.alloc (unhide HBW).size _
  · go_enter Tryd.func8, Tryd.ntmps8
    have BA := (Blk3.new w 23 (.int .i64 k) (.int .i64 n) (.string s)).alloc (.cells #[.int .i64 k', .int .i64 n', .string s'] 23)
    have BB := Blk3.new1 w (.cells #[.int .i64 k, .int .i64 n, .string s] 23) 23 (.int .i64 k') (.int .i64 n') (.string s')
    go_wp2_with (go_at_call 6; with_reducible refine (unhide (hI1 _)).mono ?_; rintro e w1 ⟨rfl, hb1⟩; replace BA := BA.below hb1; replace BB := BB.below hb1; obtain ⟨a0, a1, a2, fA⟩ := BA.cells; obtain ⟨b0, b1, b2, fB⟩ := BB.cells)
    refine (unhide (hI2 _)).mono ?_
    rintro e w2 ⟨rfl, hb2⟩
    replace BA := BA.below hb2
    replace BB := BB.below hb2
    obtain ⟨b0, b1, b2, fB⟩ := BB.cells
    have HBW := hide (Below.andThen (Below.andThen (unhide HB0 _ _) hb1) hb2)
    go_wp2_with fail
    replace BA := BA.far3 (by omega : w.heap.size ≠ w.heap.size + 1) (.int .i64 0) (.int .i64 0) (.string ⟨#[]⟩)
    replace BB := BB.set3 (.int .i64 0) (.int .i64 0) (.string ⟨#[]⟩)
    replace HBW := hide (below_set3 (unhide HBW) (by omega : w.heap.size ≤ w.heap.size + 1) (.int .i64 0) (.int .i64 0) (.string ⟨#[]⟩))
    generalize ((w2.setCell _ _).setCell _ _).setCell _ _ = w3 at BA BB HBW ⊢
    obtain ⟨a0, a1, a2, fA⟩ := BA.cells
    obtain ⟨b0, b1, b2, fB⟩ := BB.cells
    refine wp_region_still_tail 15 (by kernel_rfl) (by kernel_rfl) ?_
    simp only [List.take_succ_cons, List.take_zero, List.drop_succ_cons, List.drop_zero]
    repeat (first | still_step | still_call (cmp_int _ _ _) | still_call (cmp_int64 _ _ _) | still_call (cmp_string _ _ _))
    refine wpStill_nil ?_
    change wpList _ _ _ _ _ w3.drew
    clear a0 a1 a2 fA b0 b1 b2 fB
    go_wp2_with (go_at_call 20; refine (cmp_Or3 w3.heap.size (cmpI k 0) (cmpI n 0) (cmpS s.toList ([] : List UInt8)) _ ?_ ?_ ?_).mono ?_; exact (Blk3.new w3 _ _ _ _).cells.1; exact (Blk3.new w3 _ _ _ _).cells.2.1; exact (Blk3.new w3 _ _ _ _).cells.2.2.1; rintro e w' ⟨rfl, rfl⟩)
    go_ret
    refine ⟨ret_int (by simp [compareV, normK, normI, normT, unhide H1, unhide H2, cmp3]), ?_⟩
    exact (unhide HBW).drew.alloc (unhide HBW).size _
  · go_enter Tryd.func8, Tryd.ntmps8
    have BA := (Blk3.new w 23 (.int .i64 k) (.int .i64 n) (.string s)).alloc (.cells #[.int .i64 k', .int .i64 n', .string s'] 23)
    have BB := Blk3.new1 w (.cells #[.int .i64 k, .int .i64 n, .string s] 23) 23 (.int .i64 k') (.int .i64 n') (.string s')
    go_wp2_with fail
    refine (unhide (hI1 _)).mono ?_
    rintro e w1 ⟨rfl, hb1⟩
    replace BA := BA.below hb1
    replace BB := BB.below hb1
    have BAo := BA.cells
    obtain ⟨a0, a1, a2, fA⟩ := BAo
    obtain ⟨b0, b1, b2, fB⟩ := BB.cells
    replace BA := BA.set3 (.int .i64 0) (.int .i64 0) (.string ⟨#[]⟩)
    replace BB := BB.far3 (by omega : w.heap.size + 1 ≠ w.heap.size) (.int .i64 0) (.int .i64 0) (.string ⟨#[]⟩)
    have HBV := hide (below_set3 (Below.andThen (unhide HB0 _ _) hb1) (Nat.le_refl w.heap.size) (.int .i64 0) (.int .i64 0) (.string ⟨#[]⟩))
    go_wp2_with fail
    refine (unhide (hI2 _)).mono ?_
    rintro e w2 ⟨rfl, hb2⟩
    replace BA := BA.below hb2
    replace BB := BB.below hb2
    have HBW := hide (Below.andThen (unhide HBV) hb2)
    go_wp2_with fail
    obtain ⟨a0, a1, a2, fA⟩ := BA.cells
    obtain ⟨b0, b1, b2, fB⟩ := BB.cells
    refine wp_region_still_tail 15 (by kernel_rfl) (by kernel_rfl) ?_
    simp only [List.take_succ_cons, List.take_zero, List.drop_succ_cons, List.drop_zero]
    repeat (first | still_step | still_call (cmp_int _ _ _) | still_call (cmp_int64 _ _ _) | still_call (cmp_string _ _ _))
    refine wpStill_nil ?_
    change wpList _ _ _ _ _ w2.drew
    clear a0 a1 a2 fA b0 b1 b2 fB
    go_wp2_with (go_at_call 20; refine (cmp_Or3 w2.heap.size (cmpI 0 k') (cmpI 0 n') (cmpS ([] : List UInt8) s'.toList) _ ?_ ?_ ?_).mono ?_; exact (Blk3.new w2 _ _ _ _).cells.1; exact (Blk3.new w2 _ _ _ _).cells.2.1; exact (Blk3.new w2 _ _ _ _).cells.2.2.1; rintro e w' ⟨rfl, rfl⟩)
    go_ret
    refine ⟨ret_int (by simp [compareV, normK, normI, normT, unhide H1, unhide H2, cmp3]), ?_⟩
    exact (unhide HBW).drew.alloc (unhide HBW).size _
  · go_enter Tryd.func8, Tryd.ntmps8
    have BA := (Blk3.new w 23 (.int .i64 k) (.int .i64 n) (.string s)).alloc (.cells #[.int .i64 k', .int .i64 n', .string s'] 23)
    have BB := Blk3.new1 w (.cells #[.int .i64 k, .int .i64 n, .string s] 23) 23 (.int .i64 k') (.int .i64 n') (.string s')
    go_wp2_with fail
    refine (unhide (hI1 _)).mono ?_
    rintro e w1 ⟨rfl, hb1⟩
    replace BA := BA.below hb1
    replace BB := BB.below hb1
    have BAo := BA.cells
    obtain ⟨a0, a1, a2, fA⟩ := BAo
    obtain ⟨b0, b1, b2, fB⟩ := BB.cells
    replace BA := BA.set3 (.int .i64 0) (.int .i64 0) (.string ⟨#[]⟩)
    replace BB := BB.far3 (by omega : w.heap.size + 1 ≠ w.heap.size) (.int .i64 0) (.int .i64 0) (.string ⟨#[]⟩)
    have HBV := hide (below_set3 (Below.andThen (unhide HB0 _ _) hb1) (Nat.le_refl w.heap.size) (.int .i64 0) (.int .i64 0) (.string ⟨#[]⟩))
    go_wp2_with fail
    refine (unhide (hI2 _)).mono ?_
    rintro e w2 ⟨rfl, hb2⟩
    replace BA := BA.below hb2
    replace BB := BB.below hb2
    obtain ⟨b0, b1, b2, fB⟩ := BB.cells
    have HBW := hide (Below.andThen (unhide HBV) hb2)
    go_wp2_with fail
    replace BA := BA.far3 (by omega : w.heap.size ≠ w.heap.size + 1) (.int .i64 0) (.int .i64 0) (.string ⟨#[]⟩)
    replace BB := BB.set3 (.int .i64 0) (.int .i64 0) (.string ⟨#[]⟩)
    replace HBW := hide (below_set3 (unhide HBW) (by omega : w.heap.size ≤ w.heap.size + 1) (.int .i64 0) (.int .i64 0) (.string ⟨#[]⟩))
    generalize ((w2.setCell _ _).setCell _ _).setCell _ _ = w3 at BA BB HBW ⊢
    obtain ⟨a0, a1, a2, fA⟩ := BA.cells
    obtain ⟨b0, b1, b2, fB⟩ := BB.cells
    refine wp_region_still_tail 15 (by kernel_rfl) (by kernel_rfl) ?_
    simp only [List.take_succ_cons, List.take_zero, List.drop_succ_cons, List.drop_zero]
    repeat (first | still_step | still_call (cmp_int _ _ _) | still_call (cmp_int64 _ _ _) | still_call (cmp_string _ _ _))
    refine wpStill_nil ?_
    change wpList _ _ _ _ _ w3.drew
    clear a0 a1 a2 fA b0 b1 b2 fB
    go_wp2_with (go_at_call 20; refine (cmp_Or3 w3.heap.size (cmpI 0 0) (cmpI 0 0) (cmpS ([] : List UInt8) ([] : List UInt8)) _ ?_ ?_ ?_).mono ?_; exact (Blk3.new w3 _ _ _ _).cells.1; exact (Blk3.new w3 _ _ _ _).cells.2.1; exact (Blk3.new w3 _ _ _ _).cells.2.2.1; rintro e w' ⟨rfl, rfl⟩)
    go_ret
    refine ⟨ret_int (by simp [compareV, normK, normI, normT, unhide H1, unhide H2, cmp3]), ?_⟩
    exact (unhide HBW).drew.alloc (unhide HBW).size _
end Go.Proofs.YtjcpmdbgjjmcdaaDoor

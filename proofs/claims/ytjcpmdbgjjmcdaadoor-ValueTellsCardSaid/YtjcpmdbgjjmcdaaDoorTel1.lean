/- consistoryref6.Test: contract. -/
import Derived.Test.YtjcpmdbgjjmcdaaDoorRw4
import Derived.Test.YtjcpmdbgjjmcdaaDoorVal4
set_option linter.all false
namespace Go.Proofs.YtjcpmdbgjjmcdaaDoor
open Go.RowKit Go.Lib

def T6 (w : World) (r : Int × Int) (e : Ending) (w' : World) : Prop := e = .returned (.tuple #[.int .i64 r.1, .int .i64 r.2]) ∧ Below w.heap.size w w'
set_option maxRecDepth 100000 in
set_option maxHeartbeats 1000000 in
theorem test6_out (op k n : Int) (s : ByteArray) (k' n' : Int) (s' : ByteArray) (w : World) (hs : s.size ≤ 9223372036854775807) (hs' : s'.size ≤ 9223372036854775807)
    (h : op < 5 ∨ 10 < op ∨ mayB k n s = false ∨ mayB k' n' s' = false) :
    Calls Tryd.prog 13 #[.int .i64 op, .agg #[.int .i64 k, .int .i64 n, .string s], .agg #[.int .i64 k', .int .i64 n', .string s']] w (T6 w (0, 20)) := by
  have hI1 := fun w => hide (ref1_Is k n s w hs)
  have hI2 := fun w => hide (ref1_Is k' n' s' w hs')
  have hB0 : ∀ o o', Below w.heap.size w ((w.alloc o).alloc o') := fun o o' => ((Below.refl _ _).alloc (Nat.le_refl _) o).alloc (by simp) o'
  have HBW := hide (hB0 (.cells #[.int .i64 k, .int .i64 n, .string s] 23) (.cells #[.int .i64 k', .int .i64 n', .string s'] 23))
  clear hB0
  have BA := (Blk3.new w 23 (.int .i64 k) (.int .i64 n) (.string s)).alloc (.cells #[.int .i64 k', .int .i64 n', .string s'] 23)
  have BB := Blk3.new1 w (.cells #[.int .i64 k, .int .i64 n, .string s] 23) 23 (.int .i64 k') (.int .i64 n') (.string s')
  by_cases g1 : op < 5
  · clear h
    go_enter Tryd.func13, Tryd.ntmps13
    go_wp2
    go_ret2
    exact ⟨rfl, unhide HBW⟩
  by_cases g2 : 10 < op
  · clear h
    go_enter Tryd.func13, Tryd.ntmps13
    go_wp2
    go_ret2
    exact ⟨rfl, unhide HBW⟩
  have h1 : mayB k n s = true ∨ mayB k n s = false := by cases mayB k n s <;> simp
  rcases h1 with h1 | h1
  · replace h : mayB k' n' s' = false := by
      rcases h with h | h | h | h
      · omega
      · omega
      · rw [h1] at h; cases h
      · exact h
    go_enter Tryd.func13, Tryd.ntmps13
    go_wp2_with (go_at_call 7; with_reducible refine (unhide (hI1 _)).mono ?_; rintro e w1 ⟨rfl, hb1⟩; replace BA := BA.below hb1; replace BB := BB.below hb1; obtain ⟨a0, a1, a2, fA⟩ := BA.cells; obtain ⟨b0, b1, b2, fB⟩ := BB.cells; replace HBW := hide (Below.andThen (unhide HBW) hb1); clear hb1 hI1)
    refine (unhide (hI2 _)).mono ?_
    rintro e w2 ⟨rfl, hb2⟩
    replace BA := BA.below hb2
    replace BB := BB.below hb2
    obtain ⟨a0, a1, a2, fA⟩ := BA.cells
    obtain ⟨b0, b1, b2, fB⟩ := BB.cells
    replace HBW := hide (Below.andThen (unhide HBW) hb2)
    clear hb2
    go_wp2
    go_ret2
    exact ⟨rfl, unhide HBW⟩
  · clear h
    go_enter Tryd.func13, Tryd.ntmps13
    go_wp2_with fail
    refine (unhide (hI1 _)).mono ?_
    rintro e w1 ⟨rfl, hb1⟩
    replace HBW := hide (Below.andThen (unhide HBW) hb1)
    clear hb1
    go_wp2
    go_ret2
    exact ⟨rfl, unhide HBW⟩
set_option maxRecDepth 100000 in
set_option maxHeartbeats 1000000 in
theorem test6_null (op k n : Int) (s : ByteArray) (k' n' : Int) (s' : ByteArray) (w : World) (hs : s.size ≤ 9223372036854775807) (hs' : s'.size ≤ 9223372036854775807)
    (g1 : ¬ op < 5) (g2 : ¬ 10 < op) (h1 : mayB k n s = true) (h2 : mayB k' n' s' = true) (h : k = 0 ∨ k' = 0) :
    Calls Tryd.prog 13 #[.int .i64 op, .agg #[.int .i64 k, .int .i64 n, .string s], .agg #[.int .i64 k', .int .i64 n', .string s']] w (T6 w (2, 0)) := by
  have hI1 := fun w => hide (ref1_Is k n s w hs)
  have hI2 := fun w => hide (ref1_Is k' n' s' w hs')
  have hB0 : ∀ o o', Below w.heap.size w ((w.alloc o).alloc o') := fun o o' => ((Below.refl _ _).alloc (Nat.le_refl _) o).alloc (by simp) o'
  have HBW := hide (hB0 (.cells #[.int .i64 k, .int .i64 n, .string s] 23) (.cells #[.int .i64 k', .int .i64 n', .string s'] 23))
  clear hB0
  have BA := (Blk3.new w 23 (.int .i64 k) (.int .i64 n) (.string s)).alloc (.cells #[.int .i64 k', .int .i64 n', .string s'] 23)
  have BB := Blk3.new1 w (.cells #[.int .i64 k, .int .i64 n, .string s] 23) 23 (.int .i64 k') (.int .i64 n') (.string s')
  by_cases hk : k = 0
  · have q : (k == 0) = true := by simpa using hk
    clear h hk
    go_enter Tryd.func13, Tryd.ntmps13
    go_wp2_with (go_at_call 7; with_reducible refine (unhide (hI1 _)).mono ?_; rintro e w1 ⟨rfl, hb1⟩; replace BA := BA.below hb1; replace BB := BB.below hb1; obtain ⟨a0, a1, a2, fA⟩ := BA.cells; obtain ⟨b0, b1, b2, fB⟩ := BB.cells; replace HBW := hide (Below.andThen (unhide HBW) hb1); clear hb1 hI1)
    refine (unhide (hI2 _)).mono ?_
    rintro e w2 ⟨rfl, hb2⟩
    replace BA := BA.below hb2
    replace BB := BB.below hb2
    obtain ⟨a0, a1, a2, fA⟩ := BA.cells
    obtain ⟨b0, b1, b2, fB⟩ := BB.cells
    replace HBW := hide (Below.andThen (unhide HBW) hb2)
    clear hb2
    go_wp2
    go_ret2
    exact ⟨rfl, unhide HBW⟩
  · have hk' : k' = 0 := by omega
    have q : (k == 0) = false := by simpa using hk
    have q' : (k' == 0) = true := by simpa using hk'
    clear h hk hk'
    go_enter Tryd.func13, Tryd.ntmps13
    go_wp2_with (go_at_call 7; with_reducible refine (unhide (hI1 _)).mono ?_; rintro e w1 ⟨rfl, hb1⟩; replace BA := BA.below hb1; replace BB := BB.below hb1; obtain ⟨a0, a1, a2, fA⟩ := BA.cells; obtain ⟨b0, b1, b2, fB⟩ := BB.cells; replace HBW := hide (Below.andThen (unhide HBW) hb1); clear hb1 hI1)
    refine (unhide (hI2 _)).mono ?_
    rintro e w2 ⟨rfl, hb2⟩
    replace BA := BA.below hb2
    replace BB := BB.below hb2
    obtain ⟨a0, a1, a2, fA⟩ := BA.cells
    obtain ⟨b0, b1, b2, fB⟩ := BB.cells
    replace HBW := hide (Below.andThen (unhide HBW) hb2)
    clear hb2
    go_wp2
    go_ret2
    exact ⟨rfl, unhide HBW⟩
set_option maxRecDepth 100000 in
set_option maxHeartbeats 1000000 in
theorem test6_type (op k n : Int) (s : ByteArray) (k' n' : Int) (s' : ByteArray) (w : World) (hs : s.size ≤ 9223372036854775807) (hs' : s'.size ≤ 9223372036854775807)
    (g1 : ¬ op < 5) (g2 : ¬ 10 < op) (h1 : mayB k n s = true) (h2 : mayB k' n' s' = true) (hk : k ≠ 0) (hk' : k' ≠ 0) (h : k ≠ k') :
    Calls Tryd.prog 13 #[.int .i64 op, .agg #[.int .i64 k, .int .i64 n, .string s], .agg #[.int .i64 k', .int .i64 n', .string s']] w (T6 w (0, 4)) := by
  have hI1 := fun w => hide (ref1_Is k n s w hs)
  have hI2 := fun w => hide (ref1_Is k' n' s' w hs')
  have q : (k == 0) = false := by simpa using hk
  have q' : (k' == 0) = false := by simpa using hk'
  have q2 : (k == k') = false := by simpa using h
  clear h hk hk'
  have hB0 : ∀ o o', Below w.heap.size w ((w.alloc o).alloc o') := fun o o' => ((Below.refl _ _).alloc (Nat.le_refl _) o).alloc (by simp) o'
  have HBW := hide (hB0 (.cells #[.int .i64 k, .int .i64 n, .string s] 23) (.cells #[.int .i64 k', .int .i64 n', .string s'] 23))
  clear hB0
  have BA := (Blk3.new w 23 (.int .i64 k) (.int .i64 n) (.string s)).alloc (.cells #[.int .i64 k', .int .i64 n', .string s'] 23)
  have BB := Blk3.new1 w (.cells #[.int .i64 k, .int .i64 n, .string s] 23) 23 (.int .i64 k') (.int .i64 n') (.string s')
  go_enter Tryd.func13, Tryd.ntmps13
  go_wp2_with (go_at_call 7; with_reducible refine (unhide (hI1 _)).mono ?_; rintro e w1 ⟨rfl, hb1⟩; replace BA := BA.below hb1; replace BB := BB.below hb1; obtain ⟨a0, a1, a2, fA⟩ := BA.cells; obtain ⟨b0, b1, b2, fB⟩ := BB.cells; replace HBW := hide (Below.andThen (unhide HBW) hb1); clear hb1 hI1)
  refine (unhide (hI2 _)).mono ?_
  rintro e w2 ⟨rfl, hb2⟩
  replace BA := BA.below hb2
  replace BB := BB.below hb2
  obtain ⟨a0, a1, a2, fA⟩ := BA.cells
  obtain ⟨b0, b1, b2, fB⟩ := BB.cells
  replace HBW := hide (Below.andThen (unhide HBW) hb2)
  clear hb2
  go_wp2
  go_ret2
  exact ⟨rfl, unhide HBW⟩
set_option maxRecDepth 100000 in
set_option maxHeartbeats 1000000 in
theorem test6_same (op k n : Int) (s : ByteArray) (n' : Int) (s' : ByteArray) (w : World) (hs : s.size ≤ 9223372036854775807) (hs' : s'.size ≤ 9223372036854775807)
    (g1 : ¬ op < 5) (g2 : ¬ 10 < op) (h1 : mayB k n s = true) (h2 : mayB k n' s' = true) (hk : k ≠ 0) :
    Calls Tryd.prog 13 #[.int .i64 op, .agg #[.int .i64 k, .int .i64 n, .string s], .agg #[.int .i64 k, .int .i64 n', .string s']] w (T6 w (tr (testB op (compareV k n s k n' s')), 0)) := by
  have hI1 := fun w => hide (ref1_Is k n s w hs)
  have hI2 := fun w => hide (ref1_Is k n' s' w hs')
  have hC := fun w => hide (ref6_Compare k n s k n' s' w hs hs')
  have q : (k == 0) = false := by simpa using hk
  have ho : op = 5 ∨ op = 6 ∨ op = 7 ∨ op = 8 ∨ op = 9 ∨ op = 10 := by omega
  generalize compareV k n s k n' s' = c at *
  clear hk
  have hB0 : ∀ o o', Below w.heap.size w ((w.alloc o).alloc o') := fun o o' => ((Below.refl _ _).alloc (Nat.le_refl _) o).alloc (by simp) o'
  have HBW := hide (hB0 (.cells #[.int .i64 k, .int .i64 n, .string s] 23) (.cells #[.int .i64 k, .int .i64 n', .string s'] 23))
  clear hB0
  have BA := (Blk3.new w 23 (.int .i64 k) (.int .i64 n) (.string s)).alloc (.cells #[.int .i64 k, .int .i64 n', .string s'] 23)
  have BB := Blk3.new1 w (.cells #[.int .i64 k, .int .i64 n, .string s] 23) 23 (.int .i64 k) (.int .i64 n') (.string s')
  rcases ho with rfl | rfl | rfl | rfl | rfl | rfl
  all_goals
    clear g1 g2
    go_enter Tryd.func13, Tryd.ntmps13
    go_wp2_with (go_at_call 7; with_reducible refine (unhide (hI1 _)).mono ?_; rintro e w1 ⟨rfl, hb1⟩; replace BA := BA.below hb1; replace BB := BB.below hb1; obtain ⟨a0, a1, a2, fA⟩ := BA.cells; obtain ⟨b0, b1, b2, fB⟩ := BB.cells; replace HBW := hide (Below.andThen (unhide HBW) hb1); clear hb1 hI1)
    refine (unhide (hI2 _)).mono ?_
    rintro e w2 ⟨rfl, hb2⟩
    replace BA := BA.below hb2
    replace BB := BB.below hb2
    obtain ⟨a0, a1, a2, fA⟩ := BA.cells
    obtain ⟨b0, b1, b2, fB⟩ := BB.cells
    replace HBW := hide (Below.andThen (unhide HBW) hb2)
    clear hb2
    go_wp2_with fail
    refine (unhide (hC _)).mono ?_
    rintro e w3 ⟨rfl, hb3⟩
    replace HBW := hide (Below.andThen (unhide HBW) hb3)
    clear hb3
    go_wp2
    all_goals
      go_ret2
      refine ⟨?_, (unhide HBW).alloc (unhide HBW).size _⟩
      simp_all [testB, tr]
theorem ref6_Test (op k n : Int) (s : ByteArray) (k' n' : Int) (s' : ByteArray) (w : World) (hs : s.size ≤ 9223372036854775807) (hs' : s'.size ≤ 9223372036854775807) :
    Calls Tryd.prog 13 #[.int .i64 op, .agg #[.int .i64 k, .int .i64 n, .string s], .agg #[.int .i64 k', .int .i64 n', .string s']] w (T6 w (testR op k n s k' n' s')) := by
  by_cases h : op < 5 ∨ 10 < op ∨ mayB k n s = false ∨ mayB k' n' s' = false
  · rw [testR_out h]; exact test6_out op k n s k' n' s' w hs hs' h
  · have h1 : mayB k n s = true := by simpa using fun h' => h (.inr (.inr (.inl h')))
    have h2 : mayB k' n' s' = true := by simpa using fun h' => h (.inr (.inr (.inr h')))
    have g1 : ¬ op < 5 := fun h' => h (.inl h')
    have g2 : ¬ 10 < op := fun h' => h (.inr (.inl h'))
    by_cases hz : k = 0 ∨ k' = 0
    · rw [show testR op k n s k' n' s' = (2, 0) from by unfold testR; rw [if_neg h, if_pos hz]]
      exact test6_null op k n s k' n' s' w hs hs' g1 g2 h1 h2 hz
    · by_cases ht : k = k'
      · subst ht
        rw [show testR op k n s k n' s' = (tr (testB op (compareV k n s k n' s')), 0) from by unfold testR; rw [if_neg h, if_neg hz, if_neg (by simp)]]
        exact test6_same op k n s n' s' w hs hs' g1 g2 h1 h2 (fun h' => hz (.inl h'))
      · rw [show testR op k n s k' n' s' = (0, 4) from by unfold testR; rw [if_neg h, if_neg hz, if_pos ht]]
        exact test6_type op k n s k' n' s' w hs hs' g1 g2 h1 h2 (fun h' => hz (.inl h')) (fun h' => hz (.inr h')) ht
end Go.Proofs.YtjcpmdbgjjmcdaaDoor

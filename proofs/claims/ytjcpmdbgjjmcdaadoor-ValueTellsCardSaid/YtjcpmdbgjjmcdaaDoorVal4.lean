/- Package value: truths, Test: walks. -/
import Derived.Test.YtjcpmdbgjjmcdaaDoorVal2
import Derived.Test.YtjcpmdbgjjmcdaaDoorVal3
namespace Go.Proofs.YtjcpmdbgjjmcdaaDoor
open Go.RowKit

def tr (b : Bool) : Int := if b then 1 else 0
theorem value_Truth (b : Bool) (w : World) : Calls Tryd.prog 29 #[.bool b] w fun e w' => e = .returned (.int .i64 (tr b)) ∧ w = w' := by
  cases b <;>
  · go_enter Tryd.func29, Tryd.ntmps29
    go_wp2
    go_ret
    exact ⟨rfl, rfl⟩

/-- Which test, of how two values stand. -/
def testB (op c : Int) : Bool :=
  if op = 5 then decide (c = 0) else if op = 6 then !decide (c = 0) else if op = 7 then decide (c < 0) else if op = 8 then !decide (0 < c) else if op = 9 then decide (0 < c) else !decide (c < 0)
def testR (op k n : Int) (s : ByteArray) (k' n' : Int) (s' : ByteArray) : Int × Int :=
  if op < 5 ∨ 10 < op ∨ mayB k n s = false ∨ mayB k' n' s' = false then (0, 20)
  else if k = 0 ∨ k' = 0 then (2, 0)
  else if k ≠ k' then (0, 4)
  else (tr (testB op (compareV k n s k' n' s')), 0)

theorem testR_out {op k n : Int} {s : ByteArray} {k' n' : Int} {s' : ByteArray} (h : op < 5 ∨ 10 < op ∨ mayB k n s = false ∨ mayB k' n' s' = false) : testR op k n s k' n' s' = (0, 20) := by unfold testR; rw [if_pos h]

set_option maxRecDepth 100000 in
set_option maxHeartbeats 1000000 in
theorem test_out (op k n : Int) (s : ByteArray) (k' n' : Int) (s' : ByteArray) (w : World) (hs : s.size ≤ 9223372036854775807) (hs' : s'.size ≤ 9223372036854775807)
    (h : op < 5 ∨ 10 < op ∨ mayB k n s = false ∨ mayB k' n' s' = false) :
    Calls Tryd.prog 12 #[.int .i64 op, .agg #[.int .i64 k, .int .i64 n, .string s], .agg #[.int .i64 k', .int .i64 n', .string s']] w (RPost w (0, 20)) := by
  have hI1 := fun w => hide (value_Is k n s w hs)
  have hI2 := fun w => hide (value_Is k' n' s' w hs')
  by_cases g1 : op < 5
  · clear h
    have hB0 : ∀ o o', Below w.heap.size w ((w.alloc o).alloc o') := fun o o' => ((Below.refl _ _).alloc (Nat.le_refl _) o).alloc (by simp) o'
    have HBW := hide (hB0 (.cells #[.int .i64 k, .int .i64 n, .string s] 23) (.cells #[.int .i64 k', .int .i64 n', .string s'] 23))
    clear hB0
    have BA := (Blk3.new w 23 (.int .i64 k) (.int .i64 n) (.string s)).alloc (.cells #[.int .i64 k', .int .i64 n', .string s'] 23)
    have BB := Blk3.new1 w (.cells #[.int .i64 k, .int .i64 n, .string s] 23) 23 (.int .i64 k') (.int .i64 n') (.string s')
    have HF := fun c hc w => hide (value_fault c hc w)
    go_enter Tryd.func12, Tryd.ntmps12
    go_wp2_with (go_at_call 28; refine (unhide (HF _ (by decide) _)).mono ?_; rintro e w' ⟨v, rfl, he, hb⟩)
    go_ret2
    exact .err rfl he (Below.andThen (unhide HBW) hb)
  by_cases g2 : 10 < op
  · clear h
    have hB0 : ∀ o o', Below w.heap.size w ((w.alloc o).alloc o') := fun o o' => ((Below.refl _ _).alloc (Nat.le_refl _) o).alloc (by simp) o'
    have HBW := hide (hB0 (.cells #[.int .i64 k, .int .i64 n, .string s] 23) (.cells #[.int .i64 k', .int .i64 n', .string s'] 23))
    clear hB0
    have BA := (Blk3.new w 23 (.int .i64 k) (.int .i64 n) (.string s)).alloc (.cells #[.int .i64 k', .int .i64 n', .string s'] 23)
    have BB := Blk3.new1 w (.cells #[.int .i64 k, .int .i64 n, .string s] 23) 23 (.int .i64 k') (.int .i64 n') (.string s')
    have HF := fun c hc w => hide (value_fault c hc w)
    go_enter Tryd.func12, Tryd.ntmps12
    go_wp2_with (go_at_call 28; refine (unhide (HF _ (by decide) _)).mono ?_; rintro e w' ⟨v, rfl, he, hb⟩)
    go_ret2
    exact .err rfl he (Below.andThen (unhide HBW) hb)
  have h1 : mayB k n s = true ∨ mayB k n s = false := by cases mayB k n s <;> simp
  rcases h1 with h1 | h1
  · replace h : mayB k' n' s' = false := by
      rcases h with h | h | h | h
      · omega
      · omega
      · rw [h1] at h; cases h
      · exact h
    have hB0 : ∀ o o', Below w.heap.size w ((w.alloc o).alloc o') := fun o o' => ((Below.refl _ _).alloc (Nat.le_refl _) o).alloc (by simp) o'
    have HBW := hide (hB0 (.cells #[.int .i64 k, .int .i64 n, .string s] 23) (.cells #[.int .i64 k', .int .i64 n', .string s'] 23))
    clear hB0
    have BA := (Blk3.new w 23 (.int .i64 k) (.int .i64 n) (.string s)).alloc (.cells #[.int .i64 k', .int .i64 n', .string s'] 23)
    have BB := Blk3.new1 w (.cells #[.int .i64 k, .int .i64 n, .string s] 23) 23 (.int .i64 k') (.int .i64 n') (.string s')
    have HF := fun c hc w => hide (value_fault c hc w)
    go_enter Tryd.func12, Tryd.ntmps12
    go_wp2_with (go_at_call 6; with_reducible refine (unhide (hI1 _)).mono ?_; rintro e w1 ⟨rfl, hb1⟩; replace BA := BA.below hb1; replace BB := BB.below hb1; obtain ⟨a0, a1, a2, fA⟩ := BA.cells; obtain ⟨b0, b1, b2, fB⟩ := BB.cells; replace HBW := hide (Below.andThen (unhide HBW) hb1); clear hb1 hI1)
    refine (unhide (hI2 _)).mono ?_
    rintro e w2 ⟨rfl, hb2⟩
    replace HBW := hide (Below.andThen (unhide HBW) hb2)
    clear hb2
    go_wp2_with (go_at_call 28; refine (unhide (HF _ (by decide) _)).mono ?_; rintro e w' ⟨v, rfl, he, hb⟩)
    go_ret2
    exact .err rfl he (Below.andThen (unhide HBW) hb)
  · clear h
    have hB0 : ∀ o o', Below w.heap.size w ((w.alloc o).alloc o') := fun o o' => ((Below.refl _ _).alloc (Nat.le_refl _) o).alloc (by simp) o'
    have HBW := hide (hB0 (.cells #[.int .i64 k, .int .i64 n, .string s] 23) (.cells #[.int .i64 k', .int .i64 n', .string s'] 23))
    clear hB0
    have BA := (Blk3.new w 23 (.int .i64 k) (.int .i64 n) (.string s)).alloc (.cells #[.int .i64 k', .int .i64 n', .string s'] 23)
    have BB := Blk3.new1 w (.cells #[.int .i64 k, .int .i64 n, .string s] 23) 23 (.int .i64 k') (.int .i64 n') (.string s')
    have HF := fun c hc w => hide (value_fault c hc w)
    go_enter Tryd.func12, Tryd.ntmps12
    go_wp2_with fail
    refine (unhide (hI1 _)).mono ?_
    rintro e w1 ⟨rfl, hb1⟩
    replace HBW := hide (Below.andThen (unhide HBW) hb1)
    clear hb1
    go_wp2_with (go_at_call 28; refine (unhide (HF _ (by decide) _)).mono ?_; rintro e w' ⟨v, rfl, he, hb⟩)
    go_ret2
    exact .err rfl he (Below.andThen (unhide HBW) hb)

set_option maxRecDepth 100000 in
set_option maxHeartbeats 1000000 in
theorem test_null (op k n : Int) (s : ByteArray) (k' n' : Int) (s' : ByteArray) (w : World) (hs : s.size ≤ 9223372036854775807) (hs' : s'.size ≤ 9223372036854775807)
    (g1 : ¬ op < 5) (g2 : ¬ 10 < op) (h1 : mayB k n s = true) (h2 : mayB k' n' s' = true) (h : k = 0 ∨ k' = 0) :
    Calls Tryd.prog 12 #[.int .i64 op, .agg #[.int .i64 k, .int .i64 n, .string s], .agg #[.int .i64 k', .int .i64 n', .string s']] w (RPost w (2, 0)) := by
  have hI1 := fun w => hide (value_Is k n s w hs)
  have hI2 := fun w => hide (value_Is k' n' s' w hs')
  by_cases hk : k = 0
  · have q : (k == 0) = true := by simpa using hk
    clear h hk
    have hB0 : ∀ o o', Below w.heap.size w ((w.alloc o).alloc o') := fun o o' => ((Below.refl _ _).alloc (Nat.le_refl _) o).alloc (by simp) o'
    have HBW := hide (hB0 (.cells #[.int .i64 k, .int .i64 n, .string s] 23) (.cells #[.int .i64 k', .int .i64 n', .string s'] 23))
    clear hB0
    have BA := (Blk3.new w 23 (.int .i64 k) (.int .i64 n) (.string s)).alloc (.cells #[.int .i64 k', .int .i64 n', .string s'] 23)
    have BB := Blk3.new1 w (.cells #[.int .i64 k, .int .i64 n, .string s] 23) 23 (.int .i64 k') (.int .i64 n') (.string s')
    have HF := fun c hc w => hide (value_fault c hc w)
    go_enter Tryd.func12, Tryd.ntmps12
    go_wp2_with (go_at_call 6; with_reducible refine (unhide (hI1 _)).mono ?_; rintro e w1 ⟨rfl, hb1⟩; replace BA := BA.below hb1; replace BB := BB.below hb1; obtain ⟨a0, a1, a2, fA⟩ := BA.cells; obtain ⟨b0, b1, b2, fB⟩ := BB.cells; replace HBW := hide (Below.andThen (unhide HBW) hb1); clear hb1 hI1)
    refine (unhide (hI2 _)).mono ?_
    rintro e w2 ⟨rfl, hb2⟩
    replace BA := BA.below hb2
    replace BB := BB.below hb2
    obtain ⟨a0, a1, a2, fA⟩ := BA.cells
    obtain ⟨b0, b1, b2, fB⟩ := BB.cells
    replace HBW := hide (Below.andThen (unhide HBW) hb2)
    clear hb2
    go_wp2
    go_ret2
    exact ⟨_, rfl, .inl ⟨rfl, rfl⟩, unhide HBW⟩
  · have hk' : k' = 0 := by omega
    have q : (k == 0) = false := by simpa using hk
    have q' : (k' == 0) = true := by simpa using hk'
    clear h hk hk'
    have hB0 : ∀ o o', Below w.heap.size w ((w.alloc o).alloc o') := fun o o' => ((Below.refl _ _).alloc (Nat.le_refl _) o).alloc (by simp) o'
    have HBW := hide (hB0 (.cells #[.int .i64 k, .int .i64 n, .string s] 23) (.cells #[.int .i64 k', .int .i64 n', .string s'] 23))
    clear hB0
    have BA := (Blk3.new w 23 (.int .i64 k) (.int .i64 n) (.string s)).alloc (.cells #[.int .i64 k', .int .i64 n', .string s'] 23)
    have BB := Blk3.new1 w (.cells #[.int .i64 k, .int .i64 n, .string s] 23) 23 (.int .i64 k') (.int .i64 n') (.string s')
    have HF := fun c hc w => hide (value_fault c hc w)
    go_enter Tryd.func12, Tryd.ntmps12
    go_wp2_with (go_at_call 6; with_reducible refine (unhide (hI1 _)).mono ?_; rintro e w1 ⟨rfl, hb1⟩; replace BA := BA.below hb1; replace BB := BB.below hb1; obtain ⟨a0, a1, a2, fA⟩ := BA.cells; obtain ⟨b0, b1, b2, fB⟩ := BB.cells; replace HBW := hide (Below.andThen (unhide HBW) hb1); clear hb1 hI1)
    refine (unhide (hI2 _)).mono ?_
    rintro e w2 ⟨rfl, hb2⟩
    replace BA := BA.below hb2
    replace BB := BB.below hb2
    obtain ⟨a0, a1, a2, fA⟩ := BA.cells
    obtain ⟨b0, b1, b2, fB⟩ := BB.cells
    replace HBW := hide (Below.andThen (unhide HBW) hb2)
    clear hb2
    go_wp2
    go_ret2
    exact ⟨_, rfl, .inl ⟨rfl, rfl⟩, unhide HBW⟩

set_option maxRecDepth 100000 in
set_option maxHeartbeats 1000000 in
theorem test_type (op k n : Int) (s : ByteArray) (k' n' : Int) (s' : ByteArray) (w : World) (hs : s.size ≤ 9223372036854775807) (hs' : s'.size ≤ 9223372036854775807)
    (g1 : ¬ op < 5) (g2 : ¬ 10 < op) (h1 : mayB k n s = true) (h2 : mayB k' n' s' = true) (hk : k ≠ 0) (hk' : k' ≠ 0) (h : k ≠ k') :
    Calls Tryd.prog 12 #[.int .i64 op, .agg #[.int .i64 k, .int .i64 n, .string s], .agg #[.int .i64 k', .int .i64 n', .string s']] w (RPost w (0, 4)) := by
  have hI1 := fun w => hide (value_Is k n s w hs)
  have hI2 := fun w => hide (value_Is k' n' s' w hs')
  have q : (k == 0) = false := by simpa using hk
  have q' : (k' == 0) = false := by simpa using hk'
  have q2 : (k != k') = true := by simpa using h
  clear h hk hk'
  have hB0 : ∀ o o', Below w.heap.size w ((w.alloc o).alloc o') := fun o o' => ((Below.refl _ _).alloc (Nat.le_refl _) o).alloc (by simp) o'
  have HBW := hide (hB0 (.cells #[.int .i64 k, .int .i64 n, .string s] 23) (.cells #[.int .i64 k', .int .i64 n', .string s'] 23))
  clear hB0
  have BA := (Blk3.new w 23 (.int .i64 k) (.int .i64 n) (.string s)).alloc (.cells #[.int .i64 k', .int .i64 n', .string s'] 23)
  have BB := Blk3.new1 w (.cells #[.int .i64 k, .int .i64 n, .string s] 23) 23 (.int .i64 k') (.int .i64 n') (.string s')
  have HF := fun c hc w => hide (value_fault c hc w)
  go_enter Tryd.func12, Tryd.ntmps12
  go_wp2_with (go_at_call 6; with_reducible refine (unhide (hI1 _)).mono ?_; rintro e w1 ⟨rfl, hb1⟩; replace BA := BA.below hb1; replace BB := BB.below hb1; obtain ⟨a0, a1, a2, fA⟩ := BA.cells; obtain ⟨b0, b1, b2, fB⟩ := BB.cells; replace HBW := hide (Below.andThen (unhide HBW) hb1); clear hb1 hI1)
  refine (unhide (hI2 _)).mono ?_
  rintro e w2 ⟨rfl, hb2⟩
  replace BA := BA.below hb2
  replace BB := BB.below hb2
  obtain ⟨a0, a1, a2, fA⟩ := BA.cells
  obtain ⟨b0, b1, b2, fB⟩ := BB.cells
  replace HBW := hide (Below.andThen (unhide HBW) hb2)
  clear hb2
  go_wp2_with (go_at_call 28; refine (unhide (HF _ (by decide) _)).mono ?_; rintro e w' ⟨v, rfl, he, hb⟩)
  go_ret2
  exact .err rfl he (Below.andThen (unhide HBW) hb)

set_option maxRecDepth 100000 in
set_option maxHeartbeats 1000000 in
theorem test_same (op k n : Int) (s : ByteArray) (n' : Int) (s' : ByteArray) (w : World) (hs : s.size ≤ 9223372036854775807) (hs' : s'.size ≤ 9223372036854775807)
    (g1 : ¬ op < 5) (g2 : ¬ 10 < op) (h1 : mayB k n s = true) (h2 : mayB k n' s' = true) (hk : k ≠ 0) :
    Calls Tryd.prog 12 #[.int .i64 op, .agg #[.int .i64 k, .int .i64 n, .string s], .agg #[.int .i64 k, .int .i64 n', .string s']] w (RPost w (tr (testB op (compareV k n s k n' s')), 0)) := by
  have hI1 := fun w => hide (value_Is k n s w hs)
  have hI2 := fun w => hide (value_Is k n' s' w hs')
  have hC := fun w => hide (value_Compare k n s k n' s' w hs hs')
  have q : (k == 0) = false := by simpa using hk
  have ho : op = 5 ∨ op = 6 ∨ op = 7 ∨ op = 8 ∨ op = 9 ∨ op = 10 := by omega
  generalize compareV k n s k n' s' = c at *
  clear hk
  have hB0 : ∀ o o', Below w.heap.size w ((w.alloc o).alloc o') := fun o o' => ((Below.refl _ _).alloc (Nat.le_refl _) o).alloc (by simp) o'
  have HBW := hide (hB0 (.cells #[.int .i64 k, .int .i64 n, .string s] 23) (.cells #[.int .i64 k, .int .i64 n', .string s'] 23))
  clear hB0
  have BA := (Blk3.new w 23 (.int .i64 k) (.int .i64 n) (.string s)).alloc (.cells #[.int .i64 k, .int .i64 n', .string s'] 23)
  have BB := Blk3.new1 w (.cells #[.int .i64 k, .int .i64 n, .string s] 23) 23 (.int .i64 k) (.int .i64 n') (.string s')
  rcases ho with rfl | rfl | rfl | rfl | rfl | rfl
  all_goals
    clear g1 g2
    go_enter Tryd.func12, Tryd.ntmps12
    go_wp2_with (go_at_call 6; with_reducible refine (unhide (hI1 _)).mono ?_; rintro e w1 ⟨rfl, hb1⟩; replace BA := BA.below hb1; replace BB := BB.below hb1; obtain ⟨a0, a1, a2, fA⟩ := BA.cells; obtain ⟨b0, b1, b2, fB⟩ := BB.cells; replace HBW := hide (Below.andThen (unhide HBW) hb1); clear hb1 hI1)
    refine (unhide (hI2 _)).mono ?_
    rintro e w2 ⟨rfl, hb2⟩
    replace BA := BA.below hb2
    replace BB := BB.below hb2
    obtain ⟨a0, a1, a2, fA⟩ := BA.cells
    obtain ⟨b0, b1, b2, fB⟩ := BB.cells
    replace HBW := hide (Below.andThen (unhide HBW) hb2)
    clear hb2
    go_wp2_with (first
      | (go_at_call 8; refine (unhide (hC _)).mono ?_; rintro e w3 ⟨rfl, hb3⟩; replace HBW := hide (Below.andThen (unhide HBW) hb3); clear hb3)
      | (go_at_call 29; refine (value_Truth _ _).mono ?_; rintro e w4 ⟨rfl, rfl⟩))
    go_ret2
    refine ⟨_, by simp [testB, tr], .inl ⟨rfl, rfl⟩, unhide HBW⟩

theorem value_Test (op k n : Int) (s : ByteArray) (k' n' : Int) (s' : ByteArray) (w : World) (hs : s.size ≤ 9223372036854775807) (hs' : s'.size ≤ 9223372036854775807) :
    Calls Tryd.prog 12 #[.int .i64 op, .agg #[.int .i64 k, .int .i64 n, .string s], .agg #[.int .i64 k', .int .i64 n', .string s']] w (RPost w (testR op k n s k' n' s')) := by
  by_cases h : op < 5 ∨ 10 < op ∨ mayB k n s = false ∨ mayB k' n' s' = false
  · rw [testR_out h]; exact test_out op k n s k' n' s' w hs hs' h
  · have h1 : mayB k n s = true := by simpa using fun h' => h (.inr (.inr (.inl h')))
    have h2 : mayB k' n' s' = true := by simpa using fun h' => h (.inr (.inr (.inr h')))
    have g1 : ¬ op < 5 := fun h' => h (.inl h')
    have g2 : ¬ 10 < op := fun h' => h (.inr (.inl h'))
    by_cases hz : k = 0 ∨ k' = 0
    · rw [show testR op k n s k' n' s' = (2, 0) from by unfold testR; rw [if_neg h, if_pos hz]]
      exact test_null op k n s k' n' s' w hs hs' g1 g2 h1 h2 hz
    · by_cases ht : k = k'
      · subst ht
        rw [show testR op k n s k n' s' = (tr (testB op (compareV k n s k n' s')), 0) from by unfold testR; rw [if_neg h, if_neg hz, if_neg (by simp)]]
        exact test_same op k n s n' s' w hs hs' g1 g2 h1 h2 (fun h' => hz (.inl h'))
      · rw [show testR op k n s k' n' s' = (0, 4) from by unfold testR; rw [if_neg h, if_neg hz, if_pos ht]]
        exact test_type op k n s k' n' s' w hs hs' g1 g2 h1 h2 (fun h' => hz (.inl h')) (fun h' => hz (.inr h')) ht

/-! ### And, Or, Not -/
theorem beq_dec (x y : Int) : (x == y) = decide (x = y) := by by_cases h : x = y <;> simp [h]

theorem ref6_Num (n : Int) (w : World) : Calls Tryd.prog 17 #[.int .i64 n] w fun e w' => e = .returned (.agg #[.int .i64 2, .int .i64 n, .string ⟨#[]⟩]) ∧ Below w.heap.size w w' := by
  have hB := hide ((Below.refl w.heap.size w).alloc (Nat.le_refl _) (.cells #[.int .i64 0, .int .i64 0, .string ⟨#[]⟩] 23))
  go_enter Tryd.func17, Tryd.ntmps17
  go_wp2
  exact bodyPost_ret (v := .agg #[.int .i64 2, .int .i64 n, .string ⟨#[]⟩]) (by simp [results, Tryd.results17, go_sem]) rfl ⟨rfl, (Below.refl _ _).alloc (Nat.le_refl _) _⟩

/-! ### Do -/
/-- What Do answers: kind, number, text; the class of the error (0: none). -/
def doR (op k n : Int) (s : ByteArray) (k' n' : Int) (s' : ByteArray) : Int × Int × ByteArray × Int :=
  if (op ≠ 1 ∧ (op < 11 ∨ 16 < op)) ∨ mayB k n s = false ∨ (op ≠ 1 ∧ mayB k' n' s' = false) then (0, 0, ⟨#[]⟩, 20)
  else if k = 0 ∨ (op ≠ 1 ∧ k' = 0) then (0, 0, ⟨#[]⟩, 0)
  else if op = 16 then
    if k ≠ 3 ∨ k' ≠ 3 then (0, 0, ⟨#[]⟩, 4)
    else if 40 < (s.size : Int) + s'.size then (0, 0, ⟨#[]⟩, 6) else (3, 0, s ++ s', 0)
  else if k ≠ 2 ∨ (op ≠ 1 ∧ k' ≠ 2) then (0, 0, ⟨#[]⟩, 4)
  else if (reckonR op n n').2 = 0 then (2, (reckonR op n n').1, ⟨#[]⟩, 0) else (0, 0, ⟨#[]⟩, (reckonR op n n').2)
def DPost (w : World) (r : Int × Int × ByteArray × Int) (e : Ending) (w' : World) : Prop :=
  ∃ v, e = .returned (.tuple #[.agg #[.int .i64 r.1, .int .i64 r.2.1, .string r.2.2.1], v]) ∧ IsErr w' v r.2.2.2 ∧ Below w.heap.size w w'
end Go.Proofs.YtjcpmdbgjjmcdaaDoor

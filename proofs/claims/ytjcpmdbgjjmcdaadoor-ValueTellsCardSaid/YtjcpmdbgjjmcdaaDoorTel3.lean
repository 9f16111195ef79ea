/- consistoryref6.Do: contract. -/
import Derived.Test.YtjcpmdbgjjmcdaaDoorTel1
import Derived.Test.YtjcpmdbgjjmcdaaDoorTel2
import Derived.Test.YtjcpmdbgjjmcdaaDoorVal6
set_option linter.all false
namespace Go.Proofs.YtjcpmdbgjjmcdaaDoor
open Go.RowKit Go.Lib

def D6 (w : World) (r : Int × Int × ByteArray × Int) (e : Ending) (w' : World) : Prop := e = .returned (.tuple #[.agg #[.int .i64 r.1, .int .i64 r.2.1, .string r.2.2.1], .int .i64 r.2.2.2]) ∧ Below w.heap.size w w'
set_option maxRecDepth 100000 in
set_option maxHeartbeats 1000000 in
theorem do6_op
    (op k n : Int) (s : ByteArray) (k' n' : Int) (s' : ByteArray) (w : World) (hs : s.size ≤ 2305843009213693952) (hs' : s'.size ≤ 2305843009213693952)
    (h1 : op ≠ 1) (h2 : op < 11 ∨ 16 < op) :
    Calls Tryd.prog 16 #[.int .i64 op, .agg #[.int .i64 k, .int .i64 n, .string s], .agg #[.int .i64 k', .int .i64 n', .string s']] w (D6 w (0, 0, ⟨#[]⟩, 20)) := by
  have q1 : (op == 1) = false := by simpa using h1
  have q2 : (op == 16) = false := by rw [beq_eq_false_iff_ne]; omega
  have hI1 := fun w => hide (ref1_Is k n s w (by omega))
  have hI2 := fun w => hide (ref1_Is k' n' s' w (by omega))
  have hB0 : ∀ o o' o'', Below w.heap.size w (((w.alloc o).alloc o').alloc o'') := fun o o' o'' => (((Below.refl _ _).alloc (Nat.le_refl _) o).alloc (by simp) o').alloc (by simp; omega) o''
  have HBW := hide (hB0 (.cells #[.int .i64 k, .int .i64 n, .string s] 23) (.cells #[.int .i64 k', .int .i64 n', .string s'] 23) (.cells #[.int .i64 0, .int .i64 0, .string ⟨#[]⟩] 23))
  clear hB0
  have BA := ((Blk3.new w 23 (.int .i64 k) (.int .i64 n) (.string s)).alloc (.cells #[.int .i64 k', .int .i64 n', .string s'] 23)).alloc (.cells #[.int .i64 0, .int .i64 0, .string ⟨#[]⟩] 23)
  have BB := (Blk3.new1 w (.cells #[.int .i64 k, .int .i64 n, .string s] 23) 23 (.int .i64 k') (.int .i64 n') (.string s')).alloc (.cells #[.int .i64 0, .int .i64 0, .string ⟨#[]⟩] 23)
  have BR := Blk3.new2 w (.cells #[.int .i64 k, .int .i64 n, .string s] 23) (.cells #[.int .i64 k', .int .i64 n', .string s'] 23) 23 (.int .i64 0) (.int .i64 0) (.string ⟨#[]⟩)
  clear hI1 hI2
  by_cases g1 : op < 11
  · clear h2
    go_enter Tryd.func16, Tryd.ntmps16
    go_wp2
    exact bodyPost_ret (v := .tuple #[.agg #[.int .i64 0, .int .i64 0, .string ⟨#[]⟩], .int .i64 20]) (by simp [results, Tryd.results16, go_sem]) rfl ⟨rfl, unhide HBW⟩
  · have g2 : 16 < op := by omega
    clear h2
    go_enter Tryd.func16, Tryd.ntmps16
    go_wp2
    exact bodyPost_ret (v := .tuple #[.agg #[.int .i64 0, .int .i64 0, .string ⟨#[]⟩], .int .i64 20]) (by simp [results, Tryd.results16, go_sem]) rfl ⟨rfl, unhide HBW⟩
set_option maxRecDepth 100000 in
set_option maxHeartbeats 1000000 in
theorem do6_formA
    (op k n : Int) (s : ByteArray) (k' n' : Int) (s' : ByteArray) (w : World) (hs : s.size ≤ 2305843009213693952) (hs' : s'.size ≤ 2305843009213693952)
    (h1 : op = 1 ∨ (11 ≤ op ∧ op ≤ 16)) (m1 : mayB k n s = false) :
    Calls Tryd.prog 16 #[.int .i64 op, .agg #[.int .i64 k, .int .i64 n, .string s], .agg #[.int .i64 k', .int .i64 n', .string s']] w (D6 w (0, 0, ⟨#[]⟩, 20)) := by
  have hI1 := fun w => hide (ref1_Is k n s w (by omega))
  have hI2 := fun w => hide (ref1_Is k' n' s' w (by omega))
  have hB0 : ∀ o o' o'', Below w.heap.size w (((w.alloc o).alloc o').alloc o'') := fun o o' o'' => (((Below.refl _ _).alloc (Nat.le_refl _) o).alloc (by simp) o').alloc (by simp; omega) o''
  have HBW := hide (hB0 (.cells #[.int .i64 k, .int .i64 n, .string s] 23) (.cells #[.int .i64 k', .int .i64 n', .string s'] 23) (.cells #[.int .i64 0, .int .i64 0, .string ⟨#[]⟩] 23))
  clear hB0
  have BA := ((Blk3.new w 23 (.int .i64 k) (.int .i64 n) (.string s)).alloc (.cells #[.int .i64 k', .int .i64 n', .string s'] 23)).alloc (.cells #[.int .i64 0, .int .i64 0, .string ⟨#[]⟩] 23)
  have BB := (Blk3.new1 w (.cells #[.int .i64 k, .int .i64 n, .string s] 23) 23 (.int .i64 k') (.int .i64 n') (.string s')).alloc (.cells #[.int .i64 0, .int .i64 0, .string ⟨#[]⟩] 23)
  have BR := Blk3.new2 w (.cells #[.int .i64 k, .int .i64 n, .string s] 23) (.cells #[.int .i64 k', .int .i64 n', .string s'] 23) 23 (.int .i64 0) (.int .i64 0) (.string ⟨#[]⟩)
  rw [m1] at hI1
  rcases h1 with rfl | h1
  · go_enter Tryd.func16, Tryd.ntmps16
    go_wp2_with fail
    refine (unhide (hI1 _)).mono ?_
    rintro e w1 ⟨rfl, hb1⟩
    replace BA := BA.below hb1
    replace BB := BB.below hb1
    replace BR := BR.below hb1
    obtain ⟨a0, a1, a2, fA⟩ := BA.cells
    obtain ⟨b0, b1, b2, fB⟩ := BB.cells
    obtain ⟨r0, r1, r2, fR⟩ := BR.cells
    replace HBW := hide (Below.andThen (unhide HBW) hb1)
    clear hb1
    clear hI1
    go_wp2
    exact bodyPost_ret (v := .tuple #[.agg #[.int .i64 (0), .int .i64 (0), .string (⟨#[]⟩)], .int .i64 (20)]) (by simp [results, Tryd.results16, go_sem, r0, r1, r2]) rfl ⟨rfl, below_set3 (unhide HBW) (by omega) _ _ _⟩
  · have q1 : (op == 1) = false := by rw [beq_eq_false_iff_ne]; omega
    have g1 : ¬ op < 11 := by omega
    have g2 : ¬ 16 < op := by omega
    go_enter Tryd.func16, Tryd.ntmps16
    go_wp2_with fail
    refine (unhide (hI1 _)).mono ?_
    rintro e w1 ⟨rfl, hb1⟩
    replace BA := BA.below hb1
    replace BB := BB.below hb1
    replace BR := BR.below hb1
    obtain ⟨a0, a1, a2, fA⟩ := BA.cells
    obtain ⟨b0, b1, b2, fB⟩ := BB.cells
    obtain ⟨r0, r1, r2, fR⟩ := BR.cells
    replace HBW := hide (Below.andThen (unhide HBW) hb1)
    clear hb1
    clear hI1
    go_wp2
    exact bodyPost_ret (v := .tuple #[.agg #[.int .i64 (0), .int .i64 (0), .string (⟨#[]⟩)], .int .i64 (20)]) (by simp [results, Tryd.results16, go_sem, r0, r1, r2]) rfl ⟨rfl, below_set3 (unhide HBW) (by omega) _ _ _⟩
set_option maxRecDepth 100000 in
set_option maxHeartbeats 1000000 in
theorem do6_formB
    (op k n : Int) (s : ByteArray) (k' n' : Int) (s' : ByteArray) (w : World) (hs : s.size ≤ 2305843009213693952) (hs' : s'.size ≤ 2305843009213693952)
    (h1 : 11 ≤ op ∧ op ≤ 16) (m1 : mayB k n s = true) (m2 : mayB k' n' s' = false) :
    Calls Tryd.prog 16 #[.int .i64 op, .agg #[.int .i64 k, .int .i64 n, .string s], .agg #[.int .i64 k', .int .i64 n', .string s']] w (D6 w (0, 0, ⟨#[]⟩, 20)) := by
  have hI1 := fun w => hide (ref1_Is k n s w (by omega))
  have hI2 := fun w => hide (ref1_Is k' n' s' w (by omega))
  have hB0 : ∀ o o' o'', Below w.heap.size w (((w.alloc o).alloc o').alloc o'') := fun o o' o'' => (((Below.refl _ _).alloc (Nat.le_refl _) o).alloc (by simp) o').alloc (by simp; omega) o''
  have HBW := hide (hB0 (.cells #[.int .i64 k, .int .i64 n, .string s] 23) (.cells #[.int .i64 k', .int .i64 n', .string s'] 23) (.cells #[.int .i64 0, .int .i64 0, .string ⟨#[]⟩] 23))
  clear hB0
  have BA := ((Blk3.new w 23 (.int .i64 k) (.int .i64 n) (.string s)).alloc (.cells #[.int .i64 k', .int .i64 n', .string s'] 23)).alloc (.cells #[.int .i64 0, .int .i64 0, .string ⟨#[]⟩] 23)
  have BB := (Blk3.new1 w (.cells #[.int .i64 k, .int .i64 n, .string s] 23) 23 (.int .i64 k') (.int .i64 n') (.string s')).alloc (.cells #[.int .i64 0, .int .i64 0, .string ⟨#[]⟩] 23)
  have BR := Blk3.new2 w (.cells #[.int .i64 k, .int .i64 n, .string s] 23) (.cells #[.int .i64 k', .int .i64 n', .string s'] 23) 23 (.int .i64 0) (.int .i64 0) (.string ⟨#[]⟩)
  rw [m1] at hI1
  rw [m2] at hI2
  have q1 : (op == 1) = false := by rw [beq_eq_false_iff_ne]; omega
  have g1 : ¬ op < 11 := by omega
  have g2 : ¬ 16 < op := by omega
  go_enter Tryd.func16, Tryd.ntmps16
  go_wp2_with fail
  refine (unhide (hI1 _)).mono ?_
  rintro e w1 ⟨rfl, hb1⟩
  replace BA := BA.below hb1
  replace BB := BB.below hb1
  replace BR := BR.below hb1
  obtain ⟨a0, a1, a2, fA⟩ := BA.cells
  obtain ⟨b0, b1, b2, fB⟩ := BB.cells
  obtain ⟨r0, r1, r2, fR⟩ := BR.cells
  replace HBW := hide (Below.andThen (unhide HBW) hb1)
  clear hb1
  clear hI1
  go_wp2_with fail
  refine (unhide (hI2 _)).mono ?_
  rintro e w2 ⟨rfl, hb2⟩
  replace BA := BA.below hb2
  replace BB := BB.below hb2
  replace BR := BR.below hb2
  obtain ⟨a0, a1, a2, fA⟩ := BA.cells
  obtain ⟨b0, b1, b2, fB⟩ := BB.cells
  obtain ⟨r0, r1, r2, fR⟩ := BR.cells
  replace HBW := hide (Below.andThen (unhide HBW) hb2)
  clear hb2
  clear hI2
  go_wp2
  exact bodyPost_ret (v := .tuple #[.agg #[.int .i64 (0), .int .i64 (0), .string (⟨#[]⟩)], .int .i64 (20)]) (by simp [results, Tryd.results16, go_sem, r0, r1, r2]) rfl ⟨rfl, below_set3 (unhide HBW) (by omega) _ _ _⟩
set_option maxRecDepth 100000 in
set_option maxHeartbeats 1000000 in
theorem do6_null
    (op k n : Int) (s : ByteArray) (k' n' : Int) (s' : ByteArray) (w : World) (hs : s.size ≤ 2305843009213693952) (hs' : s'.size ≤ 2305843009213693952)
    (h1 : 11 ≤ op ∧ op ≤ 16) (m1 : mayB k n s = true) (m2 : mayB k' n' s' = true) (h : k = 0 ∨ k' = 0) :
    Calls Tryd.prog 16 #[.int .i64 op, .agg #[.int .i64 k, .int .i64 n, .string s], .agg #[.int .i64 k', .int .i64 n', .string s']] w (D6 w (0, 0, ⟨#[]⟩, 0)) := by
  have hI1 := fun w => hide (ref1_Is k n s w (by omega))
  have hI2 := fun w => hide (ref1_Is k' n' s' w (by omega))
  have hB0 : ∀ o o' o'', Below w.heap.size w (((w.alloc o).alloc o').alloc o'') := fun o o' o'' => (((Below.refl _ _).alloc (Nat.le_refl _) o).alloc (by simp) o').alloc (by simp; omega) o''
  have HBW := hide (hB0 (.cells #[.int .i64 k, .int .i64 n, .string s] 23) (.cells #[.int .i64 k', .int .i64 n', .string s'] 23) (.cells #[.int .i64 0, .int .i64 0, .string ⟨#[]⟩] 23))
  clear hB0
  have BA := ((Blk3.new w 23 (.int .i64 k) (.int .i64 n) (.string s)).alloc (.cells #[.int .i64 k', .int .i64 n', .string s'] 23)).alloc (.cells #[.int .i64 0, .int .i64 0, .string ⟨#[]⟩] 23)
  have BB := (Blk3.new1 w (.cells #[.int .i64 k, .int .i64 n, .string s] 23) 23 (.int .i64 k') (.int .i64 n') (.string s')).alloc (.cells #[.int .i64 0, .int .i64 0, .string ⟨#[]⟩] 23)
  have BR := Blk3.new2 w (.cells #[.int .i64 k, .int .i64 n, .string s] 23) (.cells #[.int .i64 k', .int .i64 n', .string s'] 23) 23 (.int .i64 0) (.int .i64 0) (.string ⟨#[]⟩)
  rw [m1] at hI1
  rw [m2] at hI2
  have q1 : (op == 1) = false := by rw [beq_eq_false_iff_ne]; omega
  have g1 : ¬ op < 11 := by omega
  have g2 : ¬ 16 < op := by omega
  by_cases hk : k = 0
  · have q4 : (k == 0) = true := by simpa using hk
    clear h hk
    go_enter Tryd.func16, Tryd.ntmps16
    go_wp2_with fail
    refine (unhide (hI1 _)).mono ?_
    rintro e w1 ⟨rfl, hb1⟩
    replace BA := BA.below hb1
    replace BB := BB.below hb1
    replace BR := BR.below hb1
    obtain ⟨a0, a1, a2, fA⟩ := BA.cells
    obtain ⟨b0, b1, b2, fB⟩ := BB.cells
    obtain ⟨r0, r1, r2, fR⟩ := BR.cells
    replace HBW := hide (Below.andThen (unhide HBW) hb1)
    clear hb1
    clear hI1
    go_wp2_with fail
    refine (unhide (hI2 _)).mono ?_
    rintro e w2 ⟨rfl, hb2⟩
    replace BA := BA.below hb2
    replace BB := BB.below hb2
    replace BR := BR.below hb2
    obtain ⟨a0, a1, a2, fA⟩ := BA.cells
    obtain ⟨b0, b1, b2, fB⟩ := BB.cells
    obtain ⟨r0, r1, r2, fR⟩ := BR.cells
    replace HBW := hide (Below.andThen (unhide HBW) hb2)
    clear hb2
    clear hI2
    go_wp2
    exact bodyPost_ret (v := .tuple #[.agg #[.int .i64 (0), .int .i64 (0), .string (⟨#[]⟩)], .int .i64 (0)]) (by simp [results, Tryd.results16, go_sem, r0, r1, r2]) rfl ⟨rfl, below_set3 (unhide HBW) (by omega) _ _ _⟩
  · have q5 : (k' == 0) = true := by rw [beq_iff_eq]; omega
    have q4 : (k == 0) = false := by simpa using hk
    clear h hk
    go_enter Tryd.func16, Tryd.ntmps16
    go_wp2_with fail
    refine (unhide (hI1 _)).mono ?_
    rintro e w1 ⟨rfl, hb1⟩
    replace BA := BA.below hb1
    replace BB := BB.below hb1
    replace BR := BR.below hb1
    obtain ⟨a0, a1, a2, fA⟩ := BA.cells
    obtain ⟨b0, b1, b2, fB⟩ := BB.cells
    obtain ⟨r0, r1, r2, fR⟩ := BR.cells
    replace HBW := hide (Below.andThen (unhide HBW) hb1)
    clear hb1
    clear hI1
    go_wp2_with fail
    refine (unhide (hI2 _)).mono ?_
    rintro e w2 ⟨rfl, hb2⟩
    replace BA := BA.below hb2
    replace BB := BB.below hb2
    replace BR := BR.below hb2
    obtain ⟨a0, a1, a2, fA⟩ := BA.cells
    obtain ⟨b0, b1, b2, fB⟩ := BB.cells
    obtain ⟨r0, r1, r2, fR⟩ := BR.cells
    replace HBW := hide (Below.andThen (unhide HBW) hb2)
    clear hb2
    clear hI2
    go_wp2
    exact bodyPost_ret (v := .tuple #[.agg #[.int .i64 (0), .int .i64 (0), .string (⟨#[]⟩)], .int .i64 (0)]) (by simp [results, Tryd.results16, go_sem, r0, r1, r2]) rfl ⟨rfl, below_set3 (unhide HBW) (by omega) _ _ _⟩
set_option maxRecDepth 100000 in
set_option maxHeartbeats 1000000 in
theorem do6_type
    (op k n : Int) (s : ByteArray) (k' n' : Int) (s' : ByteArray) (w : World) (hs : s.size ≤ 2305843009213693952) (hs' : s'.size ≤ 2305843009213693952)
    (h1 : 11 ≤ op ∧ op ≤ 16) (m1 : mayB k n s = true) (m2 : mayB k' n' s' = true) (z1 : k ≠ 0) (z2 : k' ≠ 0) (h : (op = 16 ∧ (k ≠ 3 ∨ k' ≠ 3)) ∨ (op ≠ 16 ∧ (k ≠ 2 ∨ k' ≠ 2))) :
    Calls Tryd.prog 16 #[.int .i64 op, .agg #[.int .i64 k, .int .i64 n, .string s], .agg #[.int .i64 k', .int .i64 n', .string s']] w (D6 w (0, 0, ⟨#[]⟩, 4)) := by
  have hI1 := fun w => hide (ref1_Is k n s w (by omega))
  have hI2 := fun w => hide (ref1_Is k' n' s' w (by omega))
  have hB0 : ∀ o o' o'', Below w.heap.size w (((w.alloc o).alloc o').alloc o'') := fun o o' o'' => (((Below.refl _ _).alloc (Nat.le_refl _) o).alloc (by simp) o').alloc (by simp; omega) o''
  have HBW := hide (hB0 (.cells #[.int .i64 k, .int .i64 n, .string s] 23) (.cells #[.int .i64 k', .int .i64 n', .string s'] 23) (.cells #[.int .i64 0, .int .i64 0, .string ⟨#[]⟩] 23))
  clear hB0
  have BA := ((Blk3.new w 23 (.int .i64 k) (.int .i64 n) (.string s)).alloc (.cells #[.int .i64 k', .int .i64 n', .string s'] 23)).alloc (.cells #[.int .i64 0, .int .i64 0, .string ⟨#[]⟩] 23)
  have BB := (Blk3.new1 w (.cells #[.int .i64 k, .int .i64 n, .string s] 23) 23 (.int .i64 k') (.int .i64 n') (.string s')).alloc (.cells #[.int .i64 0, .int .i64 0, .string ⟨#[]⟩] 23)
  have BR := Blk3.new2 w (.cells #[.int .i64 k, .int .i64 n, .string s] 23) (.cells #[.int .i64 k', .int .i64 n', .string s'] 23) 23 (.int .i64 0) (.int .i64 0) (.string ⟨#[]⟩)
  rw [m1] at hI1
  rw [m2] at hI2
  have q1 : (op == 1) = false := by rw [beq_eq_false_iff_ne]; omega
  have g1 : ¬ op < 11 := by omega
  have g2 : ¬ 16 < op := by omega
  have q4 : (k == 0) = false := by simpa using z1
  have q5 : (k' == 0) = false := by simpa using z2
  clear z1 z2
  rcases h with ⟨rfl, h⟩ | ⟨ho, h⟩
  · by_cases hk : k = 3
    · have q6 : (k == 3) = true := by simpa using hk
      have q6n : (k != 3) = false := by unfold bne; rw [q6]; rfl
      have q7 : (k' == 3) = false := by rw [beq_eq_false_iff_ne]; omega
      have q7n : (k' != 3) = true := by unfold bne; rw [q7]; rfl
      clear h hk
      go_enter Tryd.func16, Tryd.ntmps16
      go_wp2_with fail
      refine (unhide (hI1 _)).mono ?_
      rintro e w1 ⟨rfl, hb1⟩
      replace BA := BA.below hb1
      replace BB := BB.below hb1
      replace BR := BR.below hb1
      obtain ⟨a0, a1, a2, fA⟩ := BA.cells
      obtain ⟨b0, b1, b2, fB⟩ := BB.cells
      obtain ⟨r0, r1, r2, fR⟩ := BR.cells
      replace HBW := hide (Below.andThen (unhide HBW) hb1)
      clear hb1
      clear hI1
      go_wp2_with fail
      refine (unhide (hI2 _)).mono ?_
      rintro e w2 ⟨rfl, hb2⟩
      replace BA := BA.below hb2
      replace BB := BB.below hb2
      replace BR := BR.below hb2
      obtain ⟨a0, a1, a2, fA⟩ := BA.cells
      obtain ⟨b0, b1, b2, fB⟩ := BB.cells
      obtain ⟨r0, r1, r2, fR⟩ := BR.cells
      replace HBW := hide (Below.andThen (unhide HBW) hb2)
      clear hb2
      clear hI2
      go_wp2
      exact bodyPost_ret (v := .tuple #[.agg #[.int .i64 (0), .int .i64 (0), .string (⟨#[]⟩)], .int .i64 (4)]) (by simp [results, Tryd.results16, go_sem, r0, r1, r2]) rfl ⟨rfl, below_set3 (unhide HBW) (by omega) _ _ _⟩
    · have q6 : (k == 3) = false := by simpa using hk
      have q6n : (k != 3) = true := by unfold bne; rw [q6]; rfl
      clear h hk
      go_enter Tryd.func16, Tryd.ntmps16
      go_wp2_with fail
      refine (unhide (hI1 _)).mono ?_
      rintro e w1 ⟨rfl, hb1⟩
      replace BA := BA.below hb1
      replace BB := BB.below hb1
      replace BR := BR.below hb1
      obtain ⟨a0, a1, a2, fA⟩ := BA.cells
      obtain ⟨b0, b1, b2, fB⟩ := BB.cells
      obtain ⟨r0, r1, r2, fR⟩ := BR.cells
      replace HBW := hide (Below.andThen (unhide HBW) hb1)
      clear hb1
      clear hI1
      go_wp2_with fail
      refine (unhide (hI2 _)).mono ?_
      rintro e w2 ⟨rfl, hb2⟩
      replace BA := BA.below hb2
      replace BB := BB.below hb2
      replace BR := BR.below hb2
      obtain ⟨a0, a1, a2, fA⟩ := BA.cells
      obtain ⟨b0, b1, b2, fB⟩ := BB.cells
      obtain ⟨r0, r1, r2, fR⟩ := BR.cells
      replace HBW := hide (Below.andThen (unhide HBW) hb2)
      clear hb2
      clear hI2
      go_wp2
      exact bodyPost_ret (v := .tuple #[.agg #[.int .i64 (0), .int .i64 (0), .string (⟨#[]⟩)], .int .i64 (4)]) (by simp [results, Tryd.results16, go_sem, r0, r1, r2]) rfl ⟨rfl, below_set3 (unhide HBW) (by omega) _ _ _⟩
  · have q2 : (op == 16) = false := by simpa using ho
    by_cases hk : k = 2
    · have q6 : (k == 2) = true := by simpa using hk
      have q6n : (k != 2) = false := by unfold bne; rw [q6]; rfl
      have q7 : (k' == 2) = false := by rw [beq_eq_false_iff_ne]; omega
      have q7n : (k' != 2) = true := by unfold bne; rw [q7]; rfl
      clear h hk
      go_enter Tryd.func16, Tryd.ntmps16
      go_wp2_with fail
      refine (unhide (hI1 _)).mono ?_
      rintro e w1 ⟨rfl, hb1⟩
      replace BA := BA.below hb1
      replace BB := BB.below hb1
      replace BR := BR.below hb1
      obtain ⟨a0, a1, a2, fA⟩ := BA.cells
      obtain ⟨b0, b1, b2, fB⟩ := BB.cells
      obtain ⟨r0, r1, r2, fR⟩ := BR.cells
      replace HBW := hide (Below.andThen (unhide HBW) hb1)
      clear hb1
      clear hI1
      go_wp2_with fail
      refine (unhide (hI2 _)).mono ?_
      rintro e w2 ⟨rfl, hb2⟩
      replace BA := BA.below hb2
      replace BB := BB.below hb2
      replace BR := BR.below hb2
      obtain ⟨a0, a1, a2, fA⟩ := BA.cells
      obtain ⟨b0, b1, b2, fB⟩ := BB.cells
      obtain ⟨r0, r1, r2, fR⟩ := BR.cells
      replace HBW := hide (Below.andThen (unhide HBW) hb2)
      clear hb2
      clear hI2
      go_wp2
      exact bodyPost_ret (v := .tuple #[.agg #[.int .i64 (0), .int .i64 (0), .string (⟨#[]⟩)], .int .i64 (4)]) (by simp [results, Tryd.results16, go_sem, r0, r1, r2]) rfl ⟨rfl, below_set3 (unhide HBW) (by omega) _ _ _⟩
    · have q6 : (k == 2) = false := by simpa using hk
      have q6n : (k != 2) = true := by unfold bne; rw [q6]; rfl
      clear h hk
      go_enter Tryd.func16, Tryd.ntmps16
      go_wp2_with fail
      refine (unhide (hI1 _)).mono ?_
      rintro e w1 ⟨rfl, hb1⟩
      replace BA := BA.below hb1
      replace BB := BB.below hb1
      replace BR := BR.below hb1
      obtain ⟨a0, a1, a2, fA⟩ := BA.cells
      obtain ⟨b0, b1, b2, fB⟩ := BB.cells
      obtain ⟨r0, r1, r2, fR⟩ := BR.cells
      replace HBW := hide (Below.andThen (unhide HBW) hb1)
      clear hb1
      clear hI1
      go_wp2_with fail
      refine (unhide (hI2 _)).mono ?_
      rintro e w2 ⟨rfl, hb2⟩
      replace BA := BA.below hb2
      replace BB := BB.below hb2
      replace BR := BR.below hb2
      obtain ⟨a0, a1, a2, fA⟩ := BA.cells
      obtain ⟨b0, b1, b2, fB⟩ := BB.cells
      obtain ⟨r0, r1, r2, fR⟩ := BR.cells
      replace HBW := hide (Below.andThen (unhide HBW) hb2)
      clear hb2
      clear hI2
      go_wp2
      exact bodyPost_ret (v := .tuple #[.agg #[.int .i64 (0), .int .i64 (0), .string (⟨#[]⟩)], .int .i64 (4)]) (by simp [results, Tryd.results16, go_sem, r0, r1, r2]) rfl ⟨rfl, below_set3 (unhide HBW) (by omega) _ _ _⟩
set_option maxRecDepth 100000 in
set_option maxHeartbeats 1000000 in
theorem do6_cat (k n : Int) (s : ByteArray) (k' n' : Int) (s' : ByteArray) (w : World) (hs : s.size ≤ 2305843009213693952) (hs' : s'.size ≤ 2305843009213693952) (m1 : mayB k n s = true) (m2 : mayB k' n' s' = true) (hk : k = 3) (hk' : k' = 3) :
    Calls Tryd.prog 16 #[.int .i64 16, .agg #[.int .i64 k, .int .i64 n, .string s], .agg #[.int .i64 k', .int .i64 n', .string s']] w (D6 w (if 40 < (s.size : Int) + s'.size then (0, 0, ⟨#[]⟩, 6) else (3, 0, s ++ s', 0))) := by
  have q4 : (k == 0) = false := by subst hk; rfl
  have q5 : (k' == 0) = false := by subst hk'; rfl
  have q6 : (k == 3) = true := by subst hk; rfl
  have q6n : (k != 3) = false := by subst hk; rfl
  have q7 : (k' == 3) = true := by subst hk'; rfl
  have q7n : (k' != 3) = false := by subst hk'; rfl
  clear hk hk'
  by_cases h : 40 < (s.size : Int) + s'.size
  · rw [if_pos h]
    have g3 : decide (40 < (s.size : Int) + s'.size) = true := decide_eq_true h
    have hI1 := fun w => hide (ref1_Is k n s w (by omega))
    have hI2 := fun w => hide (ref1_Is k' n' s' w (by omega))
    have hB0 : ∀ o o' o'', Below w.heap.size w (((w.alloc o).alloc o').alloc o'') := fun o o' o'' => (((Below.refl _ _).alloc (Nat.le_refl _) o).alloc (by simp) o').alloc (by simp; omega) o''
    have HBW := hide (hB0 (.cells #[.int .i64 k, .int .i64 n, .string s] 23) (.cells #[.int .i64 k', .int .i64 n', .string s'] 23) (.cells #[.int .i64 0, .int .i64 0, .string ⟨#[]⟩] 23))
    clear hB0
    have BA := ((Blk3.new w 23 (.int .i64 k) (.int .i64 n) (.string s)).alloc (.cells #[.int .i64 k', .int .i64 n', .string s'] 23)).alloc (.cells #[.int .i64 0, .int .i64 0, .string ⟨#[]⟩] 23)
    have BB := (Blk3.new1 w (.cells #[.int .i64 k, .int .i64 n, .string s] 23) 23 (.int .i64 k') (.int .i64 n') (.string s')).alloc (.cells #[.int .i64 0, .int .i64 0, .string ⟨#[]⟩] 23)
    have BR := Blk3.new2 w (.cells #[.int .i64 k, .int .i64 n, .string s] 23) (.cells #[.int .i64 k', .int .i64 n', .string s'] 23) 23 (.int .i64 0) (.int .i64 0) (.string ⟨#[]⟩)
    rw [m1] at hI1
    rw [m2] at hI2
    go_enter Tryd.func16, Tryd.ntmps16
    go_wp2_with fail
    refine (unhide (hI1 _)).mono ?_
    rintro e w1 ⟨rfl, hb1⟩
    replace BA := BA.below hb1
    replace BB := BB.below hb1
    replace BR := BR.below hb1
    obtain ⟨a0, a1, a2, fA⟩ := BA.cells
    obtain ⟨b0, b1, b2, fB⟩ := BB.cells
    obtain ⟨r0, r1, r2, fR⟩ := BR.cells
    replace HBW := hide (Below.andThen (unhide HBW) hb1)
    clear hb1
    clear hI1
    go_wp2_with fail
    refine (unhide (hI2 _)).mono ?_
    rintro e w2 ⟨rfl, hb2⟩
    replace BA := BA.below hb2
    replace BB := BB.below hb2
    replace BR := BR.below hb2
    obtain ⟨a0, a1, a2, fA⟩ := BA.cells
    obtain ⟨b0, b1, b2, fB⟩ := BB.cells
    obtain ⟨r0, r1, r2, fR⟩ := BR.cells
    replace HBW := hide (Below.andThen (unhide HBW) hb2)
    clear hb2
    clear hI2
    go_wp2
    exact bodyPost_ret (v := .tuple #[.agg #[.int .i64 (0), .int .i64 (0), .string (⟨#[]⟩)], .int .i64 (6)]) (by simp [results, Tryd.results16, go_sem, r0, r1, r2]) rfl ⟨rfl, below_set3 (unhide HBW) (by omega) _ _ _⟩
  · rw [if_neg h]
    have g3 : decide (40 < (s.size : Int) + s'.size) = false := decide_eq_false h
    have hI1 := fun w => hide (ref1_Is k n s w (by omega))
    have hI2 := fun w => hide (ref1_Is k' n' s' w (by omega))
    have hB0 : ∀ o o' o'', Below w.heap.size w (((w.alloc o).alloc o').alloc o'') := fun o o' o'' => (((Below.refl _ _).alloc (Nat.le_refl _) o).alloc (by simp) o').alloc (by simp; omega) o''
    have HBW := hide (hB0 (.cells #[.int .i64 k, .int .i64 n, .string s] 23) (.cells #[.int .i64 k', .int .i64 n', .string s'] 23) (.cells #[.int .i64 0, .int .i64 0, .string ⟨#[]⟩] 23))
    clear hB0
    have BA := ((Blk3.new w 23 (.int .i64 k) (.int .i64 n) (.string s)).alloc (.cells #[.int .i64 k', .int .i64 n', .string s'] 23)).alloc (.cells #[.int .i64 0, .int .i64 0, .string ⟨#[]⟩] 23)
    have BB := (Blk3.new1 w (.cells #[.int .i64 k, .int .i64 n, .string s] 23) 23 (.int .i64 k') (.int .i64 n') (.string s')).alloc (.cells #[.int .i64 0, .int .i64 0, .string ⟨#[]⟩] 23)
    have BR := Blk3.new2 w (.cells #[.int .i64 k, .int .i64 n, .string s] 23) (.cells #[.int .i64 k', .int .i64 n', .string s'] 23) 23 (.int .i64 0) (.int .i64 0) (.string ⟨#[]⟩)
    rw [m1] at hI1
    rw [m2] at hI2
    go_enter Tryd.func16, Tryd.ntmps16
    go_wp2_with fail
    refine (unhide (hI1 _)).mono ?_
    rintro e w1 ⟨rfl, hb1⟩
    replace BA := BA.below hb1
    replace BB := BB.below hb1
    replace BR := BR.below hb1
    obtain ⟨a0, a1, a2, fA⟩ := BA.cells
    obtain ⟨b0, b1, b2, fB⟩ := BB.cells
    obtain ⟨r0, r1, r2, fR⟩ := BR.cells
    replace HBW := hide (Below.andThen (unhide HBW) hb1)
    clear hb1
    clear hI1
    go_wp2_with fail
    refine (unhide (hI2 _)).mono ?_
    rintro e w2 ⟨rfl, hb2⟩
    replace BA := BA.below hb2
    replace BB := BB.below hb2
    replace BR := BR.below hb2
    obtain ⟨a0, a1, a2, fA⟩ := BA.cells
    obtain ⟨b0, b1, b2, fB⟩ := BB.cells
    obtain ⟨r0, r1, r2, fR⟩ := BR.cells
    replace HBW := hide (Below.andThen (unhide HBW) hb2)
    clear hb2
    clear hI2
    go_wp2
    exact bodyPost_ret (v := .tuple #[.agg #[.int .i64 (3), .int .i64 (0), .string (s ++ s')], .int .i64 (0)]) (by simp [results, Tryd.results16, go_sem, r0, r1, r2]) rfl ⟨rfl, below_set3 (unhide HBW) (by omega) _ _ _⟩
set_option maxRecDepth 100000 in
set_option maxHeartbeats 1000000 in
theorem do6_num
    (op k n : Int) (s : ByteArray) (k' n' : Int) (s' : ByteArray) (w : World) (hs : s.size ≤ 2305843009213693952) (hs' : s'.size ≤ 2305843009213693952)
    (hn : In64 n) (hn' : In64 n') (h1 : 11 ≤ op) (h2 : op ≤ 15) (m1 : mayB k n s = true) (m2 : mayB k' n' s' = true) (hk : k = 2) (hk' : k' = 2) :
    Calls Tryd.prog 16 #[.int .i64 op, .agg #[.int .i64 k, .int .i64 n, .string s], .agg #[.int .i64 k', .int .i64 n', .string s']] w (D6 w (if (reckonR op n n').2 = 0 then (2, (reckonR op n n').1, ⟨#[]⟩, 0) else (0, 0, ⟨#[]⟩, (reckonR op n n').2))) := by
  have q2 : (op == 16) = false := by rw [beq_eq_false_iff_ne]; omega
  have HR := fun w => hide (ref6_reckon op n n' hn hn' (by omega) w)
  have hre := @reckonR_err op n n'
  generalize reckonR op n n' = r at *
  obtain ⟨r1', r2'⟩ := r
  have q4 : (k == 0) = false := by subst hk; rfl
  have q5 : (k' == 0) = false := by subst hk'; rfl
  have q6 : (k == 2) = true := by subst hk; rfl
  have q6n : (k != 2) = false := by unfold bne; rw [q6]; rfl
  have q7 : (k' == 2) = true := by subst hk'; rfl
  have q7n : (k' != 2) = false := by unfold bne; rw [q7]; rfl
  have q1 : (op == 1) = false := by rw [beq_eq_false_iff_ne]; omega
  have g1 : ¬ op < 11 := by omega
  have g2 : ¬ 16 < op := by omega
  have hI1 := fun w => hide (ref1_Is k n s w (by omega))
  have hI2 := fun w => hide (ref1_Is k' n' s' w (by omega))
  have hB0 : ∀ o o' o'', Below w.heap.size w (((w.alloc o).alloc o').alloc o'') := fun o o' o'' => (((Below.refl _ _).alloc (Nat.le_refl _) o).alloc (by simp) o').alloc (by simp; omega) o''
  have HBW := hide (hB0 (.cells #[.int .i64 k, .int .i64 n, .string s] 23) (.cells #[.int .i64 k', .int .i64 n', .string s'] 23) (.cells #[.int .i64 0, .int .i64 0, .string ⟨#[]⟩] 23))
  clear hB0
  have BA := ((Blk3.new w 23 (.int .i64 k) (.int .i64 n) (.string s)).alloc (.cells #[.int .i64 k', .int .i64 n', .string s'] 23)).alloc (.cells #[.int .i64 0, .int .i64 0, .string ⟨#[]⟩] 23)
  have BB := (Blk3.new1 w (.cells #[.int .i64 k, .int .i64 n, .string s] 23) 23 (.int .i64 k') (.int .i64 n') (.string s')).alloc (.cells #[.int .i64 0, .int .i64 0, .string ⟨#[]⟩] 23)
  have BR := Blk3.new2 w (.cells #[.int .i64 k, .int .i64 n, .string s] 23) (.cells #[.int .i64 k', .int .i64 n', .string s'] 23) 23 (.int .i64 0) (.int .i64 0) (.string ⟨#[]⟩)
  clear hn hn' hk hk' h1 h2
  dsimp only at HR hre ⊢
  rw [m1] at hI1
  rw [m2] at hI2
  by_cases hz : r2' = 0
  · subst hz
    rw [if_pos rfl]
    clear hre
    have HN := fun w => hide (ref6_Num r1' w)
    go_enter Tryd.func16, Tryd.ntmps16
    go_wp2_with fail
    refine (unhide (hI1 _)).mono ?_
    rintro e w1 ⟨rfl, hb1⟩
    replace BA := BA.below hb1
    replace BB := BB.below hb1
    replace BR := BR.below hb1
    obtain ⟨a0, a1, a2, fA⟩ := BA.cells
    obtain ⟨b0, b1, b2, fB⟩ := BB.cells
    obtain ⟨r0, r1, r2, fR⟩ := BR.cells
    replace HBW := hide (Below.andThen (unhide HBW) hb1)
    clear hb1
    clear hI1
    go_wp2_with fail
    refine (unhide (hI2 _)).mono ?_
    rintro e w2 ⟨rfl, hb2⟩
    replace BA := BA.below hb2
    replace BB := BB.below hb2
    replace BR := BR.below hb2
    obtain ⟨a0, a1, a2, fA⟩ := BA.cells
    obtain ⟨b0, b1, b2, fB⟩ := BB.cells
    obtain ⟨r0, r1, r2, fR⟩ := BR.cells
    replace HBW := hide (Below.andThen (unhide HBW) hb2)
    clear hb2
    clear hI2
    go_wp2_with fail
    refine (unhide (HR _)).mono ?_
    rintro e w3 ⟨rfl, rfl⟩
    go_wp2_with fail
    refine (unhide (HN _)).mono ?_
    rintro e w4 ⟨rfl, hb4⟩
    replace BA := BA.below hb4
    replace BB := BB.below hb4
    replace BR := BR.below hb4
    obtain ⟨a0, a1, a2, fA⟩ := BA.cells
    obtain ⟨b0, b1, b2, fB⟩ := BB.cells
    obtain ⟨r0, r1, r2, fR⟩ := BR.cells
    replace HBW := hide (Below.andThen (unhide HBW) hb4)
    clear hb4
    go_wp2
    exact bodyPost_ret (v := .tuple #[.agg #[.int .i64 (2), .int .i64 (r1'), .string (⟨#[]⟩)], .int .i64 (0)]) (by simp [results, Tryd.results16, go_sem, r0, r1, r2]) rfl ⟨rfl, below_set3 (unhide HBW) (by omega) _ _ _⟩
  · rw [if_neg hz]
    have hr1 : r1' = 0 := hre hz
    subst hr1
    have qz : (r2' == 0) = false := by simpa using hz
    have qzn : (r2' != 0) = true := by unfold bne; rw [qz]; rfl
    clear hre hz
    go_enter Tryd.func16, Tryd.ntmps16
    go_wp2_with fail
    refine (unhide (hI1 _)).mono ?_
    rintro e w1 ⟨rfl, hb1⟩
    replace BA := BA.below hb1
    replace BB := BB.below hb1
    replace BR := BR.below hb1
    obtain ⟨a0, a1, a2, fA⟩ := BA.cells
    obtain ⟨b0, b1, b2, fB⟩ := BB.cells
    obtain ⟨r0, r1, r2, fR⟩ := BR.cells
    replace HBW := hide (Below.andThen (unhide HBW) hb1)
    clear hb1
    clear hI1
    go_wp2_with fail
    refine (unhide (hI2 _)).mono ?_
    rintro e w2 ⟨rfl, hb2⟩
    replace BA := BA.below hb2
    replace BB := BB.below hb2
    replace BR := BR.below hb2
    obtain ⟨a0, a1, a2, fA⟩ := BA.cells
    obtain ⟨b0, b1, b2, fB⟩ := BB.cells
    obtain ⟨r0, r1, r2, fR⟩ := BR.cells
    replace HBW := hide (Below.andThen (unhide HBW) hb2)
    clear hb2
    clear hI2
    go_wp2_with fail
    refine (unhide (HR _)).mono ?_
    rintro e w3 ⟨rfl, rfl⟩
    go_wp2
    exact bodyPost_ret (v := .tuple #[.agg #[.int .i64 (0), .int .i64 (0), .string (⟨#[]⟩)], .int .i64 (r2')]) (by simp [results, Tryd.results16, go_sem, r0, r1, r2]) rfl ⟨rfl, below_set3 (unhide HBW) (by omega) _ _ _⟩
set_option maxRecDepth 100000 in
set_option maxHeartbeats 1000000 in
theorem neg6_null
    (k n : Int) (s : ByteArray) (k' n' : Int) (s' : ByteArray) (w : World) (hs : s.size ≤ 2305843009213693952) (hs' : s'.size ≤ 2305843009213693952) (m1 : mayB k n s = true) (hk : k = 0) :
        Calls Tryd.prog 16 #[.int .i64 1, .agg #[.int .i64 k, .int .i64 n, .string s], .agg #[.int .i64 k', .int .i64 n', .string s']] w (D6 w (0, 0, ⟨#[]⟩, 0)) := by
  have q4 : (k == 0) = true := by simpa using hk
  have hI1 := fun w => hide (ref1_Is k n s w (by omega))
  have hI2 := fun w => hide (ref1_Is k' n' s' w (by omega))
  have hB0 : ∀ o o' o'', Below w.heap.size w (((w.alloc o).alloc o').alloc o'') := fun o o' o'' => (((Below.refl _ _).alloc (Nat.le_refl _) o).alloc (by simp) o').alloc (by simp; omega) o''
  have HBW := hide (hB0 (.cells #[.int .i64 k, .int .i64 n, .string s] 23) (.cells #[.int .i64 k', .int .i64 n', .string s'] 23) (.cells #[.int .i64 0, .int .i64 0, .string ⟨#[]⟩] 23))
  clear hB0
  have BA := ((Blk3.new w 23 (.int .i64 k) (.int .i64 n) (.string s)).alloc (.cells #[.int .i64 k', .int .i64 n', .string s'] 23)).alloc (.cells #[.int .i64 0, .int .i64 0, .string ⟨#[]⟩] 23)
  have BB := (Blk3.new1 w (.cells #[.int .i64 k, .int .i64 n, .string s] 23) 23 (.int .i64 k') (.int .i64 n') (.string s')).alloc (.cells #[.int .i64 0, .int .i64 0, .string ⟨#[]⟩] 23)
  have BR := Blk3.new2 w (.cells #[.int .i64 k, .int .i64 n, .string s] 23) (.cells #[.int .i64 k', .int .i64 n', .string s'] 23) 23 (.int .i64 0) (.int .i64 0) (.string ⟨#[]⟩)
  rw [m1] at hI1
  clear hk
  go_enter Tryd.func16, Tryd.ntmps16
  go_wp2_with fail
  refine (unhide (hI1 _)).mono ?_
  rintro e w1 ⟨rfl, hb1⟩
  replace BA := BA.below hb1
  replace BB := BB.below hb1
  replace BR := BR.below hb1
  obtain ⟨a0, a1, a2, fA⟩ := BA.cells
  obtain ⟨b0, b1, b2, fB⟩ := BB.cells
  obtain ⟨r0, r1, r2, fR⟩ := BR.cells
  replace HBW := hide (Below.andThen (unhide HBW) hb1)
  clear hb1
  clear hI1
  go_wp2
  exact bodyPost_ret (v := .tuple #[.agg #[.int .i64 (0), .int .i64 (0), .string (⟨#[]⟩)], .int .i64 (0)]) (by simp [results, Tryd.results16, go_sem, r0, r1, r2]) rfl ⟨rfl, below_set3 (unhide HBW) (by omega) _ _ _⟩
set_option maxRecDepth 100000 in
set_option maxHeartbeats 1000000 in
theorem neg6_type
    (k n : Int) (s : ByteArray) (k' n' : Int) (s' : ByteArray) (w : World) (hs : s.size ≤ 2305843009213693952) (hs' : s'.size ≤ 2305843009213693952) (m1 : mayB k n s = true) (hk : k ≠ 0) (hk2 : k ≠ 2) :
        Calls Tryd.prog 16 #[.int .i64 1, .agg #[.int .i64 k, .int .i64 n, .string s], .agg #[.int .i64 k', .int .i64 n', .string s']] w (D6 w (0, 0, ⟨#[]⟩, 4)) := by
  have q4 : (k == 0) = false := by simpa using hk
  have q6 : (k == 2) = false := by simpa using hk2
  have q6n : (k != 2) = true := by unfold bne; rw [q6]; rfl
  have hI1 := fun w => hide (ref1_Is k n s w (by omega))
  have hI2 := fun w => hide (ref1_Is k' n' s' w (by omega))
  have hB0 : ∀ o o' o'', Below w.heap.size w (((w.alloc o).alloc o').alloc o'') := fun o o' o'' => (((Below.refl _ _).alloc (Nat.le_refl _) o).alloc (by simp) o').alloc (by simp; omega) o''
  have HBW := hide (hB0 (.cells #[.int .i64 k, .int .i64 n, .string s] 23) (.cells #[.int .i64 k', .int .i64 n', .string s'] 23) (.cells #[.int .i64 0, .int .i64 0, .string ⟨#[]⟩] 23))
  clear hB0
  have BA := ((Blk3.new w 23 (.int .i64 k) (.int .i64 n) (.string s)).alloc (.cells #[.int .i64 k', .int .i64 n', .string s'] 23)).alloc (.cells #[.int .i64 0, .int .i64 0, .string ⟨#[]⟩] 23)
  have BB := (Blk3.new1 w (.cells #[.int .i64 k, .int .i64 n, .string s] 23) 23 (.int .i64 k') (.int .i64 n') (.string s')).alloc (.cells #[.int .i64 0, .int .i64 0, .string ⟨#[]⟩] 23)
  have BR := Blk3.new2 w (.cells #[.int .i64 k, .int .i64 n, .string s] 23) (.cells #[.int .i64 k', .int .i64 n', .string s'] 23) 23 (.int .i64 0) (.int .i64 0) (.string ⟨#[]⟩)
  rw [m1] at hI1
  clear hk hk2
  go_enter Tryd.func16, Tryd.ntmps16
  go_wp2_with fail
  refine (unhide (hI1 _)).mono ?_
  rintro e w1 ⟨rfl, hb1⟩
  replace BA := BA.below hb1
  replace BB := BB.below hb1
  replace BR := BR.below hb1
  obtain ⟨a0, a1, a2, fA⟩ := BA.cells
  obtain ⟨b0, b1, b2, fB⟩ := BB.cells
  obtain ⟨r0, r1, r2, fR⟩ := BR.cells
  replace HBW := hide (Below.andThen (unhide HBW) hb1)
  clear hb1
  clear hI1
  go_wp2
  exact bodyPost_ret (v := .tuple #[.agg #[.int .i64 (0), .int .i64 (0), .string (⟨#[]⟩)], .int .i64 (4)]) (by simp [results, Tryd.results16, go_sem, r0, r1, r2]) rfl ⟨rfl, below_set3 (unhide HBW) (by omega) _ _ _⟩
theorem reckon_neg0 (n n' : Int) : reckonR 1 n n' = reckonR 1 n 0 := by simp [reckonR]
set_option maxRecDepth 100000 in
set_option maxHeartbeats 1000000 in
theorem neg6_num
    (k n : Int) (s : ByteArray) (k' n' : Int) (s' : ByteArray) (w : World) (hs : s.size ≤ 2305843009213693952) (hs' : s'.size ≤ 2305843009213693952) (hn : In64 n) (hn' : In64 n') (m1 : mayB k n s = true) (hk : k = 2) :
        Calls Tryd.prog 16 #[.int .i64 1, .agg #[.int .i64 k, .int .i64 n, .string s], .agg #[.int .i64 k', .int .i64 n', .string s']] w (D6 w (if (reckonR 1 n n').2 = 0 then (2, (reckonR 1 n n').1, ⟨#[]⟩, 0) else (0, 0, ⟨#[]⟩, (reckonR 1 n n').2))) := by
  have HR := fun w => hide (ref6_reckon 1 n n' hn hn' (by omega) w)
  have hre := @reckonR_err 1 n n'
  generalize reckonR 1 n n' = r at *
  obtain ⟨r1', r2'⟩ := r
  have q4 : (k == 0) = false := by subst hk; rfl
  have q6 : (k == 2) = true := by subst hk; rfl
  have q6n : (k != 2) = false := by unfold bne; rw [q6]; rfl
  have hI1 := fun w => hide (ref1_Is k n s w (by omega))
  have hI2 := fun w => hide (ref1_Is k' n' s' w (by omega))
  have hB0 : ∀ o o' o'', Below w.heap.size w (((w.alloc o).alloc o').alloc o'') := fun o o' o'' => (((Below.refl _ _).alloc (Nat.le_refl _) o).alloc (by simp) o').alloc (by simp; omega) o''
  have HBW := hide (hB0 (.cells #[.int .i64 k, .int .i64 n, .string s] 23) (.cells #[.int .i64 k', .int .i64 n', .string s'] 23) (.cells #[.int .i64 0, .int .i64 0, .string ⟨#[]⟩] 23))
  clear hB0
  have BA := ((Blk3.new w 23 (.int .i64 k) (.int .i64 n) (.string s)).alloc (.cells #[.int .i64 k', .int .i64 n', .string s'] 23)).alloc (.cells #[.int .i64 0, .int .i64 0, .string ⟨#[]⟩] 23)
  have BB := (Blk3.new1 w (.cells #[.int .i64 k, .int .i64 n, .string s] 23) 23 (.int .i64 k') (.int .i64 n') (.string s')).alloc (.cells #[.int .i64 0, .int .i64 0, .string ⟨#[]⟩] 23)
  have BR := Blk3.new2 w (.cells #[.int .i64 k, .int .i64 n, .string s] 23) (.cells #[.int .i64 k', .int .i64 n', .string s'] 23) 23 (.int .i64 0) (.int .i64 0) (.string ⟨#[]⟩)
  clear hn hn' hk
  dsimp only at HR hre ⊢
  rw [m1] at hI1
  by_cases hz : r2' = 0
  · subst hz
    rw [if_pos rfl]
    clear hre
    have HN := fun w => hide (ref6_Num r1' w)
    go_enter Tryd.func16, Tryd.ntmps16
    go_wp2_with fail
    refine (unhide (hI1 _)).mono ?_
    rintro e w1 ⟨rfl, hb1⟩
    replace BA := BA.below hb1
    replace BB := BB.below hb1
    replace BR := BR.below hb1
    obtain ⟨a0, a1, a2, fA⟩ := BA.cells
    obtain ⟨b0, b1, b2, fB⟩ := BB.cells
    obtain ⟨r0, r1, r2, fR⟩ := BR.cells
    replace HBW := hide (Below.andThen (unhide HBW) hb1)
    clear hb1
    clear hI1
    go_wp2_with fail
    refine (unhide (HR _)).mono ?_
    rintro e w3 ⟨rfl, rfl⟩
    go_wp2_with fail
    refine (unhide (HN _)).mono ?_
    rintro e w4 ⟨rfl, hb4⟩
    replace BA := BA.below hb4
    replace BB := BB.below hb4
    replace BR := BR.below hb4
    obtain ⟨a0, a1, a2, fA⟩ := BA.cells
    obtain ⟨b0, b1, b2, fB⟩ := BB.cells
    obtain ⟨r0, r1, r2, fR⟩ := BR.cells
    replace HBW := hide (Below.andThen (unhide HBW) hb4)
    clear hb4
    go_wp2
    exact bodyPost_ret (v := .tuple #[.agg #[.int .i64 (2), .int .i64 (r1'), .string (⟨#[]⟩)], .int .i64 (0)]) (by simp [results, Tryd.results16, go_sem, r0, r1, r2]) rfl ⟨rfl, below_set3 (unhide HBW) (by omega) _ _ _⟩
  · rw [if_neg hz]
    have hr1 : r1' = 0 := hre hz
    subst hr1
    have qz : (r2' == 0) = false := by simpa using hz
    have qzn : (r2' != 0) = true := by unfold bne; rw [qz]; rfl
    clear hre hz
    go_enter Tryd.func16, Tryd.ntmps16
    go_wp2_with fail
    refine (unhide (hI1 _)).mono ?_
    rintro e w1 ⟨rfl, hb1⟩
    replace BA := BA.below hb1
    replace BB := BB.below hb1
    replace BR := BR.below hb1
    obtain ⟨a0, a1, a2, fA⟩ := BA.cells
    obtain ⟨b0, b1, b2, fB⟩ := BB.cells
    obtain ⟨r0, r1, r2, fR⟩ := BR.cells
    replace HBW := hide (Below.andThen (unhide HBW) hb1)
    clear hb1
    clear hI1
    go_wp2_with fail
    refine (unhide (HR _)).mono ?_
    rintro e w3 ⟨rfl, rfl⟩
    go_wp2
    exact bodyPost_ret (v := .tuple #[.agg #[.int .i64 (0), .int .i64 (0), .string (⟨#[]⟩)], .int .i64 (r2')]) (by simp [results, Tryd.results16, go_sem, r0, r1, r2]) rfl ⟨rfl, below_set3 (unhide HBW) (by omega) _ _ _⟩
theorem ref6_Do
    (op k n : Int) (s : ByteArray) (k' n' : Int) (s' : ByteArray) (w : World) (hs : s.size ≤ 2305843009213693952) (hs' : s'.size ≤ 2305843009213693952)
    (hn : In64 n) (hn' : In64 n') :
    Calls Tryd.prog 16 #[.int .i64 op, .agg #[.int .i64 k, .int .i64 n, .string s], .agg #[.int .i64 k', .int .i64 n', .string s']] w (D6 w (doR op k n s k' n' s')) := by
  unfold doR
  by_cases ho : op = 1
  · subst ho
    by_cases hm : mayB k n s = false
    · rw [if_pos (.inr (.inl hm))]
      exact do6_formA 1 k n s k' n' s' w hs hs' (.inl rfl) hm
    · rw [if_neg (by rintro (h | h | h); exact absurd rfl h.1; exact hm h; exact absurd rfl h.1)]
      have hm : mayB k n s = true := by simpa using hm
      by_cases hk : k = 0
      · rw [if_pos (.inl hk)]
        exact neg6_null k n s k' n' s' w hs hs' hm hk
      · rw [if_neg (by rintro (h | h); exact hk h; exact absurd rfl h.1), if_neg (by decide)]
        by_cases hk2 : k = 2
        · rw [if_neg (by rintro (h | h); exact h hk2; exact absurd rfl h.1)]
          exact neg6_num k n s k' n' s' w hs hs' hn hn' hm hk2
        · rw [if_pos (.inl hk2)]
          exact neg6_type k n s k' n' s' w hs hs' hm hk hk2
  · by_cases hr : op < 11 ∨ 16 < op
    · rw [if_pos (.inl ⟨ho, hr⟩)]
      exact do6_op op k n s k' n' s' w hs hs' ho hr
    · have hr' : 11 ≤ op ∧ op ≤ 16 := by omega
      by_cases hm : mayB k n s = false
      · rw [if_pos (.inr (.inl hm))]
        exact do6_formA op k n s k' n' s' w hs hs' (.inr hr') hm
      · have hm : mayB k n s = true := by simpa using hm
        by_cases hm' : mayB k' n' s' = false
        · rw [if_pos (.inr (.inr ⟨ho, hm'⟩))]
          exact do6_formB op k n s k' n' s' w hs hs' hr' hm hm'
        · rw [if_neg (by rintro (h | h | h); exact hr h.2; rw [hm] at h; cases h; exact hm' h.2)]
          have hm' : mayB k' n' s' = true := by simpa using hm'
          by_cases hz : k = 0 ∨ k' = 0
          · rw [if_pos (by rcases hz with h | h; exact .inl h; exact .inr ⟨ho, h⟩)]
            exact do6_null op k n s k' n' s' w hs hs' hr' hm hm' hz
          · rw [if_neg (by rintro (h | h); exact hz (.inl h); exact hz (.inr h.2))]
            by_cases h16 : op = 16
            · rw [if_pos h16]
              by_cases ht : k ≠ 3 ∨ k' ≠ 3
              · rw [if_pos ht]
                exact do6_type op k n s k' n' s' w hs hs' hr' hm hm' (fun h => hz (.inl h)) (fun h => hz (.inr h)) (.inl ⟨h16, ht⟩)
              · rw [if_neg ht]
                subst h16
                exact do6_cat k n s k' n' s' w hs hs' hm hm' (by omega) (by omega)
            · rw [if_neg h16]
              by_cases ht : k ≠ 2 ∨ k' ≠ 2
              · rw [if_pos (by rcases ht with h | h; exact .inl h; exact .inr ⟨ho, h⟩)]
                exact do6_type op k n s k' n' s' w hs hs' hr' hm hm' (fun h => hz (.inl h)) (fun h => hz (.inr h)) (.inr ⟨h16, ht⟩)
              · rw [if_neg (by rintro (h | h); exact ht (.inl h); exact ht (.inr h.2))]
                exact do6_num op k n s k' n' s' w hs hs' hn hn' (by omega) (by omega) hm hm' (by omega) (by omega)
end Go.Proofs.YtjcpmdbgjjmcdaaDoor

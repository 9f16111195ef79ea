/- Package value: Do: walks. -/
import Derived.Test.YtjcpmdbgjjmcdaaDoorVal4
namespace Go.Proofs.YtjcpmdbgjjmcdaaDoor
open Go.RowKit

theorem ErrV.set3 {W : World} {d : Nat} {v : Value} {n : Int} {g : Nat} {a b c : Value} (h : ErrV W d v n) (hg : Blk3 W g 23 a b c) (x y z : Value) :
    ErrV (((W.setCell ⟨g, 0, none⟩ x).setCell ⟨g, 1, none⟩ y).setCell ⟨g, 2, none⟩ z) d v n := by
  induction d generalizing v with
  | zero => exact h
  | succ d ih =>
    rcases h with rfl | ⟨e, ⟨b', s, fr, hk, rfl⟩, he⟩
    · exact .inl rfl
    · refine .inr ⟨e, ⟨b', s, fr, ?_, rfl⟩, ih he⟩
      have hne : b' ≠ g := by
        rintro rfl
        unfold Blk3 at hg
        rw [hg] at hk
        injection hk with hk
        injection hk with _ ht _
        exact absurd ht (by decide)
      rw [Below.heap_setCell _ _ _ _ hne, Below.heap_setCell _ _ _ _ hne, Below.heap_setCell _ _ _ _ hne]
      exact hk
theorem IsErr.ok0 (W : World) : IsErr W .nilIface 0 := .inl ⟨rfl, rfl⟩
theorem IsErr.set3 {W : World} {v : Value} {n : Int} {g : Nat} {a b c : Value} (h : IsErr W v n) (hg : Blk3 W g 23 a b c) (x y z : Value) :
    IsErr (((W.setCell ⟨g, 0, none⟩ x).setCell ⟨g, 1, none⟩ y).setCell ⟨g, 2, none⟩ z) v n := by
  rcases h with h | ⟨h, d, hd⟩
  · exact .inl h
  · exact .inr ⟨h, d, hd.set3 hg x y z⟩


set_option maxRecDepth 100000 in
set_option maxHeartbeats 1000000 in
theorem do_op (op k n : Int) (s : ByteArray) (k' n' : Int) (s' : ByteArray) (w : World) (h1 : op ≠ 1) (h2 : op < 11 ∨ 16 < op) :
    Calls Tryd.prog 15 #[.int .i64 op, .agg #[.int .i64 k, .int .i64 n, .string s], .agg #[.int .i64 k', .int .i64 n', .string s']] w (DPost w (0, 0, ⟨#[]⟩, 20)) := by
  have q1 : (op == 1) = false := by simpa using h1
  have q2 : (op != 1) = true := by simpa using h1
  have q3 : (op == 16) = false := by rw [beq_eq_false_iff_ne]; omega
  clear h1
  rcases h2 with h2 | h2
  all_goals
    have hB0 : ∀ o o' o'', Below w.heap.size w (((w.alloc o).alloc o').alloc o'') := fun o o' o'' => (((Below.refl _ _).alloc (Nat.le_refl _) o).alloc (by simp) o').alloc (by simp; omega) o''
    have HBW := hide (hB0 (.cells #[.int .i64 k, .int .i64 n, .string s] 23) (.cells #[.int .i64 k', .int .i64 n', .string s'] 23) (.cells #[.int .i64 0, .int .i64 0, .string ⟨#[]⟩] 23))
    clear hB0
    have BA := ((Blk3.new w 23 (.int .i64 k) (.int .i64 n) (.string s)).alloc (.cells #[.int .i64 k', .int .i64 n', .string s'] 23)).alloc (.cells #[.int .i64 0, .int .i64 0, .string ⟨#[]⟩] 23)
    have BB := (Blk3.new1 w (.cells #[.int .i64 k, .int .i64 n, .string s] 23) 23 (.int .i64 k') (.int .i64 n') (.string s')).alloc (.cells #[.int .i64 0, .int .i64 0, .string ⟨#[]⟩] 23)
    have BR := Blk3.new2 w (.cells #[.int .i64 k, .int .i64 n, .string s] 23) (.cells #[.int .i64 k', .int .i64 n', .string s'] 23) 23 (.int .i64 0) (.int .i64 0) (.string ⟨#[]⟩)
    have HF := fun c hc w => hide (value_fault c hc w)
    go_enter Tryd.func15, Tryd.ntmps15
    go_wp2_with (go_at_call 28; refine (unhide (HF _ (by decide) _)).mono ?_; rintro e w' ⟨v, rfl, he, hb⟩; replace BR := BR.below hb; obtain ⟨r0, r1, r2, fR⟩ := BR.cells; replace HBW := hide (Below.andThen (unhide HBW) hb); clear hb)
    exact bodyPost_ret (v := .tuple #[.agg #[.int .i64 (0), .int .i64 (0), .string (⟨#[]⟩)], v]) (by simp [results, Tryd.results15, go_sem, r0, r1, r2]) rfl ⟨_, rfl, (he).set3 BR _ _ _, below_set3 (unhide HBW) (by omega) _ _ _⟩


set_option maxRecDepth 100000 in
set_option maxHeartbeats 1000000 in
theorem do_form
    (op k n : Int) (s : ByteArray) (k' n' : Int) (s' : ByteArray) (w : World) (hs : s.size ≤ 9223372036854775807) (hs' : s'.size ≤ 9223372036854775807) (h1 : op ≠ 1) (h2 : 11 ≤ op) (h3 : op ≤ 16)
    (h : mayB k n s = false ∨ mayB k' n' s' = false) :
    Calls Tryd.prog 15 #[.int .i64 op, .agg #[.int .i64 k, .int .i64 n, .string s], .agg #[.int .i64 k', .int .i64 n', .string s']] w (DPost w (0, 0, ⟨#[]⟩, 20)) := by
  have hm : mayB k n s = true ∨ mayB k n s = false := by cases mayB k n s <;> simp
  have q1 : (op == 1) = false := by simpa using h1
  have q2 : (op != 1) = true := by simpa using h1
  have hI1 := fun w => hide (value_Is k n s w hs)
  have hI2 := fun w => hide (value_Is k' n' s' w hs')
  have h16 : (op == 16) = true ∨ (op == 16) = false := by cases (op == 16) <;> simp
  clear h1
  rcases hm with hm | hm
  · have hm' : mayB k' n' s' = false := by
      rcases h with h | h
      · rw [hm] at h; cases h
      · exact h
    clear h
    rcases h16 with h16 | h16
    all_goals
      have hB0 : ∀ o o' o'', Below w.heap.size w (((w.alloc o).alloc o').alloc o'') := fun o o' o'' => (((Below.refl _ _).alloc (Nat.le_refl _) o).alloc (by simp) o').alloc (by simp; omega) o''
      have HBW := hide (hB0 (.cells #[.int .i64 k, .int .i64 n, .string s] 23) (.cells #[.int .i64 k', .int .i64 n', .string s'] 23) (.cells #[.int .i64 0, .int .i64 0, .string ⟨#[]⟩] 23))
      clear hB0
      have BA := ((Blk3.new w 23 (.int .i64 k) (.int .i64 n) (.string s)).alloc (.cells #[.int .i64 k', .int .i64 n', .string s'] 23)).alloc (.cells #[.int .i64 0, .int .i64 0, .string ⟨#[]⟩] 23)
      have BB := (Blk3.new1 w (.cells #[.int .i64 k, .int .i64 n, .string s] 23) 23 (.int .i64 k') (.int .i64 n') (.string s')).alloc (.cells #[.int .i64 0, .int .i64 0, .string ⟨#[]⟩] 23)
      have BR := Blk3.new2 w (.cells #[.int .i64 k, .int .i64 n, .string s] 23) (.cells #[.int .i64 k', .int .i64 n', .string s'] 23) 23 (.int .i64 0) (.int .i64 0) (.string ⟨#[]⟩)
      have HF := fun c hc w => hide (value_fault c hc w)
      go_enter Tryd.func15, Tryd.ntmps15
      go_wp2_with fail
      refine (unhide (hI1 _)).mono ?_
      rintro e w1 ⟨rfl, hb1⟩
      replace BA := BA.below hb1
      replace BB := BB.below hb1
      replace BR := BR.below hb1
      obtain ⟨a0, a1, a2, fA⟩ := BA.cells
      obtain ⟨b0, b1, b2, fB⟩ := BB.cells
      obtain ⟨r0, r1, r2, fR⟩ := BR.cells
      replace HBW := hide (Below.andThen (unhide HBW) hb1)
      clear hb1
      go_wp2_with fail
      refine (unhide (hI2 _)).mono ?_
      rintro e w2 ⟨rfl, hb2⟩
      replace BA := BA.below hb2
      replace BB := BB.below hb2
      replace BR := BR.below hb2
      obtain ⟨a0, a1, a2, fA⟩ := BA.cells
      obtain ⟨b0, b1, b2, fB⟩ := BB.cells
      obtain ⟨r0, r1, r2, fR⟩ := BR.cells
      replace HBW := hide (Below.andThen (unhide HBW) hb2)
      clear hb2
      go_wp2_with (go_at_call 28; refine (unhide (HF _ (by decide) _)).mono ?_; rintro e w' ⟨v, rfl, he, hb⟩; replace BR := BR.below hb; obtain ⟨r0, r1, r2, fR⟩ := BR.cells; replace HBW := hide (Below.andThen (unhide HBW) hb); clear hb)
      exact bodyPost_ret (v := .tuple #[.agg #[.int .i64 (0), .int .i64 (0), .string (⟨#[]⟩)], v]) (by simp [results, Tryd.results15, go_sem, r0, r1, r2]) rfl ⟨_, rfl, (he).set3 BR _ _ _, below_set3 (unhide HBW) (by omega) _ _ _⟩
  · clear h
    rcases h16 with h16 | h16
    all_goals
      have hB0 : ∀ o o' o'', Below w.heap.size w (((w.alloc o).alloc o').alloc o'') := fun o o' o'' => (((Below.refl _ _).alloc (Nat.le_refl _) o).alloc (by simp) o').alloc (by simp; omega) o''
      have HBW := hide (hB0 (.cells #[.int .i64 k, .int .i64 n, .string s] 23) (.cells #[.int .i64 k', .int .i64 n', .string s'] 23) (.cells #[.int .i64 0, .int .i64 0, .string ⟨#[]⟩] 23))
      clear hB0
      have BA := ((Blk3.new w 23 (.int .i64 k) (.int .i64 n) (.string s)).alloc (.cells #[.int .i64 k', .int .i64 n', .string s'] 23)).alloc (.cells #[.int .i64 0, .int .i64 0, .string ⟨#[]⟩] 23)
      have BB := (Blk3.new1 w (.cells #[.int .i64 k, .int .i64 n, .string s] 23) 23 (.int .i64 k') (.int .i64 n') (.string s')).alloc (.cells #[.int .i64 0, .int .i64 0, .string ⟨#[]⟩] 23)
      have BR := Blk3.new2 w (.cells #[.int .i64 k, .int .i64 n, .string s] 23) (.cells #[.int .i64 k', .int .i64 n', .string s'] 23) 23 (.int .i64 0) (.int .i64 0) (.string ⟨#[]⟩)
      have HF := fun c hc w => hide (value_fault c hc w)
      go_enter Tryd.func15, Tryd.ntmps15
      go_wp2_with fail
      refine (unhide (hI1 _)).mono ?_
      rintro e w1 ⟨rfl, hb1⟩
      replace BA := BA.below hb1
      replace BB := BB.below hb1
      replace BR := BR.below hb1
      obtain ⟨a0, a1, a2, fA⟩ := BA.cells
      obtain ⟨b0, b1, b2, fB⟩ := BB.cells
      obtain ⟨r0, r1, r2, fR⟩ := BR.cells
      replace HBW := hide (Below.andThen (unhide HBW) hb1)
      clear hb1
      go_wp2_with (go_at_call 28; refine (unhide (HF _ (by decide) _)).mono ?_; rintro e w' ⟨v, rfl, he, hb⟩; replace BR := BR.below hb; obtain ⟨r0, r1, r2, fR⟩ := BR.cells; replace HBW := hide (Below.andThen (unhide HBW) hb); clear hb)
      exact bodyPost_ret (v := .tuple #[.agg #[.int .i64 (0), .int .i64 (0), .string (⟨#[]⟩)], v]) (by simp [results, Tryd.results15, go_sem, r0, r1, r2]) rfl ⟨_, rfl, (he).set3 BR _ _ _, below_set3 (unhide HBW) (by omega) _ _ _⟩

set_option maxRecDepth 100000 in
set_option maxHeartbeats 1000000 in
theorem do_null
    (op k n : Int) (s : ByteArray) (k' n' : Int) (s' : ByteArray) (w : World) (hs : s.size ≤ 9223372036854775807) (hs' : s'.size ≤ 9223372036854775807) (h1 : op ≠ 1) (h2 : 11 ≤ op) (h3 : op ≤ 16)
    (m1 : mayB k n s = true) (m2 : mayB k' n' s' = true) (h : k = 0 ∨ k' = 0) :
    Calls Tryd.prog 15 #[.int .i64 op, .agg #[.int .i64 k, .int .i64 n, .string s], .agg #[.int .i64 k', .int .i64 n', .string s']] w (DPost w (0, 0, ⟨#[]⟩, 0)) := by
  have q1 : (op == 1) = false := by simpa using h1
  have q2 : (op != 1) = true := by simpa using h1
  have hI1 := fun w => hide (value_Is k n s w hs)
  have hI2 := fun w => hide (value_Is k' n' s' w hs')
  have h16 : (op == 16) = true ∨ (op == 16) = false := by cases (op == 16) <;> simp
  clear h1
  by_cases hk : k = 0
  · have q4 : (k == 0) = true := by simpa using hk
    clear h hk
    rcases h16 with h16 | h16
    all_goals
      have hB0 : ∀ o o' o'', Below w.heap.size w (((w.alloc o).alloc o').alloc o'') := fun o o' o'' => (((Below.refl _ _).alloc (Nat.le_refl _) o).alloc (by simp) o').alloc (by simp; omega) o''
      have HBW := hide (hB0 (.cells #[.int .i64 k, .int .i64 n, .string s] 23) (.cells #[.int .i64 k', .int .i64 n', .string s'] 23) (.cells #[.int .i64 0, .int .i64 0, .string ⟨#[]⟩] 23))
      clear hB0
      have BA := ((Blk3.new w 23 (.int .i64 k) (.int .i64 n) (.string s)).alloc (.cells #[.int .i64 k', .int .i64 n', .string s'] 23)).alloc (.cells #[.int .i64 0, .int .i64 0, .string ⟨#[]⟩] 23)
      have BB := (Blk3.new1 w (.cells #[.int .i64 k, .int .i64 n, .string s] 23) 23 (.int .i64 k') (.int .i64 n') (.string s')).alloc (.cells #[.int .i64 0, .int .i64 0, .string ⟨#[]⟩] 23)
      have BR := Blk3.new2 w (.cells #[.int .i64 k, .int .i64 n, .string s] 23) (.cells #[.int .i64 k', .int .i64 n', .string s'] 23) 23 (.int .i64 0) (.int .i64 0) (.string ⟨#[]⟩)
      have HF := fun c hc w => hide (value_fault c hc w)
      go_enter Tryd.func15, Tryd.ntmps15
      go_wp2_with fail
      refine (unhide (hI1 _)).mono ?_
      rintro e w1 ⟨rfl, hb1⟩
      replace BA := BA.below hb1
      replace BB := BB.below hb1
      replace BR := BR.below hb1
      obtain ⟨a0, a1, a2, fA⟩ := BA.cells
      obtain ⟨b0, b1, b2, fB⟩ := BB.cells
      obtain ⟨r0, r1, r2, fR⟩ := BR.cells
      replace HBW := hide (Below.andThen (unhide HBW) hb1)
      clear hb1
      go_wp2_with fail
      refine (unhide (hI2 _)).mono ?_
      rintro e w2 ⟨rfl, hb2⟩
      replace BA := BA.below hb2
      replace BB := BB.below hb2
      replace BR := BR.below hb2
      obtain ⟨a0, a1, a2, fA⟩ := BA.cells
      obtain ⟨b0, b1, b2, fB⟩ := BB.cells
      obtain ⟨r0, r1, r2, fR⟩ := BR.cells
      replace HBW := hide (Below.andThen (unhide HBW) hb2)
      clear hb2
      go_wp2
      exact bodyPost_ret (v := .tuple #[.agg #[.int .i64 (0), .int .i64 (0), .string (⟨#[]⟩)], .nilIface]) (by simp [results, Tryd.results15, go_sem, r0, r1, r2]) rfl ⟨_, rfl, (IsErr.ok0 _).set3 BR _ _ _, below_set3 (unhide HBW) (by omega) _ _ _⟩
  · have hk' : k' = 0 := by omega
    have q4 : (k == 0) = false := by simpa using hk
    have q5 : (k' == 0) = true := by simpa using hk'
    clear h hk hk'
    rcases h16 with h16 | h16
    all_goals
      have hB0 : ∀ o o' o'', Below w.heap.size w (((w.alloc o).alloc o').alloc o'') := fun o o' o'' => (((Below.refl _ _).alloc (Nat.le_refl _) o).alloc (by simp) o').alloc (by simp; omega) o''
      have HBW := hide (hB0 (.cells #[.int .i64 k, .int .i64 n, .string s] 23) (.cells #[.int .i64 k', .int .i64 n', .string s'] 23) (.cells #[.int .i64 0, .int .i64 0, .string ⟨#[]⟩] 23))
      clear hB0
      have BA := ((Blk3.new w 23 (.int .i64 k) (.int .i64 n) (.string s)).alloc (.cells #[.int .i64 k', .int .i64 n', .string s'] 23)).alloc (.cells #[.int .i64 0, .int .i64 0, .string ⟨#[]⟩] 23)
      have BB := (Blk3.new1 w (.cells #[.int .i64 k, .int .i64 n, .string s] 23) 23 (.int .i64 k') (.int .i64 n') (.string s')).alloc (.cells #[.int .i64 0, .int .i64 0, .string ⟨#[]⟩] 23)
      have BR := Blk3.new2 w (.cells #[.int .i64 k, .int .i64 n, .string s] 23) (.cells #[.int .i64 k', .int .i64 n', .string s'] 23) 23 (.int .i64 0) (.int .i64 0) (.string ⟨#[]⟩)
      have HF := fun c hc w => hide (value_fault c hc w)
      go_enter Tryd.func15, Tryd.ntmps15
      go_wp2_with fail
      refine (unhide (hI1 _)).mono ?_
      rintro e w1 ⟨rfl, hb1⟩
      replace BA := BA.below hb1
      replace BB := BB.below hb1
      replace BR := BR.below hb1
      obtain ⟨a0, a1, a2, fA⟩ := BA.cells
      obtain ⟨b0, b1, b2, fB⟩ := BB.cells
      obtain ⟨r0, r1, r2, fR⟩ := BR.cells
      replace HBW := hide (Below.andThen (unhide HBW) hb1)
      clear hb1
      go_wp2_with fail
      refine (unhide (hI2 _)).mono ?_
      rintro e w2 ⟨rfl, hb2⟩
      replace BA := BA.below hb2
      replace BB := BB.below hb2
      replace BR := BR.below hb2
      obtain ⟨a0, a1, a2, fA⟩ := BA.cells
      obtain ⟨b0, b1, b2, fB⟩ := BB.cells
      obtain ⟨r0, r1, r2, fR⟩ := BR.cells
      replace HBW := hide (Below.andThen (unhide HBW) hb2)
      clear hb2
      go_wp2
      exact bodyPost_ret (v := .tuple #[.agg #[.int .i64 (0), .int .i64 (0), .string (⟨#[]⟩)], .nilIface]) (by simp [results, Tryd.results15, go_sem, r0, r1, r2]) rfl ⟨_, rfl, (IsErr.ok0 _).set3 BR _ _ _, below_set3 (unhide HBW) (by omega) _ _ _⟩

set_option maxRecDepth 100000 in
set_option maxHeartbeats 1000000 in
theorem do_type
    (op k n : Int) (s : ByteArray) (k' n' : Int) (s' : ByteArray) (w : World) (hs : s.size ≤ 9223372036854775807) (hs' : s'.size ≤ 9223372036854775807) (h1 : op ≠ 1) (h2 : 11 ≤ op) (h3 : op ≤ 16)
    (m1 : mayB k n s = true) (m2 : mayB k' n' s' = true) (z1 : k ≠ 0) (z2 : k' ≠ 0) (h : (op = 16 ∧ (k ≠ 3 ∨ k' ≠ 3)) ∨ (op ≠ 16 ∧ (k ≠ 2 ∨ k' ≠ 2))) :
    Calls Tryd.prog 15 #[.int .i64 op, .agg #[.int .i64 k, .int .i64 n, .string s], .agg #[.int .i64 k', .int .i64 n', .string s']] w (DPost w (0, 0, ⟨#[]⟩, 4)) := by
  have q1 : (op == 1) = false := by simpa using h1
  have q2 : (op != 1) = true := by simpa using h1
  have hI1 := fun w => hide (value_Is k n s w hs)
  have hI2 := fun w => hide (value_Is k' n' s' w hs')
  have h16 : (op == 16) = true ∨ (op == 16) = false := by cases (op == 16) <;> simp
  clear h1
  have q4 : (k == 0) = false := by simpa using z1
  have q5 : (k' == 0) = false := by simpa using z2
  clear z1 z2
  rcases h with ⟨ho, h⟩ | ⟨ho, h⟩
  · have p16 : (op == 16) = true := by simpa using ho
    clear h16 ho
    by_cases h7 : k = 3
    · have q6 : (k != 3) = false := by simpa using h7
      have q7 : (k' != 3) = true := by simpa using h.resolve_left (fun x => x h7)
      clear h h7
      have hB0 : ∀ o o' o'', Below w.heap.size w (((w.alloc o).alloc o').alloc o'') := fun o o' o'' => (((Below.refl _ _).alloc (Nat.le_refl _) o).alloc (by simp) o').alloc (by simp; omega) o''
      have HBW := hide (hB0 (.cells #[.int .i64 k, .int .i64 n, .string s] 23) (.cells #[.int .i64 k', .int .i64 n', .string s'] 23) (.cells #[.int .i64 0, .int .i64 0, .string ⟨#[]⟩] 23))
      clear hB0
      have BA := ((Blk3.new w 23 (.int .i64 k) (.int .i64 n) (.string s)).alloc (.cells #[.int .i64 k', .int .i64 n', .string s'] 23)).alloc (.cells #[.int .i64 0, .int .i64 0, .string ⟨#[]⟩] 23)
      have BB := (Blk3.new1 w (.cells #[.int .i64 k, .int .i64 n, .string s] 23) 23 (.int .i64 k') (.int .i64 n') (.string s')).alloc (.cells #[.int .i64 0, .int .i64 0, .string ⟨#[]⟩] 23)
      have BR := Blk3.new2 w (.cells #[.int .i64 k, .int .i64 n, .string s] 23) (.cells #[.int .i64 k', .int .i64 n', .string s'] 23) 23 (.int .i64 0) (.int .i64 0) (.string ⟨#[]⟩)
      have HF := fun c hc w => hide (value_fault c hc w)
      go_enter Tryd.func15, Tryd.ntmps15
      go_wp2_with fail
      refine (unhide (hI1 _)).mono ?_
      rintro e w1 ⟨rfl, hb1⟩
      replace BA := BA.below hb1
      replace BB := BB.below hb1
      replace BR := BR.below hb1
      obtain ⟨a0, a1, a2, fA⟩ := BA.cells
      obtain ⟨b0, b1, b2, fB⟩ := BB.cells
      obtain ⟨r0, r1, r2, fR⟩ := BR.cells
      replace HBW := hide (Below.andThen (unhide HBW) hb1)
      clear hb1
      go_wp2_with fail
      refine (unhide (hI2 _)).mono ?_
      rintro e w2 ⟨rfl, hb2⟩
      replace BA := BA.below hb2
      replace BB := BB.below hb2
      replace BR := BR.below hb2
      obtain ⟨a0, a1, a2, fA⟩ := BA.cells
      obtain ⟨b0, b1, b2, fB⟩ := BB.cells
      obtain ⟨r0, r1, r2, fR⟩ := BR.cells
      replace HBW := hide (Below.andThen (unhide HBW) hb2)
      clear hb2
      go_wp2_with (go_at_call 28; refine (unhide (HF _ (by decide) _)).mono ?_; rintro e w' ⟨v, rfl, he, hb⟩; replace BR := BR.below hb; obtain ⟨r0, r1, r2, fR⟩ := BR.cells; replace HBW := hide (Below.andThen (unhide HBW) hb); clear hb)
      exact bodyPost_ret (v := .tuple #[.agg #[.int .i64 (0), .int .i64 (0), .string (⟨#[]⟩)], v]) (by simp [results, Tryd.results15, go_sem, r0, r1, r2]) rfl ⟨_, rfl, (he).set3 BR _ _ _, below_set3 (unhide HBW) (by omega) _ _ _⟩
    · have q6 : (k != 3) = true := by simpa using h7
      clear h h7
      have hB0 : ∀ o o' o'', Below w.heap.size w (((w.alloc o).alloc o').alloc o'') := fun o o' o'' => (((Below.refl _ _).alloc (Nat.le_refl _) o).alloc (by simp) o').alloc (by simp; omega) o''
      have HBW := hide (hB0 (.cells #[.int .i64 k, .int .i64 n, .string s] 23) (.cells #[.int .i64 k', .int .i64 n', .string s'] 23) (.cells #[.int .i64 0, .int .i64 0, .string ⟨#[]⟩] 23))
      clear hB0
      have BA := ((Blk3.new w 23 (.int .i64 k) (.int .i64 n) (.string s)).alloc (.cells #[.int .i64 k', .int .i64 n', .string s'] 23)).alloc (.cells #[.int .i64 0, .int .i64 0, .string ⟨#[]⟩] 23)
      have BB := (Blk3.new1 w (.cells #[.int .i64 k, .int .i64 n, .string s] 23) 23 (.int .i64 k') (.int .i64 n') (.string s')).alloc (.cells #[.int .i64 0, .int .i64 0, .string ⟨#[]⟩] 23)
      have BR := Blk3.new2 w (.cells #[.int .i64 k, .int .i64 n, .string s] 23) (.cells #[.int .i64 k', .int .i64 n', .string s'] 23) 23 (.int .i64 0) (.int .i64 0) (.string ⟨#[]⟩)
      have HF := fun c hc w => hide (value_fault c hc w)
      go_enter Tryd.func15, Tryd.ntmps15
      go_wp2_with fail
      refine (unhide (hI1 _)).mono ?_
      rintro e w1 ⟨rfl, hb1⟩
      replace BA := BA.below hb1
      replace BB := BB.below hb1
      replace BR := BR.below hb1
      obtain ⟨a0, a1, a2, fA⟩ := BA.cells
      obtain ⟨b0, b1, b2, fB⟩ := BB.cells
      obtain ⟨r0, r1, r2, fR⟩ := BR.cells
      replace HBW := hide (Below.andThen (unhide HBW) hb1)
      clear hb1
      go_wp2_with fail
      refine (unhide (hI2 _)).mono ?_
      rintro e w2 ⟨rfl, hb2⟩
      replace BA := BA.below hb2
      replace BB := BB.below hb2
      replace BR := BR.below hb2
      obtain ⟨a0, a1, a2, fA⟩ := BA.cells
      obtain ⟨b0, b1, b2, fB⟩ := BB.cells
      obtain ⟨r0, r1, r2, fR⟩ := BR.cells
      replace HBW := hide (Below.andThen (unhide HBW) hb2)
      clear hb2
      go_wp2_with (go_at_call 28; refine (unhide (HF _ (by decide) _)).mono ?_; rintro e w' ⟨v, rfl, he, hb⟩; replace BR := BR.below hb; obtain ⟨r0, r1, r2, fR⟩ := BR.cells; replace HBW := hide (Below.andThen (unhide HBW) hb); clear hb)
      exact bodyPost_ret (v := .tuple #[.agg #[.int .i64 (0), .int .i64 (0), .string (⟨#[]⟩)], v]) (by simp [results, Tryd.results15, go_sem, r0, r1, r2]) rfl ⟨_, rfl, (he).set3 BR _ _ _, below_set3 (unhide HBW) (by omega) _ _ _⟩
  · have p16 : (op == 16) = false := by simpa using ho
    clear h16 ho
    by_cases h7 : k = 2
    · have q6 : (k != 2) = false := by simpa using h7
      have q7 : (k' != 2) = true := by simpa using h.resolve_left (fun x => x h7)
      clear h h7
      have hB0 : ∀ o o' o'', Below w.heap.size w (((w.alloc o).alloc o').alloc o'') := fun o o' o'' => (((Below.refl _ _).alloc (Nat.le_refl _) o).alloc (by simp) o').alloc (by simp; omega) o''
      have HBW := hide (hB0 (.cells #[.int .i64 k, .int .i64 n, .string s] 23) (.cells #[.int .i64 k', .int .i64 n', .string s'] 23) (.cells #[.int .i64 0, .int .i64 0, .string ⟨#[]⟩] 23))
      clear hB0
      have BA := ((Blk3.new w 23 (.int .i64 k) (.int .i64 n) (.string s)).alloc (.cells #[.int .i64 k', .int .i64 n', .string s'] 23)).alloc (.cells #[.int .i64 0, .int .i64 0, .string ⟨#[]⟩] 23)
      have BB := (Blk3.new1 w (.cells #[.int .i64 k, .int .i64 n, .string s] 23) 23 (.int .i64 k') (.int .i64 n') (.string s')).alloc (.cells #[.int .i64 0, .int .i64 0, .string ⟨#[]⟩] 23)
      have BR := Blk3.new2 w (.cells #[.int .i64 k, .int .i64 n, .string s] 23) (.cells #[.int .i64 k', .int .i64 n', .string s'] 23) 23 (.int .i64 0) (.int .i64 0) (.string ⟨#[]⟩)
      have HF := fun c hc w => hide (value_fault c hc w)
      go_enter Tryd.func15, Tryd.ntmps15
      go_wp2_with fail
      refine (unhide (hI1 _)).mono ?_
      rintro e w1 ⟨rfl, hb1⟩
      replace BA := BA.below hb1
      replace BB := BB.below hb1
      replace BR := BR.below hb1
      obtain ⟨a0, a1, a2, fA⟩ := BA.cells
      obtain ⟨b0, b1, b2, fB⟩ := BB.cells
      obtain ⟨r0, r1, r2, fR⟩ := BR.cells
      replace HBW := hide (Below.andThen (unhide HBW) hb1)
      clear hb1
      go_wp2_with fail
      refine (unhide (hI2 _)).mono ?_
      rintro e w2 ⟨rfl, hb2⟩
      replace BA := BA.below hb2
      replace BB := BB.below hb2
      replace BR := BR.below hb2
      obtain ⟨a0, a1, a2, fA⟩ := BA.cells
      obtain ⟨b0, b1, b2, fB⟩ := BB.cells
      obtain ⟨r0, r1, r2, fR⟩ := BR.cells
      replace HBW := hide (Below.andThen (unhide HBW) hb2)
      clear hb2
      go_wp2_with (go_at_call 28; refine (unhide (HF _ (by decide) _)).mono ?_; rintro e w' ⟨v, rfl, he, hb⟩; replace BR := BR.below hb; obtain ⟨r0, r1, r2, fR⟩ := BR.cells; replace HBW := hide (Below.andThen (unhide HBW) hb); clear hb)
      exact bodyPost_ret (v := .tuple #[.agg #[.int .i64 (0), .int .i64 (0), .string (⟨#[]⟩)], v]) (by simp [results, Tryd.results15, go_sem, r0, r1, r2]) rfl ⟨_, rfl, (he).set3 BR _ _ _, below_set3 (unhide HBW) (by omega) _ _ _⟩
    · have q6 : (k != 2) = true := by simpa using h7
      clear h h7
      have hB0 : ∀ o o' o'', Below w.heap.size w (((w.alloc o).alloc o').alloc o'') := fun o o' o'' => (((Below.refl _ _).alloc (Nat.le_refl _) o).alloc (by simp) o').alloc (by simp; omega) o''
      have HBW := hide (hB0 (.cells #[.int .i64 k, .int .i64 n, .string s] 23) (.cells #[.int .i64 k', .int .i64 n', .string s'] 23) (.cells #[.int .i64 0, .int .i64 0, .string ⟨#[]⟩] 23))
      clear hB0
      have BA := ((Blk3.new w 23 (.int .i64 k) (.int .i64 n) (.string s)).alloc (.cells #[.int .i64 k', .int .i64 n', .string s'] 23)).alloc (.cells #[.int .i64 0, .int .i64 0, .string ⟨#[]⟩] 23)
      have BB := (Blk3.new1 w (.cells #[.int .i64 k, .int .i64 n, .string s] 23) 23 (.int .i64 k') (.int .i64 n') (.string s')).alloc (.cells #[.int .i64 0, .int .i64 0, .string ⟨#[]⟩] 23)
      have BR := Blk3.new2 w (.cells #[.int .i64 k, .int .i64 n, .string s] 23) (.cells #[.int .i64 k', .int .i64 n', .string s'] 23) 23 (.int .i64 0) (.int .i64 0) (.string ⟨#[]⟩)
      have HF := fun c hc w => hide (value_fault c hc w)
      go_enter Tryd.func15, Tryd.ntmps15
      go_wp2_with fail
      refine (unhide (hI1 _)).mono ?_
      rintro e w1 ⟨rfl, hb1⟩
      replace BA := BA.below hb1
      replace BB := BB.below hb1
      replace BR := BR.below hb1
      obtain ⟨a0, a1, a2, fA⟩ := BA.cells
      obtain ⟨b0, b1, b2, fB⟩ := BB.cells
      obtain ⟨r0, r1, r2, fR⟩ := BR.cells
      replace HBW := hide (Below.andThen (unhide HBW) hb1)
      clear hb1
      go_wp2_with fail
      refine (unhide (hI2 _)).mono ?_
      rintro e w2 ⟨rfl, hb2⟩
      replace BA := BA.below hb2
      replace BB := BB.below hb2
      replace BR := BR.below hb2
      obtain ⟨a0, a1, a2, fA⟩ := BA.cells
      obtain ⟨b0, b1, b2, fB⟩ := BB.cells
      obtain ⟨r0, r1, r2, fR⟩ := BR.cells
      replace HBW := hide (Below.andThen (unhide HBW) hb2)
      clear hb2
      go_wp2_with (go_at_call 28; refine (unhide (HF _ (by decide) _)).mono ?_; rintro e w' ⟨v, rfl, he, hb⟩; replace BR := BR.below hb; obtain ⟨r0, r1, r2, fR⟩ := BR.cells; replace HBW := hide (Below.andThen (unhide HBW) hb); clear hb)
      exact bodyPost_ret (v := .tuple #[.agg #[.int .i64 (0), .int .i64 (0), .string (⟨#[]⟩)], v]) (by simp [results, Tryd.results15, go_sem, r0, r1, r2]) rfl ⟨_, rfl, (he).set3 BR _ _ _, below_set3 (unhide HBW) (by omega) _ _ _⟩
end Go.Proofs.YtjcpmdbgjjmcdaaDoor

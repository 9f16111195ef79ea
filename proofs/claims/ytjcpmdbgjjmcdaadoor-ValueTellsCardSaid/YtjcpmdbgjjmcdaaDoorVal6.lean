/- Package value: Do of texts and of numbers: walks. -/
import Derived.Test.YtjcpmdbgjjmcdaaDoorVal5
namespace Go.Proofs.YtjcpmdbgjjmcdaaDoor
open Go.RowKit

theorem RPost.fault {w : World} {c : Int} {e : Ending} {w' : World} (h : RPost w (0, c) e w') : ∃ v, e = .returned (.tuple #[.int .i64 0, v]) ∧ IsErr w' v c ∧ Below w.heap.size w w' := h
theorem IsErr.held {W : World} {v : Value} {c : Int} (h : IsErr W v c) (hc : c ≠ 0) : ∃ T x, v = .iface T x := by
  rcases h with ⟨h, _⟩ | ⟨_, d, hd⟩
  · exact absurd h hc
  · exact hd.iface
theorem reckonR_err {op a b : Int} (h : (reckonR op a b).2 ≠ 0) : (reckonR op a b).1 = 0 := by
  unfold reckonR fit at *
  repeat' split at h
  all_goals (repeat' split) <;> first | rfl | exact absurd rfl h | (simp_all; done)

set_option maxRecDepth 100000 in
set_option maxHeartbeats 1000000 in
theorem do_cat (k n : Int) (s : ByteArray) (k' n' : Int) (s' : ByteArray) (w : World) (hs : s.size ≤ 2305843009213693952) (hs' : s'.size ≤ 2305843009213693952) (m1 : mayB k n s = true) (m2 : mayB k' n' s' = true) (hk : k = 3) (hk' : k' = 3) :
    Calls Tryd.prog 15 #[.int .i64 16, .agg #[.int .i64 k, .int .i64 n, .string s], .agg #[.int .i64 k', .int .i64 n', .string s']] w (DPost w (if 40 < (s.size : Int) + s'.size then (0, 0, ⟨#[]⟩, 6) else (3, 0, s ++ s', 0))) := by
  have hI1 := fun w => hide (value_Is k n s w (by omega))
  have hI2 := fun w => hide (value_Is k' n' s' w (by omega))
  have q4 : (k == 0) = false := by subst hk; rfl
  have q5 : (k' == 0) = false := by subst hk'; rfl
  have q6 : (k != 3) = false := by subst hk; rfl
  have q7 : (k' != 3) = false := by subst hk'; rfl
  clear hk hk'
  by_cases h : 40 < (s.size : Int) + s'.size
  · rw [if_pos h]
    have hB0 : ∀ o o' o'', Below w.heap.size w (((w.alloc o).alloc o').alloc o'') := fun o o' o'' => (((Below.refl _ _).alloc (Nat.le_refl _) o).alloc (by simp) o').alloc (by simp; omega) o''
    have HBW := hide (hB0 (.cells #[.int .i64 k, .int .i64 n, .string s] 23) (.cells #[.int .i64 k', .int .i64 n', .string s'] 23) (.cells #[.int .i64 0, .int .i64 0, .string ⟨#[]⟩] 23))
    clear hB0
    have BA := ((Blk3.new w 23 (.int .i64 k) (.int .i64 n) (.string s)).alloc (.cells #[.int .i64 k', .int .i64 n', .string s'] 23)).alloc (.cells #[.int .i64 0, .int .i64 0, .string ⟨#[]⟩] 23)
    have BB := (Blk3.new1 w (.cells #[.int .i64 k, .int .i64 n, .string s] 23) 23 (.int .i64 k') (.int .i64 n') (.string s')).alloc (.cells #[.int .i64 0, .int .i64 0, .string ⟨#[]⟩] 23)
    have BR := Blk3.new2 w (.cells #[.int .i64 k, .int .i64 n, .string s] 23) (.cells #[.int .i64 k', .int .i64 n', .string s'] 23) 23 (.int .i64 0) (.int .i64 0) (.string ⟨#[]⟩)
    have HF := fun c hc w => hide (value_fault c hc w)
    go_enter Tryd.func15, Tryd.ntmps15
    go_wp2_with fail
    refine (unhide (hI1 _)).mono ?_
    rintro e w1 ⟨rfl, hb1⟩
    replace BA := BA.below hb1
    replace BB := BB.below hb1
    replace BR := BR.below hb1
    obtain ⟨a0, a1, a2, fA⟩ := BA.cells
    obtain ⟨b0, b1, b2, fB⟩ := BB.cells
    obtain ⟨r0, r1, r2, fR⟩ := BR.cells
    replace HBW := hide (Below.andThen (unhide HBW) hb1)
    clear hb1
    go_wp2_with fail
    refine (unhide (hI2 _)).mono ?_
    rintro e w2 ⟨rfl, hb2⟩
    replace BA := BA.below hb2
    replace BB := BB.below hb2
    replace BR := BR.below hb2
    obtain ⟨a0, a1, a2, fA⟩ := BA.cells
    obtain ⟨b0, b1, b2, fB⟩ := BB.cells
    obtain ⟨r0, r1, r2, fR⟩ := BR.cells
    replace HBW := hide (Below.andThen (unhide HBW) hb2)
    clear hb2
    go_wp2_with (go_at_call 28; refine (unhide (HF _ (by decide) _)).mono ?_; rintro e w' ⟨v, rfl, he, hb⟩; replace BR := BR.below hb; obtain ⟨r0, r1, r2, fR⟩ := BR.cells; replace HBW := hide (Below.andThen (unhide HBW) hb); clear hb)
    exact bodyPost_ret (v := .tuple #[.agg #[.int .i64 (0), .int .i64 (0), .string (⟨#[]⟩)], v]) (by simp [results, Tryd.results15, go_sem, r0, r1, r2]) rfl ⟨_, rfl, (he).set3 BR _ _ _, below_set3 (unhide HBW) (by omega) _ _ _⟩
  · rw [if_neg h]
    have hB0 : ∀ o o' o'', Below w.heap.size w (((w.alloc o).alloc o').alloc o'') := fun o o' o'' => (((Below.refl _ _).alloc (Nat.le_refl _) o).alloc (by simp) o').alloc (by simp; omega) o''
    have HBW := hide (hB0 (.cells #[.int .i64 k, .int .i64 n, .string s] 23) (.cells #[.int .i64 k', .int .i64 n', .string s'] 23) (.cells #[.int .i64 0, .int .i64 0, .string ⟨#[]⟩] 23))
    clear hB0
    have BA := ((Blk3.new w 23 (.int .i64 k) (.int .i64 n) (.string s)).alloc (.cells #[.int .i64 k', .int .i64 n', .string s'] 23)).alloc (.cells #[.int .i64 0, .int .i64 0, .string ⟨#[]⟩] 23)
    have BB := (Blk3.new1 w (.cells #[.int .i64 k, .int .i64 n, .string s] 23) 23 (.int .i64 k') (.int .i64 n') (.string s')).alloc (.cells #[.int .i64 0, .int .i64 0, .string ⟨#[]⟩] 23)
    have BR := Blk3.new2 w (.cells #[.int .i64 k, .int .i64 n, .string s] 23) (.cells #[.int .i64 k', .int .i64 n', .string s'] 23) 23 (.int .i64 0) (.int .i64 0) (.string ⟨#[]⟩)
    have HF := fun c hc w => hide (value_fault c hc w)
    go_enter Tryd.func15, Tryd.ntmps15
    go_wp2_with fail
    refine (unhide (hI1 _)).mono ?_
    rintro e w1 ⟨rfl, hb1⟩
    replace BA := BA.below hb1
    replace BB := BB.below hb1
    replace BR := BR.below hb1
    obtain ⟨a0, a1, a2, fA⟩ := BA.cells
    obtain ⟨b0, b1, b2, fB⟩ := BB.cells
    obtain ⟨r0, r1, r2, fR⟩ := BR.cells
    replace HBW := hide (Below.andThen (unhide HBW) hb1)
    clear hb1
    go_wp2_with fail
    refine (unhide (hI2 _)).mono ?_
    rintro e w2 ⟨rfl, hb2⟩
    replace BA := BA.below hb2
    replace BB := BB.below hb2
    replace BR := BR.below hb2
    obtain ⟨a0, a1, a2, fA⟩ := BA.cells
    obtain ⟨b0, b1, b2, fB⟩ := BB.cells
    obtain ⟨r0, r1, r2, fR⟩ := BR.cells
    replace HBW := hide (Below.andThen (unhide HBW) hb2)
    clear hb2
    go_wp2
    exact bodyPost_ret (v := .tuple #[.agg #[.int .i64 (3), .int .i64 (0), .string (s ++ s')], .nilIface]) (by simp [results, Tryd.results15, go_sem, r0, r1, r2]) rfl ⟨_, rfl, (IsErr.ok0 _).set3 BR _ _ _, below_set3 (unhide HBW) (by omega) _ _ _⟩

set_option maxRecDepth 100000 in
set_option maxHeartbeats 1000000 in
theorem do_num (op k n : Int) (s : ByteArray) (k' n' : Int) (s' : ByteArray) (w : World) (hs : s.size ≤ 9223372036854775807) (hs' : s'.size ≤ 9223372036854775807) (hn : In64 n) (hn' : In64 n') (h1 : 11 ≤ op) (h2 : op ≤ 15) (m1 : mayB k n s = true) (m2 : mayB k' n' s' = true) (hk : k = 2) (hk' : k' = 2) :
    Calls Tryd.prog 15 #[.int .i64 op, .agg #[.int .i64 k, .int .i64 n, .string s], .agg #[.int .i64 k', .int .i64 n', .string s']] w
      (DPost w (if (reckonR op n n').2 = 0 then (2, (reckonR op n n').1, ⟨#[]⟩, 0) else (0, 0, ⟨#[]⟩, (reckonR op n n').2))) := by
  have hI1 := fun w => hide (value_Is k n s w (by omega))
  have hI2 := fun w => hide (value_Is k' n' s' w (by omega))
  have HR := fun w => hide (value_reckon op n n' hn hn' (.inr ⟨h1, h2⟩) w)
  have hre := @reckonR_err op n n'
  generalize reckonR op n n' = r at *
  obtain ⟨r1', r2'⟩ := r
  have q1 : (op == 1) = false := by rw [beq_eq_false_iff_ne]; omega
  have q2 : (op != 1) = true := by rw [bne_iff_ne]; omega
  have q3 : (op == 16) = false := by rw [beq_eq_false_iff_ne]; omega
  have q4 : (k == 0) = false := by subst hk; rfl
  have q5 : (k' == 0) = false := by subst hk'; rfl
  have q6 : (k != 2) = false := by subst hk; rfl
  have q7 : (k' != 2) = false := by subst hk'; rfl
  clear hk hk' hn hn'
  dsimp only at HR hre ⊢
  by_cases hz : r2' = 0
  · subst hz
    rw [if_pos rfl]
    clear hre
    have hB0 : ∀ o o' o'', Below w.heap.size w (((w.alloc o).alloc o').alloc o'') := fun o o' o'' => (((Below.refl _ _).alloc (Nat.le_refl _) o).alloc (by simp) o').alloc (by simp; omega) o''
    have HBW := hide (hB0 (.cells #[.int .i64 k, .int .i64 n, .string s] 23) (.cells #[.int .i64 k', .int .i64 n', .string s'] 23) (.cells #[.int .i64 0, .int .i64 0, .string ⟨#[]⟩] 23))
    clear hB0
    have BA := ((Blk3.new w 23 (.int .i64 k) (.int .i64 n) (.string s)).alloc (.cells #[.int .i64 k', .int .i64 n', .string s'] 23)).alloc (.cells #[.int .i64 0, .int .i64 0, .string ⟨#[]⟩] 23)
    have BB := (Blk3.new1 w (.cells #[.int .i64 k, .int .i64 n, .string s] 23) 23 (.int .i64 k') (.int .i64 n') (.string s')).alloc (.cells #[.int .i64 0, .int .i64 0, .string ⟨#[]⟩] 23)
    have BR := Blk3.new2 w (.cells #[.int .i64 k, .int .i64 n, .string s] 23) (.cells #[.int .i64 k', .int .i64 n', .string s'] 23) 23 (.int .i64 0) (.int .i64 0) (.string ⟨#[]⟩)
    have HF := fun c hc w => hide (value_fault c hc w)
    go_enter Tryd.func15, Tryd.ntmps15
    go_wp2_with fail
    refine (unhide (hI1 _)).mono ?_
    rintro e w1 ⟨rfl, hb1⟩
    replace BA := BA.below hb1
    replace BB := BB.below hb1
    replace BR := BR.below hb1
    obtain ⟨a0, a1, a2, fA⟩ := BA.cells
    obtain ⟨b0, b1, b2, fB⟩ := BB.cells
    obtain ⟨r0, r1, r2, fR⟩ := BR.cells
    replace HBW := hide (Below.andThen (unhide HBW) hb1)
    clear hb1
    go_wp2_with fail
    refine (unhide (hI2 _)).mono ?_
    rintro e w2 ⟨rfl, hb2⟩
    replace BA := BA.below hb2
    replace BB := BB.below hb2
    replace BR := BR.below hb2
    obtain ⟨a0, a1, a2, fA⟩ := BA.cells
    obtain ⟨b0, b1, b2, fB⟩ := BB.cells
    obtain ⟨r0, r1, r2, fR⟩ := BR.cells
    replace HBW := hide (Below.andThen (unhide HBW) hb2)
    clear hb2
    go_wp2_with fail
    refine (unhide (HR _)).mono ?_
    rintro e w3 ⟨v, rfl, he, hb3⟩
    obtain rfl := he.nil
    replace BA := BA.below hb3
    replace BB := BB.below hb3
    replace BR := BR.below hb3
    obtain ⟨a0, a1, a2, fA⟩ := BA.cells
    obtain ⟨b0, b1, b2, fB⟩ := BB.cells
    obtain ⟨r0, r1, r2, fR⟩ := BR.cells
    replace HBW := hide (Below.andThen (unhide HBW) hb3)
    clear hb3
    go_wp2
    exact bodyPost_ret (v := .tuple #[.agg #[.int .i64 (2), .int .i64 (r1'), .string (⟨#[]⟩)], .nilIface]) (by simp [results, Tryd.results15, go_sem, r0, r1, r2]) rfl ⟨_, rfl, (IsErr.ok0 _).set3 BR _ _ _, below_set3 (unhide HBW) (by omega) _ _ _⟩
  · rw [if_neg hz]
    have hr1 : r1' = 0 := hre hz
    subst hr1
    have HZ := hide hz
    clear hre hz
    have hB0 : ∀ o o' o'', Below w.heap.size w (((w.alloc o).alloc o').alloc o'') := fun o o' o'' => (((Below.refl _ _).alloc (Nat.le_refl _) o).alloc (by simp) o').alloc (by simp; omega) o''
    have HBW := hide (hB0 (.cells #[.int .i64 k, .int .i64 n, .string s] 23) (.cells #[.int .i64 k', .int .i64 n', .string s'] 23) (.cells #[.int .i64 0, .int .i64 0, .string ⟨#[]⟩] 23))
    clear hB0
    have BA := ((Blk3.new w 23 (.int .i64 k) (.int .i64 n) (.string s)).alloc (.cells #[.int .i64 k', .int .i64 n', .string s'] 23)).alloc (.cells #[.int .i64 0, .int .i64 0, .string ⟨#[]⟩] 23)
    have BB := (Blk3.new1 w (.cells #[.int .i64 k, .int .i64 n, .string s] 23) 23 (.int .i64 k') (.int .i64 n') (.string s')).alloc (.cells #[.int .i64 0, .int .i64 0, .string ⟨#[]⟩] 23)
    have BR := Blk3.new2 w (.cells #[.int .i64 k, .int .i64 n, .string s] 23) (.cells #[.int .i64 k', .int .i64 n', .string s'] 23) 23 (.int .i64 0) (.int .i64 0) (.string ⟨#[]⟩)
    have HF := fun c hc w => hide (value_fault c hc w)
    go_enter Tryd.func15, Tryd.ntmps15
    go_wp2_with fail
    refine (unhide (hI1 _)).mono ?_
    rintro e w1 ⟨rfl, hb1⟩
    replace BA := BA.below hb1
    replace BB := BB.below hb1
    replace BR := BR.below hb1
    obtain ⟨a0, a1, a2, fA⟩ := BA.cells
    obtain ⟨b0, b1, b2, fB⟩ := BB.cells
    obtain ⟨r0, r1, r2, fR⟩ := BR.cells
    replace HBW := hide (Below.andThen (unhide HBW) hb1)
    clear hb1
    go_wp2_with fail
    refine (unhide (hI2 _)).mono ?_
    rintro e w2 ⟨rfl, hb2⟩
    replace BA := BA.below hb2
    replace BB := BB.below hb2
    replace BR := BR.below hb2
    obtain ⟨a0, a1, a2, fA⟩ := BA.cells
    obtain ⟨b0, b1, b2, fB⟩ := BB.cells
    obtain ⟨r0, r1, r2, fR⟩ := BR.cells
    replace HBW := hide (Below.andThen (unhide HBW) hb2)
    clear hb2
    go_wp2_with fail
    refine (unhide (HR _)).mono ?_
    rintro e w3 ⟨v, rfl, he, hb3⟩
    obtain ⟨T, x, rfl⟩ := he.held (unhide HZ)
    replace BA := BA.below hb3
    replace BB := BB.below hb3
    replace BR := BR.below hb3
    obtain ⟨a0, a1, a2, fA⟩ := BA.cells
    obtain ⟨b0, b1, b2, fB⟩ := BB.cells
    obtain ⟨r0, r1, r2, fR⟩ := BR.cells
    replace HBW := hide (Below.andThen (unhide HBW) hb3)
    clear hb3
    go_wp2
    exact bodyPost_ret (v := .tuple #[.agg #[.int .i64 (0), .int .i64 (0), .string (⟨#[]⟩)], .iface T x]) (by simp [results, Tryd.results15, go_sem, r0, r1, r2]) rfl ⟨_, rfl, (he).set3 BR _ _ _, below_set3 (unhide HBW) (by omega) _ _ _⟩

theorem may20 : mayB 2 0 ⟨#[]⟩ = true := by simp [mayB]
set_option maxRecDepth 100000 in
set_option maxHeartbeats 1000000 in
theorem neg_form (k n : Int) (s : ByteArray) (k' n' : Int) (s' : ByteArray) (w : World) (hs : s.size ≤ 9223372036854775807) (m1 : mayB k n s = false) :
    Calls Tryd.prog 15 #[.int .i64 1, .agg #[.int .i64 k, .int .i64 n, .string s], .agg #[.int .i64 k', .int .i64 n', .string s']] w (DPost w (0, 0, ⟨#[]⟩, 20)) := by
  have hI1 := fun w => hide (value_Is k n s w (by omega))
  have hB0 : ∀ o o' o'', Below w.heap.size w (((w.alloc o).alloc o').alloc o'') := fun o o' o'' => (((Below.refl _ _).alloc (Nat.le_refl _) o).alloc (by simp) o').alloc (by simp; omega) o''
  have HBW := hide (hB0 (.cells #[.int .i64 k, .int .i64 n, .string s] 23) (.cells #[.int .i64 2, .int .i64 0, .string ⟨#[]⟩] 23) (.cells #[.int .i64 0, .int .i64 0, .string ⟨#[]⟩] 23))
  clear hB0
  have BA := ((Blk3.new w 23 (.int .i64 k) (.int .i64 n) (.string s)).alloc (.cells #[.int .i64 2, .int .i64 0, .string ⟨#[]⟩] 23)).alloc (.cells #[.int .i64 0, .int .i64 0, .string ⟨#[]⟩] 23)
  have BB := (Blk3.new1 w (.cells #[.int .i64 k, .int .i64 n, .string s] 23) 23 (.int .i64 2) (.int .i64 0) (.string ⟨#[]⟩)).alloc (.cells #[.int .i64 0, .int .i64 0, .string ⟨#[]⟩] 23)
  have BR := Blk3.new2 w (.cells #[.int .i64 k, .int .i64 n, .string s] 23) (.cells #[.int .i64 2, .int .i64 0, .string ⟨#[]⟩] 23) 23 (.int .i64 0) (.int .i64 0) (.string ⟨#[]⟩)
  have HF := fun c hc w => hide (value_fault c hc w)
  go_enter Tryd.func15, Tryd.ntmps15
  go_wp2_with fail
  refine (unhide (hI1 _)).mono ?_
  rintro e w1 ⟨rfl, hb1⟩
  replace BA := BA.below hb1
  replace BB := BB.below hb1
  replace BR := BR.below hb1
  obtain ⟨a0, a1, a2, fA⟩ := BA.cells
  obtain ⟨b0, b1, b2, fB⟩ := BB.cells
  obtain ⟨r0, r1, r2, fR⟩ := BR.cells
  replace HBW := hide (Below.andThen (unhide HBW) hb1)
  clear hb1
  go_wp2_with (go_at_call 28; refine (unhide (HF _ (by decide) _)).mono ?_; rintro e w' ⟨v, rfl, he, hb⟩; replace BR := BR.below hb; obtain ⟨r0, r1, r2, fR⟩ := BR.cells; replace HBW := hide (Below.andThen (unhide HBW) hb); clear hb)
  exact bodyPost_ret (v := .tuple #[.agg #[.int .i64 (0), .int .i64 (0), .string (⟨#[]⟩)], v]) (by simp [results, Tryd.results15, go_sem, r0, r1, r2]) rfl ⟨_, rfl, (he).set3 BR _ _ _, below_set3 (unhide HBW) (by omega) _ _ _⟩

set_option maxRecDepth 100000 in
set_option maxHeartbeats 1000000 in
theorem neg_null (k n : Int) (s : ByteArray) (k' n' : Int) (s' : ByteArray) (w : World) (hs : s.size ≤ 9223372036854775807) (m1 : mayB k n s = true) (hk : k = 0) :
    Calls Tryd.prog 15 #[.int .i64 1, .agg #[.int .i64 k, .int .i64 n, .string s], .agg #[.int .i64 k', .int .i64 n', .string s']] w (DPost w (0, 0, ⟨#[]⟩, 0)) := by
  have hI1 := fun w => hide (value_Is k n s w (by omega))
  have hI2 := fun w => hide (value_Is 2 0 ⟨#[]⟩ w (by decide))
  have q4 : (k == 0) = true := by simpa using hk
  clear hk
  have hB0 : ∀ o o' o'', Below w.heap.size w (((w.alloc o).alloc o').alloc o'') := fun o o' o'' => (((Below.refl _ _).alloc (Nat.le_refl _) o).alloc (by simp) o').alloc (by simp; omega) o''
  have HBW := hide (hB0 (.cells #[.int .i64 k, .int .i64 n, .string s] 23) (.cells #[.int .i64 2, .int .i64 0, .string ⟨#[]⟩] 23) (.cells #[.int .i64 0, .int .i64 0, .string ⟨#[]⟩] 23))
  clear hB0
  have BA := ((Blk3.new w 23 (.int .i64 k) (.int .i64 n) (.string s)).alloc (.cells #[.int .i64 2, .int .i64 0, .string ⟨#[]⟩] 23)).alloc (.cells #[.int .i64 0, .int .i64 0, .string ⟨#[]⟩] 23)
  have BB := (Blk3.new1 w (.cells #[.int .i64 k, .int .i64 n, .string s] 23) 23 (.int .i64 2) (.int .i64 0) (.string ⟨#[]⟩)).alloc (.cells #[.int .i64 0, .int .i64 0, .string ⟨#[]⟩] 23)
  have BR := Blk3.new2 w (.cells #[.int .i64 k, .int .i64 n, .string s] 23) (.cells #[.int .i64 2, .int .i64 0, .string ⟨#[]⟩] 23) 23 (.int .i64 0) (.int .i64 0) (.string ⟨#[]⟩)
  have HF := fun c hc w => hide (value_fault c hc w)
  go_enter Tryd.func15, Tryd.ntmps15
  go_wp2_with fail
  refine (unhide (hI1 _)).mono ?_
  rintro e w1 ⟨rfl, hb1⟩
  replace BA := BA.below hb1
  replace BB := BB.below hb1
  replace BR := BR.below hb1
  obtain ⟨a0, a1, a2, fA⟩ := BA.cells
  obtain ⟨b0, b1, b2, fB⟩ := BB.cells
  obtain ⟨r0, r1, r2, fR⟩ := BR.cells
  replace HBW := hide (Below.andThen (unhide HBW) hb1)
  clear hb1
  go_wp2_with fail
  refine (unhide (hI2 _)).mono ?_
  rintro e w2 ⟨rfl, hb2⟩
  rw [may20]
  replace BA := BA.below hb2
  replace BB := BB.below hb2
  replace BR := BR.below hb2
  obtain ⟨a0, a1, a2, fA⟩ := BA.cells
  obtain ⟨b0, b1, b2, fB⟩ := BB.cells
  obtain ⟨r0, r1, r2, fR⟩ := BR.cells
  replace HBW := hide (Below.andThen (unhide HBW) hb2)
  clear hb2
  go_wp2
  exact bodyPost_ret (v := .tuple #[.agg #[.int .i64 (0), .int .i64 (0), .string (⟨#[]⟩)], .nilIface]) (by simp [results, Tryd.results15, go_sem, r0, r1, r2]) rfl ⟨_, rfl, (IsErr.ok0 _).set3 BR _ _ _, below_set3 (unhide HBW) (by omega) _ _ _⟩

set_option maxRecDepth 100000 in
set_option maxHeartbeats 1000000 in
theorem neg_type (k n : Int) (s : ByteArray) (k' n' : Int) (s' : ByteArray) (w : World) (hs : s.size ≤ 9223372036854775807) (m1 : mayB k n s = true) (hk : k ≠ 0) (hk2 : k ≠ 2) :
    Calls Tryd.prog 15 #[.int .i64 1, .agg #[.int .i64 k, .int .i64 n, .string s], .agg #[.int .i64 k', .int .i64 n', .string s']] w (DPost w (0, 0, ⟨#[]⟩, 4)) := by
  have hI1 := fun w => hide (value_Is k n s w (by omega))
  have hI2 := fun w => hide (value_Is 2 0 ⟨#[]⟩ w (by decide))
  have q4 : (k == 0) = false := by simpa using hk
  have q5 : (k != 2) = true := by simpa using hk2
  clear hk hk2
  have hB0 : ∀ o o' o'', Below w.heap.size w (((w.alloc o).alloc o').alloc o'') := fun o o' o'' => (((Below.refl _ _).alloc (Nat.le_refl _) o).alloc (by simp) o').alloc (by simp; omega) o''
  have HBW := hide (hB0 (.cells #[.int .i64 k, .int .i64 n, .string s] 23) (.cells #[.int .i64 2, .int .i64 0, .string ⟨#[]⟩] 23) (.cells #[.int .i64 0, .int .i64 0, .string ⟨#[]⟩] 23))
  clear hB0
  have BA := ((Blk3.new w 23 (.int .i64 k) (.int .i64 n) (.string s)).alloc (.cells #[.int .i64 2, .int .i64 0, .string ⟨#[]⟩] 23)).alloc (.cells #[.int .i64 0, .int .i64 0, .string ⟨#[]⟩] 23)
  have BB := (Blk3.new1 w (.cells #[.int .i64 k, .int .i64 n, .string s] 23) 23 (.int .i64 2) (.int .i64 0) (.string ⟨#[]⟩)).alloc (.cells #[.int .i64 0, .int .i64 0, .string ⟨#[]⟩] 23)
  have BR := Blk3.new2 w (.cells #[.int .i64 k, .int .i64 n, .string s] 23) (.cells #[.int .i64 2, .int .i64 0, .string ⟨#[]⟩] 23) 23 (.int .i64 0) (.int .i64 0) (.string ⟨#[]⟩)
  have HF := fun c hc w => hide (value_fault c hc w)
  go_enter Tryd.func15, Tryd.ntmps15
  go_wp2_with fail
  refine (unhide (hI1 _)).mono ?_
  rintro e w1 ⟨rfl, hb1⟩
  replace BA := BA.below hb1
  replace BB := BB.below hb1
  replace BR := BR.below hb1
  obtain ⟨a0, a1, a2, fA⟩ := BA.cells
  obtain ⟨b0, b1, b2, fB⟩ := BB.cells
  obtain ⟨r0, r1, r2, fR⟩ := BR.cells
  replace HBW := hide (Below.andThen (unhide HBW) hb1)
  clear hb1
  go_wp2_with fail
  refine (unhide (hI2 _)).mono ?_
  rintro e w2 ⟨rfl, hb2⟩
  rw [may20]
  replace BA := BA.below hb2
  replace BB := BB.below hb2
  replace BR := BR.below hb2
  obtain ⟨a0, a1, a2, fA⟩ := BA.cells
  obtain ⟨b0, b1, b2, fB⟩ := BB.cells
  obtain ⟨r0, r1, r2, fR⟩ := BR.cells
  replace HBW := hide (Below.andThen (unhide HBW) hb2)
  clear hb2
  go_wp2_with (go_at_call 28; refine (unhide (HF _ (by decide) _)).mono ?_; rintro e w' ⟨v, rfl, he, hb⟩; replace BR := BR.below hb; obtain ⟨r0, r1, r2, fR⟩ := BR.cells; replace HBW := hide (Below.andThen (unhide HBW) hb); clear hb)
  exact bodyPost_ret (v := .tuple #[.agg #[.int .i64 (0), .int .i64 (0), .string (⟨#[]⟩)], v]) (by simp [results, Tryd.results15, go_sem, r0, r1, r2]) rfl ⟨_, rfl, (he).set3 BR _ _ _, below_set3 (unhide HBW) (by omega) _ _ _⟩

set_option maxRecDepth 100000 in
set_option maxHeartbeats 1000000 in
theorem neg_num (k n : Int) (s : ByteArray) (k' n' : Int) (s' : ByteArray) (w : World) (hs : s.size ≤ 9223372036854775807) (hn : In64 n) (m1 : mayB k n s = true) (hk : k = 2) :
    Calls Tryd.prog 15 #[.int .i64 1, .agg #[.int .i64 k, .int .i64 n, .string s], .agg #[.int .i64 k', .int .i64 n', .string s']] w
      (DPost w (if (reckonR 1 n 0).2 = 0 then (2, (reckonR 1 n 0).1, ⟨#[]⟩, 0) else (0, 0, ⟨#[]⟩, (reckonR 1 n 0).2))) := by
  have hI1 := fun w => hide (value_Is k n s w (by omega))
  have hI2 := fun w => hide (value_Is 2 0 ⟨#[]⟩ w (by decide))
  have HR := fun w => hide (value_reckon 1 n 0 hn (by constructor <;> decide) (.inl rfl) w)
  have hre := @reckonR_err 1 n 0
  generalize reckonR 1 n 0 = r at *
  obtain ⟨r1', r2'⟩ := r
  have q4 : (k == 0) = false := by subst hk; rfl
  have q6 : (k != 2) = false := by subst hk; rfl
  clear hk hn
  dsimp only at HR hre ⊢
  by_cases hz : r2' = 0
  · subst hz
    rw [if_pos rfl]
    clear hre
    have hB0 : ∀ o o' o'', Below w.heap.size w (((w.alloc o).alloc o').alloc o'') := fun o o' o'' => (((Below.refl _ _).alloc (Nat.le_refl _) o).alloc (by simp) o').alloc (by simp; omega) o''
    have HBW := hide (hB0 (.cells #[.int .i64 k, .int .i64 n, .string s] 23) (.cells #[.int .i64 2, .int .i64 0, .string ⟨#[]⟩] 23) (.cells #[.int .i64 0, .int .i64 0, .string ⟨#[]⟩] 23))
    clear hB0
    have BA := ((Blk3.new w 23 (.int .i64 k) (.int .i64 n) (.string s)).alloc (.cells #[.int .i64 2, .int .i64 0, .string ⟨#[]⟩] 23)).alloc (.cells #[.int .i64 0, .int .i64 0, .string ⟨#[]⟩] 23)
    have BB := (Blk3.new1 w (.cells #[.int .i64 k, .int .i64 n, .string s] 23) 23 (.int .i64 2) (.int .i64 0) (.string ⟨#[]⟩)).alloc (.cells #[.int .i64 0, .int .i64 0, .string ⟨#[]⟩] 23)
    have BR := Blk3.new2 w (.cells #[.int .i64 k, .int .i64 n, .string s] 23) (.cells #[.int .i64 2, .int .i64 0, .string ⟨#[]⟩] 23) 23 (.int .i64 0) (.int .i64 0) (.string ⟨#[]⟩)
    have HF := fun c hc w => hide (value_fault c hc w)
    go_enter Tryd.func15, Tryd.ntmps15
    go_wp2_with fail
    refine (unhide (hI1 _)).mono ?_
    rintro e w1 ⟨rfl, hb1⟩
    replace BA := BA.below hb1
    replace BB := BB.below hb1
    replace BR := BR.below hb1
    obtain ⟨a0, a1, a2, fA⟩ := BA.cells
    obtain ⟨b0, b1, b2, fB⟩ := BB.cells
    obtain ⟨r0, r1, r2, fR⟩ := BR.cells
    replace HBW := hide (Below.andThen (unhide HBW) hb1)
    clear hb1
    go_wp2_with fail
    refine (unhide (hI2 _)).mono ?_
    rintro e w2 ⟨rfl, hb2⟩
    rw [may20]
    replace BA := BA.below hb2
    replace BB := BB.below hb2
    replace BR := BR.below hb2
    obtain ⟨a0, a1, a2, fA⟩ := BA.cells
    obtain ⟨b0, b1, b2, fB⟩ := BB.cells
    obtain ⟨r0, r1, r2, fR⟩ := BR.cells
    replace HBW := hide (Below.andThen (unhide HBW) hb2)
    clear hb2
    go_wp2_with fail
    refine (unhide (HR _)).mono ?_
    rintro e w3 ⟨v, rfl, he, hb3⟩
    obtain rfl := he.nil
    replace BA := BA.below hb3
    replace BB := BB.below hb3
    replace BR := BR.below hb3
    obtain ⟨a0, a1, a2, fA⟩ := BA.cells
    obtain ⟨b0, b1, b2, fB⟩ := BB.cells
    obtain ⟨r0, r1, r2, fR⟩ := BR.cells
    replace HBW := hide (Below.andThen (unhide HBW) hb3)
    clear hb3
    go_wp2
    exact bodyPost_ret (v := .tuple #[.agg #[.int .i64 (2), .int .i64 (r1'), .string (⟨#[]⟩)], .nilIface]) (by simp [results, Tryd.results15, go_sem, r0, r1, r2]) rfl ⟨_, rfl, (IsErr.ok0 _).set3 BR _ _ _, below_set3 (unhide HBW) (by omega) _ _ _⟩
  · rw [if_neg hz]
    have hr1 : r1' = 0 := hre hz
    subst hr1
    have HZ := hide hz
    clear hre hz
    have hB0 : ∀ o o' o'', Below w.heap.size w (((w.alloc o).alloc o').alloc o'') := fun o o' o'' => (((Below.refl _ _).alloc (Nat.le_refl _) o).alloc (by simp) o').alloc (by simp; omega) o''
    have HBW := hide (hB0 (.cells #[.int .i64 k, .int .i64 n, .string s] 23) (.cells #[.int .i64 2, .int .i64 0, .string ⟨#[]⟩] 23) (.cells #[.int .i64 0, .int .i64 0, .string ⟨#[]⟩] 23))
    clear hB0
    have BA := ((Blk3.new w 23 (.int .i64 k) (.int .i64 n) (.string s)).alloc (.cells #[.int .i64 2, .int .i64 0, .string ⟨#[]⟩] 23)).alloc (.cells #[.int .i64 0, .int .i64 0, .string ⟨#[]⟩] 23)
    have BB := (Blk3.new1 w (.cells #[.int .i64 k, .int .i64 n, .string s] 23) 23 (.int .i64 2) (.int .i64 0) (.string ⟨#[]⟩)).alloc (.cells #[.int .i64 0, .int .i64 0, .string ⟨#[]⟩] 23)
    have BR := Blk3.new2 w (.cells #[.int .i64 k, .int .i64 n, .string s] 23) (.cells #[.int .i64 2, .int .i64 0, .string ⟨#[]⟩] 23) 23 (.int .i64 0) (.int .i64 0) (.string ⟨#[]⟩)
    have HF := fun c hc w => hide (value_fault c hc w)
    go_enter Tryd.func15, Tryd.ntmps15
    go_wp2_with fail
    refine (unhide (hI1 _)).mono ?_
    rintro e w1 ⟨rfl, hb1⟩
    replace BA := BA.below hb1
    replace BB := BB.below hb1
    replace BR := BR.below hb1
    obtain ⟨a0, a1, a2, fA⟩ := BA.cells
    obtain ⟨b0, b1, b2, fB⟩ := BB.cells
    obtain ⟨r0, r1, r2, fR⟩ := BR.cells
    replace HBW := hide (Below.andThen (unhide HBW) hb1)
    clear hb1
    go_wp2_with fail
    refine (unhide (hI2 _)).mono ?_
    rintro e w2 ⟨rfl, hb2⟩
    rw [may20]
    replace BA := BA.below hb2
    replace BB := BB.below hb2
    replace BR := BR.below hb2
    obtain ⟨a0, a1, a2, fA⟩ := BA.cells
    obtain ⟨b0, b1, b2, fB⟩ := BB.cells
    obtain ⟨r0, r1, r2, fR⟩ := BR.cells
    replace HBW := hide (Below.andThen (unhide HBW) hb2)
    clear hb2
    go_wp2_with fail
    refine (unhide (HR _)).mono ?_
    rintro e w3 ⟨v, rfl, he, hb3⟩
    obtain ⟨T, x, rfl⟩ := he.held (unhide HZ)
    replace BA := BA.below hb3
    replace BB := BB.below hb3
    replace BR := BR.below hb3
    obtain ⟨a0, a1, a2, fA⟩ := BA.cells
    obtain ⟨b0, b1, b2, fB⟩ := BB.cells
    obtain ⟨r0, r1, r2, fR⟩ := BR.cells
    replace HBW := hide (Below.andThen (unhide HBW) hb3)
    clear hb3
    go_wp2
    exact bodyPost_ret (v := .tuple #[.agg #[.int .i64 (0), .int .i64 (0), .string (⟨#[]⟩)], .iface T x]) (by simp [results, Tryd.results15, go_sem, r0, r1, r2]) rfl ⟨_, rfl, (he).set3 BR _ _ _, below_set3 (unhide HBW) (by omega) _ _ _⟩

/-- value.Do: its contract. -/
theorem value_Do (op k n : Int) (s : ByteArray) (k' n' : Int) (s' : ByteArray) (w : World) (hs : s.size ≤ 2305843009213693952) (hs' : s'.size ≤ 2305843009213693952) (hn : In64 n) (hn' : In64 n') :
    Calls Tryd.prog 15 #[.int .i64 op, .agg #[.int .i64 k, .int .i64 n, .string s], .agg #[.int .i64 k', .int .i64 n', .string s']] w (DPost w (doR op k n s k' n' s')) := by
  have hs1 : s.size ≤ 9223372036854775807 := by omega
  have hs1' : s'.size ≤ 9223372036854775807 := by omega
  by_cases ho : op = 1
  · subst ho
    by_cases m1 : mayB k n s = false
    · rw [show doR 1 k n s k' n' s' = (0, 0, ⟨#[]⟩, 20) from by simp [doR, m1]]
      exact neg_form k n s k' n' s' w hs1 m1
    · have m1' : mayB k n s = true := by simpa using m1
      by_cases hk : k = 0
      · rw [show doR 1 k n s k' n' s' = (0, 0, ⟨#[]⟩, 0) from by unfold doR; rw [m1']; simp [hk]]
        exact neg_null k n s k' n' s' w hs1 m1' hk
      · by_cases hk2 : k = 2
        · have := neg_num k n s k' n' s' w hs1 hn m1' hk2
          rw [show reckonR 1 n 0 = reckonR 1 n n' from by simp [reckonR]] at this
          rw [show doR 1 k n s k' n' s' = (if (reckonR 1 n n').2 = 0 then (2, (reckonR 1 n n').1, ⟨#[]⟩, 0) else (0, 0, ⟨#[]⟩, (reckonR 1 n n').2)) from by unfold doR; rw [m1']; simp [hk2]]
          exact this
        · rw [show doR 1 k n s k' n' s' = (0, 0, ⟨#[]⟩, 4) from by unfold doR; rw [m1']; simp [hk, hk2]]
          exact neg_type k n s k' n' s' w hs1 m1' hk hk2
  · by_cases hr : op < 11 ∨ 16 < op
    · rw [show doR op k n s k' n' s' = (0, 0, ⟨#[]⟩, 20) from by unfold doR; rw [if_pos (.inl ⟨ho, hr⟩)]]
      exact do_op op k n s k' n' s' w ho hr
    · have h2 : 11 ≤ op := by omega
      have h3 : op ≤ 16 := by omega
      by_cases hm : mayB k n s = false ∨ mayB k' n' s' = false
      · rw [show doR op k n s k' n' s' = (0, 0, ⟨#[]⟩, 20) from by unfold doR; rw [if_pos (.inr (hm.imp_right fun h => ⟨ho, h⟩))]]
        exact do_form op k n s k' n' s' w hs1 hs1' ho h2 h3 hm
      · have m1 : mayB k n s = true := by simpa using fun h => hm (.inl h)
        have m2 : mayB k' n' s' = true := by simpa using fun h => hm (.inr h)
        have hc1 : ¬ ((op ≠ 1 ∧ (op < 11 ∨ 16 < op)) ∨ mayB k n s = false ∨ (op ≠ 1 ∧ mayB k' n' s' = false)) := by
          rintro (⟨_, h⟩ | h | ⟨_, h⟩)
          · exact hr h
          · rw [m1] at h; cases h
          · rw [m2] at h; cases h
        by_cases hz : k = 0 ∨ k' = 0
        · rw [show doR op k n s k' n' s' = (0, 0, ⟨#[]⟩, 0) from by unfold doR; rw [if_neg hc1, if_pos (hz.imp_right fun h => ⟨ho, h⟩)]]
          exact do_null op k n s k' n' s' w hs1 hs1' ho h2 h3 m1 m2 hz
        · have hc2 : ¬ (k = 0 ∨ (op ≠ 1 ∧ k' = 0)) := fun h => hz (h.imp_right fun h => h.2)
          have z1 : k ≠ 0 := fun h => hz (.inl h)
          have z2 : k' ≠ 0 := fun h => hz (.inr h)
          by_cases h16 : op = 16
          · subst h16
            by_cases ht : k ≠ 3 ∨ k' ≠ 3
            · rw [show doR 16 k n s k' n' s' = (0, 0, ⟨#[]⟩, 4) from by unfold doR; rw [if_neg hc1, if_neg hc2, if_pos rfl, if_pos ht]]
              exact do_type 16 k n s k' n' s' w hs1 hs1' ho h2 h3 m1 m2 z1 z2 (.inl ⟨rfl, ht⟩)
            · rw [show doR 16 k n s k' n' s' = (if 40 < (s.size : Int) + s'.size then (0, 0, ⟨#[]⟩, 6) else (3, 0, s ++ s', 0)) from by unfold doR; rw [if_neg hc1, if_neg hc2, if_pos rfl, if_neg ht]]
              exact do_cat k n s k' n' s' w hs hs' m1 m2 (by omega) (by omega)
          · by_cases ht : k ≠ 2 ∨ k' ≠ 2
            · rw [show doR op k n s k' n' s' = (0, 0, ⟨#[]⟩, 4) from by unfold doR; rw [if_neg hc1, if_neg hc2, if_neg h16, if_pos (ht.imp_right fun h => ⟨ho, h⟩)]]
              exact do_type op k n s k' n' s' w hs1 hs1' ho h2 h3 m1 m2 z1 z2 (.inr ⟨h16, ht⟩)
            · rw [show doR op k n s k' n' s' = (if (reckonR op n n').2 = 0 then (2, (reckonR op n n').1, ⟨#[]⟩, 0) else (0, 0, ⟨#[]⟩, (reckonR op n n').2)) from by unfold doR; rw [if_neg hc1, if_neg hc2, if_neg h16, if_neg (fun h => ht (h.imp_right fun h => h.2))]]
              exact do_num op k n s k' n' s' w hs1 hs1' hn hn' h2 (by omega) m1 m2 (by omega) (by omega)
end Go.Proofs.YtjcpmdbgjjmcdaaDoor

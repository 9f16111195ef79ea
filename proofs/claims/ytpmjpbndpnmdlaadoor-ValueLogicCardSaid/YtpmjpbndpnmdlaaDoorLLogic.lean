/- consistorylaw6.ValueLogic: the walk. -/
import Derived.Test.YtpmjpbndpnmdlaaDoorKn6
namespace Go.Proofs.YtpmjpbndpnmdlaaDoor
open Go.RowKit

theorem quiet_left' {P : Program} {f : FuncId} {args : Array Value} {w : World} {n : Nat} {v : Value}
    (h : Calls P f args (w.drewN n) fun e w' => e = .returned v ∧ w.drewN n = w') : Calls P f args (w.drewN n) fun e w'' => e = .returned v ∧ ∃ m, w'' = w.drewN m :=
  h.mono fun _ _ ⟨he, hm⟩ => ⟨he, n, hm.symm⟩

theorem isT_iff (a : Int) : isT a = true ↔ 0 ≤ a ∧ a ≤ 2 := by unfold isT; simp; omega
theorem and_out {a b : Int} (h : a < 0 ∨ 2 < a ∨ b < 0 ∨ 2 < b) : andT a b = 0 := by
  have : isT a = false ∨ isT b = false := by
    by_cases h1 : isT a = true
    · by_cases h2 : isT b = true
      · rw [isT_iff] at h1 h2; omega
      · exact .inr (by simpa using h2)
    · exact .inl (by simpa using h1)
  unfold andT; rw [if_pos this]
theorem or_out {a b : Int} (h : a < 0 ∨ 2 < a ∨ b < 0 ∨ 2 < b) : orT a b = 0 := by
  have : isT a = false ∨ isT b = false := by
    by_cases h1 : isT a = true
    · by_cases h2 : isT b = true
      · rw [isT_iff] at h1 h2; omega
      · exact .inr (by simpa using h2)
    · exact .inl (by simpa using h1)
  unfold orT; rw [if_pos this]
theorem not_out {a : Int} (h : a < 0 ∨ 2 < a) : notT a = 0 := by unfold notT; rw [if_neg (by omega), if_neg (by omega)]

set_option maxRecDepth 100000 in
theorem logic_out (a b : Int) (w : World) (hg : OkW w) (h : a < 0 ∨ 2 < a ∨ b < 0 ∨ 2 < b) :
    Calls Tryd.prog 8 #[.int .i64 a, .int .i64 b] w fun e w' => e = .returned (.bool true) ∧ Below w.heap.size w w' := by
  have HK := hide (known6 w hg)
  have hA := fun w => value_And a b w
  have hO := fun w => value_Or a b w
  rw [and_out h] at hA
  rw [or_out h] at hO
  have HA := fun w => hide (hA w)
  have HO := fun w => hide (hO w)
  have HN := fun (hh : a < 0 ∨ 2 < a) w => hide (by have := value_Not a w; rw [not_out hh] at this; exact this)
  clear hA hO
  have HH := hide h
  by_cases h1 : 0 ≤ a
  · by_cases h2 : a ≤ 2
    · have h3 : b < 0 ∨ 2 < b := by omega
      clear h HN
      by_cases h4 : 0 ≤ b
      · have h5 : decide (b ≤ 2) = false := by simp; omega
        clear h3
        go_enter Tryd.func8, Tryd.ntmps8
        go_wp2_with fail
        refine (unhide HK).mono ?_
        rintro e w1 ⟨rfl, hb1⟩
        go_wp2_with (first
          | (go_at_call 20; refine (unhide (HA _)).mono ?_; rintro e w' ⟨rfl, rfl⟩)
          | (go_at_call 21; refine (unhide (HO _)).mono ?_; rintro e w' ⟨rfl, rfl⟩))
        go_ret
        exact ⟨rfl, hb1⟩
      · clear h3
        go_enter Tryd.func8, Tryd.ntmps8
        go_wp2_with fail
        refine (unhide HK).mono ?_
        rintro e w1 ⟨rfl, hb1⟩
        go_wp2_with (first
          | (go_at_call 20; refine (unhide (HA _)).mono ?_; rintro e w' ⟨rfl, rfl⟩)
          | (go_at_call 21; refine (unhide (HO _)).mono ?_; rintro e w' ⟨rfl, rfl⟩))
        go_ret
        exact ⟨rfl, hb1⟩
    · have HN2 := hide (HN (by omega))
      clear h HN
      go_enter Tryd.func8, Tryd.ntmps8
      go_wp2_with fail
      refine (unhide HK).mono ?_
      rintro e w1 ⟨rfl, hb1⟩
      go_wp2_with (first
        | (go_at_call 20; refine (unhide (HA _)).mono ?_; rintro e w' ⟨rfl, rfl⟩)
        | (go_at_call 19; refine (unhide ((unhide HN2) _)).mono ?_; rintro e w' ⟨rfl, rfl⟩)
        | (go_at_call 21; refine (unhide (HO _)).mono ?_; rintro e w' ⟨rfl, rfl⟩))
      go_ret
      exact ⟨rfl, hb1⟩
  · have HN2 := hide (HN (by omega))
    clear h HN
    go_enter Tryd.func8, Tryd.ntmps8
    go_wp2_with fail
    refine (unhide HK).mono ?_
    rintro e w1 ⟨rfl, hb1⟩
    go_wp2_with (first
      | (go_at_call 20; refine (unhide (HA _)).mono ?_; rintro e w' ⟨rfl, rfl⟩)
      | (go_at_call 19; refine (unhide ((unhide HN2) _)).mono ?_; rintro e w' ⟨rfl, rfl⟩)
      | (go_at_call 21; refine (unhide (HO _)).mono ?_; rintro e w' ⟨rfl, rfl⟩))
    go_ret
    exact ⟨rfl, hb1⟩

set_option maxRecDepth 100000 in
theorem logic_0_0 (w : World) (hg : OkW w) : Calls Tryd.prog 8 #[.int .i64 0, .int .i64 0] w fun e w' => e = .returned (.bool true) ∧ Below w.heap.size w w' := by
  have HK := hide (known6 w hg)
  have HA : ∀ w, Hid (Calls Tryd.prog 20 #[.int .i64 0, .int .i64 0] w fun e w' => e = .returned (.int .i64 0) ∧ w = w') := fun w => value_And 0 0 w
  have HO : ∀ w, Hid (Calls Tryd.prog 21 #[.int .i64 0, .int .i64 0] w fun e w' => e = .returned (.int .i64 0) ∧ w = w') := fun w => value_Or 0 0 w
  have HN : ∀ w, Hid (Calls Tryd.prog 19 #[.int .i64 0] w fun e w' => e = .returned (.int .i64 1) ∧ w = w') := fun w => value_Not 0 w
  go_enter Tryd.func8, Tryd.ntmps8
  go_wp2_with fail
  refine (unhide HK).mono ?_
  rintro e w1 ⟨rfl, hb1⟩
  have HB1 := hide hb1
  have HAL := hide (fun o o' o'' => ((hb1.alloc hb1.size o).alloc (by have := hb1.size; simp; omega) o').alloc (by have := hb1.size; simp; omega) o'')
  clear hb1
  go_wp2_with fail
  go_quiet (first | (go_at_call 20; exact quiet_left' (unhide (HA _))) | (go_at_call 21; exact quiet_left' (unhide (HO _))) | (go_at_call 19; exact quiet_left' (unhide (HN _))))
  go_wp2
  go_ret
  exact ⟨rfl, below_drewN ((unhide HAL) _ _ _) _⟩
set_option maxRecDepth 100000 in
theorem logic_0_1 (w : World) (hg : OkW w) : Calls Tryd.prog 8 #[.int .i64 0, .int .i64 1] w fun e w' => e = .returned (.bool true) ∧ Below w.heap.size w w' := by
  have HK := hide (known6 w hg)
  have HA : ∀ w, Hid (Calls Tryd.prog 20 #[.int .i64 0, .int .i64 1] w fun e w' => e = .returned (.int .i64 0) ∧ w = w') := fun w => value_And 0 1 w
  have HO : ∀ w, Hid (Calls Tryd.prog 21 #[.int .i64 0, .int .i64 1] w fun e w' => e = .returned (.int .i64 1) ∧ w = w') := fun w => value_Or 0 1 w
  have HN : ∀ w, Hid (Calls Tryd.prog 19 #[.int .i64 0] w fun e w' => e = .returned (.int .i64 1) ∧ w = w') := fun w => value_Not 0 w
  go_enter Tryd.func8, Tryd.ntmps8
  go_wp2_with fail
  refine (unhide HK).mono ?_
  rintro e w1 ⟨rfl, hb1⟩
  have HB1 := hide hb1
  have HAL := hide (fun o o' o'' => ((hb1.alloc hb1.size o).alloc (by have := hb1.size; simp; omega) o').alloc (by have := hb1.size; simp; omega) o'')
  clear hb1
  go_wp2_with fail
  go_quiet (first | (go_at_call 20; exact quiet_left' (unhide (HA _))) | (go_at_call 21; exact quiet_left' (unhide (HO _))) | (go_at_call 19; exact quiet_left' (unhide (HN _))))
  go_wp2
  go_ret
  exact ⟨rfl, below_drewN ((unhide HAL) _ _ _) _⟩
set_option maxRecDepth 100000 in
theorem logic_0_2 (w : World) (hg : OkW w) : Calls Tryd.prog 8 #[.int .i64 0, .int .i64 2] w fun e w' => e = .returned (.bool true) ∧ Below w.heap.size w w' := by
  have HK := hide (known6 w hg)
  have HA : ∀ w, Hid (Calls Tryd.prog 20 #[.int .i64 0, .int .i64 2] w fun e w' => e = .returned (.int .i64 0) ∧ w = w') := fun w => value_And 0 2 w
  have HO : ∀ w, Hid (Calls Tryd.prog 21 #[.int .i64 0, .int .i64 2] w fun e w' => e = .returned (.int .i64 2) ∧ w = w') := fun w => value_Or 0 2 w
  have HN : ∀ w, Hid (Calls Tryd.prog 19 #[.int .i64 0] w fun e w' => e = .returned (.int .i64 1) ∧ w = w') := fun w => value_Not 0 w
  go_enter Tryd.func8, Tryd.ntmps8
  go_wp2_with fail
  refine (unhide HK).mono ?_
  rintro e w1 ⟨rfl, hb1⟩
  have HB1 := hide hb1
  have HAL := hide (fun o o' o'' => ((hb1.alloc hb1.size o).alloc (by have := hb1.size; simp; omega) o').alloc (by have := hb1.size; simp; omega) o'')
  clear hb1
  go_wp2_with fail
  go_quiet (first | (go_at_call 20; exact quiet_left' (unhide (HA _))) | (go_at_call 21; exact quiet_left' (unhide (HO _))) | (go_at_call 19; exact quiet_left' (unhide (HN _))))
  go_wp2
  go_ret
  exact ⟨rfl, below_drewN ((unhide HAL) _ _ _) _⟩
set_option maxRecDepth 100000 in
theorem logic_1_0 (w : World) (hg : OkW w) : Calls Tryd.prog 8 #[.int .i64 1, .int .i64 0] w fun e w' => e = .returned (.bool true) ∧ Below w.heap.size w w' := by
  have HK := hide (known6 w hg)
  have HA : ∀ w, Hid (Calls Tryd.prog 20 #[.int .i64 1, .int .i64 0] w fun e w' => e = .returned (.int .i64 0) ∧ w = w') := fun w => value_And 1 0 w
  have HO : ∀ w, Hid (Calls Tryd.prog 21 #[.int .i64 1, .int .i64 0] w fun e w' => e = .returned (.int .i64 1) ∧ w = w') := fun w => value_Or 1 0 w
  have HN : ∀ w, Hid (Calls Tryd.prog 19 #[.int .i64 1] w fun e w' => e = .returned (.int .i64 0) ∧ w = w') := fun w => value_Not 1 w
  go_enter Tryd.func8, Tryd.ntmps8
  go_wp2_with fail
  refine (unhide HK).mono ?_
  rintro e w1 ⟨rfl, hb1⟩
  have HB1 := hide hb1
  have HAL := hide (fun o o' o'' => ((hb1.alloc hb1.size o).alloc (by have := hb1.size; simp; omega) o').alloc (by have := hb1.size; simp; omega) o'')
  clear hb1
  go_wp2_with fail
  go_quiet (first | (go_at_call 20; exact quiet_left' (unhide (HA _))) | (go_at_call 21; exact quiet_left' (unhide (HO _))) | (go_at_call 19; exact quiet_left' (unhide (HN _))))
  go_wp2
  go_ret
  exact ⟨rfl, below_drewN ((unhide HAL) _ _ _) _⟩
set_option maxRecDepth 100000 in
theorem logic_1_1 (w : World) (hg : OkW w) : Calls Tryd.prog 8 #[.int .i64 1, .int .i64 1] w fun e w' => e = .returned (.bool true) ∧ Below w.heap.size w w' := by
  have HK := hide (known6 w hg)
  have HA : ∀ w, Hid (Calls Tryd.prog 20 #[.int .i64 1, .int .i64 1] w fun e w' => e = .returned (.int .i64 1) ∧ w = w') := fun w => value_And 1 1 w
  have HO : ∀ w, Hid (Calls Tryd.prog 21 #[.int .i64 1, .int .i64 1] w fun e w' => e = .returned (.int .i64 1) ∧ w = w') := fun w => value_Or 1 1 w
  have HN : ∀ w, Hid (Calls Tryd.prog 19 #[.int .i64 1] w fun e w' => e = .returned (.int .i64 0) ∧ w = w') := fun w => value_Not 1 w
  go_enter Tryd.func8, Tryd.ntmps8
  go_wp2_with fail
  refine (unhide HK).mono ?_
  rintro e w1 ⟨rfl, hb1⟩
  have HB1 := hide hb1
  have HAL := hide (fun o o' o'' => ((hb1.alloc hb1.size o).alloc (by have := hb1.size; simp; omega) o').alloc (by have := hb1.size; simp; omega) o'')
  clear hb1
  go_wp2_with fail
  go_quiet (first | (go_at_call 20; exact quiet_left' (unhide (HA _))) | (go_at_call 21; exact quiet_left' (unhide (HO _))) | (go_at_call 19; exact quiet_left' (unhide (HN _))))
  go_wp2
  go_ret
  exact ⟨rfl, below_drewN ((unhide HAL) _ _ _) _⟩
set_option maxRecDepth 100000 in
theorem logic_1_2 (w : World) (hg : OkW w) : Calls Tryd.prog 8 #[.int .i64 1, .int .i64 2] w fun e w' => e = .returned (.bool true) ∧ Below w.heap.size w w' := by
  have HK := hide (known6 w hg)
  have HA : ∀ w, Hid (Calls Tryd.prog 20 #[.int .i64 1, .int .i64 2] w fun e w' => e = .returned (.int .i64 2) ∧ w = w') := fun w => value_And 1 2 w
  have HO : ∀ w, Hid (Calls Tryd.prog 21 #[.int .i64 1, .int .i64 2] w fun e w' => e = .returned (.int .i64 1) ∧ w = w') := fun w => value_Or 1 2 w
  have HN : ∀ w, Hid (Calls Tryd.prog 19 #[.int .i64 1] w fun e w' => e = .returned (.int .i64 0) ∧ w = w') := fun w => value_Not 1 w
  go_enter Tryd.func8, Tryd.ntmps8
  go_wp2_with fail
  refine (unhide HK).mono ?_
  rintro e w1 ⟨rfl, hb1⟩
  have HB1 := hide hb1
  have HAL := hide (fun o o' o'' => ((hb1.alloc hb1.size o).alloc (by have := hb1.size; simp; omega) o').alloc (by have := hb1.size; simp; omega) o'')
  clear hb1
  go_wp2_with fail
  go_quiet (first | (go_at_call 20; exact quiet_left' (unhide (HA _))) | (go_at_call 21; exact quiet_left' (unhide (HO _))) | (go_at_call 19; exact quiet_left' (unhide (HN _))))
  go_wp2
  go_ret
  exact ⟨rfl, below_drewN ((unhide HAL) _ _ _) _⟩
set_option maxRecDepth 100000 in
theorem logic_2_0 (w : World) (hg : OkW w) : Calls Tryd.prog 8 #[.int .i64 2, .int .i64 0] w fun e w' => e = .returned (.bool true) ∧ Below w.heap.size w w' := by
  have HK := hide (known6 w hg)
  have HA : ∀ w, Hid (Calls Tryd.prog 20 #[.int .i64 2, .int .i64 0] w fun e w' => e = .returned (.int .i64 0) ∧ w = w') := fun w => value_And 2 0 w
  have HO : ∀ w, Hid (Calls Tryd.prog 21 #[.int .i64 2, .int .i64 0] w fun e w' => e = .returned (.int .i64 2) ∧ w = w') := fun w => value_Or 2 0 w
  have HN : ∀ w, Hid (Calls Tryd.prog 19 #[.int .i64 2] w fun e w' => e = .returned (.int .i64 2) ∧ w = w') := fun w => value_Not 2 w
  go_enter Tryd.func8, Tryd.ntmps8
  go_wp2_with fail
  refine (unhide HK).mono ?_
  rintro e w1 ⟨rfl, hb1⟩
  have HB1 := hide hb1
  have HAL := hide (fun o o' o'' => ((hb1.alloc hb1.size o).alloc (by have := hb1.size; simp; omega) o').alloc (by have := hb1.size; simp; omega) o'')
  clear hb1
  go_wp2_with fail
  go_quiet (first | (go_at_call 20; exact quiet_left' (unhide (HA _))) | (go_at_call 21; exact quiet_left' (unhide (HO _))) | (go_at_call 19; exact quiet_left' (unhide (HN _))))
  go_wp2
  go_ret
  exact ⟨rfl, below_drewN ((unhide HAL) _ _ _) _⟩
set_option maxRecDepth 100000 in
theorem logic_2_1 (w : World) (hg : OkW w) : Calls Tryd.prog 8 #[.int .i64 2, .int .i64 1] w fun e w' => e = .returned (.bool true) ∧ Below w.heap.size w w' := by
  have HK := hide (known6 w hg)
  have HA : ∀ w, Hid (Calls Tryd.prog 20 #[.int .i64 2, .int .i64 1] w fun e w' => e = .returned (.int .i64 2) ∧ w = w') := fun w => value_And 2 1 w
  have HO : ∀ w, Hid (Calls Tryd.prog 21 #[.int .i64 2, .int .i64 1] w fun e w' => e = .returned (.int .i64 1) ∧ w = w') := fun w => value_Or 2 1 w
  have HN : ∀ w, Hid (Calls Tryd.prog 19 #[.int .i64 2] w fun e w' => e = .returned (.int .i64 2) ∧ w = w') := fun w => value_Not 2 w
  go_enter Tryd.func8, Tryd.ntmps8
  go_wp2_with fail
  refine (unhide HK).mono ?_
  rintro e w1 ⟨rfl, hb1⟩
  have HB1 := hide hb1
  have HAL := hide (fun o o' o'' => ((hb1.alloc hb1.size o).alloc (by have := hb1.size; simp; omega) o').alloc (by have := hb1.size; simp; omega) o'')
  clear hb1
  go_wp2_with fail
  go_quiet (first | (go_at_call 20; exact quiet_left' (unhide (HA _))) | (go_at_call 21; exact quiet_left' (unhide (HO _))) | (go_at_call 19; exact quiet_left' (unhide (HN _))))
  go_wp2
  go_ret
  exact ⟨rfl, below_drewN ((unhide HAL) _ _ _) _⟩
set_option maxRecDepth 100000 in
theorem logic_2_2 (w : World) (hg : OkW w) : Calls Tryd.prog 8 #[.int .i64 2, .int .i64 2] w fun e w' => e = .returned (.bool true) ∧ Below w.heap.size w w' := by
  have HK := hide (known6 w hg)
  have HA : ∀ w, Hid (Calls Tryd.prog 20 #[.int .i64 2, .int .i64 2] w fun e w' => e = .returned (.int .i64 2) ∧ w = w') := fun w => value_And 2 2 w
  have HO : ∀ w, Hid (Calls Tryd.prog 21 #[.int .i64 2, .int .i64 2] w fun e w' => e = .returned (.int .i64 2) ∧ w = w') := fun w => value_Or 2 2 w
  have HN : ∀ w, Hid (Calls Tryd.prog 19 #[.int .i64 2] w fun e w' => e = .returned (.int .i64 2) ∧ w = w') := fun w => value_Not 2 w
  go_enter Tryd.func8, Tryd.ntmps8
  go_wp2_with fail
  refine (unhide HK).mono ?_
  rintro e w1 ⟨rfl, hb1⟩
  have HB1 := hide hb1
  have HAL := hide (fun o o' o'' => ((hb1.alloc hb1.size o).alloc (by have := hb1.size; simp; omega) o').alloc (by have := hb1.size; simp; omega) o'')
  clear hb1
  go_wp2_with fail
  go_quiet (first | (go_at_call 20; exact quiet_left' (unhide (HA _))) | (go_at_call 21; exact quiet_left' (unhide (HO _))) | (go_at_call 19; exact quiet_left' (unhide (HN _))))
  go_wp2
  go_ret
  exact ⟨rfl, below_drewN ((unhide HAL) _ _ _) _⟩
end Go.Proofs.YtpmjpbndpnmdlaaDoor

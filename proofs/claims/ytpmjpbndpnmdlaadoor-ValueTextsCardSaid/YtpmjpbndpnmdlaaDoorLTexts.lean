/- consistorylaw6.ValueTexts: the walk. -/
import Derived.Test.YtpmjpbndpnmdlaaDoorKn6
namespace Go.Proofs.YtpmjpbndpnmdlaaDoor
open Go.RowKit

set_option maxRecDepth 100000 in
theorem texts_long (s t : ByteArray) (w : World) (hg : OkW w) (hs : s.size ≤ 9223372036854775807) (ht : t.size ≤ 9223372036854775807) (h : 40 < s.size ∨ 40 < t.size) :
    Calls Tryd.prog 6 #[.string s, .string t] w fun e w' => e = .returned (.bool true) ∧ Below w.heap.size w w' := by
  have HK := hide (known6 _ hg)
  by_cases h1 : 40 < s.size
  · clear h
    go_enter Tryd.func6, Tryd.ntmps6
    go_wp2_with fail
    refine (unhide HK).mono ?_
    rintro e w1 ⟨rfl, hb1⟩
    go_wp2
    go_ret
    exact ⟨rfl, hb1⟩
  · have h2 : 40 < t.size := by omega
    clear h
    go_enter Tryd.func6, Tryd.ntmps6
    go_wp2_with fail
    refine (unhide HK).mono ?_
    rintro e w1 ⟨rfl, hb1⟩
    go_wp2
    go_ret
    exact ⟨rfl, hb1⟩

set_option maxRecDepth 100000 in
theorem texts_short (s t : ByteArray) (w : World) (hg : OkW w) (hs : s.size ≤ 40) (ht : t.size ≤ 40) :
    Calls Tryd.prog 6 #[.string s, .string t] w fun e w' => e = .returned (.bool true) ∧ Below w.heap.size w w' := by
  have m1 : mayB 3 0 s = true ∨ mayB 3 0 s = false := by cases mayB 3 0 s <;> simp
  have m2 : mayB 3 0 t = true ∨ mayB 3 0 t = false := by cases mayB 3 0 t <;> simp
  rcases m1 with m1 | m1
  · rcases m2 with m2 | m2
    · have hd : ∀ w, Calls Tryd.prog 17 #[.int .i64 16, .agg #[.int .i64 3, .int .i64 0, .string s], .agg #[.int .i64 3, .int .i64 0, .string t]] w (DPost w (if 40 < (s.size : Int) + t.size then (0, 0, ⟨#[]⟩, 6) else (3, 0, s ++ t, 0))) :=
        fun w => do_cat 3 0 s 3 0 t w (by omega) (by omega) m1 m2 rfl rfl
      by_cases hz : 40 < (s.size : Int) + t.size
      · simp only [if_pos hz] at hd
        have HD := fun w => hide (hd w)
        clear hd
        have HK := hide (known6 _ hg)
        have HI1 := fun w => hide (value_Is 3 0 s w (by omega))
        have HI2 := fun w => hide (value_Is 3 0 t w (by omega))
        have HG := hide hg
        go_enter Tryd.func6, Tryd.ntmps6
        go_wp2_with fail
        refine (unhide HK).mono ?_
        rintro e w1 ⟨rfl, hb1⟩
        have BA := (Blk3.new w1 23 (.int .i64 3) (.int .i64 0) (.string s)).alloc (.cells #[.int .i64 3, .int .i64 0, .string t] 23)
        have BB := Blk3.new1 w1 (.cells #[.int .i64 3, .int .i64 0, .string s] 23) 23 (.int .i64 3) (.int .i64 0) (.string t)
        have hal : Below w1.heap.size w1 ((w1.alloc (.cells #[.int .i64 3, .int .i64 0, .string s] 23)).alloc (.cells #[.int .i64 3, .int .i64 0, .string t] 23)) := ((Below.refl _ _).alloc (Nat.le_refl _) _).alloc (by simp) _
        have HBW := hide (Below.andThen hb1 hal)
        clear hb1 hal HK
        go_wp2_with fail
        refine (unhide (HI1 _)).mono ?_
        rintro e w2 ⟨rfl, hb2⟩
        replace BA := BA.below hb2
        replace BB := BB.below hb2
        obtain ⟨a0, a1, a2, fA⟩ := BA.cells
        obtain ⟨b0, b1, b2, fB⟩ := BB.cells
        replace HBW := hide (Below.andThen (unhide HBW) hb2)
        clear hb2
        go_wp2_with fail
        refine (unhide (HI2 _)).mono ?_
        rintro e w3 ⟨rfl, hb3⟩
        replace BA := BA.below hb3
        replace BB := BB.below hb3
        obtain ⟨a0, a1, a2, fA⟩ := BA.cells
        obtain ⟨b0, b1, b2, fB⟩ := BB.cells
        replace HBW := hide (Below.andThen (unhide HBW) hb3)
        clear hb3
        go_wp2_with fail
        refine (unhide (HD _)).mono ?_
        rintro e w4 ⟨v4, rfl, he4, hb4⟩
        replace BA := BA.below hb4
        replace BB := BB.below hb4
        obtain ⟨a0, a1, a2, fA⟩ := BA.cells
        obtain ⟨b0, b1, b2, fB⟩ := BB.cells
        replace HBW := hide (Below.andThen (unhide HBW) hb4)
        clear hb4
        dsimp only at he4
        obtain ⟨d4, hE4⟩ : ∃ d, ErrV w4 d v4 6 := he4.resolve_left (fun h => absurd h.1 (by decide)) |>.2
        have hal : Below w4.heap.size w4 (w4.alloc (.cells #[.int .i64 0, .int .i64 0, .string ⟨#[]⟩] 23)) := (Below.refl _ _).alloc (Nat.le_refl _) _
        have HC4 := hide (Class_err d4 v4 6 _ (((unhide HG).below (unhide HBW)).below hal) (hE4.below hal))
        replace HBW := hide (Below.andThen (unhide HBW) hal)
        clear hE4 he4 hal
        go_wp2_with fail
        refine (unhide HC4).mono ?_
        rintro e w5 ⟨rfl, hb5⟩
        replace HBW := hide (Below.andThen (unhide HBW) hb5)
        clear hb5
        go_wp2
        go_ret
        exact ⟨rfl, unhide HBW⟩
      · simp only [if_neg hz] at hd
        have HD := fun w => hide (hd w)
        clear hd
        have HK := hide (known6 _ hg)
        have HI1 := fun w => hide (value_Is 3 0 s w (by omega))
        have HI2 := fun w => hide (value_Is 3 0 t w (by omega))
        have HG := hide hg
        go_enter Tryd.func6, Tryd.ntmps6
        go_wp2_with fail
        refine (unhide HK).mono ?_
        rintro e w1 ⟨rfl, hb1⟩
        have BA := (Blk3.new w1 23 (.int .i64 3) (.int .i64 0) (.string s)).alloc (.cells #[.int .i64 3, .int .i64 0, .string t] 23)
        have BB := Blk3.new1 w1 (.cells #[.int .i64 3, .int .i64 0, .string s] 23) 23 (.int .i64 3) (.int .i64 0) (.string t)
        have hal : Below w1.heap.size w1 ((w1.alloc (.cells #[.int .i64 3, .int .i64 0, .string s] 23)).alloc (.cells #[.int .i64 3, .int .i64 0, .string t] 23)) := ((Below.refl _ _).alloc (Nat.le_refl _) _).alloc (by simp) _
        have HBW := hide (Below.andThen hb1 hal)
        clear hb1 hal HK
        go_wp2_with fail
        refine (unhide (HI1 _)).mono ?_
        rintro e w2 ⟨rfl, hb2⟩
        replace BA := BA.below hb2
        replace BB := BB.below hb2
        obtain ⟨a0, a1, a2, fA⟩ := BA.cells
        obtain ⟨b0, b1, b2, fB⟩ := BB.cells
        replace HBW := hide (Below.andThen (unhide HBW) hb2)
        clear hb2
        go_wp2_with fail
        refine (unhide (HI2 _)).mono ?_
        rintro e w3 ⟨rfl, hb3⟩
        replace BA := BA.below hb3
        replace BB := BB.below hb3
        obtain ⟨a0, a1, a2, fA⟩ := BA.cells
        obtain ⟨b0, b1, b2, fB⟩ := BB.cells
        replace HBW := hide (Below.andThen (unhide HBW) hb3)
        clear hb3
        go_wp2_with fail
        refine (unhide (HD _)).mono ?_
        rintro e w4 ⟨v4, rfl, he4, hb4⟩
        obtain rfl := he4.nil
        clear he4
        have hal : Below w4.heap.size w4 (w4.alloc (.cells #[.int .i64 3, .int .i64 0, .string (s ++ t)] 23)) := (Below.refl _ _).alloc (Nat.le_refl _) _
        obtain ⟨c0, c1, c2, fC⟩ := (Blk3.new w4 23 (.int .i64 3) (.int .i64 0) (.string (s ++ t))).cells
        replace BA := BA.below hb4
        replace BB := BB.below hb4
        obtain ⟨a0, a1, a2, fA⟩ := BA.cells
        obtain ⟨b0, b1, b2, fB⟩ := BB.cells
        replace HBW := hide (Below.andThen (unhide HBW) hb4)
        clear hb4
        replace HBW := hide (Below.andThen (unhide HBW) hal)
        clear hal
        go_wp2
        go_ret
        exact ⟨rfl, unhide HBW⟩
    · have HK := hide (known6 _ hg)
      have HI1 := fun w => hide (value_Is 3 0 s w (by omega))
      have HI2 := fun w => hide (value_Is 3 0 t w (by omega))
      have HG := hide hg
      go_enter Tryd.func6, Tryd.ntmps6
      go_wp2_with fail
      refine (unhide HK).mono ?_
      rintro e w1 ⟨rfl, hb1⟩
      have BA := (Blk3.new w1 23 (.int .i64 3) (.int .i64 0) (.string s)).alloc (.cells #[.int .i64 3, .int .i64 0, .string t] 23)
      have BB := Blk3.new1 w1 (.cells #[.int .i64 3, .int .i64 0, .string s] 23) 23 (.int .i64 3) (.int .i64 0) (.string t)
      have hal : Below w1.heap.size w1 ((w1.alloc (.cells #[.int .i64 3, .int .i64 0, .string s] 23)).alloc (.cells #[.int .i64 3, .int .i64 0, .string t] 23)) := ((Below.refl _ _).alloc (Nat.le_refl _) _).alloc (by simp) _
      have HBW := hide (Below.andThen hb1 hal)
      clear hb1 hal HK
      go_wp2_with fail
      refine (unhide (HI1 _)).mono ?_
      rintro e w2 ⟨rfl, hb2⟩
      replace BA := BA.below hb2
      replace BB := BB.below hb2
      obtain ⟨a0, a1, a2, fA⟩ := BA.cells
      obtain ⟨b0, b1, b2, fB⟩ := BB.cells
      replace HBW := hide (Below.andThen (unhide HBW) hb2)
      clear hb2
      go_wp2_with fail
      refine (unhide (HI2 _)).mono ?_
      rintro e w3 ⟨rfl, hb3⟩
      replace BA := BA.below hb3
      replace BB := BB.below hb3
      obtain ⟨a0, a1, a2, fA⟩ := BA.cells
      obtain ⟨b0, b1, b2, fB⟩ := BB.cells
      replace HBW := hide (Below.andThen (unhide HBW) hb3)
      clear hb3
      go_wp2
      go_ret
      exact ⟨rfl, unhide HBW⟩
  · have HK := hide (known6 _ hg)
    have HI1 := fun w => hide (value_Is 3 0 s w (by omega))
    have HI2 := fun w => hide (value_Is 3 0 t w (by omega))
    have HG := hide hg
    go_enter Tryd.func6, Tryd.ntmps6
    go_wp2_with fail
    refine (unhide HK).mono ?_
    rintro e w1 ⟨rfl, hb1⟩
    have BA := (Blk3.new w1 23 (.int .i64 3) (.int .i64 0) (.string s)).alloc (.cells #[.int .i64 3, .int .i64 0, .string t] 23)
    have BB := Blk3.new1 w1 (.cells #[.int .i64 3, .int .i64 0, .string s] 23) 23 (.int .i64 3) (.int .i64 0) (.string t)
    have hal : Below w1.heap.size w1 ((w1.alloc (.cells #[.int .i64 3, .int .i64 0, .string s] 23)).alloc (.cells #[.int .i64 3, .int .i64 0, .string t] 23)) := ((Below.refl _ _).alloc (Nat.le_refl _) _).alloc (by simp) _
    have HBW := hide (Below.andThen hb1 hal)
    clear hb1 hal HK
    go_wp2_with fail
    refine (unhide (HI1 _)).mono ?_
    rintro e w2 ⟨rfl, hb2⟩
    replace BA := BA.below hb2
    replace BB := BB.below hb2
    obtain ⟨a0, a1, a2, fA⟩ := BA.cells
    obtain ⟨b0, b1, b2, fB⟩ := BB.cells
    replace HBW := hide (Below.andThen (unhide HBW) hb2)
    clear hb2
    go_wp2
    go_ret
    exact ⟨rfl, unhide HBW⟩
end Go.Proofs.YtpmjpbndpnmdlaaDoor

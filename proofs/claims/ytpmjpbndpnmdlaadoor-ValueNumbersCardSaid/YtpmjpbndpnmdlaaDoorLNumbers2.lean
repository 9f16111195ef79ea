/- consistorylaw6.ValueNumbers: the walk. -/
import Derived.Test.YtpmjpbndpnmdlaaDoorLNumbers
namespace Go.Proofs.YtpmjpbndpnmdlaaDoor
open Go.RowKit
set_option maxRecDepth 100000 in
set_option maxHeartbeats 800000 in
theorem numbers_ff00 (a b p q m : Int) (w : World) (hg : OkW w) (s1 : -9223372036854775808 ≤ a + b) (s2 : a + b ≤ 9223372036854775807) (fz : (b == 0) = false) (fa : (a == -9223372036854775808) = false) (q1 : -9223372036854775808 ≤ q * b) (q2 : q * b ≤ 9223372036854775807) (q3 : -9223372036854775808 ≤ q * b + m) (q4 : q * b + m ≤ 9223372036854775807) (fq : (q * b + m == a) = true) (fm : (m == 0) = true)
    (D11 : ∀ w, Calls Tryd.prog 17 #[.int .i64 11, .agg #[.int .i64 2, .int .i64 (a), .string ⟨#[]⟩], .agg #[.int .i64 2, .int .i64 (b), .string ⟨#[]⟩]] w (DPost w (2, a + b, ⟨#[]⟩, 0)))
    (D12 : ∀ w, Calls Tryd.prog 17 #[.int .i64 12, .agg #[.int .i64 2, .int .i64 (a + b), .string ⟨#[]⟩], .agg #[.int .i64 2, .int .i64 (b), .string ⟨#[]⟩]] w (DPost w (2, a, ⟨#[]⟩, 0)))
    (D13 : ∀ w, Calls Tryd.prog 17 #[.int .i64 13, .agg #[.int .i64 2, .int .i64 (a), .string ⟨#[]⟩], .agg #[.int .i64 2, .int .i64 (b), .string ⟨#[]⟩]] w (DPost w (2, p, ⟨#[]⟩, 0)))
    (D14p : ∀ w, Calls Tryd.prog 17 #[.int .i64 14, .agg #[.int .i64 2, .int .i64 (p), .string ⟨#[]⟩], .agg #[.int .i64 2, .int .i64 (b), .string ⟨#[]⟩]] w (DPost w (2, a, ⟨#[]⟩, 0)))
    (D14 : ∀ w, Calls Tryd.prog 17 #[.int .i64 14, .agg #[.int .i64 2, .int .i64 (a), .string ⟨#[]⟩], .agg #[.int .i64 2, .int .i64 (b), .string ⟨#[]⟩]] w (DPost w (2, q, ⟨#[]⟩, 0)))
    (D15 : ∀ w, Calls Tryd.prog 17 #[.int .i64 15, .agg #[.int .i64 2, .int .i64 (a), .string ⟨#[]⟩], .agg #[.int .i64 2, .int .i64 (b), .string ⟨#[]⟩]] w (DPost w (2, m, ⟨#[]⟩, 0))) :
    Calls Tryd.prog 4 #[.int .i64 a, .int .i64 b] w fun e w' => e = .returned (.bool true) ∧ Below w.heap.size w w' := by
  have HD11 := fun w => hide (D11 w)
  have HD12 := fun w => hide (D12 w)
  have HD13 := fun w => hide (D13 w)
  have HD14p := fun w => hide (D14p w)
  have HD14 := fun w => hide (D14 w)
  have HD15 := fun w => hide (D15 w)
  clear D11 D12 D13 D14p D14 D15
  have HK := hide (known6 _ hg)
  have HG := hide hg
  clear hg
  go_enter Tryd.func4, Tryd.ntmps4
  go_wp2_with fail
  refine (unhide HK).mono ?_
  rintro e w1 ⟨rfl, hb1⟩
  have HBW := hide hb1
  clear hb1 HK
  go_wp2_with fail
  refine (ref6_Num _ _).mono ?_
  rintro e w2 ⟨rfl, hb2⟩
  replace HBW := hide (Below.andThen (unhide HBW) hb2)
  clear hb2
  go_wp2_with fail
  refine (ref6_Num _ _).mono ?_
  rintro e w3 ⟨rfl, hb3⟩
  replace HBW := hide (Below.andThen (unhide HBW) hb3)
  clear hb3
  have BX := (Blk3.new w3 23 (.int .i64 2) (.int .i64 a) (.string ⟨#[]⟩)).alloc (.cells #[.int .i64 2, .int .i64 b, .string ⟨#[]⟩] 23)
  have BY := Blk3.new1 w3 (.cells #[.int .i64 2, .int .i64 a, .string ⟨#[]⟩] 23) 23 (.int .i64 2) (.int .i64 b) (.string ⟨#[]⟩)
  have hal : Below w3.heap.size w3 ((w3.alloc (.cells #[.int .i64 2, .int .i64 a, .string ⟨#[]⟩] 23)).alloc (.cells #[.int .i64 2, .int .i64 b, .string ⟨#[]⟩] 23)) := ((Below.refl _ _).alloc (Nat.le_refl _) _).alloc (by simp) _
  replace HBW := hide (Below.andThen (unhide HBW) hal)
  clear hal
  obtain ⟨a0, a1, a2, fA⟩ := BX.cells
  obtain ⟨b0, b1, b2, fB⟩ := BY.cells
  go_wp2_with fail
  refine (unhide (HD11 _)).mono ?_
  rintro e w4 ⟨vw4, rfl, hew4, hbw4⟩
  obtain rfl := hew4.nil
  clear hew4
  replace BX := BX.below hbw4
  replace BY := BY.below hbw4
  obtain ⟨a0, a1, a2, fA⟩ := BX.cells
  obtain ⟨b0, b1, b2, fB⟩ := BY.cells
  replace HBW := hide (Below.andThen (unhide HBW) hbw4)
  clear hbw4
  have halw4 : Below w4.heap.size w4 (w4.alloc (.cells #[.int .i64 (2), .int .i64 (a + b), .string ⟨#[]⟩] 23)) := (Below.refl _ _).alloc (Nat.le_refl _) _
  obtain ⟨c0, c1, c2, fC⟩ := (Blk3.new w4 23 (.int .i64 2) (.int .i64 (a + b)) (.string ⟨#[]⟩)).cells
  replace BX := BX.below halw4
  replace BY := BY.below halw4
  obtain ⟨a0, a1, a2, fA⟩ := BX.cells
  obtain ⟨b0, b1, b2, fB⟩ := BY.cells
  replace HBW := hide (Below.andThen (unhide HBW) halw4)
  clear halw4
  go_wp2_with fail
  refine (unhide (HD12 _)).mono ?_
  rintro e w5 ⟨vw5, rfl, hew5, hbw5⟩
  obtain rfl := hew5.nil
  clear hew5
  have hC := (Blk3.new w4 23 (.int .i64 2) (.int .i64 (a + b)) (.string ⟨#[]⟩)).below hbw5
  obtain ⟨c0, c1, c2, fC⟩ := hC.cells
  replace BX := BX.below hbw5
  replace BY := BY.below hbw5
  obtain ⟨a0, a1, a2, fA⟩ := BX.cells
  obtain ⟨b0, b1, b2, fB⟩ := BY.cells
  replace HBW := hide (Below.andThen (unhide HBW) hbw5)
  clear hbw5
  have halw5 : Below w5.heap.size w5 (w5.alloc (.cells #[.int .i64 (2), .int .i64 (a), .string ⟨#[]⟩] 23)) := (Below.refl _ _).alloc (Nat.le_refl _) _
  have hC := hC.below halw5
  obtain ⟨c0, c1, c2, fC⟩ := hC.cells
  obtain ⟨d0, d1, d2, fD⟩ := (Blk3.new w5 23 (.int .i64 2) (.int .i64 a) (.string ⟨#[]⟩)).cells
  replace BX := BX.below halw5
  replace BY := BY.below halw5
  obtain ⟨a0, a1, a2, fA⟩ := BX.cells
  obtain ⟨b0, b1, b2, fB⟩ := BY.cells
  replace HBW := hide (Below.andThen (unhide HBW) halw5)
  clear halw5
  go_wp2_with fail
  refine (unhide (HD13 _)).mono ?_
  rintro e w6 ⟨vw6, rfl, hew6, hbw6⟩
  obtain rfl := hew6.nil
  clear hew6
  replace BX := BX.below hbw6
  replace BY := BY.below hbw6
  obtain ⟨a0, a1, a2, fA⟩ := BX.cells
  obtain ⟨b0, b1, b2, fB⟩ := BY.cells
  replace HBW := hide (Below.andThen (unhide HBW) hbw6)
  clear hbw6
  have halw6 : Below w6.heap.size w6 (w6.alloc (.cells #[.int .i64 (2), .int .i64 (p), .string ⟨#[]⟩] 23)) := (Below.refl _ _).alloc (Nat.le_refl _) _
  obtain ⟨c0, c1, c2, fC⟩ := (Blk3.new w6 23 (.int .i64 2) (.int .i64 (p)) (.string ⟨#[]⟩)).cells
  replace BX := BX.below halw6
  replace BY := BY.below halw6
  obtain ⟨a0, a1, a2, fA⟩ := BX.cells
  obtain ⟨b0, b1, b2, fB⟩ := BY.cells
  replace HBW := hide (Below.andThen (unhide HBW) halw6)
  clear halw6
  go_wp2_with fail
  refine (unhide (HD14p _)).mono ?_
  rintro e w7 ⟨vw7, rfl, hew7, hbw7⟩
  obtain rfl := hew7.nil
  clear hew7
  replace BX := BX.below hbw7
  replace BY := BY.below hbw7
  obtain ⟨a0, a1, a2, fA⟩ := BX.cells
  obtain ⟨b0, b1, b2, fB⟩ := BY.cells
  replace HBW := hide (Below.andThen (unhide HBW) hbw7)
  clear hbw7
  have halw7 : Below w7.heap.size w7 (w7.alloc (.cells #[.int .i64 (2), .int .i64 (a), .string ⟨#[]⟩] 23)) := (Below.refl _ _).alloc (Nat.le_refl _) _
  obtain ⟨c0, c1, c2, fC⟩ := (Blk3.new w7 23 (.int .i64 2) (.int .i64 (a)) (.string ⟨#[]⟩)).cells
  replace BX := BX.below halw7
  replace BY := BY.below halw7
  obtain ⟨a0, a1, a2, fA⟩ := BX.cells
  obtain ⟨b0, b1, b2, fB⟩ := BY.cells
  replace HBW := hide (Below.andThen (unhide HBW) halw7)
  clear halw7
  go_wp2_with fail
  refine (unhide (HD14 _)).mono ?_
  rintro e w8 ⟨vw8, rfl, hew8, hbw8⟩
  obtain rfl := hew8.nil
  clear hew8
  replace BX := BX.below hbw8
  replace BY := BY.below hbw8
  obtain ⟨a0, a1, a2, fA⟩ := BX.cells
  obtain ⟨b0, b1, b2, fB⟩ := BY.cells
  replace HBW := hide (Below.andThen (unhide HBW) hbw8)
  clear hbw8
  have halw8 : Below w8.heap.size w8 (w8.alloc (.cells #[.int .i64 (2), .int .i64 (q), .string ⟨#[]⟩] 23)) := (Below.refl _ _).alloc (Nat.le_refl _) _
  obtain ⟨c0, c1, c2, fC⟩ := (Blk3.new w8 23 (.int .i64 2) (.int .i64 (q)) (.string ⟨#[]⟩)).cells
  replace BX := BX.below halw8
  replace BY := BY.below halw8
  obtain ⟨a0, a1, a2, fA⟩ := BX.cells
  obtain ⟨b0, b1, b2, fB⟩ := BY.cells
  replace HBW := hide (Below.andThen (unhide HBW) halw8)
  clear halw8
  go_wp2_with fail
  refine (unhide (HD15 _)).mono ?_
  rintro e w9 ⟨vw9, rfl, hew9, hbw9⟩
  obtain rfl := hew9.nil
  clear hew9
  have hC := (Blk3.new w8 23 (.int .i64 2) (.int .i64 q) (.string ⟨#[]⟩)).below hbw9
  replace BX := BX.below hbw9
  replace BY := BY.below hbw9
  obtain ⟨a0, a1, a2, fA⟩ := BX.cells
  obtain ⟨b0, b1, b2, fB⟩ := BY.cells
  replace HBW := hide (Below.andThen (unhide HBW) hbw9)
  clear hbw9
  have halw9 : Below w9.heap.size w9 (w9.alloc (.cells #[.int .i64 (2), .int .i64 (m), .string ⟨#[]⟩] 23)) := (Below.refl _ _).alloc (Nat.le_refl _) _
  have hC := hC.below halw9
  obtain ⟨c0, c1, c2, fC⟩ := hC.cells
  obtain ⟨d0, d1, d2, fD⟩ := (Blk3.new w9 23 (.int .i64 2) (.int .i64 m) (.string ⟨#[]⟩)).cells
  replace BX := BX.below halw9
  replace BY := BY.below halw9
  obtain ⟨a0, a1, a2, fA⟩ := BX.cells
  obtain ⟨b0, b1, b2, fB⟩ := BY.cells
  replace HBW := hide (Below.andThen (unhide HBW) halw9)
  clear halw9
  go_wp2
  go_ret
  exact ⟨rfl, unhide HBW⟩
set_option maxRecDepth 100000 in
set_option maxHeartbeats 800000 in
theorem numbers_ff01 (a b p q m : Int) (w : World) (hg : OkW w) (s1 : -9223372036854775808 ≤ a + b) (s2 : a + b ≤ 9223372036854775807) (fz : (b == 0) = false) (fa : (a == -9223372036854775808) = false) (q1 : -9223372036854775808 ≤ q * b) (q2 : q * b ≤ 9223372036854775807) (q3 : -9223372036854775808 ≤ q * b + m) (q4 : q * b + m ≤ 9223372036854775807) (fq : (q * b + m == a) = true) (fm : (m == 0) = false) (fs : ((decide (m < 0)) == (decide (a < 0))) = true)
    (D11 : ∀ w, Calls Tryd.prog 17 #[.int .i64 11, .agg #[.int .i64 2, .int .i64 (a), .string ⟨#[]⟩], .agg #[.int .i64 2, .int .i64 (b), .string ⟨#[]⟩]] w (DPost w (2, a + b, ⟨#[]⟩, 0)))
    (D12 : ∀ w, Calls Tryd.prog 17 #[.int .i64 12, .agg #[.int .i64 2, .int .i64 (a + b), .string ⟨#[]⟩], .agg #[.int .i64 2, .int .i64 (b), .string ⟨#[]⟩]] w (DPost w (2, a, ⟨#[]⟩, 0)))
    (D13 : ∀ w, Calls Tryd.prog 17 #[.int .i64 13, .agg #[.int .i64 2, .int .i64 (a), .string ⟨#[]⟩], .agg #[.int .i64 2, .int .i64 (b), .string ⟨#[]⟩]] w (DPost w (2, p, ⟨#[]⟩, 0)))
    (D14p : ∀ w, Calls Tryd.prog 17 #[.int .i64 14, .agg #[.int .i64 2, .int .i64 (p), .string ⟨#[]⟩], .agg #[.int .i64 2, .int .i64 (b), .string ⟨#[]⟩]] w (DPost w (2, a, ⟨#[]⟩, 0)))
    (D14 : ∀ w, Calls Tryd.prog 17 #[.int .i64 14, .agg #[.int .i64 2, .int .i64 (a), .string ⟨#[]⟩], .agg #[.int .i64 2, .int .i64 (b), .string ⟨#[]⟩]] w (DPost w (2, q, ⟨#[]⟩, 0)))
    (D15 : ∀ w, Calls Tryd.prog 17 #[.int .i64 15, .agg #[.int .i64 2, .int .i64 (a), .string ⟨#[]⟩], .agg #[.int .i64 2, .int .i64 (b), .string ⟨#[]⟩]] w (DPost w (2, m, ⟨#[]⟩, 0))) :
    Calls Tryd.prog 4 #[.int .i64 a, .int .i64 b] w fun e w' => e = .returned (.bool true) ∧ Below w.heap.size w w' := by
  have HD11 := fun w => hide (D11 w)
  have HD12 := fun w => hide (D12 w)
  have HD13 := fun w => hide (D13 w)
  have HD14p := fun w => hide (D14p w)
  have HD14 := fun w => hide (D14 w)
  have HD15 := fun w => hide (D15 w)
  clear D11 D12 D13 D14p D14 D15
  have HK := hide (known6 _ hg)
  have HG := hide hg
  clear hg
  go_enter Tryd.func4, Tryd.ntmps4
  go_wp2_with fail
  refine (unhide HK).mono ?_
  rintro e w1 ⟨rfl, hb1⟩
  have HBW := hide hb1
  clear hb1 HK
  go_wp2_with fail
  refine (ref6_Num _ _).mono ?_
  rintro e w2 ⟨rfl, hb2⟩
  replace HBW := hide (Below.andThen (unhide HBW) hb2)
  clear hb2
  go_wp2_with fail
  refine (ref6_Num _ _).mono ?_
  rintro e w3 ⟨rfl, hb3⟩
  replace HBW := hide (Below.andThen (unhide HBW) hb3)
  clear hb3
  have BX := (Blk3.new w3 23 (.int .i64 2) (.int .i64 a) (.string ⟨#[]⟩)).alloc (.cells #[.int .i64 2, .int .i64 b, .string ⟨#[]⟩] 23)
  have BY := Blk3.new1 w3 (.cells #[.int .i64 2, .int .i64 a, .string ⟨#[]⟩] 23) 23 (.int .i64 2) (.int .i64 b) (.string ⟨#[]⟩)
  have hal : Below w3.heap.size w3 ((w3.alloc (.cells #[.int .i64 2, .int .i64 a, .string ⟨#[]⟩] 23)).alloc (.cells #[.int .i64 2, .int .i64 b, .string ⟨#[]⟩] 23)) := ((Below.refl _ _).alloc (Nat.le_refl _) _).alloc (by simp) _
  replace HBW := hide (Below.andThen (unhide HBW) hal)
  clear hal
  obtain ⟨a0, a1, a2, fA⟩ := BX.cells
  obtain ⟨b0, b1, b2, fB⟩ := BY.cells
  go_wp2_with fail
  refine (unhide (HD11 _)).mono ?_
  rintro e w4 ⟨vw4, rfl, hew4, hbw4⟩
  obtain rfl := hew4.nil
  clear hew4
  replace BX := BX.below hbw4
  replace BY := BY.below hbw4
  obtain ⟨a0, a1, a2, fA⟩ := BX.cells
  obtain ⟨b0, b1, b2, fB⟩ := BY.cells
  replace HBW := hide (Below.andThen (unhide HBW) hbw4)
  clear hbw4
  have halw4 : Below w4.heap.size w4 (w4.alloc (.cells #[.int .i64 (2), .int .i64 (a + b), .string ⟨#[]⟩] 23)) := (Below.refl _ _).alloc (Nat.le_refl _) _
  obtain ⟨c0, c1, c2, fC⟩ := (Blk3.new w4 23 (.int .i64 2) (.int .i64 (a + b)) (.string ⟨#[]⟩)).cells
  replace BX := BX.below halw4
  replace BY := BY.below halw4
  obtain ⟨a0, a1, a2, fA⟩ := BX.cells
  obtain ⟨b0, b1, b2, fB⟩ := BY.cells
  replace HBW := hide (Below.andThen (unhide HBW) halw4)
  clear halw4
  go_wp2_with fail
  refine (unhide (HD12 _)).mono ?_
  rintro e w5 ⟨vw5, rfl, hew5, hbw5⟩
  obtain rfl := hew5.nil
  clear hew5
  have hC := (Blk3.new w4 23 (.int .i64 2) (.int .i64 (a + b)) (.string ⟨#[]⟩)).below hbw5
  obtain ⟨c0, c1, c2, fC⟩ := hC.cells
  replace BX := BX.below hbw5
  replace BY := BY.below hbw5
  obtain ⟨a0, a1, a2, fA⟩ := BX.cells
  obtain ⟨b0, b1, b2, fB⟩ := BY.cells
  replace HBW := hide (Below.andThen (unhide HBW) hbw5)
  clear hbw5
  have halw5 : Below w5.heap.size w5 (w5.alloc (.cells #[.int .i64 (2), .int .i64 (a), .string ⟨#[]⟩] 23)) := (Below.refl _ _).alloc (Nat.le_refl _) _
  have hC := hC.below halw5
  obtain ⟨c0, c1, c2, fC⟩ := hC.cells
  obtain ⟨d0, d1, d2, fD⟩ := (Blk3.new w5 23 (.int .i64 2) (.int .i64 a) (.string ⟨#[]⟩)).cells
  replace BX := BX.below halw5
  replace BY := BY.below halw5
  obtain ⟨a0, a1, a2, fA⟩ := BX.cells
  obtain ⟨b0, b1, b2, fB⟩ := BY.cells
  replace HBW := hide (Below.andThen (unhide HBW) halw5)
  clear halw5
  go_wp2_with fail
  refine (unhide (HD13 _)).mono ?_
  rintro e w6 ⟨vw6, rfl, hew6, hbw6⟩
  obtain rfl := hew6.nil
  clear hew6
  replace BX := BX.below hbw6
  replace BY := BY.below hbw6
  obtain ⟨a0, a1, a2, fA⟩ := BX.cells
  obtain ⟨b0, b1, b2, fB⟩ := BY.cells
  replace HBW := hide (Below.andThen (unhide HBW) hbw6)
  clear hbw6
  have halw6 : Below w6.heap.size w6 (w6.alloc (.cells #[.int .i64 (2), .int .i64 (p), .string ⟨#[]⟩] 23)) := (Below.refl _ _).alloc (Nat.le_refl _) _
  obtain ⟨c0, c1, c2, fC⟩ := (Blk3.new w6 23 (.int .i64 2) (.int .i64 (p)) (.string ⟨#[]⟩)).cells
  replace BX := BX.below halw6
  replace BY := BY.below halw6
  obtain ⟨a0, a1, a2, fA⟩ := BX.cells
  obtain ⟨b0, b1, b2, fB⟩ := BY.cells
  replace HBW := hide (Below.andThen (unhide HBW) halw6)
  clear halw6
  go_wp2_with fail
  refine (unhide (HD14p _)).mono ?_
  rintro e w7 ⟨vw7, rfl, hew7, hbw7⟩
  obtain rfl := hew7.nil
  clear hew7
  replace BX := BX.below hbw7
  replace BY := BY.below hbw7
  obtain ⟨a0, a1, a2, fA⟩ := BX.cells
  obtain ⟨b0, b1, b2, fB⟩ := BY.cells
  replace HBW := hide (Below.andThen (unhide HBW) hbw7)
  clear hbw7
  have halw7 : Below w7.heap.size w7 (w7.alloc (.cells #[.int .i64 (2), .int .i64 (a), .string ⟨#[]⟩] 23)) := (Below.refl _ _).alloc (Nat.le_refl _) _
  obtain ⟨c0, c1, c2, fC⟩ := (Blk3.new w7 23 (.int .i64 2) (.int .i64 (a)) (.string ⟨#[]⟩)).cells
  replace BX := BX.below halw7
  replace BY := BY.below halw7
  obtain ⟨a0, a1, a2, fA⟩ := BX.cells
  obtain ⟨b0, b1, b2, fB⟩ := BY.cells
  replace HBW := hide (Below.andThen (unhide HBW) halw7)
  clear halw7
  go_wp2_with fail
  refine (unhide (HD14 _)).mono ?_
  rintro e w8 ⟨vw8, rfl, hew8, hbw8⟩
  obtain rfl := hew8.nil
  clear hew8
  replace BX := BX.below hbw8
  replace BY := BY.below hbw8
  obtain ⟨a0, a1, a2, fA⟩ := BX.cells
  obtain ⟨b0, b1, b2, fB⟩ := BY.cells
  replace HBW := hide (Below.andThen (unhide HBW) hbw8)
  clear hbw8
  have halw8 : Below w8.heap.size w8 (w8.alloc (.cells #[.int .i64 (2), .int .i64 (q), .string ⟨#[]⟩] 23)) := (Below.refl _ _).alloc (Nat.le_refl _) _
  obtain ⟨c0, c1, c2, fC⟩ := (Blk3.new w8 23 (.int .i64 2) (.int .i64 (q)) (.string ⟨#[]⟩)).cells
  replace BX := BX.below halw8
  replace BY := BY.below halw8
  obtain ⟨a0, a1, a2, fA⟩ := BX.cells
  obtain ⟨b0, b1, b2, fB⟩ := BY.cells
  replace HBW := hide (Below.andThen (unhide HBW) halw8)
  clear halw8
  go_wp2_with fail
  refine (unhide (HD15 _)).mono ?_
  rintro e w9 ⟨vw9, rfl, hew9, hbw9⟩
  obtain rfl := hew9.nil
  clear hew9
  have hC := (Blk3.new w8 23 (.int .i64 2) (.int .i64 q) (.string ⟨#[]⟩)).below hbw9
  replace BX := BX.below hbw9
  replace BY := BY.below hbw9
  obtain ⟨a0, a1, a2, fA⟩ := BX.cells
  obtain ⟨b0, b1, b2, fB⟩ := BY.cells
  replace HBW := hide (Below.andThen (unhide HBW) hbw9)
  clear hbw9
  have halw9 : Below w9.heap.size w9 (w9.alloc (.cells #[.int .i64 (2), .int .i64 (m), .string ⟨#[]⟩] 23)) := (Below.refl _ _).alloc (Nat.le_refl _) _
  have hC := hC.below halw9
  obtain ⟨c0, c1, c2, fC⟩ := hC.cells
  obtain ⟨d0, d1, d2, fD⟩ := (Blk3.new w9 23 (.int .i64 2) (.int .i64 m) (.string ⟨#[]⟩)).cells
  replace BX := BX.below halw9
  replace BY := BY.below halw9
  obtain ⟨a0, a1, a2, fA⟩ := BX.cells
  obtain ⟨b0, b1, b2, fB⟩ := BY.cells
  replace HBW := hide (Below.andThen (unhide HBW) halw9)
  clear halw9
  go_wp2
  go_ret
  exact ⟨rfl, unhide HBW⟩
set_option maxRecDepth 100000 in
set_option maxHeartbeats 800000 in
theorem numbers_ff10 (a b p q m : Int) (w : World) (hg : OkW w) (s1 : -9223372036854775808 ≤ a + b) (s2 : a + b ≤ 9223372036854775807) (fz : (b == 0) = false) (fa : (a == -9223372036854775808) = true) (fb : (b == -1) = false) (q1 : -9223372036854775808 ≤ q * b) (q2 : q * b ≤ 9223372036854775807) (q3 : -9223372036854775808 ≤ q * b + m) (q4 : q * b + m ≤ 9223372036854775807) (fq : (q * b + m == a) = true) (fm : (m == 0) = true)
    (D11 : ∀ w, Calls Tryd.prog 17 #[.int .i64 11, .agg #[.int .i64 2, .int .i64 (a), .string ⟨#[]⟩], .agg #[.int .i64 2, .int .i64 (b), .string ⟨#[]⟩]] w (DPost w (2, a + b, ⟨#[]⟩, 0)))
    (D12 : ∀ w, Calls Tryd.prog 17 #[.int .i64 12, .agg #[.int .i64 2, .int .i64 (a + b), .string ⟨#[]⟩], .agg #[.int .i64 2, .int .i64 (b), .string ⟨#[]⟩]] w (DPost w (2, a, ⟨#[]⟩, 0)))
    (D13 : ∀ w, Calls Tryd.prog 17 #[.int .i64 13, .agg #[.int .i64 2, .int .i64 (a), .string ⟨#[]⟩], .agg #[.int .i64 2, .int .i64 (b), .string ⟨#[]⟩]] w (DPost w (2, p, ⟨#[]⟩, 0)))
    (D14p : ∀ w, Calls Tryd.prog 17 #[.int .i64 14, .agg #[.int .i64 2, .int .i64 (p), .string ⟨#[]⟩], .agg #[.int .i64 2, .int .i64 (b), .string ⟨#[]⟩]] w (DPost w (2, a, ⟨#[]⟩, 0)))
    (D14 : ∀ w, Calls Tryd.prog 17 #[.int .i64 14, .agg #[.int .i64 2, .int .i64 (a), .string ⟨#[]⟩], .agg #[.int .i64 2, .int .i64 (b), .string ⟨#[]⟩]] w (DPost w (2, q, ⟨#[]⟩, 0)))
    (D15 : ∀ w, Calls Tryd.prog 17 #[.int .i64 15, .agg #[.int .i64 2, .int .i64 (a), .string ⟨#[]⟩], .agg #[.int .i64 2, .int .i64 (b), .string ⟨#[]⟩]] w (DPost w (2, m, ⟨#[]⟩, 0))) :
    Calls Tryd.prog 4 #[.int .i64 a, .int .i64 b] w fun e w' => e = .returned (.bool true) ∧ Below w.heap.size w w' := by
  have HD11 := fun w => hide (D11 w)
  have HD12 := fun w => hide (D12 w)
  have HD13 := fun w => hide (D13 w)
  have HD14p := fun w => hide (D14p w)
  have HD14 := fun w => hide (D14 w)
  have HD15 := fun w => hide (D15 w)
  clear D11 D12 D13 D14p D14 D15
  have HK := hide (known6 _ hg)
  have HG := hide hg
  clear hg
  go_enter Tryd.func4, Tryd.ntmps4
  go_wp2_with fail
  refine (unhide HK).mono ?_
  rintro e w1 ⟨rfl, hb1⟩
  have HBW := hide hb1
  clear hb1 HK
  go_wp2_with fail
  refine (ref6_Num _ _).mono ?_
  rintro e w2 ⟨rfl, hb2⟩
  replace HBW := hide (Below.andThen (unhide HBW) hb2)
  clear hb2
  go_wp2_with fail
  refine (ref6_Num _ _).mono ?_
  rintro e w3 ⟨rfl, hb3⟩
  replace HBW := hide (Below.andThen (unhide HBW) hb3)
  clear hb3
  have BX := (Blk3.new w3 23 (.int .i64 2) (.int .i64 a) (.string ⟨#[]⟩)).alloc (.cells #[.int .i64 2, .int .i64 b, .string ⟨#[]⟩] 23)
  have BY := Blk3.new1 w3 (.cells #[.int .i64 2, .int .i64 a, .string ⟨#[]⟩] 23) 23 (.int .i64 2) (.int .i64 b) (.string ⟨#[]⟩)
  have hal : Below w3.heap.size w3 ((w3.alloc (.cells #[.int .i64 2, .int .i64 a, .string ⟨#[]⟩] 23)).alloc (.cells #[.int .i64 2, .int .i64 b, .string ⟨#[]⟩] 23)) := ((Below.refl _ _).alloc (Nat.le_refl _) _).alloc (by simp) _
  replace HBW := hide (Below.andThen (unhide HBW) hal)
  clear hal
  obtain ⟨a0, a1, a2, fA⟩ := BX.cells
  obtain ⟨b0, b1, b2, fB⟩ := BY.cells
  go_wp2_with fail
  refine (unhide (HD11 _)).mono ?_
  rintro e w4 ⟨vw4, rfl, hew4, hbw4⟩
  obtain rfl := hew4.nil
  clear hew4
  replace BX := BX.below hbw4
  replace BY := BY.below hbw4
  obtain ⟨a0, a1, a2, fA⟩ := BX.cells
  obtain ⟨b0, b1, b2, fB⟩ := BY.cells
  replace HBW := hide (Below.andThen (unhide HBW) hbw4)
  clear hbw4
  have halw4 : Below w4.heap.size w4 (w4.alloc (.cells #[.int .i64 (2), .int .i64 (a + b), .string ⟨#[]⟩] 23)) := (Below.refl _ _).alloc (Nat.le_refl _) _
  obtain ⟨c0, c1, c2, fC⟩ := (Blk3.new w4 23 (.int .i64 2) (.int .i64 (a + b)) (.string ⟨#[]⟩)).cells
  replace BX := BX.below halw4
  replace BY := BY.below halw4
  obtain ⟨a0, a1, a2, fA⟩ := BX.cells
  obtain ⟨b0, b1, b2, fB⟩ := BY.cells
  replace HBW := hide (Below.andThen (unhide HBW) halw4)
  clear halw4
  go_wp2_with fail
  refine (unhide (HD12 _)).mono ?_
  rintro e w5 ⟨vw5, rfl, hew5, hbw5⟩
  obtain rfl := hew5.nil
  clear hew5
  have hC := (Blk3.new w4 23 (.int .i64 2) (.int .i64 (a + b)) (.string ⟨#[]⟩)).below hbw5
  obtain ⟨c0, c1, c2, fC⟩ := hC.cells
  replace BX := BX.below hbw5
  replace BY := BY.below hbw5
  obtain ⟨a0, a1, a2, fA⟩ := BX.cells
  obtain ⟨b0, b1, b2, fB⟩ := BY.cells
  replace HBW := hide (Below.andThen (unhide HBW) hbw5)
  clear hbw5
  have halw5 : Below w5.heap.size w5 (w5.alloc (.cells #[.int .i64 (2), .int .i64 (a), .string ⟨#[]⟩] 23)) := (Below.refl _ _).alloc (Nat.le_refl _) _
  have hC := hC.below halw5
  obtain ⟨c0, c1, c2, fC⟩ := hC.cells
  obtain ⟨d0, d1, d2, fD⟩ := (Blk3.new w5 23 (.int .i64 2) (.int .i64 a) (.string ⟨#[]⟩)).cells
  replace BX := BX.below halw5
  replace BY := BY.below halw5
  obtain ⟨a0, a1, a2, fA⟩ := BX.cells
  obtain ⟨b0, b1, b2, fB⟩ := BY.cells
  replace HBW := hide (Below.andThen (unhide HBW) halw5)
  clear halw5
  go_wp2_with fail
  refine (unhide (HD13 _)).mono ?_
  rintro e w6 ⟨vw6, rfl, hew6, hbw6⟩
  obtain rfl := hew6.nil
  clear hew6
  replace BX := BX.below hbw6
  replace BY := BY.below hbw6
  obtain ⟨a0, a1, a2, fA⟩ := BX.cells
  obtain ⟨b0, b1, b2, fB⟩ := BY.cells
  replace HBW := hide (Below.andThen (unhide HBW) hbw6)
  clear hbw6
  have halw6 : Below w6.heap.size w6 (w6.alloc (.cells #[.int .i64 (2), .int .i64 (p), .string ⟨#[]⟩] 23)) := (Below.refl _ _).alloc (Nat.le_refl _) _
  obtain ⟨c0, c1, c2, fC⟩ := (Blk3.new w6 23 (.int .i64 2) (.int .i64 (p)) (.string ⟨#[]⟩)).cells
  replace BX := BX.below halw6
  replace BY := BY.below halw6
  obtain ⟨a0, a1, a2, fA⟩ := BX.cells
  obtain ⟨b0, b1, b2, fB⟩ := BY.cells
  replace HBW := hide (Below.andThen (unhide HBW) halw6)
  clear halw6
  go_wp2_with fail
  refine (unhide (HD14p _)).mono ?_
  rintro e w7 ⟨vw7, rfl, hew7, hbw7⟩
  obtain rfl := hew7.nil
  clear hew7
  replace BX := BX.below hbw7
  replace BY := BY.below hbw7
  obtain ⟨a0, a1, a2, fA⟩ := BX.cells
  obtain ⟨b0, b1, b2, fB⟩ := BY.cells
  replace HBW := hide (Below.andThen (unhide HBW) hbw7)
  clear hbw7
  have halw7 : Below w7.heap.size w7 (w7.alloc (.cells #[.int .i64 (2), .int .i64 (a), .string ⟨#[]⟩] 23)) := (Below.refl _ _).alloc (Nat.le_refl _) _
  obtain ⟨c0, c1, c2, fC⟩ := (Blk3.new w7 23 (.int .i64 2) (.int .i64 (a)) (.string ⟨#[]⟩)).cells
  replace BX := BX.below halw7
  replace BY := BY.below halw7
  obtain ⟨a0, a1, a2, fA⟩ := BX.cells
  obtain ⟨b0, b1, b2, fB⟩ := BY.cells
  replace HBW := hide (Below.andThen (unhide HBW) halw7)
  clear halw7
  go_wp2_with fail
  refine (unhide (HD14 _)).mono ?_
  rintro e w8 ⟨vw8, rfl, hew8, hbw8⟩
  obtain rfl := hew8.nil
  clear hew8
  replace BX := BX.below hbw8
  replace BY := BY.below hbw8
  obtain ⟨a0, a1, a2, fA⟩ := BX.cells
  obtain ⟨b0, b1, b2, fB⟩ := BY.cells
  replace HBW := hide (Below.andThen (unhide HBW) hbw8)
  clear hbw8
  have halw8 : Below w8.heap.size w8 (w8.alloc (.cells #[.int .i64 (2), .int .i64 (q), .string ⟨#[]⟩] 23)) := (Below.refl _ _).alloc (Nat.le_refl _) _
  obtain ⟨c0, c1, c2, fC⟩ := (Blk3.new w8 23 (.int .i64 2) (.int .i64 (q)) (.string ⟨#[]⟩)).cells
  replace BX := BX.below halw8
  replace BY := BY.below halw8
  obtain ⟨a0, a1, a2, fA⟩ := BX.cells
  obtain ⟨b0, b1, b2, fB⟩ := BY.cells
  replace HBW := hide (Below.andThen (unhide HBW) halw8)
  clear halw8
  go_wp2_with fail
  refine (unhide (HD15 _)).mono ?_
  rintro e w9 ⟨vw9, rfl, hew9, hbw9⟩
  obtain rfl := hew9.nil
  clear hew9
  have hC := (Blk3.new w8 23 (.int .i64 2) (.int .i64 q) (.string ⟨#[]⟩)).below hbw9
  replace BX := BX.below hbw9
  replace BY := BY.below hbw9
  obtain ⟨a0, a1, a2, fA⟩ := BX.cells
  obtain ⟨b0, b1, b2, fB⟩ := BY.cells
  replace HBW := hide (Below.andThen (unhide HBW) hbw9)
  clear hbw9
  have halw9 : Below w9.heap.size w9 (w9.alloc (.cells #[.int .i64 (2), .int .i64 (m), .string ⟨#[]⟩] 23)) := (Below.refl _ _).alloc (Nat.le_refl _) _
  have hC := hC.below halw9
  obtain ⟨c0, c1, c2, fC⟩ := hC.cells
  obtain ⟨d0, d1, d2, fD⟩ := (Blk3.new w9 23 (.int .i64 2) (.int .i64 m) (.string ⟨#[]⟩)).cells
  replace BX := BX.below halw9
  replace BY := BY.below halw9
  obtain ⟨a0, a1, a2, fA⟩ := BX.cells
  obtain ⟨b0, b1, b2, fB⟩ := BY.cells
  replace HBW := hide (Below.andThen (unhide HBW) halw9)
  clear halw9
  go_wp2
  go_ret
  exact ⟨rfl, unhide HBW⟩
set_option maxRecDepth 100000 in
set_option maxHeartbeats 800000 in
theorem numbers_ff11 (a b p q m : Int) (w : World) (hg : OkW w) (s1 : -9223372036854775808 ≤ a + b) (s2 : a + b ≤ 9223372036854775807) (fz : (b == 0) = false) (fa : (a == -9223372036854775808) = true) (fb : (b == -1) = false) (q1 : -9223372036854775808 ≤ q * b) (q2 : q * b ≤ 9223372036854775807) (q3 : -9223372036854775808 ≤ q * b + m) (q4 : q * b + m ≤ 9223372036854775807) (fq : (q * b + m == a) = true) (fm : (m == 0) = false) (fs : ((decide (m < 0)) == (decide (a < 0))) = true)
    (D11 : ∀ w, Calls Tryd.prog 17 #[.int .i64 11, .agg #[.int .i64 2, .int .i64 (a), .string ⟨#[]⟩], .agg #[.int .i64 2, .int .i64 (b), .string ⟨#[]⟩]] w (DPost w (2, a + b, ⟨#[]⟩, 0)))
    (D12 : ∀ w, Calls Tryd.prog 17 #[.int .i64 12, .agg #[.int .i64 2, .int .i64 (a + b), .string ⟨#[]⟩], .agg #[.int .i64 2, .int .i64 (b), .string ⟨#[]⟩]] w (DPost w (2, a, ⟨#[]⟩, 0)))
    (D13 : ∀ w, Calls Tryd.prog 17 #[.int .i64 13, .agg #[.int .i64 2, .int .i64 (a), .string ⟨#[]⟩], .agg #[.int .i64 2, .int .i64 (b), .string ⟨#[]⟩]] w (DPost w (2, p, ⟨#[]⟩, 0)))
    (D14p : ∀ w, Calls Tryd.prog 17 #[.int .i64 14, .agg #[.int .i64 2, .int .i64 (p), .string ⟨#[]⟩], .agg #[.int .i64 2, .int .i64 (b), .string ⟨#[]⟩]] w (DPost w (2, a, ⟨#[]⟩, 0)))
    (D14 : ∀ w, Calls Tryd.prog 17 #[.int .i64 14, .agg #[.int .i64 2, .int .i64 (a), .string ⟨#[]⟩], .agg #[.int .i64 2, .int .i64 (b), .string ⟨#[]⟩]] w (DPost w (2, q, ⟨#[]⟩, 0)))
    (D15 : ∀ w, Calls Tryd.prog 17 #[.int .i64 15, .agg #[.int .i64 2, .int .i64 (a), .string ⟨#[]⟩], .agg #[.int .i64 2, .int .i64 (b), .string ⟨#[]⟩]] w (DPost w (2, m, ⟨#[]⟩, 0))) :
    Calls Tryd.prog 4 #[.int .i64 a, .int .i64 b] w fun e w' => e = .returned (.bool true) ∧ Below w.heap.size w w' := by
  have HD11 := fun w => hide (D11 w)
  have HD12 := fun w => hide (D12 w)
  have HD13 := fun w => hide (D13 w)
  have HD14p := fun w => hide (D14p w)
  have HD14 := fun w => hide (D14 w)
  have HD15 := fun w => hide (D15 w)
  clear D11 D12 D13 D14p D14 D15
  have HK := hide (known6 _ hg)
  have HG := hide hg
  clear hg
  go_enter Tryd.func4, Tryd.ntmps4
  go_wp2_with fail
  refine (unhide HK).mono ?_
  rintro e w1 ⟨rfl, hb1⟩
  have HBW := hide hb1
  clear hb1 HK
  go_wp2_with fail
  refine (ref6_Num _ _).mono ?_
  rintro e w2 ⟨rfl, hb2⟩
  replace HBW := hide (Below.andThen (unhide HBW) hb2)
  clear hb2
  go_wp2_with fail
  refine (ref6_Num _ _).mono ?_
  rintro e w3 ⟨rfl, hb3⟩
  replace HBW := hide (Below.andThen (unhide HBW) hb3)
  clear hb3
  have BX := (Blk3.new w3 23 (.int .i64 2) (.int .i64 a) (.string ⟨#[]⟩)).alloc (.cells #[.int .i64 2, .int .i64 b, .string ⟨#[]⟩] 23)
  have BY := Blk3.new1 w3 (.cells #[.int .i64 2, .int .i64 a, .string ⟨#[]⟩] 23) 23 (.int .i64 2) (.int .i64 b) (.string ⟨#[]⟩)
  have hal : Below w3.heap.size w3 ((w3.alloc (.cells #[.int .i64 2, .int .i64 a, .string ⟨#[]⟩] 23)).alloc (.cells #[.int .i64 2, .int .i64 b, .string ⟨#[]⟩] 23)) := ((Below.refl _ _).alloc (Nat.le_refl _) _).alloc (by simp) _
  replace HBW := hide (Below.andThen (unhide HBW) hal)
  clear hal
  obtain ⟨a0, a1, a2, fA⟩ := BX.cells
  obtain ⟨b0, b1, b2, fB⟩ := BY.cells
  go_wp2_with fail
  refine (unhide (HD11 _)).mono ?_
  rintro e w4 ⟨vw4, rfl, hew4, hbw4⟩
  obtain rfl := hew4.nil
  clear hew4
  replace BX := BX.below hbw4
  replace BY := BY.below hbw4
  obtain ⟨a0, a1, a2, fA⟩ := BX.cells
  obtain ⟨b0, b1, b2, fB⟩ := BY.cells
  replace HBW := hide (Below.andThen (unhide HBW) hbw4)
  clear hbw4
  have halw4 : Below w4.heap.size w4 (w4.alloc (.cells #[.int .i64 (2), .int .i64 (a + b), .string ⟨#[]⟩] 23)) := (Below.refl _ _).alloc (Nat.le_refl _) _
  obtain ⟨c0, c1, c2, fC⟩ := (Blk3.new w4 23 (.int .i64 2) (.int .i64 (a + b)) (.string ⟨#[]⟩)).cells
  replace BX := BX.below halw4
  replace BY := BY.below halw4
  obtain ⟨a0, a1, a2, fA⟩ := BX.cells
  obtain ⟨b0, b1, b2, fB⟩ := BY.cells
  replace HBW := hide (Below.andThen (unhide HBW) halw4)
  clear halw4
  go_wp2_with fail
  refine (unhide (HD12 _)).mono ?_
  rintro e w5 ⟨vw5, rfl, hew5, hbw5⟩
  obtain rfl := hew5.nil
  clear hew5
  have hC := (Blk3.new w4 23 (.int .i64 2) (.int .i64 (a + b)) (.string ⟨#[]⟩)).below hbw5
  obtain ⟨c0, c1, c2, fC⟩ := hC.cells
  replace BX := BX.below hbw5
  replace BY := BY.below hbw5
  obtain ⟨a0, a1, a2, fA⟩ := BX.cells
  obtain ⟨b0, b1, b2, fB⟩ := BY.cells
  replace HBW := hide (Below.andThen (unhide HBW) hbw5)
  clear hbw5
  have halw5 : Below w5.heap.size w5 (w5.alloc (.cells #[.int .i64 (2), .int .i64 (a), .string ⟨#[]⟩] 23)) := (Below.refl _ _).alloc (Nat.le_refl _) _
  have hC := hC.below halw5
  obtain ⟨c0, c1, c2, fC⟩ := hC.cells
  obtain ⟨d0, d1, d2, fD⟩ := (Blk3.new w5 23 (.int .i64 2) (.int .i64 a) (.string ⟨#[]⟩)).cells
  replace BX := BX.below halw5
  replace BY := BY.below halw5
  obtain ⟨a0, a1, a2, fA⟩ := BX.cells
  obtain ⟨b0, b1, b2, fB⟩ := BY.cells
  replace HBW := hide (Below.andThen (unhide HBW) halw5)
  clear halw5
  go_wp2_with fail
  refine (unhide (HD13 _)).mono ?_
  rintro e w6 ⟨vw6, rfl, hew6, hbw6⟩
  obtain rfl := hew6.nil
  clear hew6
  replace BX := BX.below hbw6
  replace BY := BY.below hbw6
  obtain ⟨a0, a1, a2, fA⟩ := BX.cells
  obtain ⟨b0, b1, b2, fB⟩ := BY.cells
  replace HBW := hide (Below.andThen (unhide HBW) hbw6)
  clear hbw6
  have halw6 : Below w6.heap.size w6 (w6.alloc (.cells #[.int .i64 (2), .int .i64 (p), .string ⟨#[]⟩] 23)) := (Below.refl _ _).alloc (Nat.le_refl _) _
  obtain ⟨c0, c1, c2, fC⟩ := (Blk3.new w6 23 (.int .i64 2) (.int .i64 (p)) (.string ⟨#[]⟩)).cells
  replace BX := BX.below halw6
  replace BY := BY.below halw6
  obtain ⟨a0, a1, a2, fA⟩ := BX.cells
  obtain ⟨b0, b1, b2, fB⟩ := BY.cells
  replace HBW := hide (Below.andThen (unhide HBW) halw6)
  clear halw6
  go_wp2_with fail
  refine (unhide (HD14p _)).mono ?_
  rintro e w7 ⟨vw7, rfl, hew7, hbw7⟩
  obtain rfl := hew7.nil
  clear hew7
  replace BX := BX.below hbw7
  replace BY := BY.below hbw7
  obtain ⟨a0, a1, a2, fA⟩ := BX.cells
  obtain ⟨b0, b1, b2, fB⟩ := BY.cells
  replace HBW := hide (Below.andThen (unhide HBW) hbw7)
  clear hbw7
  have halw7 : Below w7.heap.size w7 (w7.alloc (.cells #[.int .i64 (2), .int .i64 (a), .string ⟨#[]⟩] 23)) := (Below.refl _ _).alloc (Nat.le_refl _) _
  obtain ⟨c0, c1, c2, fC⟩ := (Blk3.new w7 23 (.int .i64 2) (.int .i64 (a)) (.string ⟨#[]⟩)).cells
  replace BX := BX.below halw7
  replace BY := BY.below halw7
  obtain ⟨a0, a1, a2, fA⟩ := BX.cells
  obtain ⟨b0, b1, b2, fB⟩ := BY.cells
  replace HBW := hide (Below.andThen (unhide HBW) halw7)
  clear halw7
  go_wp2_with fail
  refine (unhide (HD14 _)).mono ?_
  rintro e w8 ⟨vw8, rfl, hew8, hbw8⟩
  obtain rfl := hew8.nil
  clear hew8
  replace BX := BX.below hbw8
  replace BY := BY.below hbw8
  obtain ⟨a0, a1, a2, fA⟩ := BX.cells
  obtain ⟨b0, b1, b2, fB⟩ := BY.cells
  replace HBW := hide (Below.andThen (unhide HBW) hbw8)
  clear hbw8
  have halw8 : Below w8.heap.size w8 (w8.alloc (.cells #[.int .i64 (2), .int .i64 (q), .string ⟨#[]⟩] 23)) := (Below.refl _ _).alloc (Nat.le_refl _) _
  obtain ⟨c0, c1, c2, fC⟩ := (Blk3.new w8 23 (.int .i64 2) (.int .i64 (q)) (.string ⟨#[]⟩)).cells
  replace BX := BX.below halw8
  replace BY := BY.below halw8
  obtain ⟨a0, a1, a2, fA⟩ := BX.cells
  obtain ⟨b0, b1, b2, fB⟩ := BY.cells
  replace HBW := hide (Below.andThen (unhide HBW) halw8)
  clear halw8
  go_wp2_with fail
  refine (unhide (HD15 _)).mono ?_
  rintro e w9 ⟨vw9, rfl, hew9, hbw9⟩
  obtain rfl := hew9.nil
  clear hew9
  have hC := (Blk3.new w8 23 (.int .i64 2) (.int .i64 q) (.string ⟨#[]⟩)).below hbw9
  replace BX := BX.below hbw9
  replace BY := BY.below hbw9
  obtain ⟨a0, a1, a2, fA⟩ := BX.cells
  obtain ⟨b0, b1, b2, fB⟩ := BY.cells
  replace HBW := hide (Below.andThen (unhide HBW) hbw9)
  clear hbw9
  have halw9 : Below w9.heap.size w9 (w9.alloc (.cells #[.int .i64 (2), .int .i64 (m), .string ⟨#[]⟩] 23)) := (Below.refl _ _).alloc (Nat.le_refl _) _
  have hC := hC.below halw9
  obtain ⟨c0, c1, c2, fC⟩ := hC.cells
  obtain ⟨d0, d1, d2, fD⟩ := (Blk3.new w9 23 (.int .i64 2) (.int .i64 m) (.string ⟨#[]⟩)).cells
  replace BX := BX.below halw9
  replace BY := BY.below halw9
  obtain ⟨a0, a1, a2, fA⟩ := BX.cells
  obtain ⟨b0, b1, b2, fB⟩ := BY.cells
  replace HBW := hide (Below.andThen (unhide HBW) halw9)
  clear halw9
  go_wp2
  go_ret
  exact ⟨rfl, unhide HBW⟩
end Go.Proofs.YtpmjpbndpnmdlaaDoor

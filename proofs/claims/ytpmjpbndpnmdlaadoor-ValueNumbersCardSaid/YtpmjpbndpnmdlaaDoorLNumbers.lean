/- consistorylaw6.ValueNumbers: the walk. -/
import Derived.Test.YtpmjpbndpnmdlaaDoorKn6
namespace Go.Proofs.YtpmjpbndpnmdlaaDoor
open Go.RowKit

theorem may2 (n : Int) : mayB 2 n ⟨#[]⟩ = true := by simp [mayB]
theorem doR_num {op : Int} (a b : Int) (h : 11 ≤ op ∧ op ≤ 15) :
    doR op 2 a ⟨#[]⟩ 2 b ⟨#[]⟩ = if (reckonR op a b).2 = 0 then (2, (reckonR op a b).1, ⟨#[]⟩, 0) else (0, 0, ⟨#[]⟩, (reckonR op a b).2) := by
  unfold doR
  rw [may2, may2, if_neg (by simp; omega), if_neg (by simp), if_neg (by omega), if_neg (by simp)]
/-- Do on two numbers: what comes. -/
theorem do_nums {op : Int} (a b : Int) (h : 11 ≤ op ∧ op ≤ 15) (ha : In64 a) (hb : In64 b) {n c : Int} (hr : reckonR op a b = (n, c)) (w : World) :
    Calls Tryd.prog 17 #[.int .i64 op, .agg #[.int .i64 2, .int .i64 a, .string ⟨#[]⟩], .agg #[.int .i64 2, .int .i64 b, .string ⟨#[]⟩]] w (DPost w (if c = 0 then (2, n, ⟨#[]⟩, 0) else (0, 0, ⟨#[]⟩, c))) := by
  have := value_Do op 2 a ⟨#[]⟩ 2 b ⟨#[]⟩ w (by decide) (by decide) ha hb
  rw [doR_num a b h, hr] at this
  exact this
theorem fit_in {n : Int} (h : In64 n) : fit n = (n, 0) := by unfold In64 at h; simp only [fit, if_pos h]
theorem fit_out {n : Int} (h : ¬ In64 n) : fit n = (0, 6) := by unfold In64 at h; simp only [fit, if_neg h]

set_option maxRecDepth 100000 in
set_option maxHeartbeats 800000 in
theorem numbers_z (a b p : Int) (w : World) (hg : OkW w) (s1 : -9223372036854775808 ≤ a + b) (s2 : a + b ≤ 9223372036854775807) (fz : (b == 0) = true)
    (D11 : ∀ w, Calls Tryd.prog 17 #[.int .i64 11, .agg #[.int .i64 2, .int .i64 (a), .string ⟨#[]⟩], .agg #[.int .i64 2, .int .i64 (b), .string ⟨#[]⟩]] w (DPost w (2, a + b, ⟨#[]⟩, 0)))
    (D12 : ∀ w, Calls Tryd.prog 17 #[.int .i64 12, .agg #[.int .i64 2, .int .i64 (a + b), .string ⟨#[]⟩], .agg #[.int .i64 2, .int .i64 (b), .string ⟨#[]⟩]] w (DPost w (2, a, ⟨#[]⟩, 0)))
    (D13 : ∀ w, Calls Tryd.prog 17 #[.int .i64 13, .agg #[.int .i64 2, .int .i64 (a), .string ⟨#[]⟩], .agg #[.int .i64 2, .int .i64 (b), .string ⟨#[]⟩]] w (DPost w (2, p, ⟨#[]⟩, 0)))
    (D14 : ∀ w, Calls Tryd.prog 17 #[.int .i64 14, .agg #[.int .i64 2, .int .i64 (a), .string ⟨#[]⟩], .agg #[.int .i64 2, .int .i64 (b), .string ⟨#[]⟩]] w (DPost w (0, 0, ⟨#[]⟩, 7)))
    (D15 : ∀ w, Calls Tryd.prog 17 #[.int .i64 15, .agg #[.int .i64 2, .int .i64 (a), .string ⟨#[]⟩], .agg #[.int .i64 2, .int .i64 (b), .string ⟨#[]⟩]] w (DPost w (0, 0, ⟨#[]⟩, 7))) :
    Calls Tryd.prog 4 #[.int .i64 a, .int .i64 b] w fun e w' => e = .returned (.bool true) ∧ Below w.heap.size w w' := by
  have HD11 := fun w => hide (D11 w)
  have HD12 := fun w => hide (D12 w)
  have HD13 := fun w => hide (D13 w)
  have HD14 := fun w => hide (D14 w)
  have HD15 := fun w => hide (D15 w)
  clear D11 D12 D13 D14 D15
  have HK := hide (known6 _ hg)
  have HG := hide hg
  clear hg
  go_enter Tryd.func4, Tryd.ntmps4
  go_wp2_with fail
  refine (unhide HK).mono ?_
  rintro e w1 ⟨rfl, hb1⟩
  have HBW := hide hb1
  clear hb1 HK
  go_wp2_with fail
  refine (ref6_Num _ _).mono ?_
  rintro e w2 ⟨rfl, hb2⟩
  replace HBW := hide (Below.andThen (unhide HBW) hb2)
  clear hb2
  go_wp2_with fail
  refine (ref6_Num _ _).mono ?_
  rintro e w3 ⟨rfl, hb3⟩
  replace HBW := hide (Below.andThen (unhide HBW) hb3)
  clear hb3
  have BX := (Blk3.new w3 23 (.int .i64 2) (.int .i64 a) (.string ⟨#[]⟩)).alloc (.cells #[.int .i64 2, .int .i64 b, .string ⟨#[]⟩] 23)
  have BY := Blk3.new1 w3 (.cells #[.int .i64 2, .int .i64 a, .string ⟨#[]⟩] 23) 23 (.int .i64 2) (.int .i64 b) (.string ⟨#[]⟩)
  have hal : Below w3.heap.size w3 ((w3.alloc (.cells #[.int .i64 2, .int .i64 a, .string ⟨#[]⟩] 23)).alloc (.cells #[.int .i64 2, .int .i64 b, .string ⟨#[]⟩] 23)) := ((Below.refl _ _).alloc (Nat.le_refl _) _).alloc (by simp) _
  replace HBW := hide (Below.andThen (unhide HBW) hal)
  clear hal
  obtain ⟨a0, a1, a2, fA⟩ := BX.cells
  obtain ⟨b0, b1, b2, fB⟩ := BY.cells
  go_wp2_with fail
  refine (unhide (HD11 _)).mono ?_
  rintro e w4 ⟨vw4, rfl, hew4, hbw4⟩
  obtain rfl := hew4.nil
  clear hew4
  replace BX := BX.below hbw4
  replace BY := BY.below hbw4
  obtain ⟨a0, a1, a2, fA⟩ := BX.cells
  obtain ⟨b0, b1, b2, fB⟩ := BY.cells
  replace HBW := hide (Below.andThen (unhide HBW) hbw4)
  clear hbw4
  have halw4 : Below w4.heap.size w4 (w4.alloc (.cells #[.int .i64 (2), .int .i64 (a + b), .string ⟨#[]⟩] 23)) := (Below.refl _ _).alloc (Nat.le_refl _) _
  obtain ⟨c0, c1, c2, fC⟩ := (Blk3.new w4 23 (.int .i64 2) (.int .i64 (a + b)) (.string ⟨#[]⟩)).cells
  replace BX := BX.below halw4
  replace BY := BY.below halw4
  obtain ⟨a0, a1, a2, fA⟩ := BX.cells
  obtain ⟨b0, b1, b2, fB⟩ := BY.cells
  replace HBW := hide (Below.andThen (unhide HBW) halw4)
  clear halw4
  go_wp2_with fail
  refine (unhide (HD12 _)).mono ?_
  rintro e w5 ⟨vw5, rfl, hew5, hbw5⟩
  obtain rfl := hew5.nil
  clear hew5
  have hC := (Blk3.new w4 23 (.int .i64 2) (.int .i64 (a + b)) (.string ⟨#[]⟩)).below hbw5
  obtain ⟨c0, c1, c2, fC⟩ := hC.cells
  replace BX := BX.below hbw5
  replace BY := BY.below hbw5
  obtain ⟨a0, a1, a2, fA⟩ := BX.cells
  obtain ⟨b0, b1, b2, fB⟩ := BY.cells
  replace HBW := hide (Below.andThen (unhide HBW) hbw5)
  clear hbw5
  have halw5 : Below w5.heap.size w5 (w5.alloc (.cells #[.int .i64 (2), .int .i64 (a), .string ⟨#[]⟩] 23)) := (Below.refl _ _).alloc (Nat.le_refl _) _
  have hC := hC.below halw5
  obtain ⟨c0, c1, c2, fC⟩ := hC.cells
  obtain ⟨d0, d1, d2, fD⟩ := (Blk3.new w5 23 (.int .i64 2) (.int .i64 a) (.string ⟨#[]⟩)).cells
  replace BX := BX.below halw5
  replace BY := BY.below halw5
  obtain ⟨a0, a1, a2, fA⟩ := BX.cells
  obtain ⟨b0, b1, b2, fB⟩ := BY.cells
  replace HBW := hide (Below.andThen (unhide HBW) halw5)
  clear halw5
  go_wp2_with fail
  refine (unhide (HD13 _)).mono ?_
  rintro e w6 ⟨vw6, rfl, hew6, hbw6⟩
  obtain rfl := hew6.nil
  clear hew6
  replace BX := BX.below hbw6
  replace BY := BY.below hbw6
  obtain ⟨a0, a1, a2, fA⟩ := BX.cells
  obtain ⟨b0, b1, b2, fB⟩ := BY.cells
  replace HBW := hide (Below.andThen (unhide HBW) hbw6)
  clear hbw6
  have halw6 : Below w6.heap.size w6 (w6.alloc (.cells #[.int .i64 (2), .int .i64 (p), .string ⟨#[]⟩] 23)) := (Below.refl _ _).alloc (Nat.le_refl _) _
  obtain ⟨c0, c1, c2, fC⟩ := (Blk3.new w6 23 (.int .i64 2) (.int .i64 (p)) (.string ⟨#[]⟩)).cells
  replace BX := BX.below halw6
  replace BY := BY.below halw6
  obtain ⟨a0, a1, a2, fA⟩ := BX.cells
  obtain ⟨b0, b1, b2, fB⟩ := BY.cells
  replace HBW := hide (Below.andThen (unhide HBW) halw6)
  clear halw6
  go_wp2_with fail
  refine (unhide (HD14 _)).mono ?_
  rintro e w8 ⟨vw8, rfl, hew8, hbw8⟩
  try dsimp only at hew8
  obtain ⟨Tw8, xw8, rfl⟩ := hew8.held (by decide)
  obtain ⟨dw8, hEw8⟩ := (hew8.resolve_left (fun h => absurd h.1 (by decide))).2
  clear hew8
  have HHw8 := hide hbw8
  replace BX := BX.below hbw8
  replace BY := BY.below hbw8
  obtain ⟨a0, a1, a2, fA⟩ := BX.cells
  obtain ⟨b0, b1, b2, fB⟩ := BY.cells
  replace HBW := hide (Below.andThen (unhide HBW) hbw8)
  clear hbw8
  have HCw8 := fun (W : World) (hb : Below w8.heap.size w8 W) => hide (Class_err dw8 _ 7 W (((unhide HG).below (unhide HBW)).below hb) (hEw8.below hb))
  clear hEw8
  have halw8 : Below w8.heap.size w8 (w8.alloc (.cells #[.int .i64 (0), .int .i64 (0), .string ⟨#[]⟩] 23)) := (Below.refl _ _).alloc (Nat.le_refl _) _
  have HLw8 := hide halw8
  replace BX := BX.below halw8
  replace BY := BY.below halw8
  obtain ⟨a0, a1, a2, fA⟩ := BX.cells
  obtain ⟨b0, b1, b2, fB⟩ := BY.cells
  replace HBW := hide (Below.andThen (unhide HBW) halw8)
  clear halw8
  go_wp2_with fail
  refine (unhide (HD15 _)).mono ?_
  rintro e w9 ⟨vw9, rfl, hew9, hbw9⟩
  try dsimp only at hew9
  obtain ⟨Tw9, xw9, rfl⟩ := hew9.held (by decide)
  obtain ⟨dw9, hEw9⟩ := (hew9.resolve_left (fun h => absurd h.1 (by decide))).2
  clear hew9
  have HHw9 := hide hbw9
  replace BX := BX.below hbw9
  replace BY := BY.below hbw9
  obtain ⟨a0, a1, a2, fA⟩ := BX.cells
  obtain ⟨b0, b1, b2, fB⟩ := BY.cells
  replace HBW := hide (Below.andThen (unhide HBW) hbw9)
  clear hbw9
  have HCw9 := fun (W : World) (hb : Below w9.heap.size w9 W) => hide (Class_err dw9 _ 7 W (((unhide HG).below (unhide HBW)).below hb) (hEw9.below hb))
  clear hEw9
  have halw9 : Below w9.heap.size w9 (w9.alloc (.cells #[.int .i64 (0), .int .i64 (0), .string ⟨#[]⟩] 23)) := (Below.refl _ _).alloc (Nat.le_refl _) _
  have HLw9 := hide halw9
  replace BX := BX.below halw9
  replace BY := BY.below halw9
  obtain ⟨a0, a1, a2, fA⟩ := BX.cells
  obtain ⟨b0, b1, b2, fB⟩ := BY.cells
  replace HBW := hide (Below.andThen (unhide HBW) halw9)
  clear halw9
  go_wp2_with fail
  have HN := hide (Below.andThen (Below.andThen (unhide HLw8) (unhide HHw9)) (unhide HLw9))
  refine (unhide (HCw8 _ (unhide HN))).mono ?_
  rintro e w10 ⟨rfl, hb10⟩
  replace HBW := hide (Below.andThen (unhide HBW) hb10)
  have HN2 := hide (Below.andThen (unhide HLw9) hb10)
  clear hb10 HN
  go_wp2_with fail
  refine (unhide (HCw9 _ (unhide HN2))).mono ?_
  rintro e w11 ⟨rfl, hb11⟩
  replace HBW := hide (Below.andThen (unhide HBW) hb11)
  clear hb11 HN2
  go_wp2
  go_ret
  exact ⟨rfl, unhide HBW⟩
set_option maxRecDepth 100000 in
set_option maxHeartbeats 800000 in
theorem numbers_over (a b m : Int) (w : World) (hg : OkW w) (fz : (b == 0) = false) (fa : (a == -9223372036854775808) = true) (fb : (b == -1) = true)
    (D11 : ∀ w, Calls Tryd.prog 17 #[.int .i64 11, .agg #[.int .i64 2, .int .i64 (a), .string ⟨#[]⟩], .agg #[.int .i64 2, .int .i64 (b), .string ⟨#[]⟩]] w (DPost w (0, 0, ⟨#[]⟩, 6)))
    (D13 : ∀ w, Calls Tryd.prog 17 #[.int .i64 13, .agg #[.int .i64 2, .int .i64 (a), .string ⟨#[]⟩], .agg #[.int .i64 2, .int .i64 (b), .string ⟨#[]⟩]] w (DPost w (0, 0, ⟨#[]⟩, 6)))
    (D14 : ∀ w, Calls Tryd.prog 17 #[.int .i64 14, .agg #[.int .i64 2, .int .i64 (a), .string ⟨#[]⟩], .agg #[.int .i64 2, .int .i64 (b), .string ⟨#[]⟩]] w (DPost w (0, 0, ⟨#[]⟩, 6)))
    (D15 : ∀ w, Calls Tryd.prog 17 #[.int .i64 15, .agg #[.int .i64 2, .int .i64 (a), .string ⟨#[]⟩], .agg #[.int .i64 2, .int .i64 (b), .string ⟨#[]⟩]] w (DPost w (2, m, ⟨#[]⟩, 0))) :
    Calls Tryd.prog 4 #[.int .i64 a, .int .i64 b] w fun e w' => e = .returned (.bool true) ∧ Below w.heap.size w w' := by
  have HD11 := fun w => hide (D11 w)
  have HD13 := fun w => hide (D13 w)
  have HD14 := fun w => hide (D14 w)
  have HD15 := fun w => hide (D15 w)
  clear D11 D13 D14 D15
  have HK := hide (known6 _ hg)
  have HG := hide hg
  clear hg
  go_enter Tryd.func4, Tryd.ntmps4
  go_wp2_with fail
  refine (unhide HK).mono ?_
  rintro e w1 ⟨rfl, hb1⟩
  have HBW := hide hb1
  clear hb1 HK
  go_wp2_with fail
  refine (ref6_Num _ _).mono ?_
  rintro e w2 ⟨rfl, hb2⟩
  replace HBW := hide (Below.andThen (unhide HBW) hb2)
  clear hb2
  go_wp2_with fail
  refine (ref6_Num _ _).mono ?_
  rintro e w3 ⟨rfl, hb3⟩
  replace HBW := hide (Below.andThen (unhide HBW) hb3)
  clear hb3
  have BX := (Blk3.new w3 23 (.int .i64 2) (.int .i64 a) (.string ⟨#[]⟩)).alloc (.cells #[.int .i64 2, .int .i64 b, .string ⟨#[]⟩] 23)
  have BY := Blk3.new1 w3 (.cells #[.int .i64 2, .int .i64 a, .string ⟨#[]⟩] 23) 23 (.int .i64 2) (.int .i64 b) (.string ⟨#[]⟩)
  have hal : Below w3.heap.size w3 ((w3.alloc (.cells #[.int .i64 2, .int .i64 a, .string ⟨#[]⟩] 23)).alloc (.cells #[.int .i64 2, .int .i64 b, .string ⟨#[]⟩] 23)) := ((Below.refl _ _).alloc (Nat.le_refl _) _).alloc (by simp) _
  replace HBW := hide (Below.andThen (unhide HBW) hal)
  clear hal
  obtain ⟨a0, a1, a2, fA⟩ := BX.cells
  obtain ⟨b0, b1, b2, fB⟩ := BY.cells
  go_wp2_with fail
  refine (unhide (HD11 _)).mono ?_
  rintro e w4 ⟨vw4, rfl, hew4, hbw4⟩
  try dsimp only at hew4
  obtain ⟨Tw4, xw4, rfl⟩ := hew4.held (by decide)
  obtain ⟨dw4, hEw4⟩ := (hew4.resolve_left (fun h => absurd h.1 (by decide))).2
  clear hew4
  have HHw4 := hide hbw4
  replace BX := BX.below hbw4
  replace BY := BY.below hbw4
  obtain ⟨a0, a1, a2, fA⟩ := BX.cells
  obtain ⟨b0, b1, b2, fB⟩ := BY.cells
  replace HBW := hide (Below.andThen (unhide HBW) hbw4)
  clear hbw4
  have HCw4 := fun (W : World) (hb : Below w4.heap.size w4 W) => hide (Class_err dw4 _ 6 W (((unhide HG).below (unhide HBW)).below hb) (hEw4.below hb))
  clear hEw4
  have halw4 : Below w4.heap.size w4 (w4.alloc (.cells #[.int .i64 (0), .int .i64 (0), .string ⟨#[]⟩] 23)) := (Below.refl _ _).alloc (Nat.le_refl _) _
  have HLw4 := hide halw4
  replace BX := BX.below halw4
  replace BY := BY.below halw4
  obtain ⟨a0, a1, a2, fA⟩ := BX.cells
  obtain ⟨b0, b1, b2, fB⟩ := BY.cells
  replace HBW := hide (Below.andThen (unhide HBW) halw4)
  clear halw4
  go_wp2_with fail
  refine (unhide (HCw4 _ (unhide HLw4))).mono ?_
  rintro e w5 ⟨rfl, hb5⟩
  replace BX := BX.below hb5
  replace BY := BY.below hb5
  obtain ⟨a0, a1, a2, fA⟩ := BX.cells
  obtain ⟨b0, b1, b2, fB⟩ := BY.cells
  replace HBW := hide (Below.andThen (unhide HBW) hb5)
  clear hb5
  go_wp2_with fail
  refine (unhide (HD13 _)).mono ?_
  rintro e w6 ⟨vw6, rfl, hew6, hbw6⟩
  try dsimp only at hew6
  obtain ⟨Tw6, xw6, rfl⟩ := hew6.held (by decide)
  obtain ⟨dw6, hEw6⟩ := (hew6.resolve_left (fun h => absurd h.1 (by decide))).2
  clear hew6
  have HHw6 := hide hbw6
  replace BX := BX.below hbw6
  replace BY := BY.below hbw6
  obtain ⟨a0, a1, a2, fA⟩ := BX.cells
  obtain ⟨b0, b1, b2, fB⟩ := BY.cells
  replace HBW := hide (Below.andThen (unhide HBW) hbw6)
  clear hbw6
  have HCw6 := fun (W : World) (hb : Below w6.heap.size w6 W) => hide (Class_err dw6 _ 6 W (((unhide HG).below (unhide HBW)).below hb) (hEw6.below hb))
  clear hEw6
  have halw6 : Below w6.heap.size w6 (w6.alloc (.cells #[.int .i64 (0), .int .i64 (0), .string ⟨#[]⟩] 23)) := (Below.refl _ _).alloc (Nat.le_refl _) _
  have HLw6 := hide halw6
  replace BX := BX.below halw6
  replace BY := BY.below halw6
  obtain ⟨a0, a1, a2, fA⟩ := BX.cells
  obtain ⟨b0, b1, b2, fB⟩ := BY.cells
  replace HBW := hide (Below.andThen (unhide HBW) halw6)
  clear halw6
  go_wp2_with fail
  refine (unhide (HD14 _)).mono ?_
  rintro e w8 ⟨vw8, rfl, hew8, hbw8⟩
  try dsimp only at hew8
  obtain ⟨Tw8, xw8, rfl⟩ := hew8.held (by decide)
  obtain ⟨dw8, hEw8⟩ := (hew8.resolve_left (fun h => absurd h.1 (by decide))).2
  clear hew8
  have HHw8 := hide hbw8
  replace BX := BX.below hbw8
  replace BY := BY.below hbw8
  obtain ⟨a0, a1, a2, fA⟩ := BX.cells
  obtain ⟨b0, b1, b2, fB⟩ := BY.cells
  replace HBW := hide (Below.andThen (unhide HBW) hbw8)
  clear hbw8
  have HCw8 := fun (W : World) (hb : Below w8.heap.size w8 W) => hide (Class_err dw8 _ 6 W (((unhide HG).below (unhide HBW)).below hb) (hEw8.below hb))
  clear hEw8
  have halw8 : Below w8.heap.size w8 (w8.alloc (.cells #[.int .i64 (0), .int .i64 (0), .string ⟨#[]⟩] 23)) := (Below.refl _ _).alloc (Nat.le_refl _) _
  have HLw8 := hide halw8
  replace BX := BX.below halw8
  replace BY := BY.below halw8
  obtain ⟨a0, a1, a2, fA⟩ := BX.cells
  obtain ⟨b0, b1, b2, fB⟩ := BY.cells
  replace HBW := hide (Below.andThen (unhide HBW) halw8)
  clear halw8
  go_wp2_with fail
  refine (unhide (HD15 _)).mono ?_
  rintro e w9 ⟨vw9, rfl, hew9, hbw9⟩
  obtain rfl := hew9.nil
  clear hew9
  replace BX := BX.below hbw9
  replace BY := BY.below hbw9
  obtain ⟨a0, a1, a2, fA⟩ := BX.cells
  obtain ⟨b0, b1, b2, fB⟩ := BY.cells
  replace HBW := hide (Below.andThen (unhide HBW) hbw9)
  clear hbw9
  have halw9 : Below w9.heap.size w9 (w9.alloc (.cells #[.int .i64 (2), .int .i64 (m), .string ⟨#[]⟩] 23)) := (Below.refl _ _).alloc (Nat.le_refl _) _
  obtain ⟨c0, c1, c2, fC⟩ := (Blk3.new w9 23 (.int .i64 2) (.int .i64 (m)) (.string ⟨#[]⟩)).cells
  replace BX := BX.below halw9
  replace BY := BY.below halw9
  obtain ⟨a0, a1, a2, fA⟩ := BX.cells
  obtain ⟨b0, b1, b2, fB⟩ := BY.cells
  replace HBW := hide (Below.andThen (unhide HBW) halw9)
  clear halw9
  go_wp2
  go_ret
  exact ⟨rfl, unhide HBW⟩
end Go.Proofs.YtpmjpbndpnmdlaaDoor

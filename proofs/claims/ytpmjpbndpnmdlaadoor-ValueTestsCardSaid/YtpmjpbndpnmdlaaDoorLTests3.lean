/- consistorylaw6.ValueTests: the walk. -/
import Derived.Test.YtpmjpbndpnmdlaaDoorLTests2
import Derived.Deep.RegionHeld3
namespace Go.Proofs.YtpmjpbndpnmdlaaDoor
open Go.RowKit

set_option maxRecDepth 100000 in
set_option maxHeartbeats 400000 in
theorem tests_8 (k n : Int) (s : ByteArray) (k' n' : Int) (s' : ByteArray) (w : World) (hg : OkW w) (hs : s.size ≤ 9223372036854775807) (hs' : s'.size ≤ 9223372036854775807)
    (hw : fewB [⟨k, n, s⟩, ⟨k', n', s'⟩] 2 = true) (x1 x2 x3 c : Int) (hx : (c ≠ 0 ∧ x1 = 0 ∧ x2 = 0 ∧ x3 = 0) ∨ (c = 0 ∧ x2 = notT x1 ∧ x3 = x1))
    (T1 : ∀ w, Calls Tryd.prog 15 #[.int .i64 8, .agg #[.int .i64 k, .int .i64 n, .string s], .agg #[.int .i64 k', .int .i64 n', .string s']] w (RPost w (x1, c)))
    (T2 : ∀ w, Calls Tryd.prog 15 #[.int .i64 9, .agg #[.int .i64 k, .int .i64 n, .string s], .agg #[.int .i64 k', .int .i64 n', .string s']] w (RPost w (x2, c)))
    (T3 : ∀ w, Calls Tryd.prog 15 #[.int .i64 10, .agg #[.int .i64 k', .int .i64 n', .string s'], .agg #[.int .i64 k, .int .i64 n, .string s]] w (RPost w (x3, c))) :
    Calls Tryd.prog 7 #[.int .i64 8, .agg #[.int .i64 k, .int .i64 n, .string s], .agg #[.int .i64 k', .int .i64 n', .string s']] w fun e w' => e = .returned (.bool true) ∧ Below w.heap.size w w' := by
  have HT1 := fun w => hide (T1 w)
  have HT2 := fun w => hide (T2 w)
  have HT3 := fun w => hide (T3 w)
  clear T1 T2 T3
  have hB0 : ∀ o o', Below w.heap.size w ((w.alloc o).alloc o') := fun o o' => ((Below.refl _ _).alloc (Nat.le_refl _) o).alloc (by simp) o'
  have HBW := hide (hB0 (.cells #[.int .i64 k, .int .i64 n, .string s] 23) (.cells #[.int .i64 k', .int .i64 n', .string s'] 23))
  clear hB0
  have BA := (Blk3.new w 23 (.int .i64 k) (.int .i64 n) (.string s)).alloc (.cells #[.int .i64 k', .int .i64 n', .string s'] 23)
  have BB := Blk3.new1 w (.cells #[.int .i64 k, .int .i64 n, .string s] 23) 23 (.int .i64 k') (.int .i64 n') (.string s')
  have HK := hide (known6 _ (hg.below (unhide HBW)))
  have HG := hide hg
  have hF : ∀ W : World, Calls Tryd.prog 12 #[.slice (some ⟨W.heap.size, 0, none⟩) 2 2, .int .i64 2] (W.alloc (.cells #[.int .i64 k, .int .i64 n, .string s, .int .i64 k', .int .i64 n', .string s'] 23)) fun e w' => e = .returned (.bool (fewB [⟨k, n, s⟩, ⟨k', n', s'⟩] 2)) ∧ (W.alloc (.cells #[.int .i64 k, .int .i64 n, .string s, .int .i64 k', .int .i64 n', .string s'] 23)) = w' := fun W =>
    help_Few _ 2 2 [⟨k, n, s⟩, ⟨k', n', s'⟩] 2 _ (by decide) (Reads.new W 23 3 2 (vcells [⟨k, n, s⟩, ⟨k', n', s'⟩]) rfl)
      (fun i v h => by
        match i, h with
        | 0, h => simp at h; subst h; exact hs
        | 1, h => simp at h; subst h; exact hs'
        | i + 2, h => simp at h)
  rw [hw] at hF
  have HF := fun W => hide (hF W)
  clear hF
  rcases hx with ⟨hc, rfl, rfl, rfl⟩ | ⟨rfl, hx2, rfl⟩
  · have HC := hide hc
    clear hc
    go_enter Tryd.func7, Tryd.ntmps7
    go_wp2_with fail
    refine (unhide HK).mono ?_
    rintro e w1 ⟨rfl, hb1⟩
    replace BA := BA.below hb1
    replace BB := BB.below hb1
    obtain ⟨a0, a1, a2, fA⟩ := BA.cells
    obtain ⟨b0, b1, b2, fB⟩ := BB.cells
    replace HBW := hide (Below.andThen (unhide HBW) hb1)
    clear hb1
    go_wp2_with fail
    refine (unhide (HF _)).mono ?_
    rintro e w2 ⟨rfl, rfl⟩
    have hal : Below w1.heap.size w1 (w1.alloc (.cells #[.int .i64 k, .int .i64 n, .string s, .int .i64 k', .int .i64 n', .string s'] 23)) := (Below.refl _ _).alloc (Nat.le_refl _) _
    replace BA := BA.below hal
    replace BB := BB.below hal
    obtain ⟨a0, a1, a2, fA⟩ := BA.cells
    obtain ⟨b0, b1, b2, fB⟩ := BB.cells
    replace HBW := hide (Below.andThen (unhide HBW) hal)
    clear hal
    generalize w1.alloc _ = w2 at *
    clear HK HF
    have hal2 : Below w2.heap.size w2 ((w2.alloc (.cells #[.int .i64 6, .int .i64 5, .int .i64 10, .int .i64 9, .int .i64 8, .int .i64 7] 42)).alloc (.cells #[.int .i64 5, .int .i64 6, .int .i64 9, .int .i64 10, .int .i64 7, .int .i64 8] 42)) := ((Below.refl _ _).alloc (Nat.le_refl _) _).alloc (by simp) _
    replace BA := BA.below hal2
    replace BB := BB.below hal2
    obtain ⟨a0, a1, a2, fA⟩ := BA.cells
    obtain ⟨b0, b1, b2, fB⟩ := BB.cells
    replace HBW := hide (Below.andThen (unhide HBW) hal2)
    clear hal2
    go_wp2_with fail
    refine (unhide (HT1 _)).mono ?_
    rintro e w3 ⟨v3, rfl, he3, hb3⟩
    have nC : w3.cell? ⟨w2.heap.size, 3, none⟩ = some (.int .i64 9) := (hb3.cell (p := ⟨w2.heap.size, 3, none⟩) (by simp; omega)).trans (by simp)
    have kC : w3.cell? ⟨w2.heap.size + 1, 3, none⟩ = some (.int .i64 10) := (hb3.cell (p := ⟨w2.heap.size + 1, 3, none⟩) (by simp)).trans (by simp)
    have nlt := lt_of_cell nC
    have klt := lt_of_cell kC
    try dsimp only at he3
    obtain ⟨T, x, rfl⟩ := he3.held (unhide HC)
    replace nC := nC
    replace BA := BA.below hb3
    replace BB := BB.below hb3
    obtain ⟨a0, a1, a2, fA⟩ := BA.cells
    obtain ⟨b0, b1, b2, fB⟩ := BB.cells
    replace HBW := hide (Below.andThen (unhide HBW) hb3)
    clear hb3
    go_wp2_with fail
    have wz : IntKind.i64.wrap 3 = 3 := by decide
    have KS : ∀ W4, Below w3.drew.heap.size w3.drew W4 → (W4.cell? ⟨w.heap.size, 0, none⟩ = some (.int .i64 k) ∧ W4.cell? ⟨w.heap.size, 1, none⟩ = some (.int .i64 n) ∧ W4.cell? ⟨w.heap.size, 2, none⟩ = some (.string s) ∧ W4.cell? ⟨w.heap.size + 1, 0, none⟩ = some (.int .i64 k') ∧ W4.cell? ⟨w.heap.size + 1, 1, none⟩ = some (.int .i64 n') ∧ W4.cell? ⟨w.heap.size + 1, 2, none⟩ = some (.string s') ∧ W4.cell? ⟨w2.heap.size, 3, none⟩ = some (.int .i64 9)) := fun W4 hb =>
      ⟨(hb.cell (p := ⟨_, _, none⟩) BA.lt).trans a0, (hb.cell (p := ⟨_, _, none⟩) BA.lt).trans a1, (hb.cell (p := ⟨_, _, none⟩) BA.lt).trans a2, (hb.cell (p := ⟨_, _, none⟩) BB.lt).trans b0, (hb.cell (p := ⟨_, _, none⟩) BB.lt).trans b1, (hb.cell (p := ⟨_, _, none⟩) BB.lt).trans b2, (hb.cell (p := ⟨_, _, none⟩) (lt_of_cell nC)).trans nC⟩
    replace KS := hide KS
    go_region_held3 (fun w' => w'.cell? ⟨w.heap.size, 0, none⟩ = some (.int .i64 k) ∧ w'.cell? ⟨w.heap.size, 1, none⟩ = some (.int .i64 n) ∧ w'.cell? ⟨w.heap.size, 2, none⟩ = some (.string s) ∧ w'.cell? ⟨w.heap.size + 1, 0, none⟩ = some (.int .i64 k') ∧ w'.cell? ⟨w.heap.size + 1, 1, none⟩ = some (.int .i64 n') ∧ w'.cell? ⟨w.heap.size + 1, 2, none⟩ = some (.string s') ∧ w'.cell? ⟨w2.heap.size, 3, none⟩ = some (.int .i64 9))
      (first | exact ⟨a0, a1, a2, b0, b1, b2, nC⟩ | exact (unhide KS) _ hb4)
      (first | (go_at_call 15; refine (unhide (HT2 _)).mono ?_; rintro e w4 ⟨v4, rfl, he4, hb4⟩))
    clear wz KS
    try dsimp only at he4
    obtain ⟨T4, x4, rfl⟩ := he4.held (unhide HC)
    have hb4' : Below w3.heap.size w3 w4 := (Below.refl _ _).drew.trans hb4
    have kC4 : w4.cell? ⟨w2.heap.size + 1, 3, none⟩ = some (.int .i64 10) := (hb4'.cell (p := ⟨w2.heap.size + 1, 3, none⟩) klt).trans kC
    clear kC nC hb4
    have he3' := he3.below hb4'
    replace BA := BA.below hb4'
    replace BB := BB.below hb4'
    obtain ⟨a0, a1, a2, fA⟩ := BA.cells
    obtain ⟨b0, b1, b2, fB⟩ := BB.cells
    replace HBW := hide (Below.andThen (unhide HBW) hb4')
    clear hb4'
    go_wp2_with fail
    have wz : IntKind.i64.wrap 3 = 3 := by decide
    have KS : ∀ W4, Below w4.drew.heap.size w4.drew W4 → (W4.cell? ⟨w.heap.size, 0, none⟩ = some (.int .i64 k) ∧ W4.cell? ⟨w.heap.size, 1, none⟩ = some (.int .i64 n) ∧ W4.cell? ⟨w.heap.size, 2, none⟩ = some (.string s) ∧ W4.cell? ⟨w.heap.size + 1, 0, none⟩ = some (.int .i64 k') ∧ W4.cell? ⟨w.heap.size + 1, 1, none⟩ = some (.int .i64 n') ∧ W4.cell? ⟨w.heap.size + 1, 2, none⟩ = some (.string s') ∧ W4.cell? ⟨w2.heap.size + 1, 3, none⟩ = some (.int .i64 10)) := fun W4 hb =>
      ⟨(hb.cell (p := ⟨_, _, none⟩) BA.lt).trans a0, (hb.cell (p := ⟨_, _, none⟩) BA.lt).trans a1, (hb.cell (p := ⟨_, _, none⟩) BA.lt).trans a2, (hb.cell (p := ⟨_, _, none⟩) BB.lt).trans b0, (hb.cell (p := ⟨_, _, none⟩) BB.lt).trans b1, (hb.cell (p := ⟨_, _, none⟩) BB.lt).trans b2, (hb.cell (p := ⟨_, _, none⟩) (lt_of_cell kC4)).trans kC4⟩
    replace KS := hide KS
    go_region_held3 (fun w' => w'.cell? ⟨w.heap.size, 0, none⟩ = some (.int .i64 k) ∧ w'.cell? ⟨w.heap.size, 1, none⟩ = some (.int .i64 n) ∧ w'.cell? ⟨w.heap.size, 2, none⟩ = some (.string s) ∧ w'.cell? ⟨w.heap.size + 1, 0, none⟩ = some (.int .i64 k') ∧ w'.cell? ⟨w.heap.size + 1, 1, none⟩ = some (.int .i64 n') ∧ w'.cell? ⟨w.heap.size + 1, 2, none⟩ = some (.string s') ∧ w'.cell? ⟨w2.heap.size + 1, 3, none⟩ = some (.int .i64 10))
      (first | exact ⟨a0, a1, a2, b0, b1, b2, kC4⟩ | exact (unhide KS) _ hb5)
      (first | (go_at_call 15; refine (unhide (HT3 _)).mono ?_; rintro e w5 ⟨v5, rfl, he5, hb5⟩))
    clear wz KS
    try dsimp only at he5
    obtain ⟨T5, x5, rfl⟩ := he5.held (unhide HC)
    have hb5' : Below w4.heap.size w4 w5 := (Below.refl _ _).drew.trans hb5
    have h3 := he3'.below hb5'
    have h4 := he4.below hb5'
    clear kC4 he3 he3' he4 hb5
    replace BA := BA.below hb5'
    replace BB := BB.below hb5'
    obtain ⟨a0, a1, a2, fA⟩ := BA.cells
    obtain ⟨b0, b1, b2, fB⟩ := BB.cells
    replace HBW := hide (Below.andThen (unhide HBW) hb5')
    clear hb5'
    obtain ⟨d3, hE3⟩ := (h3.resolve_left (fun h => unhide HC h.1)).2
    obtain ⟨d4, hE4⟩ := (h4.resolve_left (fun h => unhide HC h.1)).2
    obtain ⟨d5, hE5⟩ := (he5.resolve_left (fun h => unhide HC h.1)).2
    have HC3 := fun (W : World) (hb : Below w5.heap.size w5 W) => hide (Class_err d3 _ c W (((unhide HG).below (unhide HBW)).below hb) (hE3.below hb))
    have HC4 := fun (W : World) (hb : Below w5.heap.size w5 W) => hide (Class_err d4 _ c W (((unhide HG).below (unhide HBW)).below hb) (hE4.below hb))
    have HC5 := fun (W : World) (hb : Below w5.heap.size w5 W) => hide (Class_err d5 _ c W (((unhide HG).below (unhide HBW)).below hb) (hE5.below hb))
    clear h3 h4 he5 hE3 hE4 hE5 nlt klt a0 a1 a2 fA b0 b1 b2 fB BA BB
    go_wp2_with fail
    refine (unhide (HC3 _ (Below.refl _ _))).mono ?_
    rintro e w6 ⟨rfl, hb6⟩
    have H6 := hide hb6
    clear hb6
    go_wp2_with fail
    refine (unhide (HC4 _ (unhide H6))).mono ?_
    rintro e w7 ⟨rfl, hb7⟩
    have H7 := hide (Below.andThen (unhide H6) hb7)
    clear hb7 H6
    go_wp2_with fail
    refine (unhide (HC3 _ (unhide H7))).mono ?_
    rintro e w8 ⟨rfl, hb8⟩
    have H8 := hide (Below.andThen (unhide H7) hb8)
    clear hb8 H7
    go_wp2_with fail
    refine (unhide (HC5 _ (unhide H8))).mono ?_
    rintro e w9 ⟨rfl, hb9⟩
    replace HBW := hide (Below.andThen (unhide HBW) (Below.andThen (unhide H8) hb9))
    clear hb9 H8
    go_wp2
    go_ret
    exact ⟨rfl, unhide HBW⟩
  · have HX2 := hide hx2
    clear hx2
    go_enter Tryd.func7, Tryd.ntmps7
    go_wp2_with fail
    refine (unhide HK).mono ?_
    rintro e w1 ⟨rfl, hb1⟩
    replace BA := BA.below hb1
    replace BB := BB.below hb1
    obtain ⟨a0, a1, a2, fA⟩ := BA.cells
    obtain ⟨b0, b1, b2, fB⟩ := BB.cells
    replace HBW := hide (Below.andThen (unhide HBW) hb1)
    clear hb1
    go_wp2_with fail
    refine (unhide (HF _)).mono ?_
    rintro e w2 ⟨rfl, rfl⟩
    have hal : Below w1.heap.size w1 (w1.alloc (.cells #[.int .i64 k, .int .i64 n, .string s, .int .i64 k', .int .i64 n', .string s'] 23)) := (Below.refl _ _).alloc (Nat.le_refl _) _
    replace BA := BA.below hal
    replace BB := BB.below hal
    obtain ⟨a0, a1, a2, fA⟩ := BA.cells
    obtain ⟨b0, b1, b2, fB⟩ := BB.cells
    replace HBW := hide (Below.andThen (unhide HBW) hal)
    clear hal
    generalize w1.alloc _ = w2 at *
    clear HK HF
    have hal2 : Below w2.heap.size w2 ((w2.alloc (.cells #[.int .i64 6, .int .i64 5, .int .i64 10, .int .i64 9, .int .i64 8, .int .i64 7] 42)).alloc (.cells #[.int .i64 5, .int .i64 6, .int .i64 9, .int .i64 10, .int .i64 7, .int .i64 8] 42)) := ((Below.refl _ _).alloc (Nat.le_refl _) _).alloc (by simp) _
    replace BA := BA.below hal2
    replace BB := BB.below hal2
    obtain ⟨a0, a1, a2, fA⟩ := BA.cells
    obtain ⟨b0, b1, b2, fB⟩ := BB.cells
    replace HBW := hide (Below.andThen (unhide HBW) hal2)
    clear hal2
    go_wp2_with fail
    refine (unhide (HT1 _)).mono ?_
    rintro e w3 ⟨v3, rfl, he3, hb3⟩
    have nC : w3.cell? ⟨w2.heap.size, 3, none⟩ = some (.int .i64 9) := (hb3.cell (p := ⟨w2.heap.size, 3, none⟩) (by simp; omega)).trans (by simp)
    have kC : w3.cell? ⟨w2.heap.size + 1, 3, none⟩ = some (.int .i64 10) := (hb3.cell (p := ⟨w2.heap.size + 1, 3, none⟩) (by simp)).trans (by simp)
    have nlt := lt_of_cell nC
    have klt := lt_of_cell kC
    obtain rfl := he3.nil
    clear he3
    replace BA := BA.below hb3
    replace BB := BB.below hb3
    obtain ⟨a0, a1, a2, fA⟩ := BA.cells
    obtain ⟨b0, b1, b2, fB⟩ := BB.cells
    replace HBW := hide (Below.andThen (unhide HBW) hb3)
    clear hb3
    go_wp2_with fail
    have wz : IntKind.i64.wrap 3 = 3 := by decide
    have KS : ∀ W4, Below w3.drew.heap.size w3.drew W4 → (W4.cell? ⟨w.heap.size, 0, none⟩ = some (.int .i64 k) ∧ W4.cell? ⟨w.heap.size, 1, none⟩ = some (.int .i64 n) ∧ W4.cell? ⟨w.heap.size, 2, none⟩ = some (.string s) ∧ W4.cell? ⟨w.heap.size + 1, 0, none⟩ = some (.int .i64 k') ∧ W4.cell? ⟨w.heap.size + 1, 1, none⟩ = some (.int .i64 n') ∧ W4.cell? ⟨w.heap.size + 1, 2, none⟩ = some (.string s') ∧ W4.cell? ⟨w2.heap.size, 3, none⟩ = some (.int .i64 9)) := fun W4 hb =>
      ⟨(hb.cell (p := ⟨_, _, none⟩) BA.lt).trans a0, (hb.cell (p := ⟨_, _, none⟩) BA.lt).trans a1, (hb.cell (p := ⟨_, _, none⟩) BA.lt).trans a2, (hb.cell (p := ⟨_, _, none⟩) BB.lt).trans b0, (hb.cell (p := ⟨_, _, none⟩) BB.lt).trans b1, (hb.cell (p := ⟨_, _, none⟩) BB.lt).trans b2, (hb.cell (p := ⟨_, _, none⟩) (lt_of_cell nC)).trans nC⟩
    replace KS := hide KS
    go_region_held3 (fun w' => w'.cell? ⟨w.heap.size, 0, none⟩ = some (.int .i64 k) ∧ w'.cell? ⟨w.heap.size, 1, none⟩ = some (.int .i64 n) ∧ w'.cell? ⟨w.heap.size, 2, none⟩ = some (.string s) ∧ w'.cell? ⟨w.heap.size + 1, 0, none⟩ = some (.int .i64 k') ∧ w'.cell? ⟨w.heap.size + 1, 1, none⟩ = some (.int .i64 n') ∧ w'.cell? ⟨w.heap.size + 1, 2, none⟩ = some (.string s') ∧ w'.cell? ⟨w2.heap.size, 3, none⟩ = some (.int .i64 9))
      (first | exact ⟨a0, a1, a2, b0, b1, b2, nC⟩ | exact (unhide KS) _ hb4)
      (first | (go_at_call 15; refine (unhide (HT2 _)).mono ?_; rintro e w4 ⟨v4, rfl, he4, hb4⟩))
    clear wz KS
    obtain rfl := he4.nil
    have hb4' : Below w3.heap.size w3 w4 := (Below.refl _ _).drew.trans hb4
    have kC4 : w4.cell? ⟨w2.heap.size + 1, 3, none⟩ = some (.int .i64 10) := (hb4'.cell (p := ⟨w2.heap.size + 1, 3, none⟩) klt).trans kC
    clear kC nC hb4 he4
    replace BA := BA.below hb4'
    replace BB := BB.below hb4'
    obtain ⟨a0, a1, a2, fA⟩ := BA.cells
    obtain ⟨b0, b1, b2, fB⟩ := BB.cells
    replace HBW := hide (Below.andThen (unhide HBW) hb4')
    clear hb4'
    go_wp2_with fail
    have wz : IntKind.i64.wrap 3 = 3 := by decide
    have KS : ∀ W4, Below w4.drew.heap.size w4.drew W4 → (W4.cell? ⟨w.heap.size, 0, none⟩ = some (.int .i64 k) ∧ W4.cell? ⟨w.heap.size, 1, none⟩ = some (.int .i64 n) ∧ W4.cell? ⟨w.heap.size, 2, none⟩ = some (.string s) ∧ W4.cell? ⟨w.heap.size + 1, 0, none⟩ = some (.int .i64 k') ∧ W4.cell? ⟨w.heap.size + 1, 1, none⟩ = some (.int .i64 n') ∧ W4.cell? ⟨w.heap.size + 1, 2, none⟩ = some (.string s') ∧ W4.cell? ⟨w2.heap.size + 1, 3, none⟩ = some (.int .i64 10)) := fun W4 hb =>
      ⟨(hb.cell (p := ⟨_, _, none⟩) BA.lt).trans a0, (hb.cell (p := ⟨_, _, none⟩) BA.lt).trans a1, (hb.cell (p := ⟨_, _, none⟩) BA.lt).trans a2, (hb.cell (p := ⟨_, _, none⟩) BB.lt).trans b0, (hb.cell (p := ⟨_, _, none⟩) BB.lt).trans b1, (hb.cell (p := ⟨_, _, none⟩) BB.lt).trans b2, (hb.cell (p := ⟨_, _, none⟩) (lt_of_cell kC4)).trans kC4⟩
    replace KS := hide KS
    go_region_held3 (fun w' => w'.cell? ⟨w.heap.size, 0, none⟩ = some (.int .i64 k) ∧ w'.cell? ⟨w.heap.size, 1, none⟩ = some (.int .i64 n) ∧ w'.cell? ⟨w.heap.size, 2, none⟩ = some (.string s) ∧ w'.cell? ⟨w.heap.size + 1, 0, none⟩ = some (.int .i64 k') ∧ w'.cell? ⟨w.heap.size + 1, 1, none⟩ = some (.int .i64 n') ∧ w'.cell? ⟨w.heap.size + 1, 2, none⟩ = some (.string s') ∧ w'.cell? ⟨w2.heap.size + 1, 3, none⟩ = some (.int .i64 10))
      (first | exact ⟨a0, a1, a2, b0, b1, b2, kC4⟩ | exact (unhide KS) _ hb5)
      (first | (go_at_call 15; refine (unhide (HT3 _)).mono ?_; rintro e w5 ⟨v5, rfl, he5, hb5⟩))
    clear wz KS
    obtain rfl := he5.nil
    have hb5' : Below w4.heap.size w4 w5 := (Below.refl _ _).drew.trans hb5
    clear kC4 he5 hb5
    replace BA := BA.below hb5'
    replace BB := BB.below hb5'
    obtain ⟨a0, a1, a2, fA⟩ := BA.cells
    obtain ⟨b0, b1, b2, fB⟩ := BB.cells
    replace HBW := hide (Below.andThen (unhide HBW) hb5')
    clear hb5'
    clear nlt klt a0 a1 a2 fA b0 b1 b2 fB BA BB
    go_wp2_with (first | (go_at_call 18; refine (Class_nil _).mono ?_; rintro e w6 ⟨rfl, rfl⟩) | (go_at_call 19; refine (value_Not _ _).mono ?_; rw [← unhide HX2]; rintro e w6 ⟨rfl, rfl⟩))
    go_ret
    exact ⟨rfl, unhide HBW⟩
set_option maxRecDepth 100000 in
set_option maxHeartbeats 400000 in
theorem tests_9 (k n : Int) (s : ByteArray) (k' n' : Int) (s' : ByteArray) (w : World) (hg : OkW w) (hs : s.size ≤ 9223372036854775807) (hs' : s'.size ≤ 9223372036854775807)
    (hw : fewB [⟨k, n, s⟩, ⟨k', n', s'⟩] 2 = true) (x1 x2 x3 c : Int) (hx : (c ≠ 0 ∧ x1 = 0 ∧ x2 = 0 ∧ x3 = 0) ∨ (c = 0 ∧ x2 = notT x1 ∧ x3 = x1))
    (T1 : ∀ w, Calls Tryd.prog 15 #[.int .i64 9, .agg #[.int .i64 k, .int .i64 n, .string s], .agg #[.int .i64 k', .int .i64 n', .string s']] w (RPost w (x1, c)))
    (T2 : ∀ w, Calls Tryd.prog 15 #[.int .i64 8, .agg #[.int .i64 k, .int .i64 n, .string s], .agg #[.int .i64 k', .int .i64 n', .string s']] w (RPost w (x2, c)))
    (T3 : ∀ w, Calls Tryd.prog 15 #[.int .i64 7, .agg #[.int .i64 k', .int .i64 n', .string s'], .agg #[.int .i64 k, .int .i64 n, .string s]] w (RPost w (x3, c))) :
    Calls Tryd.prog 7 #[.int .i64 9, .agg #[.int .i64 k, .int .i64 n, .string s], .agg #[.int .i64 k', .int .i64 n', .string s']] w fun e w' => e = .returned (.bool true) ∧ Below w.heap.size w w' := by
  have HT1 := fun w => hide (T1 w)
  have HT2 := fun w => hide (T2 w)
  have HT3 := fun w => hide (T3 w)
  clear T1 T2 T3
  have hB0 : ∀ o o', Below w.heap.size w ((w.alloc o).alloc o') := fun o o' => ((Below.refl _ _).alloc (Nat.le_refl _) o).alloc (by simp) o'
  have HBW := hide (hB0 (.cells #[.int .i64 k, .int .i64 n, .string s] 23) (.cells #[.int .i64 k', .int .i64 n', .string s'] 23))
  clear hB0
  have BA := (Blk3.new w 23 (.int .i64 k) (.int .i64 n) (.string s)).alloc (.cells #[.int .i64 k', .int .i64 n', .string s'] 23)
  have BB := Blk3.new1 w (.cells #[.int .i64 k, .int .i64 n, .string s] 23) 23 (.int .i64 k') (.int .i64 n') (.string s')
  have HK := hide (known6 _ (hg.below (unhide HBW)))
  have HG := hide hg
  have hF : ∀ W : World, Calls Tryd.prog 12 #[.slice (some ⟨W.heap.size, 0, none⟩) 2 2, .int .i64 2] (W.alloc (.cells #[.int .i64 k, .int .i64 n, .string s, .int .i64 k', .int .i64 n', .string s'] 23)) fun e w' => e = .returned (.bool (fewB [⟨k, n, s⟩, ⟨k', n', s'⟩] 2)) ∧ (W.alloc (.cells #[.int .i64 k, .int .i64 n, .string s, .int .i64 k', .int .i64 n', .string s'] 23)) = w' := fun W =>
    help_Few _ 2 2 [⟨k, n, s⟩, ⟨k', n', s'⟩] 2 _ (by decide) (Reads.new W 23 3 2 (vcells [⟨k, n, s⟩, ⟨k', n', s'⟩]) rfl)
      (fun i v h => by
        match i, h with
        | 0, h => simp at h; subst h; exact hs
        | 1, h => simp at h; subst h; exact hs'
        | i + 2, h => simp at h)
  rw [hw] at hF
  have HF := fun W => hide (hF W)
  clear hF
  rcases hx with ⟨hc, rfl, rfl, rfl⟩ | ⟨rfl, hx2, rfl⟩
  · have HC := hide hc
    clear hc
    go_enter Tryd.func7, Tryd.ntmps7
    go_wp2_with fail
    refine (unhide HK).mono ?_
    rintro e w1 ⟨rfl, hb1⟩
    replace BA := BA.below hb1
    replace BB := BB.below hb1
    obtain ⟨a0, a1, a2, fA⟩ := BA.cells
    obtain ⟨b0, b1, b2, fB⟩ := BB.cells
    replace HBW := hide (Below.andThen (unhide HBW) hb1)
    clear hb1
    go_wp2_with fail
    refine (unhide (HF _)).mono ?_
    rintro e w2 ⟨rfl, rfl⟩
    have hal : Below w1.heap.size w1 (w1.alloc (.cells #[.int .i64 k, .int .i64 n, .string s, .int .i64 k', .int .i64 n', .string s'] 23)) := (Below.refl _ _).alloc (Nat.le_refl _) _
    replace BA := BA.below hal
    replace BB := BB.below hal
    obtain ⟨a0, a1, a2, fA⟩ := BA.cells
    obtain ⟨b0, b1, b2, fB⟩ := BB.cells
    replace HBW := hide (Below.andThen (unhide HBW) hal)
    clear hal
    generalize w1.alloc _ = w2 at *
    clear HK HF
    have hal2 : Below w2.heap.size w2 ((w2.alloc (.cells #[.int .i64 6, .int .i64 5, .int .i64 10, .int .i64 9, .int .i64 8, .int .i64 7] 42)).alloc (.cells #[.int .i64 5, .int .i64 6, .int .i64 9, .int .i64 10, .int .i64 7, .int .i64 8] 42)) := ((Below.refl _ _).alloc (Nat.le_refl _) _).alloc (by simp) _
    replace BA := BA.below hal2
    replace BB := BB.below hal2
    obtain ⟨a0, a1, a2, fA⟩ := BA.cells
    obtain ⟨b0, b1, b2, fB⟩ := BB.cells
    replace HBW := hide (Below.andThen (unhide HBW) hal2)
    clear hal2
    go_wp2_with fail
    refine (unhide (HT1 _)).mono ?_
    rintro e w3 ⟨v3, rfl, he3, hb3⟩
    have nC : w3.cell? ⟨w2.heap.size, 4, none⟩ = some (.int .i64 8) := (hb3.cell (p := ⟨w2.heap.size, 4, none⟩) (by simp; omega)).trans (by simp)
    have kC : w3.cell? ⟨w2.heap.size + 1, 4, none⟩ = some (.int .i64 7) := (hb3.cell (p := ⟨w2.heap.size + 1, 4, none⟩) (by simp)).trans (by simp)
    have nlt := lt_of_cell nC
    have klt := lt_of_cell kC
    try dsimp only at he3
    obtain ⟨T, x, rfl⟩ := he3.held (unhide HC)
    replace nC := nC
    replace BA := BA.below hb3
    replace BB := BB.below hb3
    obtain ⟨a0, a1, a2, fA⟩ := BA.cells
    obtain ⟨b0, b1, b2, fB⟩ := BB.cells
    replace HBW := hide (Below.andThen (unhide HBW) hb3)
    clear hb3
    go_wp2_with fail
    have wz : IntKind.i64.wrap 4 = 4 := by decide
    have KS : ∀ W4, Below w3.drew.heap.size w3.drew W4 → (W4.cell? ⟨w.heap.size, 0, none⟩ = some (.int .i64 k) ∧ W4.cell? ⟨w.heap.size, 1, none⟩ = some (.int .i64 n) ∧ W4.cell? ⟨w.heap.size, 2, none⟩ = some (.string s) ∧ W4.cell? ⟨w.heap.size + 1, 0, none⟩ = some (.int .i64 k') ∧ W4.cell? ⟨w.heap.size + 1, 1, none⟩ = some (.int .i64 n') ∧ W4.cell? ⟨w.heap.size + 1, 2, none⟩ = some (.string s') ∧ W4.cell? ⟨w2.heap.size, 4, none⟩ = some (.int .i64 8)) := fun W4 hb =>
      ⟨(hb.cell (p := ⟨_, _, none⟩) BA.lt).trans a0, (hb.cell (p := ⟨_, _, none⟩) BA.lt).trans a1, (hb.cell (p := ⟨_, _, none⟩) BA.lt).trans a2, (hb.cell (p := ⟨_, _, none⟩) BB.lt).trans b0, (hb.cell (p := ⟨_, _, none⟩) BB.lt).trans b1, (hb.cell (p := ⟨_, _, none⟩) BB.lt).trans b2, (hb.cell (p := ⟨_, _, none⟩) (lt_of_cell nC)).trans nC⟩
    replace KS := hide KS
    go_region_held3 (fun w' => w'.cell? ⟨w.heap.size, 0, none⟩ = some (.int .i64 k) ∧ w'.cell? ⟨w.heap.size, 1, none⟩ = some (.int .i64 n) ∧ w'.cell? ⟨w.heap.size, 2, none⟩ = some (.string s) ∧ w'.cell? ⟨w.heap.size + 1, 0, none⟩ = some (.int .i64 k') ∧ w'.cell? ⟨w.heap.size + 1, 1, none⟩ = some (.int .i64 n') ∧ w'.cell? ⟨w.heap.size + 1, 2, none⟩ = some (.string s') ∧ w'.cell? ⟨w2.heap.size, 4, none⟩ = some (.int .i64 8))
      (first | exact ⟨a0, a1, a2, b0, b1, b2, nC⟩ | exact (unhide KS) _ hb4)
      (first | (go_at_call 15; refine (unhide (HT2 _)).mono ?_; rintro e w4 ⟨v4, rfl, he4, hb4⟩))
    clear wz KS
    try dsimp only at he4
    obtain ⟨T4, x4, rfl⟩ := he4.held (unhide HC)
    have hb4' : Below w3.heap.size w3 w4 := (Below.refl _ _).drew.trans hb4
    have kC4 : w4.cell? ⟨w2.heap.size + 1, 4, none⟩ = some (.int .i64 7) := (hb4'.cell (p := ⟨w2.heap.size + 1, 4, none⟩) klt).trans kC
    clear kC nC hb4
    have he3' := he3.below hb4'
    replace BA := BA.below hb4'
    replace BB := BB.below hb4'
    obtain ⟨a0, a1, a2, fA⟩ := BA.cells
    obtain ⟨b0, b1, b2, fB⟩ := BB.cells
    replace HBW := hide (Below.andThen (unhide HBW) hb4')
    clear hb4'
    go_wp2_with fail
    have wz : IntKind.i64.wrap 4 = 4 := by decide
    have KS : ∀ W4, Below w4.drew.heap.size w4.drew W4 → (W4.cell? ⟨w.heap.size, 0, none⟩ = some (.int .i64 k) ∧ W4.cell? ⟨w.heap.size, 1, none⟩ = some (.int .i64 n) ∧ W4.cell? ⟨w.heap.size, 2, none⟩ = some (.string s) ∧ W4.cell? ⟨w.heap.size + 1, 0, none⟩ = some (.int .i64 k') ∧ W4.cell? ⟨w.heap.size + 1, 1, none⟩ = some (.int .i64 n') ∧ W4.cell? ⟨w.heap.size + 1, 2, none⟩ = some (.string s') ∧ W4.cell? ⟨w2.heap.size + 1, 4, none⟩ = some (.int .i64 7)) := fun W4 hb =>
      ⟨(hb.cell (p := ⟨_, _, none⟩) BA.lt).trans a0, (hb.cell (p := ⟨_, _, none⟩) BA.lt).trans a1, (hb.cell (p := ⟨_, _, none⟩) BA.lt).trans a2, (hb.cell (p := ⟨_, _, none⟩) BB.lt).trans b0, (hb.cell (p := ⟨_, _, none⟩) BB.lt).trans b1, (hb.cell (p := ⟨_, _, none⟩) BB.lt).trans b2, (hb.cell (p := ⟨_, _, none⟩) (lt_of_cell kC4)).trans kC4⟩
    replace KS := hide KS
    go_region_held3 (fun w' => w'.cell? ⟨w.heap.size, 0, none⟩ = some (.int .i64 k) ∧ w'.cell? ⟨w.heap.size, 1, none⟩ = some (.int .i64 n) ∧ w'.cell? ⟨w.heap.size, 2, none⟩ = some (.string s) ∧ w'.cell? ⟨w.heap.size + 1, 0, none⟩ = some (.int .i64 k') ∧ w'.cell? ⟨w.heap.size + 1, 1, none⟩ = some (.int .i64 n') ∧ w'.cell? ⟨w.heap.size + 1, 2, none⟩ = some (.string s') ∧ w'.cell? ⟨w2.heap.size + 1, 4, none⟩ = some (.int .i64 7))
      (first | exact ⟨a0, a1, a2, b0, b1, b2, kC4⟩ | exact (unhide KS) _ hb5)
      (first | (go_at_call 15; refine (unhide (HT3 _)).mono ?_; rintro e w5 ⟨v5, rfl, he5, hb5⟩))
    clear wz KS
    try dsimp only at he5
    obtain ⟨T5, x5, rfl⟩ := he5.held (unhide HC)
    have hb5' : Below w4.heap.size w4 w5 := (Below.refl _ _).drew.trans hb5
    have h3 := he3'.below hb5'
    have h4 := he4.below hb5'
    clear kC4 he3 he3' he4 hb5
    replace BA := BA.below hb5'
    replace BB := BB.below hb5'
    obtain ⟨a0, a1, a2, fA⟩ := BA.cells
    obtain ⟨b0, b1, b2, fB⟩ := BB.cells
    replace HBW := hide (Below.andThen (unhide HBW) hb5')
    clear hb5'
    obtain ⟨d3, hE3⟩ := (h3.resolve_left (fun h => unhide HC h.1)).2
    obtain ⟨d4, hE4⟩ := (h4.resolve_left (fun h => unhide HC h.1)).2
    obtain ⟨d5, hE5⟩ := (he5.resolve_left (fun h => unhide HC h.1)).2
    have HC3 := fun (W : World) (hb : Below w5.heap.size w5 W) => hide (Class_err d3 _ c W (((unhide HG).below (unhide HBW)).below hb) (hE3.below hb))
    have HC4 := fun (W : World) (hb : Below w5.heap.size w5 W) => hide (Class_err d4 _ c W (((unhide HG).below (unhide HBW)).below hb) (hE4.below hb))
    have HC5 := fun (W : World) (hb : Below w5.heap.size w5 W) => hide (Class_err d5 _ c W (((unhide HG).below (unhide HBW)).below hb) (hE5.below hb))
    clear h3 h4 he5 hE3 hE4 hE5 nlt klt a0 a1 a2 fA b0 b1 b2 fB BA BB
    go_wp2_with fail
    refine (unhide (HC3 _ (Below.refl _ _))).mono ?_
    rintro e w6 ⟨rfl, hb6⟩
    have H6 := hide hb6
    clear hb6
    go_wp2_with fail
    refine (unhide (HC4 _ (unhide H6))).mono ?_
    rintro e w7 ⟨rfl, hb7⟩
    have H7 := hide (Below.andThen (unhide H6) hb7)
    clear hb7 H6
    go_wp2_with fail
    refine (unhide (HC3 _ (unhide H7))).mono ?_
    rintro e w8 ⟨rfl, hb8⟩
    have H8 := hide (Below.andThen (unhide H7) hb8)
    clear hb8 H7
    go_wp2_with fail
    refine (unhide (HC5 _ (unhide H8))).mono ?_
    rintro e w9 ⟨rfl, hb9⟩
    replace HBW := hide (Below.andThen (unhide HBW) (Below.andThen (unhide H8) hb9))
    clear hb9 H8
    go_wp2
    go_ret
    exact ⟨rfl, unhide HBW⟩
  · have HX2 := hide hx2
    clear hx2
    go_enter Tryd.func7, Tryd.ntmps7
    go_wp2_with fail
    refine (unhide HK).mono ?_
    rintro e w1 ⟨rfl, hb1⟩
    replace BA := BA.below hb1
    replace BB := BB.below hb1
    obtain ⟨a0, a1, a2, fA⟩ := BA.cells
    obtain ⟨b0, b1, b2, fB⟩ := BB.cells
    replace HBW := hide (Below.andThen (unhide HBW) hb1)
    clear hb1
    go_wp2_with fail
    refine (unhide (HF _)).mono ?_
    rintro e w2 ⟨rfl, rfl⟩
    have hal : Below w1.heap.size w1 (w1.alloc (.cells #[.int .i64 k, .int .i64 n, .string s, .int .i64 k', .int .i64 n', .string s'] 23)) := (Below.refl _ _).alloc (Nat.le_refl _) _
    replace BA := BA.below hal
    replace BB := BB.below hal
    obtain ⟨a0, a1, a2, fA⟩ := BA.cells
    obtain ⟨b0, b1, b2, fB⟩ := BB.cells
    replace HBW := hide (Below.andThen (unhide HBW) hal)
    clear hal
    generalize w1.alloc _ = w2 at *
    clear HK HF
    have hal2 : Below w2.heap.size w2 ((w2.alloc (.cells #[.int .i64 6, .int .i64 5, .int .i64 10, .int .i64 9, .int .i64 8, .int .i64 7] 42)).alloc (.cells #[.int .i64 5, .int .i64 6, .int .i64 9, .int .i64 10, .int .i64 7, .int .i64 8] 42)) := ((Below.refl _ _).alloc (Nat.le_refl _) _).alloc (by simp) _
    replace BA := BA.below hal2
    replace BB := BB.below hal2
    obtain ⟨a0, a1, a2, fA⟩ := BA.cells
    obtain ⟨b0, b1, b2, fB⟩ := BB.cells
    replace HBW := hide (Below.andThen (unhide HBW) hal2)
    clear hal2
    go_wp2_with fail
    refine (unhide (HT1 _)).mono ?_
    rintro e w3 ⟨v3, rfl, he3, hb3⟩
    have nC : w3.cell? ⟨w2.heap.size, 4, none⟩ = some (.int .i64 8) := (hb3.cell (p := ⟨w2.heap.size, 4, none⟩) (by simp; omega)).trans (by simp)
    have kC : w3.cell? ⟨w2.heap.size + 1, 4, none⟩ = some (.int .i64 7) := (hb3.cell (p := ⟨w2.heap.size + 1, 4, none⟩) (by simp)).trans (by simp)
    have nlt := lt_of_cell nC
    have klt := lt_of_cell kC
    obtain rfl := he3.nil
    clear he3
    replace BA := BA.below hb3
    replace BB := BB.below hb3
    obtain ⟨a0, a1, a2, fA⟩ := BA.cells
    obtain ⟨b0, b1, b2, fB⟩ := BB.cells
    replace HBW := hide (Below.andThen (unhide HBW) hb3)
    clear hb3
    go_wp2_with fail
    have wz : IntKind.i64.wrap 4 = 4 := by decide
    have KS : ∀ W4, Below w3.drew.heap.size w3.drew W4 → (W4.cell? ⟨w.heap.size, 0, none⟩ = some (.int .i64 k) ∧ W4.cell? ⟨w.heap.size, 1, none⟩ = some (.int .i64 n) ∧ W4.cell? ⟨w.heap.size, 2, none⟩ = some (.string s) ∧ W4.cell? ⟨w.heap.size + 1, 0, none⟩ = some (.int .i64 k') ∧ W4.cell? ⟨w.heap.size + 1, 1, none⟩ = some (.int .i64 n') ∧ W4.cell? ⟨w.heap.size + 1, 2, none⟩ = some (.string s') ∧ W4.cell? ⟨w2.heap.size, 4, none⟩ = some (.int .i64 8)) := fun W4 hb =>
      ⟨(hb.cell (p := ⟨_, _, none⟩) BA.lt).trans a0, (hb.cell (p := ⟨_, _, none⟩) BA.lt).trans a1, (hb.cell (p := ⟨_, _, none⟩) BA.lt).trans a2, (hb.cell (p := ⟨_, _, none⟩) BB.lt).trans b0, (hb.cell (p := ⟨_, _, none⟩) BB.lt).trans b1, (hb.cell (p := ⟨_, _, none⟩) BB.lt).trans b2, (hb.cell (p := ⟨_, _, none⟩) (lt_of_cell nC)).trans nC⟩
    replace KS := hide KS
    go_region_held3 (fun w' => w'.cell? ⟨w.heap.size, 0, none⟩ = some (.int .i64 k) ∧ w'.cell? ⟨w.heap.size, 1, none⟩ = some (.int .i64 n) ∧ w'.cell? ⟨w.heap.size, 2, none⟩ = some (.string s) ∧ w'.cell? ⟨w.heap.size + 1, 0, none⟩ = some (.int .i64 k') ∧ w'.cell? ⟨w.heap.size + 1, 1, none⟩ = some (.int .i64 n') ∧ w'.cell? ⟨w.heap.size + 1, 2, none⟩ = some (.string s') ∧ w'.cell? ⟨w2.heap.size, 4, none⟩ = some (.int .i64 8))
      (first | exact ⟨a0, a1, a2, b0, b1, b2, nC⟩ | exact (unhide KS) _ hb4)
      (first | (go_at_call 15; refine (unhide (HT2 _)).mono ?_; rintro e w4 ⟨v4, rfl, he4, hb4⟩))
    clear wz KS
    obtain rfl := he4.nil
    have hb4' : Below w3.heap.size w3 w4 := (Below.refl _ _).drew.trans hb4
    have kC4 : w4.cell? ⟨w2.heap.size + 1, 4, none⟩ = some (.int .i64 7) := (hb4'.cell (p := ⟨w2.heap.size + 1, 4, none⟩) klt).trans kC
    clear kC nC hb4 he4
    replace BA := BA.below hb4'
    replace BB := BB.below hb4'
    obtain ⟨a0, a1, a2, fA⟩ := BA.cells
    obtain ⟨b0, b1, b2, fB⟩ := BB.cells
    replace HBW := hide (Below.andThen (unhide HBW) hb4')
    clear hb4'
    go_wp2_with fail
    have wz : IntKind.i64.wrap 4 = 4 := by decide
    have KS : ∀ W4, Below w4.drew.heap.size w4.drew W4 → (W4.cell? ⟨w.heap.size, 0, none⟩ = some (.int .i64 k) ∧ W4.cell? ⟨w.heap.size, 1, none⟩ = some (.int .i64 n) ∧ W4.cell? ⟨w.heap.size, 2, none⟩ = some (.string s) ∧ W4.cell? ⟨w.heap.size + 1, 0, none⟩ = some (.int .i64 k') ∧ W4.cell? ⟨w.heap.size + 1, 1, none⟩ = some (.int .i64 n') ∧ W4.cell? ⟨w.heap.size + 1, 2, none⟩ = some (.string s') ∧ W4.cell? ⟨w2.heap.size + 1, 4, none⟩ = some (.int .i64 7)) := fun W4 hb =>
      ⟨(hb.cell (p := ⟨_, _, none⟩) BA.lt).trans a0, (hb.cell (p := ⟨_, _, none⟩) BA.lt).trans a1, (hb.cell (p := ⟨_, _, none⟩) BA.lt).trans a2, (hb.cell (p := ⟨_, _, none⟩) BB.lt).trans b0, (hb.cell (p := ⟨_, _, none⟩) BB.lt).trans b1, (hb.cell (p := ⟨_, _, none⟩) BB.lt).trans b2, (hb.cell (p := ⟨_, _, none⟩) (lt_of_cell kC4)).trans kC4⟩
    replace KS := hide KS
    go_region_held3 (fun w' => w'.cell? ⟨w.heap.size, 0, none⟩ = some (.int .i64 k) ∧ w'.cell? ⟨w.heap.size, 1, none⟩ = some (.int .i64 n) ∧ w'.cell? ⟨w.heap.size, 2, none⟩ = some (.string s) ∧ w'.cell? ⟨w.heap.size + 1, 0, none⟩ = some (.int .i64 k') ∧ w'.cell? ⟨w.heap.size + 1, 1, none⟩ = some (.int .i64 n') ∧ w'.cell? ⟨w.heap.size + 1, 2, none⟩ = some (.string s') ∧ w'.cell? ⟨w2.heap.size + 1, 4, none⟩ = some (.int .i64 7))
      (first | exact ⟨a0, a1, a2, b0, b1, b2, kC4⟩ | exact (unhide KS) _ hb5)
      (first | (go_at_call 15; refine (unhide (HT3 _)).mono ?_; rintro e w5 ⟨v5, rfl, he5, hb5⟩))
    clear wz KS
    obtain rfl := he5.nil
    have hb5' : Below w4.heap.size w4 w5 := (Below.refl _ _).drew.trans hb5
    clear kC4 he5 hb5
    replace BA := BA.below hb5'
    replace BB := BB.below hb5'
    obtain ⟨a0, a1, a2, fA⟩ := BA.cells
    obtain ⟨b0, b1, b2, fB⟩ := BB.cells
    replace HBW := hide (Below.andThen (unhide HBW) hb5')
    clear hb5'
    clear nlt klt a0 a1 a2 fA b0 b1 b2 fB BA BB
    go_wp2_with (first | (go_at_call 18; refine (Class_nil _).mono ?_; rintro e w6 ⟨rfl, rfl⟩) | (go_at_call 19; refine (value_Not _ _).mono ?_; rw [← unhide HX2]; rintro e w6 ⟨rfl, rfl⟩))
    go_ret
    exact ⟨rfl, unhide HBW⟩
set_option maxRecDepth 100000 in
set_option maxHeartbeats 400000 in
theorem tests_10 (k n : Int) (s : ByteArray) (k' n' : Int) (s' : ByteArray) (w : World) (hg : OkW w) (hs : s.size ≤ 9223372036854775807) (hs' : s'.size ≤ 9223372036854775807)
    (hw : fewB [⟨k, n, s⟩, ⟨k', n', s'⟩] 2 = true) (x1 x2 x3 c : Int) (hx : (c ≠ 0 ∧ x1 = 0 ∧ x2 = 0 ∧ x3 = 0) ∨ (c = 0 ∧ x2 = notT x1 ∧ x3 = x1))
    (T1 : ∀ w, Calls Tryd.prog 15 #[.int .i64 10, .agg #[.int .i64 k, .int .i64 n, .string s], .agg #[.int .i64 k', .int .i64 n', .string s']] w (RPost w (x1, c)))
    (T2 : ∀ w, Calls Tryd.prog 15 #[.int .i64 7, .agg #[.int .i64 k, .int .i64 n, .string s], .agg #[.int .i64 k', .int .i64 n', .string s']] w (RPost w (x2, c)))
    (T3 : ∀ w, Calls Tryd.prog 15 #[.int .i64 8, .agg #[.int .i64 k', .int .i64 n', .string s'], .agg #[.int .i64 k, .int .i64 n, .string s]] w (RPost w (x3, c))) :
    Calls Tryd.prog 7 #[.int .i64 10, .agg #[.int .i64 k, .int .i64 n, .string s], .agg #[.int .i64 k', .int .i64 n', .string s']] w fun e w' => e = .returned (.bool true) ∧ Below w.heap.size w w' := by
  have HT1 := fun w => hide (T1 w)
  have HT2 := fun w => hide (T2 w)
  have HT3 := fun w => hide (T3 w)
  clear T1 T2 T3
  have hB0 : ∀ o o', Below w.heap.size w ((w.alloc o).alloc o') := fun o o' => ((Below.refl _ _).alloc (Nat.le_refl _) o).alloc (by simp) o'
  have HBW := hide (hB0 (.cells #[.int .i64 k, .int .i64 n, .string s] 23) (.cells #[.int .i64 k', .int .i64 n', .string s'] 23))
  clear hB0
  have BA := (Blk3.new w 23 (.int .i64 k) (.int .i64 n) (.string s)).alloc (.cells #[.int .i64 k', .int .i64 n', .string s'] 23)
  have BB := Blk3.new1 w (.cells #[.int .i64 k, .int .i64 n, .string s] 23) 23 (.int .i64 k') (.int .i64 n') (.string s')
  have HK := hide (known6 _ (hg.below (unhide HBW)))
  have HG := hide hg
  have hF : ∀ W : World, Calls Tryd.prog 12 #[.slice (some ⟨W.heap.size, 0, none⟩) 2 2, .int .i64 2] (W.alloc (.cells #[.int .i64 k, .int .i64 n, .string s, .int .i64 k', .int .i64 n', .string s'] 23)) fun e w' => e = .returned (.bool (fewB [⟨k, n, s⟩, ⟨k', n', s'⟩] 2)) ∧ (W.alloc (.cells #[.int .i64 k, .int .i64 n, .string s, .int .i64 k', .int .i64 n', .string s'] 23)) = w' := fun W =>
    help_Few _ 2 2 [⟨k, n, s⟩, ⟨k', n', s'⟩] 2 _ (by decide) (Reads.new W 23 3 2 (vcells [⟨k, n, s⟩, ⟨k', n', s'⟩]) rfl)
      (fun i v h => by
        match i, h with
        | 0, h => simp at h; subst h; exact hs
        | 1, h => simp at h; subst h; exact hs'
        | i + 2, h => simp at h)
  rw [hw] at hF
  have HF := fun W => hide (hF W)
  clear hF
  rcases hx with ⟨hc, rfl, rfl, rfl⟩ | ⟨rfl, hx2, rfl⟩
  · have HC := hide hc
    clear hc
    go_enter Tryd.func7, Tryd.ntmps7
    go_wp2_with fail
    refine (unhide HK).mono ?_
    rintro e w1 ⟨rfl, hb1⟩
    replace BA := BA.below hb1
    replace BB := BB.below hb1
    obtain ⟨a0, a1, a2, fA⟩ := BA.cells
    obtain ⟨b0, b1, b2, fB⟩ := BB.cells
    replace HBW := hide (Below.andThen (unhide HBW) hb1)
    clear hb1
    go_wp2_with fail
    refine (unhide (HF _)).mono ?_
    rintro e w2 ⟨rfl, rfl⟩
    have hal : Below w1.heap.size w1 (w1.alloc (.cells #[.int .i64 k, .int .i64 n, .string s, .int .i64 k', .int .i64 n', .string s'] 23)) := (Below.refl _ _).alloc (Nat.le_refl _) _
    replace BA := BA.below hal
    replace BB := BB.below hal
    obtain ⟨a0, a1, a2, fA⟩ := BA.cells
    obtain ⟨b0, b1, b2, fB⟩ := BB.cells
    replace HBW := hide (Below.andThen (unhide HBW) hal)
    clear hal
    generalize w1.alloc _ = w2 at *
    clear HK HF
    have hal2 : Below w2.heap.size w2 ((w2.alloc (.cells #[.int .i64 6, .int .i64 5, .int .i64 10, .int .i64 9, .int .i64 8, .int .i64 7] 42)).alloc (.cells #[.int .i64 5, .int .i64 6, .int .i64 9, .int .i64 10, .int .i64 7, .int .i64 8] 42)) := ((Below.refl _ _).alloc (Nat.le_refl _) _).alloc (by simp) _
    replace BA := BA.below hal2
    replace BB := BB.below hal2
    obtain ⟨a0, a1, a2, fA⟩ := BA.cells
    obtain ⟨b0, b1, b2, fB⟩ := BB.cells
    replace HBW := hide (Below.andThen (unhide HBW) hal2)
    clear hal2
    go_wp2_with fail
    refine (unhide (HT1 _)).mono ?_
    rintro e w3 ⟨v3, rfl, he3, hb3⟩
    have nC : w3.cell? ⟨w2.heap.size, 5, none⟩ = some (.int .i64 7) := (hb3.cell (p := ⟨w2.heap.size, 5, none⟩) (by simp; omega)).trans (by simp)
    have kC : w3.cell? ⟨w2.heap.size + 1, 5, none⟩ = some (.int .i64 8) := (hb3.cell (p := ⟨w2.heap.size + 1, 5, none⟩) (by simp)).trans (by simp)
    have nlt := lt_of_cell nC
    have klt := lt_of_cell kC
    try dsimp only at he3
    obtain ⟨T, x, rfl⟩ := he3.held (unhide HC)
    replace nC := nC
    replace BA := BA.below hb3
    replace BB := BB.below hb3
    obtain ⟨a0, a1, a2, fA⟩ := BA.cells
    obtain ⟨b0, b1, b2, fB⟩ := BB.cells
    replace HBW := hide (Below.andThen (unhide HBW) hb3)
    clear hb3
    go_wp2_with fail
    have wz : IntKind.i64.wrap 5 = 5 := by decide
    have KS : ∀ W4, Below w3.drew.heap.size w3.drew W4 → (W4.cell? ⟨w.heap.size, 0, none⟩ = some (.int .i64 k) ∧ W4.cell? ⟨w.heap.size, 1, none⟩ = some (.int .i64 n) ∧ W4.cell? ⟨w.heap.size, 2, none⟩ = some (.string s) ∧ W4.cell? ⟨w.heap.size + 1, 0, none⟩ = some (.int .i64 k') ∧ W4.cell? ⟨w.heap.size + 1, 1, none⟩ = some (.int .i64 n') ∧ W4.cell? ⟨w.heap.size + 1, 2, none⟩ = some (.string s') ∧ W4.cell? ⟨w2.heap.size, 5, none⟩ = some (.int .i64 7)) := fun W4 hb =>
      ⟨(hb.cell (p := ⟨_, _, none⟩) BA.lt).trans a0, (hb.cell (p := ⟨_, _, none⟩) BA.lt).trans a1, (hb.cell (p := ⟨_, _, none⟩) BA.lt).trans a2, (hb.cell (p := ⟨_, _, none⟩) BB.lt).trans b0, (hb.cell (p := ⟨_, _, none⟩) BB.lt).trans b1, (hb.cell (p := ⟨_, _, none⟩) BB.lt).trans b2, (hb.cell (p := ⟨_, _, none⟩) (lt_of_cell nC)).trans nC⟩
    replace KS := hide KS
    go_region_held3 (fun w' => w'.cell? ⟨w.heap.size, 0, none⟩ = some (.int .i64 k) ∧ w'.cell? ⟨w.heap.size, 1, none⟩ = some (.int .i64 n) ∧ w'.cell? ⟨w.heap.size, 2, none⟩ = some (.string s) ∧ w'.cell? ⟨w.heap.size + 1, 0, none⟩ = some (.int .i64 k') ∧ w'.cell? ⟨w.heap.size + 1, 1, none⟩ = some (.int .i64 n') ∧ w'.cell? ⟨w.heap.size + 1, 2, none⟩ = some (.string s') ∧ w'.cell? ⟨w2.heap.size, 5, none⟩ = some (.int .i64 7))
      (first | exact ⟨a0, a1, a2, b0, b1, b2, nC⟩ | exact (unhide KS) _ hb4)
      (first | (go_at_call 15; refine (unhide (HT2 _)).mono ?_; rintro e w4 ⟨v4, rfl, he4, hb4⟩))
    clear wz KS
    try dsimp only at he4
    obtain ⟨T4, x4, rfl⟩ := he4.held (unhide HC)
    have hb4' : Below w3.heap.size w3 w4 := (Below.refl _ _).drew.trans hb4
    have kC4 : w4.cell? ⟨w2.heap.size + 1, 5, none⟩ = some (.int .i64 8) := (hb4'.cell (p := ⟨w2.heap.size + 1, 5, none⟩) klt).trans kC
    clear kC nC hb4
    have he3' := he3.below hb4'
    replace BA := BA.below hb4'
    replace BB := BB.below hb4'
    obtain ⟨a0, a1, a2, fA⟩ := BA.cells
    obtain ⟨b0, b1, b2, fB⟩ := BB.cells
    replace HBW := hide (Below.andThen (unhide HBW) hb4')
    clear hb4'
    go_wp2_with fail
    have wz : IntKind.i64.wrap 5 = 5 := by decide
    have KS : ∀ W4, Below w4.drew.heap.size w4.drew W4 → (W4.cell? ⟨w.heap.size, 0, none⟩ = some (.int .i64 k) ∧ W4.cell? ⟨w.heap.size, 1, none⟩ = some (.int .i64 n) ∧ W4.cell? ⟨w.heap.size, 2, none⟩ = some (.string s) ∧ W4.cell? ⟨w.heap.size + 1, 0, none⟩ = some (.int .i64 k') ∧ W4.cell? ⟨w.heap.size + 1, 1, none⟩ = some (.int .i64 n') ∧ W4.cell? ⟨w.heap.size + 1, 2, none⟩ = some (.string s') ∧ W4.cell? ⟨w2.heap.size + 1, 5, none⟩ = some (.int .i64 8)) := fun W4 hb =>
      ⟨(hb.cell (p := ⟨_, _, none⟩) BA.lt).trans a0, (hb.cell (p := ⟨_, _, none⟩) BA.lt).trans a1, (hb.cell (p := ⟨_, _, none⟩) BA.lt).trans a2, (hb.cell (p := ⟨_, _, none⟩) BB.lt).trans b0, (hb.cell (p := ⟨_, _, none⟩) BB.lt).trans b1, (hb.cell (p := ⟨_, _, none⟩) BB.lt).trans b2, (hb.cell (p := ⟨_, _, none⟩) (lt_of_cell kC4)).trans kC4⟩
    replace KS := hide KS
    go_region_held3 (fun w' => w'.cell? ⟨w.heap.size, 0, none⟩ = some (.int .i64 k) ∧ w'.cell? ⟨w.heap.size, 1, none⟩ = some (.int .i64 n) ∧ w'.cell? ⟨w.heap.size, 2, none⟩ = some (.string s) ∧ w'.cell? ⟨w.heap.size + 1, 0, none⟩ = some (.int .i64 k') ∧ w'.cell? ⟨w.heap.size + 1, 1, none⟩ = some (.int .i64 n') ∧ w'.cell? ⟨w.heap.size + 1, 2, none⟩ = some (.string s') ∧ w'.cell? ⟨w2.heap.size + 1, 5, none⟩ = some (.int .i64 8))
      (first | exact ⟨a0, a1, a2, b0, b1, b2, kC4⟩ | exact (unhide KS) _ hb5)
      (first | (go_at_call 15; refine (unhide (HT3 _)).mono ?_; rintro e w5 ⟨v5, rfl, he5, hb5⟩))
    clear wz KS
    try dsimp only at he5
    obtain ⟨T5, x5, rfl⟩ := he5.held (unhide HC)
    have hb5' : Below w4.heap.size w4 w5 := (Below.refl _ _).drew.trans hb5
    have h3 := he3'.below hb5'
    have h4 := he4.below hb5'
    clear kC4 he3 he3' he4 hb5
    replace BA := BA.below hb5'
    replace BB := BB.below hb5'
    obtain ⟨a0, a1, a2, fA⟩ := BA.cells
    obtain ⟨b0, b1, b2, fB⟩ := BB.cells
    replace HBW := hide (Below.andThen (unhide HBW) hb5')
    clear hb5'
    obtain ⟨d3, hE3⟩ := (h3.resolve_left (fun h => unhide HC h.1)).2
    obtain ⟨d4, hE4⟩ := (h4.resolve_left (fun h => unhide HC h.1)).2
    obtain ⟨d5, hE5⟩ := (he5.resolve_left (fun h => unhide HC h.1)).2
    have HC3 := fun (W : World) (hb : Below w5.heap.size w5 W) => hide (Class_err d3 _ c W (((unhide HG).below (unhide HBW)).below hb) (hE3.below hb))
    have HC4 := fun (W : World) (hb : Below w5.heap.size w5 W) => hide (Class_err d4 _ c W (((unhide HG).below (unhide HBW)).below hb) (hE4.below hb))
    have HC5 := fun (W : World) (hb : Below w5.heap.size w5 W) => hide (Class_err d5 _ c W (((unhide HG).below (unhide HBW)).below hb) (hE5.below hb))
    clear h3 h4 he5 hE3 hE4 hE5 nlt klt a0 a1 a2 fA b0 b1 b2 fB BA BB
    go_wp2_with fail
    refine (unhide (HC3 _ (Below.refl _ _))).mono ?_
    rintro e w6 ⟨rfl, hb6⟩
    have H6 := hide hb6
    clear hb6
    go_wp2_with fail
    refine (unhide (HC4 _ (unhide H6))).mono ?_
    rintro e w7 ⟨rfl, hb7⟩
    have H7 := hide (Below.andThen (unhide H6) hb7)
    clear hb7 H6
    go_wp2_with fail
    refine (unhide (HC3 _ (unhide H7))).mono ?_
    rintro e w8 ⟨rfl, hb8⟩
    have H8 := hide (Below.andThen (unhide H7) hb8)
    clear hb8 H7
    go_wp2_with fail
    refine (unhide (HC5 _ (unhide H8))).mono ?_
    rintro e w9 ⟨rfl, hb9⟩
    replace HBW := hide (Below.andThen (unhide HBW) (Below.andThen (unhide H8) hb9))
    clear hb9 H8
    go_wp2
    go_ret
    exact ⟨rfl, unhide HBW⟩
  · have HX2 := hide hx2
    clear hx2
    go_enter Tryd.func7, Tryd.ntmps7
    go_wp2_with fail
    refine (unhide HK).mono ?_
    rintro e w1 ⟨rfl, hb1⟩
    replace BA := BA.below hb1
    replace BB := BB.below hb1
    obtain ⟨a0, a1, a2, fA⟩ := BA.cells
    obtain ⟨b0, b1, b2, fB⟩ := BB.cells
    replace HBW := hide (Below.andThen (unhide HBW) hb1)
    clear hb1
    go_wp2_with fail
    refine (unhide (HF _)).mono ?_
    rintro e w2 ⟨rfl, rfl⟩
    have hal : Below w1.heap.size w1 (w1.alloc (.cells #[.int .i64 k, .int .i64 n, .string s, .int .i64 k', .int .i64 n', .string s'] 23)) := (Below.refl _ _).alloc (Nat.le_refl _) _
    replace BA := BA.below hal
    replace BB := BB.below hal
    obtain ⟨a0, a1, a2, fA⟩ := BA.cells
    obtain ⟨b0, b1, b2, fB⟩ := BB.cells
    replace HBW := hide (Below.andThen (unhide HBW) hal)
    clear hal
    generalize w1.alloc _ = w2 at *
    clear HK HF
    have hal2 : Below w2.heap.size w2 ((w2.alloc (.cells #[.int .i64 6, .int .i64 5, .int .i64 10, .int .i64 9, .int .i64 8, .int .i64 7] 42)).alloc (.cells #[.int .i64 5, .int .i64 6, .int .i64 9, .int .i64 10, .int .i64 7, .int .i64 8] 42)) := ((Below.refl _ _).alloc (Nat.le_refl _) _).alloc (by simp) _
    replace BA := BA.below hal2
    replace BB := BB.below hal2
    obtain ⟨a0, a1, a2, fA⟩ := BA.cells
    obtain ⟨b0, b1, b2, fB⟩ := BB.cells
    replace HBW := hide (Below.andThen (unhide HBW) hal2)
    clear hal2
    go_wp2_with fail
    refine (unhide (HT1 _)).mono ?_
    rintro e w3 ⟨v3, rfl, he3, hb3⟩
    have nC : w3.cell? ⟨w2.heap.size, 5, none⟩ = some (.int .i64 7) := (hb3.cell (p := ⟨w2.heap.size, 5, none⟩) (by simp; omega)).trans (by simp)
    have kC : w3.cell? ⟨w2.heap.size + 1, 5, none⟩ = some (.int .i64 8) := (hb3.cell (p := ⟨w2.heap.size + 1, 5, none⟩) (by simp)).trans (by simp)
    have nlt := lt_of_cell nC
    have klt := lt_of_cell kC
    obtain rfl := he3.nil
    clear he3
    replace BA := BA.below hb3
    replace BB := BB.below hb3
    obtain ⟨a0, a1, a2, fA⟩ := BA.cells
    obtain ⟨b0, b1, b2, fB⟩ := BB.cells
    replace HBW := hide (Below.andThen (unhide HBW) hb3)
    clear hb3
    go_wp2_with fail
    have wz : IntKind.i64.wrap 5 = 5 := by decide
    have KS : ∀ W4, Below w3.drew.heap.size w3.drew W4 → (W4.cell? ⟨w.heap.size, 0, none⟩ = some (.int .i64 k) ∧ W4.cell? ⟨w.heap.size, 1, none⟩ = some (.int .i64 n) ∧ W4.cell? ⟨w.heap.size, 2, none⟩ = some (.string s) ∧ W4.cell? ⟨w.heap.size + 1, 0, none⟩ = some (.int .i64 k') ∧ W4.cell? ⟨w.heap.size + 1, 1, none⟩ = some (.int .i64 n') ∧ W4.cell? ⟨w.heap.size + 1, 2, none⟩ = some (.string s') ∧ W4.cell? ⟨w2.heap.size, 5, none⟩ = some (.int .i64 7)) := fun W4 hb =>
      ⟨(hb.cell (p := ⟨_, _, none⟩) BA.lt).trans a0, (hb.cell (p := ⟨_, _, none⟩) BA.lt).trans a1, (hb.cell (p := ⟨_, _, none⟩) BA.lt).trans a2, (hb.cell (p := ⟨_, _, none⟩) BB.lt).trans b0, (hb.cell (p := ⟨_, _, none⟩) BB.lt).trans b1, (hb.cell (p := ⟨_, _, none⟩) BB.lt).trans b2, (hb.cell (p := ⟨_, _, none⟩) (lt_of_cell nC)).trans nC⟩
    replace KS := hide KS
    go_region_held3 (fun w' => w'.cell? ⟨w.heap.size, 0, none⟩ = some (.int .i64 k) ∧ w'.cell? ⟨w.heap.size, 1, none⟩ = some (.int .i64 n) ∧ w'.cell? ⟨w.heap.size, 2, none⟩ = some (.string s) ∧ w'.cell? ⟨w.heap.size + 1, 0, none⟩ = some (.int .i64 k') ∧ w'.cell? ⟨w.heap.size + 1, 1, none⟩ = some (.int .i64 n') ∧ w'.cell? ⟨w.heap.size + 1, 2, none⟩ = some (.string s') ∧ w'.cell? ⟨w2.heap.size, 5, none⟩ = some (.int .i64 7))
      (first | exact ⟨a0, a1, a2, b0, b1, b2, nC⟩ | exact (unhide KS) _ hb4)
      (first | (go_at_call 15; refine (unhide (HT2 _)).mono ?_; rintro e w4 ⟨v4, rfl, he4, hb4⟩))
    clear wz KS
    obtain rfl := he4.nil
    have hb4' : Below w3.heap.size w3 w4 := (Below.refl _ _).drew.trans hb4
    have kC4 : w4.cell? ⟨w2.heap.size + 1, 5, none⟩ = some (.int .i64 8) := (hb4'.cell (p := ⟨w2.heap.size + 1, 5, none⟩) klt).trans kC
    clear kC nC hb4 he4
    replace BA := BA.below hb4'
    replace BB := BB.below hb4'
    obtain ⟨a0, a1, a2, fA⟩ := BA.cells
    obtain ⟨b0, b1, b2, fB⟩ := BB.cells
    replace HBW := hide (Below.andThen (unhide HBW) hb4')
    clear hb4'
    go_wp2_with fail
    have wz : IntKind.i64.wrap 5 = 5 := by decide
    have KS : ∀ W4, Below w4.drew.heap.size w4.drew W4 → (W4.cell? ⟨w.heap.size, 0, none⟩ = some (.int .i64 k) ∧ W4.cell? ⟨w.heap.size, 1, none⟩ = some (.int .i64 n) ∧ W4.cell? ⟨w.heap.size, 2, none⟩ = some (.string s) ∧ W4.cell? ⟨w.heap.size + 1, 0, none⟩ = some (.int .i64 k') ∧ W4.cell? ⟨w.heap.size + 1, 1, none⟩ = some (.int .i64 n') ∧ W4.cell? ⟨w.heap.size + 1, 2, none⟩ = some (.string s') ∧ W4.cell? ⟨w2.heap.size + 1, 5, none⟩ = some (.int .i64 8)) := fun W4 hb =>
      ⟨(hb.cell (p := ⟨_, _, none⟩) BA.lt).trans a0, (hb.cell (p := ⟨_, _, none⟩) BA.lt).trans a1, (hb.cell (p := ⟨_, _, none⟩) BA.lt).trans a2, (hb.cell (p := ⟨_, _, none⟩) BB.lt).trans b0, (hb.cell (p := ⟨_, _, none⟩) BB.lt).trans b1, (hb.cell (p := ⟨_, _, none⟩) BB.lt).trans b2, (hb.cell (p := ⟨_, _, none⟩) (lt_of_cell kC4)).trans kC4⟩
    replace KS := hide KS
    go_region_held3 (fun w' => w'.cell? ⟨w.heap.size, 0, none⟩ = some (.int .i64 k) ∧ w'.cell? ⟨w.heap.size, 1, none⟩ = some (.int .i64 n) ∧ w'.cell? ⟨w.heap.size, 2, none⟩ = some (.string s) ∧ w'.cell? ⟨w.heap.size + 1, 0, none⟩ = some (.int .i64 k') ∧ w'.cell? ⟨w.heap.size + 1, 1, none⟩ = some (.int .i64 n') ∧ w'.cell? ⟨w.heap.size + 1, 2, none⟩ = some (.string s') ∧ w'.cell? ⟨w2.heap.size + 1, 5, none⟩ = some (.int .i64 8))
      (first | exact ⟨a0, a1, a2, b0, b1, b2, kC4⟩ | exact (unhide KS) _ hb5)
      (first | (go_at_call 15; refine (unhide (HT3 _)).mono ?_; rintro e w5 ⟨v5, rfl, he5, hb5⟩))
    clear wz KS
    obtain rfl := he5.nil
    have hb5' : Below w4.heap.size w4 w5 := (Below.refl _ _).drew.trans hb5
    clear kC4 he5 hb5
    replace BA := BA.below hb5'
    replace BB := BB.below hb5'
    obtain ⟨a0, a1, a2, fA⟩ := BA.cells
    obtain ⟨b0, b1, b2, fB⟩ := BB.cells
    replace HBW := hide (Below.andThen (unhide HBW) hb5')
    clear hb5'
    clear nlt klt a0 a1 a2 fA b0 b1 b2 fB BA BB
    go_wp2_with (first | (go_at_call 18; refine (Class_nil _).mono ?_; rintro e w6 ⟨rfl, rfl⟩) | (go_at_call 19; refine (value_Not _ _).mono ?_; rw [← unhide HX2]; rintro e w6 ⟨rfl, rfl⟩))
    go_ret
    exact ⟨rfl, unhide HBW⟩

theorem tests_op (op k n : Int) (s : ByteArray) (k' n' : Int) (s' : ByteArray) (w : World) (hg : OkW w) (hs : s.size ≤ 9223372036854775807) (hs' : s'.size ≤ 9223372036854775807)
    (hw : fewB [⟨k, n, s⟩, ⟨k', n', s'⟩] 2 = true) (h1 : 5 ≤ op) (h2 : op ≤ 10) (x1 x2 x3 c : Int) (hx : (c ≠ 0 ∧ x1 = 0 ∧ x2 = 0 ∧ x3 = 0) ∨ (c = 0 ∧ x2 = notT x1 ∧ x3 = x1))
    (e1 : testR op k n s k' n' s' = (x1, c)) (e2 : testR (opNot op) k n s k' n' s' = (x2, c)) (e3 : testR (opBack op) k' n' s' k n s = (x3, c)) :
    Calls Tryd.prog 7 #[.int .i64 op, .agg #[.int .i64 k, .int .i64 n, .string s], .agg #[.int .i64 k', .int .i64 n', .string s']] w fun e w' => e = .returned (.bool true) ∧ Below w.heap.size w w' := by
  have T1 := fun w => value_Test op k n s k' n' s' w hs hs'
  have T2 := fun w => value_Test (opNot op) k n s k' n' s' w hs hs'
  have T3 := fun w => value_Test (opBack op) k' n' s' k n s w hs' hs
  rw [e1] at T1
  rw [e2] at T2
  rw [e3] at T3
  have ho : op = 5 ∨ op = 6 ∨ op = 7 ∨ op = 8 ∨ op = 9 ∨ op = 10 := by omega
  rcases ho with rfl | rfl | rfl | rfl | rfl | rfl
  · exact tests_5 k n s k' n' s' w hg hs hs' hw x1 x2 x3 c hx T1 T2 T3
  · exact tests_6 k n s k' n' s' w hg hs hs' hw x1 x2 x3 c hx T1 T2 T3
  · exact tests_7 k n s k' n' s' w hg hs hs' hw x1 x2 x3 c hx T1 T2 T3
  · exact tests_8 k n s k' n' s' w hg hs hs' hw x1 x2 x3 c hx T1 T2 T3
  · exact tests_9 k n s k' n' s' w hg hs hs' hw x1 x2 x3 c hx T1 T2 T3
  · exact tests_10 k n s k' n' s' w hg hs hs' hw x1 x2 x3 c hx T1 T2 T3

theorem tests_walk (op k n : Int) (s : ByteArray) (k' n' : Int) (s' : ByteArray) (w : World) (hg : OkW w) (hs : s.size ≤ 9223372036854775807) (hs' : s'.size ≤ 9223372036854775807) :
    Calls Tryd.prog 7 #[.int .i64 op, .agg #[.int .i64 k, .int .i64 n, .string s], .agg #[.int .i64 k', .int .i64 n', .string s']] w fun e w' => e = .returned (.bool true) ∧ Below w.heap.size w w' := by
  by_cases hw : fewB [⟨k, n, s⟩, ⟨k', n', s'⟩] 2 = true
  · by_cases ho : op < 5 ∨ 10 < op
    · exact tests_skip op k n s k' n' s' w hg hs hs' (.inr ho)
    · have h1 : 5 ≤ op := by omega
      have h2 : op ≤ 10 := by omega
      rcases testR_alt op k n s k' n' s' h1 h2 with ⟨e1, e2, e3⟩ | ⟨e1, e2, e3⟩ | ⟨e1, e2, e3⟩ | ⟨b, e1, e2, e3⟩
      · exact tests_op op k n s k' n' s' w hg hs hs' hw h1 h2 _ _ _ _ (.inl ⟨by decide, rfl, rfl, rfl⟩) e1 e2 e3
      · exact tests_op op k n s k' n' s' w hg hs hs' hw h1 h2 _ _ _ _ (.inr ⟨rfl, by decide, rfl⟩) e1 e2 e3
      · exact tests_op op k n s k' n' s' w hg hs hs' hw h1 h2 _ _ _ _ (.inl ⟨by decide, rfl, rfl, rfl⟩) e1 e2 e3
      · exact tests_op op k n s k' n' s' w hg hs hs' hw h1 h2 _ _ _ _ (.inr ⟨rfl, by cases b <;> decide, rfl⟩) e1 e2 e3
  · exact tests_skip op k n s k' n' s' w hg hs hs' (.inl (by simpa using hw))
end Go.Proofs.YtpmjpbndpnmdlaaDoor

/- consistorylaw6.ValueOrder: the walk: true for every three values. -/
import Derived.Test.YtpmjpbndpnmdlaaDoorOrd
import Derived.Test.YtpmjpbndpnmdlaaDoorKn6
namespace Go.Proofs.YtpmjpbndpnmdlaaDoor
open Go.RowKit

theorem testR_in {op : Int} {a b : V} (h1 : 5 ≤ op) (h2 : op ≤ 10) (ha : a.is = true) (hb : b.is = true) (hk : a.k = b.k) (hz : a.k ≠ 0) :
    testR op a.k a.n a.t b.k b.n b.t = (tr (testB op (cmpV a b)), 0) := by
  unfold V.is at ha hb
  unfold testR
  rw [if_neg (by rw [ha, hb]; simp; omega), if_neg (by omega), if_neg (by simpa using hk)]
  rfl

theorem testB_0 (x : Int) : testB (5 + ((0 : Nat) : Int)) x = (x == 0) := by simp [testB, beq_dec]
theorem testB_1 (x : Int) : testB (5 + ((1 : Nat) : Int)) x = (x != 0) := by simp [testB, beq_dec, bne]
theorem testB_2 (x : Int) : testB (5 + ((2 : Nat) : Int)) x = decide (x < 0) := by simp [testB]
theorem testB_3 (x : Int) : testB (5 + ((3 : Nat) : Int)) x = decide (x ≤ 0) := by
  by_cases h : x ≤ 0
  · have : ¬ 0 < x := by omega
    simp [testB, h, this]
  · have : 0 < x := by omega
    simp [testB, this, Int.not_le]
theorem testB_4 (x : Int) : testB (5 + ((4 : Nat) : Int)) x = decide (0 < x) := by simp [testB]
theorem testB_5 (x : Int) : testB (5 + ((5 : Nat) : Int)) x = decide (0 ≤ x) := by
  by_cases h : x < 0
  · have : ¬ 0 ≤ x := by omega
    simp [testB, h, this]
  · have : 0 ≤ x := by omega
    simp [testB, h, this]
set_option maxRecDepth 100000 in
set_option maxHeartbeats 600000 in
theorem order_walk (ak an : Int) (sA : ByteArray) (bk bn : Int) (sB : ByteArray) (ck cn : Int) (sC : ByteArray) (w : World) (hg : OkW w)
    (ha : sA.size ≤ 9223372036854775807) (hb : sB.size ≤ 9223372036854775807) (hc : sC.size ≤ 9223372036854775807) :
    Calls Tryd.prog 3 #[.agg #[.int .i64 ak, .int .i64 an, .string sA], .agg #[.int .i64 bk, .int .i64 bn, .string sB], .agg #[.int .i64 ck, .int .i64 cn, .string sC]] w fun e w' => e = .returned (.bool true) ∧ Below w.heap.size w w' := by
  have hB0 : ∀ o o' o'', Below w.heap.size w (((w.alloc o).alloc o').alloc o'') := fun o o' o'' => (((Below.refl _ _).alloc (Nat.le_refl _) o).alloc (by simp) o').alloc (by simp; omega) o''
  have HBW := hide (hB0 (.cells #[.int .i64 ak, .int .i64 an, .string sA] 23) (.cells #[.int .i64 bk, .int .i64 bn, .string sB] 23) (.cells #[.int .i64 ck, .int .i64 cn, .string sC] 23))
  clear hB0
  have BA := ((Blk3.new w 23 (.int .i64 ak) (.int .i64 an) (.string sA)).alloc (.cells #[.int .i64 bk, .int .i64 bn, .string sB] 23)).alloc (.cells #[.int .i64 ck, .int .i64 cn, .string sC] 23)
  have BB := (Blk3.new1 w (.cells #[.int .i64 ak, .int .i64 an, .string sA] 23) 23 (.int .i64 bk) (.int .i64 bn) (.string sB)).alloc (.cells #[.int .i64 ck, .int .i64 cn, .string sC] 23)
  have BC := Blk3.new2 w (.cells #[.int .i64 ak, .int .i64 an, .string sA] 23) (.cells #[.int .i64 bk, .int .i64 bn, .string sB] 23) 23 (.int .i64 ck) (.int .i64 cn) (.string sC)
  have HK := hide (known6 _ (hg.below (unhide HBW)))
  obtain ⟨a, hav⟩ : ∃ a : V, a = ⟨ak, an, sA⟩ := ⟨_, rfl⟩
  obtain ⟨b, hbv⟩ : ∃ b : V, b = ⟨bk, bn, sB⟩ := ⟨_, rfl⟩
  obtain ⟨c, hcv⟩ : ∃ c : V, c = ⟨ck, cn, sC⟩ := ⟨_, rfl⟩
  have HC1 : ∀ w, Hid (Calls Tryd.prog 13 #[.agg #[.int .i64 ak, .int .i64 an, .string sA], .agg #[.int .i64 bk, .int .i64 bn, .string sB]] w fun e w' => e = .returned (.int .i64 (cmpV a b)) ∧ Below w.heap.size w w') := fun w => by subst hav hbv; exact value_Compare _ _ _ _ _ _ w ha hb
  have HC2 : ∀ w, Hid (Calls Tryd.prog 13 #[.agg #[.int .i64 bk, .int .i64 bn, .string sB], .agg #[.int .i64 ak, .int .i64 an, .string sA]] w fun e w' => e = .returned (.int .i64 (-(cmpV a b))) ∧ Below w.heap.size w w') := fun w => by rw [← cmpV_anti]; subst hav hbv; exact value_Compare _ _ _ _ _ _ w hb ha
  have HC3 : ∀ w, Hid (Calls Tryd.prog 13 #[.agg #[.int .i64 ak, .int .i64 an, .string sA], .agg #[.int .i64 ak, .int .i64 an, .string sA]] w fun e w' => e = .returned (.int .i64 0) ∧ Below w.heap.size w w') := fun w => by rw [← cmpV_refl a]; subst hav; exact value_Compare _ _ _ _ _ _ w ha ha
  have HC4 : ∀ w, Hid (Calls Tryd.prog 13 #[.agg #[.int .i64 bk, .int .i64 bn, .string sB], .agg #[.int .i64 ck, .int .i64 cn, .string sC]] w fun e w' => e = .returned (.int .i64 (cmpV b c)) ∧ Below w.heap.size w w') := fun w => by subst hcv hbv; exact value_Compare _ _ _ _ _ _ w hb hc
  have HC5 : ∀ w, Hid (Calls Tryd.prog 13 #[.agg #[.int .i64 ak, .int .i64 an, .string sA], .agg #[.int .i64 ck, .int .i64 cn, .string sC]] w fun e w' => e = .returned (.int .i64 (cmpV a c)) ∧ Below w.heap.size w w') := fun w => by subst hcv hav; exact value_Compare _ _ _ _ _ _ w ha hc
  have HI1 := fun w => hide (value_Is ak an sA w ha)
  have HI2 := fun w => hide (value_Is bk bn sB w hb)
  have HT : ∀ k : Nat, k < 6 → mayB ak an sA = true → mayB bk bn sB = true → ak = bk → ak ≠ 0 → ∀ w, Hid (Calls Tryd.prog 15 #[.int .i64 (5 + (k : Int)), .agg #[.int .i64 ak, .int .i64 an, .string sA], .agg #[.int .i64 bk, .int .i64 bn, .string sB]] w (RPost w (tr (testB (5 + k) (cmpV a b)), 0))) := fun k hk m1 m2 h3 h4 w => by
    have := value_Test (5 + k) ak an sA bk bn sB w ha hb
    rw [testR_in (op := 5 + k) (a := ⟨ak, an, sA⟩) (b := ⟨bk, bn, sB⟩) (by omega) (by omega) m1 m2 h3 h4] at this
    subst hav hbv; exact this
  have hF : ∀ W : World, Calls Tryd.prog 12 #[.slice (some ⟨W.heap.size, 0, none⟩) 3 3, .int .i64 3] (W.alloc (.cells #[.int .i64 ak, .int .i64 an, .string sA, .int .i64 bk, .int .i64 bn, .string sB, .int .i64 ck, .int .i64 cn, .string sC] 23)) fun e w' => e = .returned (.bool (fewB [⟨ak, an, sA⟩, ⟨bk, bn, sB⟩, ⟨ck, cn, sC⟩] 3)) ∧ (W.alloc (.cells #[.int .i64 ak, .int .i64 an, .string sA, .int .i64 bk, .int .i64 bn, .string sB, .int .i64 ck, .int .i64 cn, .string sC] 23)) = w' := fun W =>
    help_Few _ 3 3 [⟨ak, an, sA⟩, ⟨bk, bn, sB⟩, ⟨ck, cn, sC⟩] 3 _ (by decide) (Reads.new W 23 3 3 (vcells [⟨ak, an, sA⟩, ⟨bk, bn, sB⟩, ⟨ck, cn, sC⟩]) rfl)
      (fun i v h => by
        match i, h with
        | 0, h => simp at h; subst h; exact ha
        | 1, h => simp at h; subst h; exact hb
        | 2, h => simp at h; subst h; exact hc
        | i + 3, h => simp at h)
  replace HT := hide HT
  generalize fewB [⟨ak, an, sA⟩, ⟨bk, bn, sB⟩, ⟨ck, cn, sC⟩] 3 = few at *
  have HF := fun W => hide (hF W)
  clear hF
  have hu : 0 < cmpV a b ∨ 0 < cmpV b c ∨ cmpV a c ≤ 0 := by
    have := @cmpV_trans a b c
    by_cases h1 : cmpV a b ≤ 0 <;> by_cases h2 : cmpV b c ≤ 0
    · exact .inr (.inr (this h1 h2))
    all_goals omega
  obtain ⟨hx1, hx2⟩ := cmpV_range a b
  generalize cmpV a b = x at *
  generalize cmpV b c = z at *
  generalize cmpV a c = u at *
  clear hav hbv hcv hg
  go_enter Tryd.func3, Tryd.ntmps3
  go_wp2_with fail
  refine (unhide HK).mono ?_
  rintro e w1 ⟨rfl, hb1⟩
  replace BA := BA.below hb1
  replace BB := BB.below hb1
  replace BC := BC.below hb1
  obtain ⟨a0, a1, a2, fA⟩ := BA.cells
  obtain ⟨b0, b1, b2, fB⟩ := BB.cells
  obtain ⟨c0, c1, c2, fC⟩ := BC.cells
  replace HBW := hide (Below.andThen (unhide HBW) hb1)
  clear hb1
  go_wp2_with fail
  refine (unhide (HF _)).mono ?_
  rintro e w2 ⟨rfl, rfl⟩
  clear HF
  have hal : Below w1.heap.size w1 (w1.alloc (.cells #[.int .i64 ak, .int .i64 an, .string sA, .int .i64 bk, .int .i64 bn, .string sB, .int .i64 ck, .int .i64 cn, .string sC] 23)) := (Below.refl _ _).alloc (Nat.le_refl _) _
  replace BA := BA.below hal
  replace BB := BB.below hal
  replace BC := BC.below hal
  obtain ⟨a0, a1, a2, fA⟩ := BA.cells
  obtain ⟨b0, b1, b2, fB⟩ := BB.cells
  obtain ⟨c0, c1, c2, fC⟩ := BC.cells
  replace HBW := hide (Below.andThen (unhide HBW) hal)
  clear hal
  generalize w1.alloc _ = w2 at *
  clear HK ha hb hc
  cases few
  · go_wp2
    go_ret
    exact ⟨rfl, unhide HBW⟩
  have e1 : mayB ak an sA = true ∨ mayB ak an sA = false := by cases mayB ak an sA <;> simp
  rcases e1 with m1 | m1
  rotate_left
  · go_wp2_with (first
        | (go_at_call 13; (first | (with_reducible refine (unhide (HC1 _)).mono ?_) | (with_reducible refine (unhide (HC2 _)).mono ?_) | (with_reducible refine (unhide (HC3 _)).mono ?_) | (with_reducible refine (unhide (HC4 _)).mono ?_) | (with_reducible refine (unhide (HC5 _)).mono ?_)); rintro e w3 ⟨rfl, hb⟩; replace BA := BA.below hb; replace BB := BB.below hb; replace BC := BC.below hb; obtain ⟨a0, a1, a2, fA⟩ := BA.cells; obtain ⟨b0, b1, b2, fB⟩ := BB.cells; obtain ⟨c0, c1, c2, fC⟩ := BC.cells; replace HBW := hide (Below.andThen (unhide HBW) hb); clear hb)
        | (go_at_call 14; (first | (with_reducible refine (unhide (HI1 _)).mono ?_) | (with_reducible refine (unhide (HI2 _)).mono ?_)); rintro e w3 ⟨rfl, hb⟩; replace BA := BA.below hb; replace BB := BB.below hb; replace BC := BC.below hb; obtain ⟨a0, a1, a2, fA⟩ := BA.cells; obtain ⟨b0, b1, b2, fB⟩ := BB.cells; obtain ⟨c0, c1, c2, fC⟩ := BC.cells; replace HBW := hide (Below.andThen (unhide HBW) hb); clear hb))
    all_goals (go_ret; exact ⟨rfl, unhide HBW⟩)
  have e1 : mayB bk bn sB = true ∨ mayB bk bn sB = false := by cases mayB bk bn sB <;> simp
  rcases e1 with m2 | m2
  rotate_left
  · go_wp2_with (first
        | (go_at_call 13; (first | (with_reducible refine (unhide (HC1 _)).mono ?_) | (with_reducible refine (unhide (HC2 _)).mono ?_) | (with_reducible refine (unhide (HC3 _)).mono ?_) | (with_reducible refine (unhide (HC4 _)).mono ?_) | (with_reducible refine (unhide (HC5 _)).mono ?_)); rintro e w3 ⟨rfl, hb⟩; replace BA := BA.below hb; replace BB := BB.below hb; replace BC := BC.below hb; obtain ⟨a0, a1, a2, fA⟩ := BA.cells; obtain ⟨b0, b1, b2, fB⟩ := BB.cells; obtain ⟨c0, c1, c2, fC⟩ := BC.cells; replace HBW := hide (Below.andThen (unhide HBW) hb); clear hb)
        | (go_at_call 14; (first | (with_reducible refine (unhide (HI1 _)).mono ?_) | (with_reducible refine (unhide (HI2 _)).mono ?_)); rintro e w3 ⟨rfl, hb⟩; replace BA := BA.below hb; replace BB := BB.below hb; replace BC := BC.below hb; obtain ⟨a0, a1, a2, fA⟩ := BA.cells; obtain ⟨b0, b1, b2, fB⟩ := BB.cells; obtain ⟨c0, c1, c2, fC⟩ := BC.cells; replace HBW := hide (Below.andThen (unhide HBW) hb); clear hb))
    all_goals (go_ret; exact ⟨rfl, unhide HBW⟩)
  have e1 : (ak != bk) = true ∨ (ak != bk) = false := by cases (ak != bk) <;> simp
  rcases e1 with m3 | m3
  · go_wp2_with (first
        | (go_at_call 13; (first | (with_reducible refine (unhide (HC1 _)).mono ?_) | (with_reducible refine (unhide (HC2 _)).mono ?_) | (with_reducible refine (unhide (HC3 _)).mono ?_) | (with_reducible refine (unhide (HC4 _)).mono ?_) | (with_reducible refine (unhide (HC5 _)).mono ?_)); rintro e w3 ⟨rfl, hb⟩; replace BA := BA.below hb; replace BB := BB.below hb; replace BC := BC.below hb; obtain ⟨a0, a1, a2, fA⟩ := BA.cells; obtain ⟨b0, b1, b2, fB⟩ := BB.cells; obtain ⟨c0, c1, c2, fC⟩ := BC.cells; replace HBW := hide (Below.andThen (unhide HBW) hb); clear hb)
        | (go_at_call 14; (first | (with_reducible refine (unhide (HI1 _)).mono ?_) | (with_reducible refine (unhide (HI2 _)).mono ?_)); rintro e w3 ⟨rfl, hb⟩; replace BA := BA.below hb; replace BB := BB.below hb; replace BC := BC.below hb; obtain ⟨a0, a1, a2, fA⟩ := BA.cells; obtain ⟨b0, b1, b2, fB⟩ := BB.cells; obtain ⟨c0, c1, c2, fC⟩ := BC.cells; replace HBW := hide (Below.andThen (unhide HBW) hb); clear hb))
    all_goals (go_ret; exact ⟨rfl, unhide HBW⟩)
  have e1 : (ak == 0) = true ∨ (ak == 0) = false := by cases (ak == 0) <;> simp
  rcases e1 with m4 | m4
  · go_wp2_with (first
        | (go_at_call 13; (first | (with_reducible refine (unhide (HC1 _)).mono ?_) | (with_reducible refine (unhide (HC2 _)).mono ?_) | (with_reducible refine (unhide (HC3 _)).mono ?_) | (with_reducible refine (unhide (HC4 _)).mono ?_) | (with_reducible refine (unhide (HC5 _)).mono ?_)); rintro e w3 ⟨rfl, hb⟩; replace BA := BA.below hb; replace BB := BB.below hb; replace BC := BC.below hb; obtain ⟨a0, a1, a2, fA⟩ := BA.cells; obtain ⟨b0, b1, b2, fB⟩ := BB.cells; obtain ⟨c0, c1, c2, fC⟩ := BC.cells; replace HBW := hide (Below.andThen (unhide HBW) hb); clear hb)
        | (go_at_call 14; (first | (with_reducible refine (unhide (HI1 _)).mono ?_) | (with_reducible refine (unhide (HI2 _)).mono ?_)); rintro e w3 ⟨rfl, hb⟩; replace BA := BA.below hb; replace BB := BB.below hb; replace BC := BC.below hb; obtain ⟨a0, a1, a2, fA⟩ := BA.cells; obtain ⟨b0, b1, b2, fB⟩ := BB.cells; obtain ⟨c0, c1, c2, fC⟩ := BC.cells; replace HBW := hide (Below.andThen (unhide HBW) hb); clear hb))
    all_goals (go_ret; exact ⟨rfl, unhide HBW⟩)
  have HT2 : ∀ k : Nat, k < 6 → ∀ w, Hid (Calls Tryd.prog 15 #[.int .i64 (5 + (k : Int)), .agg #[.int .i64 ak, .int .i64 an, .string sA], .agg #[.int .i64 bk, .int .i64 bn, .string sB]] w (RPost w (tr (testB (5 + k) x), 0))) :=
    fun k hk w => (unhide HT) k hk m1 m2 (by simpa using m3) (by simpa using m4) w
  replace HT2 := hide HT2
  clear HT
  go_wp2_with (first
    | (go_at_call 13; (first | (with_reducible refine (unhide (HC1 _)).mono ?_) | (with_reducible refine (unhide (HC2 _)).mono ?_) | (with_reducible refine (unhide (HC3 _)).mono ?_) | (with_reducible refine (unhide (HC4 _)).mono ?_) | (with_reducible refine (unhide (HC5 _)).mono ?_)); rintro e w3 ⟨rfl, hb⟩; replace BA := BA.below hb; replace BB := BB.below hb; replace BC := BC.below hb; obtain ⟨a0, a1, a2, fA⟩ := BA.cells; obtain ⟨b0, b1, b2, fB⟩ := BB.cells; obtain ⟨c0, c1, c2, fC⟩ := BC.cells; replace HBW := hide (Below.andThen (unhide HBW) hb); clear hb)
    | (go_at_call 14; (first | (with_reducible refine (unhide (HI1 _)).mono ?_) | (with_reducible refine (unhide (HI2 _)).mono ?_)); rintro e w3 ⟨rfl, hb⟩; replace BA := BA.below hb; replace BB := BB.below hb; replace BC := BC.below hb; obtain ⟨a0, a1, a2, fA⟩ := BA.cells; obtain ⟨b0, b1, b2, fB⟩ := BB.cells; obtain ⟨c0, c1, c2, fC⟩ := BC.cells; replace HBW := hide (Below.andThen (unhide HBW) hb); clear hb))
  all_goals
    generalize hW4 : w3.alloc _ = w4
    have hb4 : Below w3.heap.size w3 w4 := by rw [← hW4]; exact (Below.refl _ _).alloc (Nat.le_refl _) _
    have hcl : ∀ k : Nat, k < 6 → w4.cell? ⟨w3.heap.size, k, none⟩ = some (.bool (testB (5 + k) x)) := by
      intro k hk
      have hh : ∀ o, (w3.alloc o).heap[w3.heap.size]? = some o := fun o => by
        show (w3.heap.push _)[w3.heap.size]? = _
        simp
      rw [← hW4]
      simp only [World.cell?, hh]
      have hk6 : k = 0 ∨ k = 1 ∨ k = 2 ∨ k = 3 ∨ k = 4 ∨ k = 5 := by omega
      rcases hk6 with rfl | rfl | rfl | rfl | rfl | rfl
      · rw [testB_0]; first | rfl | (simp; done) | (simp; omega)
      · rw [testB_1]; first | rfl | (simp; done) | (simp; omega)
      · rw [testB_2]; first | rfl | (simp; done) | (simp; omega)
      · rw [testB_3]; first | rfl | (simp; done) | (simp; omega)
      · rw [testB_4]; first | rfl | (simp; done) | (simp; omega)
      · rw [testB_5]; first | rfl | (simp; done) | (simp; omega)
    have hlt : w3.heap.size < w4.heap.size := lt_of_cell (hcl 0 (by decide))
    replace BA := BA.below hb4
    replace BB := BB.below hb4
    replace BC := BC.below hb4
    obtain ⟨a0, a1, a2, fA⟩ := BA.cells
    obtain ⟨b0, b1, b2, fB⟩ := BB.cells
    obtain ⟨c0, c1, c2, fC⟩ := BC.cells
    replace HBW := hide (Below.andThen (unhide HBW) hb4)
    clear hb4
    clear a0 a1 a2 fA b0 b1 b2 fB c0 c1 c2 fC hW4
    have HCL := hide hcl
    have HLT := hide hlt
    clear hcl hlt HC1 HC2 HC3 HC4 HC5 HI1 HI2 m1 m2 m3 m4
    go_loopw [9] (fun i wr => ∃ k : Nat, k ≤ 6 ∧ i = .int .i64 k ∧ Blk3 wr w.heap.size 23 (.int .i64 ak) (.int .i64 an) (.string sA) ∧ Blk3 wr (w.heap.size + 1) 23 (.int .i64 bk) (.int .i64 bn) (.string sB) ∧ (∀ j : Nat, j < 6 → wr.cell? ⟨w3.heap.size, j, none⟩ = some (.bool (testB (5 + j) x))) ∧ Below w.heap.size w wr) (fun i _ => 6 - (intOf i).toNat)
    case atStart => exact ⟨0, by omega, rfl, BA, BB, unhide HCL, unhide HBW⟩
    case round =>
      obtain ⟨k, hk, rfl, RA, RB, hcl, hbw⟩ := hrel
      replace HBW := hide hbw
      have RCL := hide hcl
      have hlt := lt_of_cell (hcl 0 (by decide))
      clear hbw hcl BA BB BC HCL HLT
      by_cases hk6 : k < 6
      · obtain ⟨a0, a1, a2, fA⟩ := RA.cells
        obtain ⟨b0, b1, b2, fB⟩ := RB.cells
        have HTk := (unhide HT2) k hk6
        have hcb : testB (5 + (k : Int)) x = true ∨ testB (5 + (k : Int)) x = false := by cases testB (5 + (k : Int)) x <;> simp
        rcases hcb with hcb | hcb
        all_goals
          rw [hcb] at HTk
          go_wp2_with fail
          refine (unhide (HTk _)).mono ?_
          rintro e w5 ⟨v5, rfl, he5, hb⟩
          obtain rfl := he5.nil
          have hck : w5.cell? ⟨w3.heap.size, k, none⟩ = some (.bool (testB (5 + k) x)) := (hb.cell (p := ⟨_, _, none⟩) hlt).trans ((unhide RCL) k hk6)
          rw [hcb] at hck
          have RCL5 := hide (fun (j : Nat) (hj : j < 6) => (hb.cell (p := ⟨w3.heap.size, j, none⟩) hlt).trans ((unhide RCL) j hj))
          replace RA := RA.below hb
          replace RB := RB.below hb
          replace HBW := hide (Below.andThen (unhide HBW) hb)
          clear hb he5 a0 a1 a2 fA b0 b1 b2 fB
          go_wp2
          go_roundw
          case rel => exact ⟨k + 1, by omega, by go_num, RA, RB, unhide RCL5, unhide HBW⟩
          case measure => simp [intOf]; omega
      · go_wp2
        go_ret
        exact ⟨rfl, unhide HBW⟩
end Go.Proofs.YtpmjpbndpnmdlaaDoor

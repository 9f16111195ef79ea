/- consistorylaw6.ValueTells: the walk: true for every operator and every two values. -/
import Derived.Test.YtjcpmdbgjjmcdaaDoorKn6
import Derived.Deep.RegionHeld3
import Derived.Test.YtjcpmdbgjjmcdaaDoorTel3
import Derived.Test.YtjcpmdbgjjmcdaaDoorTel5
set_option linter.all false
namespace Go.Proofs.YtjcpmdbgjjmcdaaDoor
open Go.RowKit Go.Lib

theorem Class_any (v : Value) (n : Int) (w : World) (hg : OkW w) (h : IsErr w v n) : Calls Tryd.prog 14 #[v] w fun e w' => e = .returned (.int .i64 n) ∧ Below w.heap.size w w' := by
  rcases h with ⟨rfl, rfl⟩ | ⟨_, d, hE⟩
  · refine (Class_nil w).mono ?_
    rintro e w' ⟨rfl, rfl⟩
    exact ⟨rfl, Below.refl _ _⟩
  · exact Class_err d v n w hg hE
set_option maxRecDepth 100000 in
set_option maxHeartbeats 1000000 in
theorem tells_walk (op k n : Int) (s : ByteArray) (k' n' : Int) (s' : ByteArray) (w : World) (hg : OkW w) (hp : PrW w) (hs : s.size ≤ 9223372036854775807) (hs' : s'.size ≤ 9223372036854775807) (hn : In64 n) (hn' : In64 n') :
    Calls Tryd.prog 3 #[.int .i64 op, .agg #[.int .i64 k, .int .i64 n, .string s], .agg #[.int .i64 k', .int .i64 n', .string s']] w fun e w' => e = .returned (.bool true) ∧ Below w.heap.size w w' := by
  have HP := hide hp
  have hB0 : ∀ o o', Below w.heap.size w ((w.alloc o).alloc o') := fun o o' => ((Below.refl _ _).alloc (Nat.le_refl _) o).alloc (by simp) o'
  have HBW := hide (hB0 (.cells #[.int .i64 k, .int .i64 n, .string s] 23) (.cells #[.int .i64 k', .int .i64 n', .string s'] 23))
  clear hB0
  have BA := (Blk3.new w 23 (.int .i64 k) (.int .i64 n) (.string s)).alloc (.cells #[.int .i64 k', .int .i64 n', .string s'] 23)
  have BB := Blk3.new1 w (.cells #[.int .i64 k, .int .i64 n, .string s] 23) 23 (.int .i64 k') (.int .i64 n') (.string s')
  have HK := hide (known6 _ (hg.below (unhide HBW)))
  have HG := hide hg
  have hF : ∀ W : World, Calls Tryd.prog 5 #[.slice (some ⟨W.heap.size, 0, none⟩) 2 2, .int .i64 2] (W.alloc (.cells #[.int .i64 k, .int .i64 n, .string s, .int .i64 k', .int .i64 n', .string s'] 23)) fun e w' => e = .returned (.bool (fewB [⟨k, n, s⟩, ⟨k', n', s'⟩] 2)) ∧ (W.alloc (.cells #[.int .i64 k, .int .i64 n, .string s, .int .i64 k', .int .i64 n', .string s'] 23)) = w' := fun W =>
    help_Few _ 2 2 [⟨k, n, s⟩, ⟨k', n', s'⟩] 2 _ (by decide) (Reads.new W 23 3 2 (vcells [⟨k, n, s⟩, ⟨k', n', s'⟩]) rfl)
      (fun i v h => by
        match i, h with
        | 0, h => simp at h; subst h; exact hs
        | 1, h => simp at h; subst h; exact hs'
        | i + 2, h => simp at h)
  clear hg hp
  cases hw : fewB [⟨k, n, s⟩, ⟨k', n', s'⟩] 2 with
  | false =>
    rw [hw] at hF
    have HF := fun W => hide (hF W)
    clear hF hn hn' hw
    go_enter Tryd.func3, Tryd.ntmps3
    go_wp2_with fail
    refine (unhide HK).mono ?_
    rintro e w1 ⟨rfl, hb1⟩
    replace BA := BA.below hb1
    replace BB := BB.below hb1
    obtain ⟨a0, a1, a2, fA⟩ := BA.cells
    obtain ⟨b0, b1, b2, fB⟩ := BB.cells
    replace HBW := hide (Below.andThen (unhide HBW) hb1)
    clear hb1
    go_wp2_with fail
    refine (unhide (HF _)).mono ?_
    rintro e w2 ⟨rfl, rfl⟩
    go_wp2
    go_ret
    exact ⟨rfl, (unhide HBW).alloc (unhide HBW).size _⟩
  | true =>
    rw [hw] at hF
    have HF := fun W => hide (hF W)
    have hsz : s.size ≤ 100 ∧ s'.size ≤ 100 := by simp [fewB] at hw; exact hw
    have HI1 := fun W => hide (value_Is k n s W hs)
    have HI2 := fun W => hide (ref1_Is k n s W hs)
    have HC1 := fun W => hide (value_Compare k n s k' n' s' W hs hs')
    have HC2 := fun W => hide (ref6_Compare k n s k' n' s' W hs hs')
    have HP1 := fun W (h : Below w.heap.size w W) => hide (value_Print k n s W hs hn ((unhide HP).below h))
    have HP2 := fun W => hide (ref6_Print k n s W hs hn)
    have HT1 := fun W => hide (value_Test op k n s k' n' s' W hs hs')
    have HT2 := fun W => hide (ref6_Test op k n s k' n' s' W hs hs')
    have HD1 := fun W => hide (value_Do op k n s k' n' s' W (by omega) (by omega) hn hn')
    have HD2 := fun W => hide (ref6_Do op k n s k' n' s' W (by omega) (by omega) hn hn')
    clear hF hn hn' hw hs hs' HP hsz
    generalize mayB k n s = m1 at *
    generalize compareV k n s k' n' s' = cv at *
    generalize printS k n s = ps at *
    generalize testR op k n s k' n' s' = tr at *
    generalize doR op k n s k' n' s' = dr at *
    obtain ⟨t1, t2⟩ := tr
    obtain ⟨d1, d2, d3, d4⟩ := dr
    go_enter Tryd.func3, Tryd.ntmps3
    go_wp2_with fail
    refine (unhide HK).mono ?_
    rintro e w1 ⟨rfl, hb1⟩
    replace BA := BA.below hb1
    replace BB := BB.below hb1
    obtain ⟨a0, a1, a2, fA⟩ := BA.cells
    obtain ⟨b0, b1, b2, fB⟩ := BB.cells
    replace HBW := hide (Below.andThen (unhide HBW) hb1)
    clear hb1
    go_wp2_with fail
    refine (unhide (HF _)).mono ?_
    rintro e w2 ⟨rfl, rfl⟩
    have hal : Below w1.heap.size w1 (w1.alloc (.cells #[.int .i64 k, .int .i64 n, .string s, .int .i64 k', .int .i64 n', .string s'] 23)) := (Below.refl _ _).alloc (Nat.le_refl _) _
    replace BA := BA.below hal
    replace BB := BB.below hal
    obtain ⟨a0, a1, a2, fA⟩ := BA.cells
    obtain ⟨b0, b1, b2, fB⟩ := BB.cells
    replace HBW := hide (Below.andThen (unhide HBW) hal)
    clear hal
    generalize w1.alloc _ = w2 at *
    clear HK HF
    have KS : Hid (∀ (X : World → Prop), (∀ W W', X W → Below W.heap.size W W' → X W') → ∀ W W', (W.cell? ⟨w.heap.size, 0, none⟩ = some (.int .i64 k) ∧ W.cell? ⟨w.heap.size, 1, none⟩ = some (.int .i64 n) ∧ W.cell? ⟨w.heap.size, 2, none⟩ = some (.string s) ∧ W.cell? ⟨w.heap.size + 1, 0, none⟩ = some (.int .i64 k') ∧ W.cell? ⟨w.heap.size + 1, 1, none⟩ = some (.int .i64 n') ∧ W.cell? ⟨w.heap.size + 1, 2, none⟩ = some (.string s') ∧ Hid (X W)) → Below W.heap.size W W' → (W'.cell? ⟨w.heap.size, 0, none⟩ = some (.int .i64 k) ∧ W'.cell? ⟨w.heap.size, 1, none⟩ = some (.int .i64 n) ∧ W'.cell? ⟨w.heap.size, 2, none⟩ = some (.string s) ∧ W'.cell? ⟨w.heap.size + 1, 0, none⟩ = some (.int .i64 k') ∧ W'.cell? ⟨w.heap.size + 1, 1, none⟩ = some (.int .i64 n') ∧ W'.cell? ⟨w.heap.size + 1, 2, none⟩ = some (.string s') ∧ Hid (X W'))) := fun X hX W W' h hb =>
      ⟨(hb.cell (p := ⟨_, _, none⟩) (lt_of_cell h.1)).trans h.1, (hb.cell (p := ⟨_, _, none⟩) (lt_of_cell h.2.1)).trans h.2.1, (hb.cell (p := ⟨_, _, none⟩) (lt_of_cell h.2.2.1)).trans h.2.2.1, (hb.cell (p := ⟨_, _, none⟩) (lt_of_cell h.2.2.2.1)).trans h.2.2.2.1, (hb.cell (p := ⟨_, _, none⟩) (lt_of_cell h.2.2.2.2.1)).trans h.2.2.2.2.1, (hb.cell (p := ⟨_, _, none⟩) (lt_of_cell h.2.2.2.2.2.1)).trans h.2.2.2.2.2.1, hX W W' h.2.2.2.2.2.2 hb⟩
    have X0 : Hid (∀ W W', Below w.heap.size w W → Below W.heap.size W W' → Below w.heap.size w W') := fun W W' h hb => Below.andThen h hb
    go_wp2_with fail
    go_region_held3 (fun w' => w'.cell? ⟨w.heap.size, 0, none⟩ = some (.int .i64 k) ∧ w'.cell? ⟨w.heap.size, 1, none⟩ = some (.int .i64 n) ∧ w'.cell? ⟨w.heap.size, 2, none⟩ = some (.string s) ∧ w'.cell? ⟨w.heap.size + 1, 0, none⟩ = some (.int .i64 k') ∧ w'.cell? ⟨w.heap.size + 1, 1, none⟩ = some (.int .i64 n') ∧ w'.cell? ⟨w.heap.size + 1, 2, none⟩ = some (.string s') ∧ Hid (Below w.heap.size w w'))
      (first | exact ⟨a0, a1, a2, b0, b1, b2, hide (unhide HBW).drew⟩ | exact (unhide KS) _ (unhide X0) _ _ (by assumption) hb9)
      (first | (go_at_call 6; refine (unhide (HI1 _)).mono ?_; rintro e w9 ⟨rfl, hb9⟩) | (go_at_call 7; refine (unhide (HI2 _)).mono ?_; rintro e w9 ⟨rfl, hb9⟩) | (go_at_call 8; refine (unhide (HC1 _)).mono ?_; rintro e w9 ⟨rfl, hb9⟩) | (go_at_call 9; refine (unhide (HC2 _)).mono ?_; rintro e w9 ⟨rfl, hb9⟩) | (go_at_call 10; refine (unhide (HP1 _ (by obtain ⟨_, _, _, _, _, _, hq⟩ := ‹_ ∧ _ ∧ _ ∧ _ ∧ _ ∧ _ ∧ Hid _›; exact unhide hq))).mono ?_; rintro e w9 ⟨rfl, hb9⟩) | (go_at_call 11; refine (unhide (HP2 _)).mono ?_; rintro e w9 ⟨rfl, hb9⟩))
    obtain ⟨a0, a1, a2, b0, b1, b2, hbw⟩ := ‹_ ∧ _ ∧ _ ∧ _ ∧ _ ∧ _ ∧ Hid _›
    replace HBW := hbw
    clear HI1 HI2 HC1 HC2 HP1 HP2 hb9
    go_wp2_with fail
    refine (unhide (HT1 _)).mono ?_
    rintro e wa ⟨va, rfl, hea, hba⟩
    obtain ⟨a0, a1, a2, b0, b1, b2, hbw⟩ := (unhide KS) _ (unhide X0) _ _ ⟨a0, a1, a2, b0, b1, b2, HBW⟩ hba
    replace HBW := hbw
    have HEa := hide hea
    clear hba hea HT1
    go_wp2_with fail
    refine (unhide (HT2 _)).mono ?_
    rintro e wb ⟨rfl, hbb⟩
    obtain ⟨a0, a1, a2, b0, b1, b2, hbw⟩ := (unhide KS) _ (unhide X0) _ _ ⟨a0, a1, a2, b0, b1, b2, HBW⟩ hbb
    replace HBW := hbw
    replace HEa := hide ((unhide HEa).below hbb)
    clear hbb HT2
    go_wp2_with fail
    have HCa := hide (Class_any va t2 wb ((unhide HG).below (unhide HBW)) (unhide HEa))
    refine (unhide HCa).mono ?_
    rintro e wc ⟨rfl, hbc⟩
    obtain ⟨a0, a1, a2, b0, b1, b2, hbw⟩ := (unhide KS) _ (unhide X0) _ _ ⟨a0, a1, a2, b0, b1, b2, HBW⟩ hbc
    replace HBW := hbw
    clear hbc HCa HEa
    go_wp2_with fail
    refine (unhide (HD1 _)).mono ?_
    rintro e wd ⟨vd, rfl, hed, hbd⟩
    obtain ⟨a0, a1, a2, b0, b1, b2, hbw⟩ := (unhide KS) _ (unhide X0) _ _ ⟨a0, a1, a2, b0, b1, b2, HBW⟩ hbd
    replace HBW := hbw
    have BV := Blk3.new wd 23 (.int .i64 d1) (.int .i64 d2) (.string d3)
    have hal : Below wd.heap.size wd (wd.alloc (.cells #[.int .i64 d1, .int .i64 d2, .string d3] 23)) := (Below.refl _ _).alloc (Nat.le_refl _) _
    obtain ⟨a0, a1, a2, b0, b1, b2, hbw⟩ := (unhide KS) _ (unhide X0) _ _ ⟨a0, a1, a2, b0, b1, b2, HBW⟩ hal
    replace HBW := hbw
    obtain ⟨c0, c1, c2, fC⟩ := BV.cells
    have HEd := hide (hed.below hal)
    clear hbd hed HD1 hal
    go_wp2_with fail
    refine (unhide (HD2 _)).mono ?_
    rintro e we ⟨rfl, hbe⟩
    have hal : Below we.heap.size we (we.alloc (.cells #[.int .i64 d1, .int .i64 d2, .string d3] 23)) := (Below.refl _ _).alloc (Nat.le_refl _) _
    replace BV := (BV.below hbe).below hal
    obtain ⟨c0, c1, c2, fC⟩ := BV.cells
    have BU := Blk3.new we 23 (.int .i64 d1) (.int .i64 d2) (.string d3)
    obtain ⟨e0, e1, e2, fE⟩ := BU.cells
    obtain ⟨a0, a1, a2, b0, b1, b2, hbw⟩ := (unhide KS) _ (unhide X0) _ _ ⟨a0, a1, a2, b0, b1, b2, HBW⟩ hbe
    replace HBW := hbw
    obtain ⟨a0, a1, a2, b0, b1, b2, hbw⟩ := (unhide KS) _ (unhide X0) _ _ ⟨a0, a1, a2, b0, b1, b2, HBW⟩ hal
    replace HBW := hbw
    replace HEd := hide (((unhide HEd).below hbe).below hal)
    clear hbe HD2 hal a0 a1 a2 b0 b1 b2
    go_wp2_with fail
    have HCd := hide (Class_any vd d4 _ ((unhide HG).below (unhide HBW)) (unhide HEd))
    refine (unhide HCd).mono ?_
    rintro e wf ⟨rfl, hbf⟩
    go_wp2
    go_ret
    exact ⟨rfl, Below.andThen (unhide HBW) hbf⟩
end Go.Proofs.YtjcpmdbgjjmcdaaDoor

/- slices.EqualFunc, slices.Equal: contracts. -/
import Derived.Test.YtddedijencleeaaGreatDoorGs
set_option linter.all false
namespace Go.Proofs.YtddedijencleeaaGreatDoor
open Go.RowKit Go.Lib

theorem eqN_no {n m : Nat} {r : Nat → Bool} (h : n ≠ m) : eqN n m r = false := by simp [eqN, h]
theorem eqN_at {n i : Nat} {r : Nat → Bool} (hi : i < n) (h : r i = false) : eqN n n r = false := by simp [eqN, allN_false hi h]
theorem eqN_yes {n : Nat} {r : Nat → Bool} (h : ∀ i, i < n → r i = true) : eqN n n r = true := by
  have := allN_true.2 h
  simp [eqN, this]
def z_Expr : List Value := [.int .i64 0, .int .i64 0, .int .i64 0, .int .i64 0, .string ⟨#[]⟩, .string ⟨#[]⟩, .string ⟨#[]⟩, .slice none 0 0, .int .i64 0, .int .i64 0]
def z_Key : List Value := [.string ⟨#[]⟩, .slice none 0 0, .bool false, .bool false]
def z_Column : List Value := [.string ⟨#[]⟩, .int .i64 0, .bool false]
def z_Set : List Value := .string ⟨#[]⟩ :: z_Expr
def z_Item : List Value := .bool false :: (z_Expr ++ [.string ⟨#[]⟩])
def z_Source : List Value := .string ⟨#[]⟩ :: .string ⟨#[]⟩ :: .bool false :: z_Expr
def z_Order : List Value := z_Expr ++ [.bool false]
theorem siz_Expr : (Tryz.prog.info? 34).map (·.size) = some 10 := by kernel_rfl
set_option maxHeartbeats 1000000 in
set_option maxRecDepth 100000 in
theorem equalF_Expr {W : World} {n m : Nat} {v u : Value} {P Q : Nat → List Value → Prop} {q : Nat → Bool} {g : Nat} (he : ∀ args w, (callFunc g args).run Tryz.prog w = .ok (.enter g args) w) (hv : SlF W 10 120 n v P) (hu : SlF W 10 120 m u Q)
    (hf : ∀ W', Below W.heap.size W W' → ∀ i cs ds, i < n → i < m → P i cs → Q i ds → Calls Tryz.prog g #[.agg cs.toArray, .agg ds.toArray] W' fun e W2 => e = .returned (.bool (q i)) ∧ Below W'.heap.size W' W2) :
    Calls Tryz.prog 83 #[v, u, .func (Fn.func g) #[] #[]] W fun e W' => e = .returned (.bool (eqN n m q)) ∧ Below W.heap.size W W' := by
  obtain ⟨A, c, rfl, hnc, hc, hby, hA⟩ := hv
  obtain ⟨A', c', rfl, hmc, hc', hby', hA'⟩ := hu
  have HA := hide hA
  have HA' := hide hA'
  have HF := hide hf
  have hn : n ≤ 9223372036854775807 := by omega
  have hm : m ≤ 9223372036854775807 := by omega
  clear hA hA' hf hnc hc hby hmc hc' hby'
  by_cases hnm : n = m
  · subst hnm
    go_enter Tryz.func83, Tryz.ntmps83
    go_wp2
    go_loopw [7, 8, 9, 17] (fun _ _ _ i wr => ∃ k : Nat, k ≤ n ∧ i = .int .i64 k ∧ Hid ((∀ j, j < k → q j = true) ∧ Below W.heap.size W wr)) (fun _ _ _ i _ => n - (RowKit.intOf i).toNat)
    case atStart => exact ⟨0, Nat.zero_le _, rfl, hide ⟨fun j hj => by omega, Below.refl _ _⟩⟩
    case round =>
      obtain ⟨k, hk, rfl, HBW⟩ := hrel
      by_cases hlt : k < n
      · obtain ⟨b, o, rfl, hb, hcs⟩ := (unhide HA) (by omega)
        obtain ⟨cs, hl, hone, hP, hr⟩ := hcs k hlt
        obtain ⟨b', o', rfl, hb', hds⟩ := (unhide HA') (by omega)
        obtain ⟨ds, hl', hone', hQ, hr'⟩ := hds k hlt
        have R := hide (rangeAt_below hr (unhide HBW).2)
        have R' := hide (rangeAt_below hr' (unhide HBW).2)
        have BX := hide (boxed wr z_Expr cs 34 (by rw [hl]; rfl))
        have HTH : Hid ((wr.alloc (.cells z_Expr.toArray 34)).there wr.heap.size 0 10) := hide (SB.new wr z_Expr 34).there
        have HC := hide fun wr' hb => hide ((unhide HF) wr' hb k cs ds hlt hlt hP hQ)
        clear hcs hds hr hr' hb hb' hP hQ
        generalize hq : q k = qk at HC
        have HQ := hide hq
        clear hq
        go_upto_region 6 with (first
          | (refine wpList_load_mid rfl 34 _ rfl _ _ rfl cs _ (unhide R) Tryz.underlying34 rfl (by rw [hl]; exact siz_Expr) ?_)
          | (refine wpList_store_mid rfl 34 _ _ rfl wr.heap.size 0 cs.toArray rfl rfl (by rw [show cs.toArray.size = 10 from hl]; exact unhide HTH) (by rw [show cs.toArray.size = 10 from hl]; exact siz_Expr) hone ?_))
        generalize hD : World.setCells _ _ _ _ = D
        replace BX : Hid (SB D wr.heap.size cs ∧ Below wr.heap.size wr D ∧ D.heap.size = wr.heap.size + 1) := by rw [← hD]; exact BX
        clear hD HTH R
        replace R' := hide (rangeAt_below (unhide R') (unhide BX).2.1)
        have BY := hide (boxed D z_Expr ds 34 (by rw [hl']; rfl))
        have HTH : Hid ((D.alloc (.cells z_Expr.toArray 34)).there D.heap.size 0 10) := hide (SB.new D z_Expr 34).there
        go_upto_region 7 with (first
          | (refine wpList_load_mid rfl 34 _ rfl _ _ rfl ds _ (unhide R') Tryz.underlying34 rfl (by rw [hl']; exact siz_Expr) ?_)
          | (refine wpList_store_mid rfl 34 _ _ rfl D.heap.size 0 ds.toArray rfl rfl (by rw [show ds.toArray.size = 10 from hl']; exact unhide HTH) (by rw [show ds.toArray.size = 10 from hl']; exact siz_Expr) hone' ?_))
        generalize hD : World.setCells _ _ _ _ = D2
        replace BY : Hid (SB D2 D.heap.size ds ∧ Below D.heap.size D D2 ∧ D2.heap.size = D.heap.size + 1) := by rw [← hD]; exact BY
        clear hD HTH R'
        have HX := hide ((unhide BX).1.below (unhide BY).2.1)
        have HBD := hide (Below.andThen (unhide BX).2.1 (unhide BY).2.1)
        replace HC := unhide HC D2 (Below.andThen (unhide HBW).2 (unhide HBD))
        go_wp2_with (first
          | (refine wpList_load_mid rfl 34 _ rfl wr.heap.size _ rfl cs _ (unhide HX).at_ Tryz.underlying34 rfl (by rw [hl]; exact siz_Expr) ?_)
          | (refine wpList_load_mid rfl 34 _ rfl D.heap.size _ rfl ds _ (unhide BY).1.at_ Tryz.underlying34 rfl (by rw [hl']; exact siz_Expr) ?_))
        refine (unhide HC).mono ?_
        rintro e w2 ⟨rfl, hb2⟩
        have HB2 := hide (Below.andThen (Below.andThen (unhide HBW).2 (unhide HBD)) hb2)
        clear hb2 HX BX BY HBD HC
        cases qk with
        | false =>
          go_wp2
          go_ret
          exact ⟨by rw [eqN_at hlt (unhide HQ)]; rfl, unhide HB2⟩
        | true =>
          go_wp2
          go_roundw
          case rel => exact ⟨k + 1, by omega, by go_num, hide ⟨fun j hj => by rcases Nat.lt_succ_iff_lt_or_eq.1 hj with h | h; exact (unhide HBW).1 j h; rw [h]; exact unhide HQ, unhide HB2⟩⟩
          case measure => simp [RowKit.intOf]; omega
      · go_wp2
        go_ret
        have : k = n := by omega
        subst this
        exact ⟨by rw [eqN_yes (unhide HBW).1]; rfl, (unhide HBW).2⟩
  · go_enter Tryz.func83, Tryz.ntmps83
    go_wp2
    go_ret
    exact ⟨by rw [eqN_no hnm]; rfl, Below.refl _ _⟩
theorem siz_Key : (Tryz.prog.info? 59).map (·.size) = some 4 := by kernel_rfl
set_option maxHeartbeats 1000000 in
set_option maxRecDepth 100000 in
theorem equalF_Key {W : World} {n m : Nat} {v u : Value} {P Q : Nat → List Value → Prop} {q : Nat → Bool} {g : Nat} (he : ∀ args w, (callFunc g args).run Tryz.prog w = .ok (.enter g args) w) (hv : SlF W 4 48 n v P) (hu : SlF W 4 48 m u Q)
    (hf : ∀ W', Below W.heap.size W W' → ∀ i cs ds, i < n → i < m → P i cs → Q i ds → Calls Tryz.prog g #[.agg cs.toArray, .agg ds.toArray] W' fun e W2 => e = .returned (.bool (q i)) ∧ Below W'.heap.size W' W2) :
    Calls Tryz.prog 150 #[v, u, .func (Fn.func g) #[] #[]] W fun e W' => e = .returned (.bool (eqN n m q)) ∧ Below W.heap.size W W' := by
  obtain ⟨A, c, rfl, hnc, hc, hby, hA⟩ := hv
  obtain ⟨A', c', rfl, hmc, hc', hby', hA'⟩ := hu
  have HA := hide hA
  have HA' := hide hA'
  have HF := hide hf
  have hn : n ≤ 9223372036854775807 := by omega
  have hm : m ≤ 9223372036854775807 := by omega
  clear hA hA' hf hnc hc hby hmc hc' hby'
  by_cases hnm : n = m
  · subst hnm
    go_enter Tryz.func150, Tryz.ntmps150
    go_wp2
    go_loopw [7, 8, 9, 17] (fun _ _ _ i wr => ∃ k : Nat, k ≤ n ∧ i = .int .i64 k ∧ Hid ((∀ j, j < k → q j = true) ∧ Below W.heap.size W wr)) (fun _ _ _ i _ => n - (RowKit.intOf i).toNat)
    case atStart => exact ⟨0, Nat.zero_le _, rfl, hide ⟨fun j hj => by omega, Below.refl _ _⟩⟩
    case round =>
      obtain ⟨k, hk, rfl, HBW⟩ := hrel
      by_cases hlt : k < n
      · obtain ⟨b, o, rfl, hb, hcs⟩ := (unhide HA) (by omega)
        obtain ⟨cs, hl, hone, hP, hr⟩ := hcs k hlt
        obtain ⟨b', o', rfl, hb', hds⟩ := (unhide HA') (by omega)
        obtain ⟨ds, hl', hone', hQ, hr'⟩ := hds k hlt
        have R := hide (rangeAt_below hr (unhide HBW).2)
        have R' := hide (rangeAt_below hr' (unhide HBW).2)
        have BX := hide (boxed wr z_Key cs 59 (by rw [hl]; rfl))
        have HTH : Hid ((wr.alloc (.cells z_Key.toArray 59)).there wr.heap.size 0 4) := hide (SB.new wr z_Key 59).there
        have HC := hide fun wr' hb => hide ((unhide HF) wr' hb k cs ds hlt hlt hP hQ)
        clear hcs hds hr hr' hb hb' hP hQ
        generalize hq : q k = qk at HC
        have HQ := hide hq
        clear hq
        go_upto_region 6 with (first
          | (refine wpList_load_mid rfl 59 _ rfl _ _ rfl cs _ (unhide R) Tryz.underlying59 rfl (by rw [hl]; exact siz_Key) ?_)
          | (refine wpList_store_mid rfl 59 _ _ rfl wr.heap.size 0 cs.toArray rfl rfl (by rw [show cs.toArray.size = 4 from hl]; exact unhide HTH) (by rw [show cs.toArray.size = 4 from hl]; exact siz_Key) hone ?_))
        generalize hD : World.setCells _ _ _ _ = D
        replace BX : Hid (SB D wr.heap.size cs ∧ Below wr.heap.size wr D ∧ D.heap.size = wr.heap.size + 1) := by rw [← hD]; exact BX
        clear hD HTH R
        replace R' := hide (rangeAt_below (unhide R') (unhide BX).2.1)
        have BY := hide (boxed D z_Key ds 59 (by rw [hl']; rfl))
        have HTH : Hid ((D.alloc (.cells z_Key.toArray 59)).there D.heap.size 0 4) := hide (SB.new D z_Key 59).there
        go_upto_region 7 with (first
          | (refine wpList_load_mid rfl 59 _ rfl _ _ rfl ds _ (unhide R') Tryz.underlying59 rfl (by rw [hl']; exact siz_Key) ?_)
          | (refine wpList_store_mid rfl 59 _ _ rfl D.heap.size 0 ds.toArray rfl rfl (by rw [show ds.toArray.size = 4 from hl']; exact unhide HTH) (by rw [show ds.toArray.size = 4 from hl']; exact siz_Key) hone' ?_))
        generalize hD : World.setCells _ _ _ _ = D2
        replace BY : Hid (SB D2 D.heap.size ds ∧ Below D.heap.size D D2 ∧ D2.heap.size = D.heap.size + 1) := by rw [← hD]; exact BY
        clear hD HTH R'
        have HX := hide ((unhide BX).1.below (unhide BY).2.1)
        have HBD := hide (Below.andThen (unhide BX).2.1 (unhide BY).2.1)
        replace HC := unhide HC D2 (Below.andThen (unhide HBW).2 (unhide HBD))
        go_wp2_with (first
          | (refine wpList_load_mid rfl 59 _ rfl wr.heap.size _ rfl cs _ (unhide HX).at_ Tryz.underlying59 rfl (by rw [hl]; exact siz_Key) ?_)
          | (refine wpList_load_mid rfl 59 _ rfl D.heap.size _ rfl ds _ (unhide BY).1.at_ Tryz.underlying59 rfl (by rw [hl']; exact siz_Key) ?_))
        refine (unhide HC).mono ?_
        rintro e w2 ⟨rfl, hb2⟩
        have HB2 := hide (Below.andThen (Below.andThen (unhide HBW).2 (unhide HBD)) hb2)
        clear hb2 HX BX BY HBD HC
        cases qk with
        | false =>
          go_wp2
          go_ret
          exact ⟨by rw [eqN_at hlt (unhide HQ)]; rfl, unhide HB2⟩
        | true =>
          go_wp2
          go_roundw
          case rel => exact ⟨k + 1, by omega, by go_num, hide ⟨fun j hj => by rcases Nat.lt_succ_iff_lt_or_eq.1 hj with h | h; exact (unhide HBW).1 j h; rw [h]; exact unhide HQ, unhide HB2⟩⟩
          case measure => simp [RowKit.intOf]; omega
      · go_wp2
        go_ret
        have : k = n := by omega
        subst this
        exact ⟨by rw [eqN_yes (unhide HBW).1]; rfl, (unhide HBW).2⟩
  · go_enter Tryz.func150, Tryz.ntmps150
    go_wp2
    go_ret
    exact ⟨by rw [eqN_no hnm]; rfl, Below.refl _ _⟩
theorem siz_Set : (Tryz.prog.info? 61).map (·.size) = some 11 := by kernel_rfl
set_option maxHeartbeats 1000000 in
set_option maxRecDepth 100000 in
theorem equalF_Set {W : World} {n m : Nat} {v u : Value} {P Q : Nat → List Value → Prop} {q : Nat → Bool} {g : Nat} (he : ∀ args w, (callFunc g args).run Tryz.prog w = .ok (.enter g args) w) (hv : SlF W 11 136 n v P) (hu : SlF W 11 136 m u Q)
    (hf : ∀ W', Below W.heap.size W W' → ∀ i cs ds, i < n → i < m → P i cs → Q i ds → Calls Tryz.prog g #[.agg cs.toArray, .agg ds.toArray] W' fun e W2 => e = .returned (.bool (q i)) ∧ Below W'.heap.size W' W2) :
    Calls Tryz.prog 85 #[v, u, .func (Fn.func g) #[] #[]] W fun e W' => e = .returned (.bool (eqN n m q)) ∧ Below W.heap.size W W' := by
  obtain ⟨A, c, rfl, hnc, hc, hby, hA⟩ := hv
  obtain ⟨A', c', rfl, hmc, hc', hby', hA'⟩ := hu
  have HA := hide hA
  have HA' := hide hA'
  have HF := hide hf
  have hn : n ≤ 9223372036854775807 := by omega
  have hm : m ≤ 9223372036854775807 := by omega
  clear hA hA' hf hnc hc hby hmc hc' hby'
  by_cases hnm : n = m
  · subst hnm
    go_enter Tryz.func85, Tryz.ntmps85
    go_wp2
    go_loopw [7, 8, 9, 17] (fun _ _ _ i wr => ∃ k : Nat, k ≤ n ∧ i = .int .i64 k ∧ Hid ((∀ j, j < k → q j = true) ∧ Below W.heap.size W wr)) (fun _ _ _ i _ => n - (RowKit.intOf i).toNat)
    case atStart => exact ⟨0, Nat.zero_le _, rfl, hide ⟨fun j hj => by omega, Below.refl _ _⟩⟩
    case round =>
      obtain ⟨k, hk, rfl, HBW⟩ := hrel
      by_cases hlt : k < n
      · obtain ⟨b, o, rfl, hb, hcs⟩ := (unhide HA) (by omega)
        obtain ⟨cs, hl, hone, hP, hr⟩ := hcs k hlt
        obtain ⟨b', o', rfl, hb', hds⟩ := (unhide HA') (by omega)
        obtain ⟨ds, hl', hone', hQ, hr'⟩ := hds k hlt
        have R := hide (rangeAt_below hr (unhide HBW).2)
        have R' := hide (rangeAt_below hr' (unhide HBW).2)
        have BX := hide (boxed wr z_Set cs 61 (by rw [hl]; rfl))
        have HTH : Hid ((wr.alloc (.cells z_Set.toArray 61)).there wr.heap.size 0 11) := hide (SB.new wr z_Set 61).there
        have HC := hide fun wr' hb => hide ((unhide HF) wr' hb k cs ds hlt hlt hP hQ)
        clear hcs hds hr hr' hb hb' hP hQ
        generalize hq : q k = qk at HC
        have HQ := hide hq
        clear hq
        go_upto_region 6 with (first
          | (refine wpList_load_mid rfl 61 _ rfl _ _ rfl cs _ (unhide R) Tryz.underlying61 rfl (by rw [hl]; exact siz_Set) ?_)
          | (refine wpList_store_mid rfl 61 _ _ rfl wr.heap.size 0 cs.toArray rfl rfl (by rw [show cs.toArray.size = 11 from hl]; exact unhide HTH) (by rw [show cs.toArray.size = 11 from hl]; exact siz_Set) hone ?_))
        generalize hD : World.setCells _ _ _ _ = D
        replace BX : Hid (SB D wr.heap.size cs ∧ Below wr.heap.size wr D ∧ D.heap.size = wr.heap.size + 1) := by rw [← hD]; exact BX
        clear hD HTH R
        replace R' := hide (rangeAt_below (unhide R') (unhide BX).2.1)
        have BY := hide (boxed D z_Set ds 61 (by rw [hl']; rfl))
        have HTH : Hid ((D.alloc (.cells z_Set.toArray 61)).there D.heap.size 0 11) := hide (SB.new D z_Set 61).there
        go_upto_region 7 with (first
          | (refine wpList_load_mid rfl 61 _ rfl _ _ rfl ds _ (unhide R') Tryz.underlying61 rfl (by rw [hl']; exact siz_Set) ?_)
          | (refine wpList_store_mid rfl 61 _ _ rfl D.heap.size 0 ds.toArray rfl rfl (by rw [show ds.toArray.size = 11 from hl']; exact unhide HTH) (by rw [show ds.toArray.size = 11 from hl']; exact siz_Set) hone' ?_))
        generalize hD : World.setCells _ _ _ _ = D2
        replace BY : Hid (SB D2 D.heap.size ds ∧ Below D.heap.size D D2 ∧ D2.heap.size = D.heap.size + 1) := by rw [← hD]; exact BY
        clear hD HTH R'
        have HX := hide ((unhide BX).1.below (unhide BY).2.1)
        have HBD := hide (Below.andThen (unhide BX).2.1 (unhide BY).2.1)
        replace HC := unhide HC D2 (Below.andThen (unhide HBW).2 (unhide HBD))
        go_wp2_with (first
          | (refine wpList_load_mid rfl 61 _ rfl wr.heap.size _ rfl cs _ (unhide HX).at_ Tryz.underlying61 rfl (by rw [hl]; exact siz_Set) ?_)
          | (refine wpList_load_mid rfl 61 _ rfl D.heap.size _ rfl ds _ (unhide BY).1.at_ Tryz.underlying61 rfl (by rw [hl']; exact siz_Set) ?_))
        refine (unhide HC).mono ?_
        rintro e w2 ⟨rfl, hb2⟩
        have HB2 := hide (Below.andThen (Below.andThen (unhide HBW).2 (unhide HBD)) hb2)
        clear hb2 HX BX BY HBD HC
        cases qk with
        | false =>
          go_wp2
          go_ret
          exact ⟨by rw [eqN_at hlt (unhide HQ)]; rfl, unhide HB2⟩
        | true =>
          go_wp2
          go_roundw
          case rel => exact ⟨k + 1, by omega, by go_num, hide ⟨fun j hj => by rcases Nat.lt_succ_iff_lt_or_eq.1 hj with h | h; exact (unhide HBW).1 j h; rw [h]; exact unhide HQ, unhide HB2⟩⟩
          case measure => simp [RowKit.intOf]; omega
      · go_wp2
        go_ret
        have : k = n := by omega
        subst this
        exact ⟨by rw [eqN_yes (unhide HBW).1]; rfl, (unhide HBW).2⟩
  · go_enter Tryz.func85, Tryz.ntmps85
    go_wp2
    go_ret
    exact ⟨by rw [eqN_no hnm]; rfl, Below.refl _ _⟩
theorem siz_Item : (Tryz.prog.info? 63).map (·.size) = some 12 := by kernel_rfl
set_option maxHeartbeats 1000000 in
set_option maxRecDepth 100000 in
theorem equalF_Item {W : World} {n m : Nat} {v u : Value} {P Q : Nat → List Value → Prop} {q : Nat → Bool} {g : Nat} (he : ∀ args w, (callFunc g args).run Tryz.prog w = .ok (.enter g args) w) (hv : SlF W 12 144 n v P) (hu : SlF W 12 144 m u Q)
    (hf : ∀ W', Below W.heap.size W W' → ∀ i cs ds, i < n → i < m → P i cs → Q i ds → Calls Tryz.prog g #[.agg cs.toArray, .agg ds.toArray] W' fun e W2 => e = .returned (.bool (q i)) ∧ Below W'.heap.size W' W2) :
    Calls Tryz.prog 87 #[v, u, .func (Fn.func g) #[] #[]] W fun e W' => e = .returned (.bool (eqN n m q)) ∧ Below W.heap.size W W' := by
  obtain ⟨A, c, rfl, hnc, hc, hby, hA⟩ := hv
  obtain ⟨A', c', rfl, hmc, hc', hby', hA'⟩ := hu
  have HA := hide hA
  have HA' := hide hA'
  have HF := hide hf
  have hn : n ≤ 9223372036854775807 := by omega
  have hm : m ≤ 9223372036854775807 := by omega
  clear hA hA' hf hnc hc hby hmc hc' hby'
  by_cases hnm : n = m
  · subst hnm
    go_enter Tryz.func87, Tryz.ntmps87
    go_wp2
    go_loopw [7, 8, 9, 17] (fun _ _ _ i wr => ∃ k : Nat, k ≤ n ∧ i = .int .i64 k ∧ Hid ((∀ j, j < k → q j = true) ∧ Below W.heap.size W wr)) (fun _ _ _ i _ => n - (RowKit.intOf i).toNat)
    case atStart => exact ⟨0, Nat.zero_le _, rfl, hide ⟨fun j hj => by omega, Below.refl _ _⟩⟩
    case round =>
      obtain ⟨k, hk, rfl, HBW⟩ := hrel
      by_cases hlt : k < n
      · obtain ⟨b, o, rfl, hb, hcs⟩ := (unhide HA) (by omega)
        obtain ⟨cs, hl, hone, hP, hr⟩ := hcs k hlt
        obtain ⟨b', o', rfl, hb', hds⟩ := (unhide HA') (by omega)
        obtain ⟨ds, hl', hone', hQ, hr'⟩ := hds k hlt
        have R := hide (rangeAt_below hr (unhide HBW).2)
        have R' := hide (rangeAt_below hr' (unhide HBW).2)
        have BX := hide (boxed wr z_Item cs 63 (by rw [hl]; rfl))
        have HTH : Hid ((wr.alloc (.cells z_Item.toArray 63)).there wr.heap.size 0 12) := hide (SB.new wr z_Item 63).there
        have HC := hide fun wr' hb => hide ((unhide HF) wr' hb k cs ds hlt hlt hP hQ)
        clear hcs hds hr hr' hb hb' hP hQ
        generalize hq : q k = qk at HC
        have HQ := hide hq
        clear hq
        go_upto_region 6 with (first
          | (refine wpList_load_mid rfl 63 _ rfl _ _ rfl cs _ (unhide R) Tryz.underlying63 rfl (by rw [hl]; exact siz_Item) ?_)
          | (refine wpList_store_mid rfl 63 _ _ rfl wr.heap.size 0 cs.toArray rfl rfl (by rw [show cs.toArray.size = 12 from hl]; exact unhide HTH) (by rw [show cs.toArray.size = 12 from hl]; exact siz_Item) hone ?_))
        generalize hD : World.setCells _ _ _ _ = D
        replace BX : Hid (SB D wr.heap.size cs ∧ Below wr.heap.size wr D ∧ D.heap.size = wr.heap.size + 1) := by rw [← hD]; exact BX
        clear hD HTH R
        replace R' := hide (rangeAt_below (unhide R') (unhide BX).2.1)
        have BY := hide (boxed D z_Item ds 63 (by rw [hl']; rfl))
        have HTH : Hid ((D.alloc (.cells z_Item.toArray 63)).there D.heap.size 0 12) := hide (SB.new D z_Item 63).there
        go_upto_region 7 with (first
          | (refine wpList_load_mid rfl 63 _ rfl _ _ rfl ds _ (unhide R') Tryz.underlying63 rfl (by rw [hl']; exact siz_Item) ?_)
          | (refine wpList_store_mid rfl 63 _ _ rfl D.heap.size 0 ds.toArray rfl rfl (by rw [show ds.toArray.size = 12 from hl']; exact unhide HTH) (by rw [show ds.toArray.size = 12 from hl']; exact siz_Item) hone' ?_))
        generalize hD : World.setCells _ _ _ _ = D2
        replace BY : Hid (SB D2 D.heap.size ds ∧ Below D.heap.size D D2 ∧ D2.heap.size = D.heap.size + 1) := by rw [← hD]; exact BY
        clear hD HTH R'
        have HX := hide ((unhide BX).1.below (unhide BY).2.1)
        have HBD := hide (Below.andThen (unhide BX).2.1 (unhide BY).2.1)
        replace HC := unhide HC D2 (Below.andThen (unhide HBW).2 (unhide HBD))
        go_wp2_with (first
          | (refine wpList_load_mid rfl 63 _ rfl wr.heap.size _ rfl cs _ (unhide HX).at_ Tryz.underlying63 rfl (by rw [hl]; exact siz_Item) ?_)
          | (refine wpList_load_mid rfl 63 _ rfl D.heap.size _ rfl ds _ (unhide BY).1.at_ Tryz.underlying63 rfl (by rw [hl']; exact siz_Item) ?_))
        refine (unhide HC).mono ?_
        rintro e w2 ⟨rfl, hb2⟩
        have HB2 := hide (Below.andThen (Below.andThen (unhide HBW).2 (unhide HBD)) hb2)
        clear hb2 HX BX BY HBD HC
        cases qk with
        | false =>
          go_wp2
          go_ret
          exact ⟨by rw [eqN_at hlt (unhide HQ)]; rfl, unhide HB2⟩
        | true =>
          go_wp2
          go_roundw
          case rel => exact ⟨k + 1, by omega, by go_num, hide ⟨fun j hj => by rcases Nat.lt_succ_iff_lt_or_eq.1 hj with h | h; exact (unhide HBW).1 j h; rw [h]; exact unhide HQ, unhide HB2⟩⟩
          case measure => simp [RowKit.intOf]; omega
      · go_wp2
        go_ret
        have : k = n := by omega
        subst this
        exact ⟨by rw [eqN_yes (unhide HBW).1]; rfl, (unhide HBW).2⟩
  · go_enter Tryz.func87, Tryz.ntmps87
    go_wp2
    go_ret
    exact ⟨by rw [eqN_no hnm]; rfl, Below.refl _ _⟩
theorem siz_Source : (Tryz.prog.info? 65).map (·.size) = some 13 := by kernel_rfl
set_option maxHeartbeats 1000000 in
set_option maxRecDepth 100000 in
theorem equalF_Source {W : World} {n m : Nat} {v u : Value} {P Q : Nat → List Value → Prop} {q : Nat → Bool} {g : Nat} (he : ∀ args w, (callFunc g args).run Tryz.prog w = .ok (.enter g args) w) (hv : SlF W 13 160 n v P) (hu : SlF W 13 160 m u Q)
    (hf : ∀ W', Below W.heap.size W W' → ∀ i cs ds, i < n → i < m → P i cs → Q i ds → Calls Tryz.prog g #[.agg cs.toArray, .agg ds.toArray] W' fun e W2 => e = .returned (.bool (q i)) ∧ Below W'.heap.size W' W2) :
    Calls Tryz.prog 89 #[v, u, .func (Fn.func g) #[] #[]] W fun e W' => e = .returned (.bool (eqN n m q)) ∧ Below W.heap.size W W' := by
  obtain ⟨A, c, rfl, hnc, hc, hby, hA⟩ := hv
  obtain ⟨A', c', rfl, hmc, hc', hby', hA'⟩ := hu
  have HA := hide hA
  have HA' := hide hA'
  have HF := hide hf
  have hn : n ≤ 9223372036854775807 := by omega
  have hm : m ≤ 9223372036854775807 := by omega
  clear hA hA' hf hnc hc hby hmc hc' hby'
  by_cases hnm : n = m
  · subst hnm
    go_enter Tryz.func89, Tryz.ntmps89
    go_wp2
    go_loopw [7, 8, 9, 17] (fun _ _ _ i wr => ∃ k : Nat, k ≤ n ∧ i = .int .i64 k ∧ Hid ((∀ j, j < k → q j = true) ∧ Below W.heap.size W wr)) (fun _ _ _ i _ => n - (RowKit.intOf i).toNat)
    case atStart => exact ⟨0, Nat.zero_le _, rfl, hide ⟨fun j hj => by omega, Below.refl _ _⟩⟩
    case round =>
      obtain ⟨k, hk, rfl, HBW⟩ := hrel
      by_cases hlt : k < n
      · obtain ⟨b, o, rfl, hb, hcs⟩ := (unhide HA) (by omega)
        obtain ⟨cs, hl, hone, hP, hr⟩ := hcs k hlt
        obtain ⟨b', o', rfl, hb', hds⟩ := (unhide HA') (by omega)
        obtain ⟨ds, hl', hone', hQ, hr'⟩ := hds k hlt
        have R := hide (rangeAt_below hr (unhide HBW).2)
        have R' := hide (rangeAt_below hr' (unhide HBW).2)
        have BX := hide (boxed wr z_Source cs 65 (by rw [hl]; rfl))
        have HTH : Hid ((wr.alloc (.cells z_Source.toArray 65)).there wr.heap.size 0 13) := hide (SB.new wr z_Source 65).there
        have HC := hide fun wr' hb => hide ((unhide HF) wr' hb k cs ds hlt hlt hP hQ)
        clear hcs hds hr hr' hb hb' hP hQ
        generalize hq : q k = qk at HC
        have HQ := hide hq
        clear hq
        go_upto_region 6 with (first
          | (refine wpList_load_mid rfl 65 _ rfl _ _ rfl cs _ (unhide R) Tryz.underlying65 rfl (by rw [hl]; exact siz_Source) ?_)
          | (refine wpList_store_mid rfl 65 _ _ rfl wr.heap.size 0 cs.toArray rfl rfl (by rw [show cs.toArray.size = 13 from hl]; exact unhide HTH) (by rw [show cs.toArray.size = 13 from hl]; exact siz_Source) hone ?_))
        generalize hD : World.setCells _ _ _ _ = D
        replace BX : Hid (SB D wr.heap.size cs ∧ Below wr.heap.size wr D ∧ D.heap.size = wr.heap.size + 1) := by rw [← hD]; exact BX
        clear hD HTH R
        replace R' := hide (rangeAt_below (unhide R') (unhide BX).2.1)
        have BY := hide (boxed D z_Source ds 65 (by rw [hl']; rfl))
        have HTH : Hid ((D.alloc (.cells z_Source.toArray 65)).there D.heap.size 0 13) := hide (SB.new D z_Source 65).there
        go_upto_region 7 with (first
          | (refine wpList_load_mid rfl 65 _ rfl _ _ rfl ds _ (unhide R') Tryz.underlying65 rfl (by rw [hl']; exact siz_Source) ?_)
          | (refine wpList_store_mid rfl 65 _ _ rfl D.heap.size 0 ds.toArray rfl rfl (by rw [show ds.toArray.size = 13 from hl']; exact unhide HTH) (by rw [show ds.toArray.size = 13 from hl']; exact siz_Source) hone' ?_))
        generalize hD : World.setCells _ _ _ _ = D2
        replace BY : Hid (SB D2 D.heap.size ds ∧ Below D.heap.size D D2 ∧ D2.heap.size = D.heap.size + 1) := by rw [← hD]; exact BY
        clear hD HTH R'
        have HX := hide ((unhide BX).1.below (unhide BY).2.1)
        have HBD := hide (Below.andThen (unhide BX).2.1 (unhide BY).2.1)
        replace HC := unhide HC D2 (Below.andThen (unhide HBW).2 (unhide HBD))
        go_wp2_with (first
          | (refine wpList_load_mid rfl 65 _ rfl wr.heap.size _ rfl cs _ (unhide HX).at_ Tryz.underlying65 rfl (by rw [hl]; exact siz_Source) ?_)
          | (refine wpList_load_mid rfl 65 _ rfl D.heap.size _ rfl ds _ (unhide BY).1.at_ Tryz.underlying65 rfl (by rw [hl']; exact siz_Source) ?_))
        refine (unhide HC).mono ?_
        rintro e w2 ⟨rfl, hb2⟩
        have HB2 := hide (Below.andThen (Below.andThen (unhide HBW).2 (unhide HBD)) hb2)
        clear hb2 HX BX BY HBD HC
        cases qk with
        | false =>
          go_wp2
          go_ret
          exact ⟨by rw [eqN_at hlt (unhide HQ)]; rfl, unhide HB2⟩
        | true =>
          go_wp2
          go_roundw
          case rel => exact ⟨k + 1, by omega, by go_num, hide ⟨fun j hj => by rcases Nat.lt_succ_iff_lt_or_eq.1 hj with h | h; exact (unhide HBW).1 j h; rw [h]; exact unhide HQ, unhide HB2⟩⟩
          case measure => simp [RowKit.intOf]; omega
      · go_wp2
        go_ret
        have : k = n := by omega
        subst this
        exact ⟨by rw [eqN_yes (unhide HBW).1]; rfl, (unhide HBW).2⟩
  · go_enter Tryz.func89, Tryz.ntmps89
    go_wp2
    go_ret
    exact ⟨by rw [eqN_no hnm]; rfl, Below.refl _ _⟩
theorem siz_Order : (Tryz.prog.info? 67).map (·.size) = some 11 := by kernel_rfl
set_option maxHeartbeats 1000000 in
set_option maxRecDepth 100000 in
theorem equalF_Order {W : World} {n m : Nat} {v u : Value} {P Q : Nat → List Value → Prop} {q : Nat → Bool} {g : Nat} (he : ∀ args w, (callFunc g args).run Tryz.prog w = .ok (.enter g args) w) (hv : SlF W 11 128 n v P) (hu : SlF W 11 128 m u Q)
    (hf : ∀ W', Below W.heap.size W W' → ∀ i cs ds, i < n → i < m → P i cs → Q i ds → Calls Tryz.prog g #[.agg cs.toArray, .agg ds.toArray] W' fun e W2 => e = .returned (.bool (q i)) ∧ Below W'.heap.size W' W2) :
    Calls Tryz.prog 91 #[v, u, .func (Fn.func g) #[] #[]] W fun e W' => e = .returned (.bool (eqN n m q)) ∧ Below W.heap.size W W' := by
  obtain ⟨A, c, rfl, hnc, hc, hby, hA⟩ := hv
  obtain ⟨A', c', rfl, hmc, hc', hby', hA'⟩ := hu
  have HA := hide hA
  have HA' := hide hA'
  have HF := hide hf
  have hn : n ≤ 9223372036854775807 := by omega
  have hm : m ≤ 9223372036854775807 := by omega
  clear hA hA' hf hnc hc hby hmc hc' hby'
  by_cases hnm : n = m
  · subst hnm
    go_enter Tryz.func91, Tryz.ntmps91
    go_wp2
    go_loopw [7, 8, 9, 17] (fun _ _ _ i wr => ∃ k : Nat, k ≤ n ∧ i = .int .i64 k ∧ Hid ((∀ j, j < k → q j = true) ∧ Below W.heap.size W wr)) (fun _ _ _ i _ => n - (RowKit.intOf i).toNat)
    case atStart => exact ⟨0, Nat.zero_le _, rfl, hide ⟨fun j hj => by omega, Below.refl _ _⟩⟩
    case round =>
      obtain ⟨k, hk, rfl, HBW⟩ := hrel
      by_cases hlt : k < n
      · obtain ⟨b, o, rfl, hb, hcs⟩ := (unhide HA) (by omega)
        obtain ⟨cs, hl, hone, hP, hr⟩ := hcs k hlt
        obtain ⟨b', o', rfl, hb', hds⟩ := (unhide HA') (by omega)
        obtain ⟨ds, hl', hone', hQ, hr'⟩ := hds k hlt
        have R := hide (rangeAt_below hr (unhide HBW).2)
        have R' := hide (rangeAt_below hr' (unhide HBW).2)
        have BX := hide (boxed wr z_Order cs 67 (by rw [hl]; rfl))
        have HTH : Hid ((wr.alloc (.cells z_Order.toArray 67)).there wr.heap.size 0 11) := hide (SB.new wr z_Order 67).there
        have HC := hide fun wr' hb => hide ((unhide HF) wr' hb k cs ds hlt hlt hP hQ)
        clear hcs hds hr hr' hb hb' hP hQ
        generalize hq : q k = qk at HC
        have HQ := hide hq
        clear hq
        go_upto_region 6 with (first
          | (refine wpList_load_mid rfl 67 _ rfl _ _ rfl cs _ (unhide R) Tryz.underlying67 rfl (by rw [hl]; exact siz_Order) ?_)
          | (refine wpList_store_mid rfl 67 _ _ rfl wr.heap.size 0 cs.toArray rfl rfl (by rw [show cs.toArray.size = 11 from hl]; exact unhide HTH) (by rw [show cs.toArray.size = 11 from hl]; exact siz_Order) hone ?_))
        generalize hD : World.setCells _ _ _ _ = D
        replace BX : Hid (SB D wr.heap.size cs ∧ Below wr.heap.size wr D ∧ D.heap.size = wr.heap.size + 1) := by rw [← hD]; exact BX
        clear hD HTH R
        replace R' := hide (rangeAt_below (unhide R') (unhide BX).2.1)
        have BY := hide (boxed D z_Order ds 67 (by rw [hl']; rfl))
        have HTH : Hid ((D.alloc (.cells z_Order.toArray 67)).there D.heap.size 0 11) := hide (SB.new D z_Order 67).there
        go_upto_region 7 with (first
          | (refine wpList_load_mid rfl 67 _ rfl _ _ rfl ds _ (unhide R') Tryz.underlying67 rfl (by rw [hl']; exact siz_Order) ?_)
          | (refine wpList_store_mid rfl 67 _ _ rfl D.heap.size 0 ds.toArray rfl rfl (by rw [show ds.toArray.size = 11 from hl']; exact unhide HTH) (by rw [show ds.toArray.size = 11 from hl']; exact siz_Order) hone' ?_))
        generalize hD : World.setCells _ _ _ _ = D2
        replace BY : Hid (SB D2 D.heap.size ds ∧ Below D.heap.size D D2 ∧ D2.heap.size = D.heap.size + 1) := by rw [← hD]; exact BY
        clear hD HTH R'
        have HX := hide ((unhide BX).1.below (unhide BY).2.1)
        have HBD := hide (Below.andThen (unhide BX).2.1 (unhide BY).2.1)
        replace HC := unhide HC D2 (Below.andThen (unhide HBW).2 (unhide HBD))
        go_wp2_with (first
          | (refine wpList_load_mid rfl 67 _ rfl wr.heap.size _ rfl cs _ (unhide HX).at_ Tryz.underlying67 rfl (by rw [hl]; exact siz_Order) ?_)
          | (refine wpList_load_mid rfl 67 _ rfl D.heap.size _ rfl ds _ (unhide BY).1.at_ Tryz.underlying67 rfl (by rw [hl']; exact siz_Order) ?_))
        refine (unhide HC).mono ?_
        rintro e w2 ⟨rfl, hb2⟩
        have HB2 := hide (Below.andThen (Below.andThen (unhide HBW).2 (unhide HBD)) hb2)
        clear hb2 HX BX BY HBD HC
        cases qk with
        | false =>
          go_wp2
          go_ret
          exact ⟨by rw [eqN_at hlt (unhide HQ)]; rfl, unhide HB2⟩
        | true =>
          go_wp2
          go_roundw
          case rel => exact ⟨k + 1, by omega, by go_num, hide ⟨fun j hj => by rcases Nat.lt_succ_iff_lt_or_eq.1 hj with h | h; exact (unhide HBW).1 j h; rw [h]; exact unhide HQ, unhide HB2⟩⟩
          case measure => simp [RowKit.intOf]; omega
      · go_wp2
        go_ret
        have : k = n := by omega
        subst this
        exact ⟨by rw [eqN_yes (unhide HBW).1]; rfl, (unhide HBW).2⟩
  · go_enter Tryz.func91, Tryz.ntmps91
    go_wp2
    go_ret
    exact ⟨by rw [eqN_no hnm]; rfl, Below.refl _ _⟩
set_option maxHeartbeats 1000000 in
set_option maxRecDepth 100000 in
theorem equal_string {W : World} {n m : Nat} {v u : Value} {f g : Nat → ByteArray} (hv : NsIn W n f v) (hu : NsIn W m g u) :
    Calls Tryz.prog 80 #[v, u] W fun e W' => e = .returned (.bool (eqN n m fun i => strB (f i) (g i))) ∧ Below W.heap.size W W' := by
  obtain ⟨A, c, rfl, hnc, hc, hby, hA⟩ := hv
  obtain ⟨A', c', rfl, hmc, hc', hby', hA'⟩ := hu
  have HA := hide hA
  have HA' := hide hA'
  have hn : n ≤ 9223372036854775807 := by omega
  have hm : m ≤ 9223372036854775807 := by omega
  clear hA hA' hnc hc hby hmc hc' hby'
  by_cases hnm : n = m
  · subst hnm
    go_enter Tryz.func80, Tryz.ntmps80
    go_wp2
    go_loopw [5, 13] (fun _ i wr => ∃ k : Nat, k ≤ n ∧ i = .int .i64 k ∧ Hid ((∀ j, j < k → strB (f j) (g j) = true) ∧ Below W.heap.size W wr)) (fun _ i _ => n - (RowKit.intOf i).toNat)
    case atStart => exact ⟨0, Nat.zero_le _, rfl, hide ⟨fun j hj => by omega, Below.refl _ _⟩⟩
    case round =>
      obtain ⟨k, hk, rfl, HBW⟩ := hrel
      by_cases hlt : k < n
      · obtain ⟨b, o, rfl, hb, hcs⟩ := (unhide HA) (by omega)
        obtain ⟨cs, hl, hone, ⟨rfl, _⟩, hr⟩ := hcs k hlt
        obtain ⟨b', o', rfl, hb', hds⟩ := (unhide HA') (by omega)
        obtain ⟨ds, hl', hone', ⟨rfl, _⟩, hr'⟩ := hds k hlt
        have c1 : wr.cell? ⟨b, o + k, none⟩ = some (.string (f k)) := by simpa using rangeAt_below hr (unhide HBW).2 0 _ rfl
        have c2 : wr.cell? ⟨b', o' + k, none⟩ = some (.string (g k)) := by simpa using rangeAt_below hr' (unhide HBW).2 0 _ rfl
        clear hcs hds hr hr' hb hb' hl hl' hone hone'
        have HQ : Hid (strB (f k) (g k) = ((f k).toList == (g k).toList)) := hide rfl
        generalize hq : ((f k).toList == (g k).toList) = qk at HQ
        cases qk
        · go_upto_region 6 with fail
          go_region
          go_wp2
          go_ret
          exact ⟨by rw [eqN_at hlt (unhide HQ)]; rfl, (unhide HBW).2.drew⟩
        · go_upto_region 6 with fail
          go_region
          go_wp2
          go_roundw
          case rel => exact ⟨k + 1, by omega, by go_num, hide ⟨fun j hj => by rcases Nat.lt_succ_iff_lt_or_eq.1 hj with h | h; exact (unhide HBW).1 j h; rw [h]; exact unhide HQ, (unhide HBW).2.drew⟩⟩
          case measure => simp [RowKit.intOf]; omega
      · go_wp2
        go_ret
        have : k = n := by omega
        subst this
        exact ⟨by rw [eqN_yes (unhide HBW).1]; rfl, (unhide HBW).2⟩
  · go_enter Tryz.func80, Tryz.ntmps80
    go_wp2
    go_ret
    exact ⟨by rw [eqN_no hnm]; rfl, Below.refl _ _⟩
set_option maxHeartbeats 1000000 in
set_option maxRecDepth 100000 in
theorem equal_int {W : World} {n m : Nat} {v u : Value} {f g : Nat → Int} (hv : SlF W 1 8 n v fun i ds => ds = [.int .i64 (f i)] ∧ In64 (f i)) (hu : SlF W 1 8 m u fun i ds => ds = [.int .i64 (g i)] ∧ In64 (g i)) :
    Calls Tryz.prog 193 #[v, u] W fun e W' => e = .returned (.bool (eqN n m fun i => f i == g i)) ∧ Below W.heap.size W W' := by
  obtain ⟨A, c, rfl, hnc, hc, hby, hA⟩ := hv
  obtain ⟨A', c', rfl, hmc, hc', hby', hA'⟩ := hu
  have HA := hide hA
  have HA' := hide hA'
  have hn : n ≤ 9223372036854775807 := by omega
  have hm : m ≤ 9223372036854775807 := by omega
  clear hA hA' hnc hc hby hmc hc' hby'
  by_cases hnm : n = m
  · subst hnm
    go_enter Tryz.func193, Tryz.ntmps193
    go_wp2
    go_loopw [5, 13] (fun _ i wr => ∃ k : Nat, k ≤ n ∧ i = .int .i64 k ∧ Hid ((∀ j, j < k → (f j == g j) = true) ∧ Below W.heap.size W wr)) (fun _ i _ => n - (RowKit.intOf i).toNat)
    case atStart => exact ⟨0, Nat.zero_le _, rfl, hide ⟨fun j hj => by omega, Below.refl _ _⟩⟩
    case round =>
      obtain ⟨k, hk, rfl, HBW⟩ := hrel
      by_cases hlt : k < n
      · obtain ⟨b, o, rfl, hb, hcs⟩ := (unhide HA) (by omega)
        obtain ⟨cs, hl, hone, ⟨rfl, _⟩, hr⟩ := hcs k hlt
        obtain ⟨b', o', rfl, hb', hds⟩ := (unhide HA') (by omega)
        obtain ⟨ds, hl', hone', ⟨rfl, _⟩, hr'⟩ := hds k hlt
        have c1 : wr.cell? ⟨b, o + k, none⟩ = some (.int .i64 (f k)) := by simpa using rangeAt_below hr (unhide HBW).2 0 _ rfl
        have c2 : wr.cell? ⟨b', o' + k, none⟩ = some (.int .i64 (g k)) := by simpa using rangeAt_below hr' (unhide HBW).2 0 _ rfl
        clear hcs hds hr hr' hb hb' hl hl' hone hone'
        have HQ : Hid ((f k == g k) = (f k == g k)) := hide rfl
        have HQ' : ∃ q, Hid ((f k == g k) = q) := ⟨_, hide rfl⟩
        clear HQ
        obtain ⟨qk, HQ⟩ := HQ'
        have hq := unhide HQ
        cases qk
        · go_upto_region 6 with fail
          go_region
          go_wp2
          go_ret
          exact ⟨by rw [eqN_at hlt (unhide HQ)]; rfl, (unhide HBW).2.drew⟩
        · go_upto_region 6 with fail
          go_region
          go_wp2
          go_roundw
          case rel => exact ⟨k + 1, by omega, by go_num, hide ⟨fun j hj => by rcases Nat.lt_succ_iff_lt_or_eq.1 hj with h | h; exact (unhide HBW).1 j h; rw [h]; exact unhide HQ, (unhide HBW).2.drew⟩⟩
          case measure => simp [RowKit.intOf]; omega
      · go_wp2
        go_ret
        have : k = n := by omega
        subst this
        exact ⟨by rw [eqN_yes (unhide HBW).1]; rfl, (unhide HBW).2⟩
  · go_enter Tryz.func193, Tryz.ntmps193
    go_wp2
    go_ret
    exact ⟨by rw [eqN_no hnm]; rfl, Below.refl _ _⟩
theorem eqCo (s : ByteArray) (a : Int) (x : Bool) (t : ByteArray) (b : Int) (y : Bool) (w : World) : (Op.equalIn 10000 105 (.agg #[.string s, .int .i64 a, .bool x]) (.agg #[.string t, .int .i64 b, .bool y])).run Tryz.prog w = .ok (strB s t && a == b && (x == y)) w := by
  have u3 := Tryz.underlying3
  have a3 := Tryz.isAgg3
  have z3 := Tryz.sizeOf3
  have u2 := Tryz.underlying4
  have a2 := Tryz.isAgg4
  have z2 := Tryz.sizeOf4
  have u9 := Tryz.underlying9
  have a9 := Tryz.isAgg9
  have z9 := Tryz.sizeOf9
  have hS : Tryz.prog.underlying 105 = some (.struct (Tryz.prog.fieldsOf 105)) := by kernel_rfl
  have hp : Tryz.prog.stoodInHeld 105 = false := by kernel_rfl
  rw [show (10000 : Nat) = 9999 + 1 from rfl, run_equalIn_agg w 9999 105 _ _ hS hp]
  simp only [Program.fieldsOf, Tryz.underlying105]
  unfold strB
  go_simp
  by_cases h1 : a = b <;> by_cases h2 : x = y <;> by_cases h3 : s.toList = t.toList <;> simp [h1, h2, h3]
set_option maxHeartbeats 1000000 in
set_option maxRecDepth 100000 in
theorem equal_Column {W : World} {n m : Nat} {v u : Value} {f g : Nat → Co} (hv : SlF W 3 32 n v fun i ds => CoIn (f i) ds) (hu : SlF W 3 32 m u fun i ds => CoIn (g i) ds) :
    Calls Tryz.prog 149 #[v, u] W fun e W' => e = .returned (.bool (eqN n m fun i => sameCo (f i) (g i))) ∧ Below W.heap.size W W' := by
  obtain ⟨A, c, rfl, hnc, hc, hby, hA⟩ := hv
  obtain ⟨A', c', rfl, hmc, hc', hby', hA'⟩ := hu
  have HA := hide hA
  have HA' := hide hA'
  have hn : n ≤ 9223372036854775807 := by omega
  have hm : m ≤ 9223372036854775807 := by omega
  clear hA hA' hnc hc hby hmc hc' hby'
  by_cases hnm : n = m
  · subst hnm
    go_enter Tryz.func149, Tryz.ntmps149
    go_wp2
    go_loopw [5, 13] (fun _ i wr => ∃ k : Nat, k ≤ n ∧ i = .int .i64 k ∧ Hid ((∀ j, j < k → sameCo (f j) (g j) = true) ∧ Below W.heap.size W wr)) (fun _ i _ => n - (RowKit.intOf i).toNat)
    case atStart => exact ⟨0, Nat.zero_le _, rfl, hide ⟨fun j hj => by omega, Below.refl _ _⟩⟩
    case round =>
      obtain ⟨k, hk, rfl, HBW⟩ := hrel
      by_cases hlt : k < n
      · obtain ⟨b, o, rfl, hb, hcs⟩ := (unhide HA) (by omega)
        obtain ⟨cs, hl, hone, ⟨rfl, _⟩, hr⟩ := hcs k hlt
        obtain ⟨b', o', rfl, hb', hds⟩ := (unhide HA') (by omega)
        obtain ⟨ds, hl', hone', ⟨rfl, _⟩, hr'⟩ := hds k hlt
        have c10 : wr.cell? ⟨b, o + k * 3, none⟩ = some (.string (f k).nm) := rangeAt_below hr (unhide HBW).2 0 _ rfl
        have c11 : wr.cell? ⟨b, o + k * 3 + 1, none⟩ = some (.int .i64 (f k).ty) := rangeAt_below hr (unhide HBW).2 1 _ rfl
        have c12 : wr.cell? ⟨b, o + k * 3 + 2, none⟩ = some (.bool (f k).nn) := rangeAt_below hr (unhide HBW).2 2 _ rfl
        have c20 : wr.cell? ⟨b', o' + k * 3, none⟩ = some (.string (g k).nm) := rangeAt_below hr' (unhide HBW).2 0 _ rfl
        have c21 : wr.cell? ⟨b', o' + k * 3 + 1, none⟩ = some (.int .i64 (g k).ty) := rangeAt_below hr' (unhide HBW).2 1 _ rfl
        have c22 : wr.cell? ⟨b', o' + k * 3 + 2, none⟩ = some (.bool (g k).nn) := rangeAt_below hr' (unhide HBW).2 2 _ rfl
        have he := fun w => eqCo (f k).nm (f k).ty (f k).nn (g k).nm (g k).ty (g k).nn w
        have HQ : Hid (sameCo (f k) (g k) = (strB (f k).nm (g k).nm && (f k).ty == (g k).ty && ((f k).nn == (g k).nn))) := hide rfl
        generalize (strB (f k).nm (g k).nm && (f k).ty == (g k).ty && ((f k).nn == (g k).nn)) = qk at HQ he
        clear hcs hds hr hr' hb hb' hl hl' hone hone'
        cases qk
        · go_upto_region 6 with fail
          go_region
          go_wp2
          go_ret
          exact ⟨by rw [eqN_at hlt (unhide HQ)]; rfl, (unhide HBW).2.drew⟩
        · go_upto_region 6 with fail
          go_region
          go_wp2
          go_roundw
          case rel => exact ⟨k + 1, by omega, by go_num, hide ⟨fun j hj => by rcases Nat.lt_succ_iff_lt_or_eq.1 hj with h | h; exact (unhide HBW).1 j h; rw [h]; exact unhide HQ, (unhide HBW).2.drew⟩⟩
          case measure => simp [RowKit.intOf]; omega
      · go_wp2
        go_ret
        have : k = n := by omega
        subst this
        exact ⟨by rw [eqN_yes (unhide HBW).1]; rfl, (unhide HBW).2⟩
  · go_enter Tryz.func149, Tryz.ntmps149
    go_wp2
    go_ret
    exact ⟨by rw [eqN_no hnm]; rfl, Below.refl _ _⟩
set_option maxHeartbeats 1000000 in
set_option maxRecDepth 100000 in
theorem equalF1_Ns {W : World} {n m : Nat} {v u : Value} {P Q : Nat → Value → Prop} {q : Nat → Bool} {g : Nat} (he : ∀ args w, (callFunc g args).run Tryz.prog w = .ok (.enter g args) w) (hP : ∀ i x, P i x → ∃ A n c, x = .slice A n c) (hQ : ∀ i x, Q i x → ∃ A n c, x = .slice A n c)
    (hv : SlF W 1 24 n v fun i ds => ∃ x, ds = [x] ∧ P i x) (hu : SlF W 1 24 m u fun i ds => ∃ x, ds = [x] ∧ Q i x)
    (hf : ∀ W', Below W.heap.size W W' → ∀ i x y, i < n → i < m → P i x → Q i y → Calls Tryz.prog g #[x, y] W' fun e W2 => e = .returned (.bool (q i)) ∧ Below W'.heap.size W' W2) :
    Calls Tryz.prog 79 #[v, u, .func (Fn.func g) #[] #[]] W fun e W' => e = .returned (.bool (eqN n m q)) ∧ Below W.heap.size W W' := by
  obtain ⟨A, c, rfl, hnc, hc, hby, hA⟩ := hv
  obtain ⟨A', c', rfl, hmc, hc', hby', hA'⟩ := hu
  have HA := hide hA
  have HA' := hide hA'
  have HF := hide hf
  have HP := hide hP
  have HQ' := hide hQ
  have hn : n ≤ 9223372036854775807 := by omega
  have hm : m ≤ 9223372036854775807 := by omega
  clear hA hA' hf hnc hc hby hmc hc' hby' hP hQ
  by_cases hnm : n = m
  · subst hnm
    go_enter Tryz.func79, Tryz.ntmps79
    go_wp2
    go_loopw [7, 8, 9, 17] (fun _ _ _ i wr => ∃ k : Nat, k ≤ n ∧ i = .int .i64 k ∧ Hid ((∀ j, j < k → q j = true) ∧ Below W.heap.size W wr)) (fun _ _ _ i _ => n - (RowKit.intOf i).toNat)
    case atStart => exact ⟨0, Nat.zero_le _, rfl, hide ⟨fun j hj => by omega, Below.refl _ _⟩⟩
    case round =>
      obtain ⟨k, hk, rfl, HBW⟩ := hrel
      by_cases hlt : k < n
      · obtain ⟨b, o, rfl, hb, hcs⟩ := (unhide HA) (by omega)
        obtain ⟨cs, hl, hone, ⟨x, rfl, hP⟩, hr⟩ := hcs k hlt
        obtain ⟨b', o', rfl, hb', hds⟩ := (unhide HA') (by omega)
        obtain ⟨ds, hl', hone', ⟨y, rfl, hQ⟩, hr'⟩ := hds k hlt
        have HC := hide fun wr' hb => hide ((unhide HF) wr' hb k x y hlt hlt hP hQ)
        obtain ⟨A1, n1, c1, rfl⟩ := (unhide HP) k x hP
        obtain ⟨A2, n2, c2, rfl⟩ := (unhide HQ') k y hQ
        have d1 : wr.cell? ⟨b, o + k, none⟩ = some (.slice A1 n1 c1) := by simpa using rangeAt_below hr (unhide HBW).2 0 _ rfl
        have d2 : wr.cell? ⟨b', o' + k, none⟩ = some (.slice A2 n2 c2) := by simpa using rangeAt_below hr' (unhide HBW).2 0 _ rfl
        clear hcs hds hr hr' hP hQ hl hl' hone hone'
        generalize hq : q k = qk at HC
        have HQ := hide hq
        have l1 := lt_of_cell d1
        have l2 := lt_of_cell d2
        clear hq
        go_wp2_with fail
        refine (unhide (unhide HC _ (unhide HBW).2)).mono ?_
        rintro e w2 ⟨rfl, hb2⟩
        have HB2 := hide (Below.andThen (unhide HBW).2 hb2)
        clear hb2 d1 d2
        cases qk with
        | false =>
          go_wp2
          go_ret
          exact ⟨by rw [eqN_at hlt (unhide HQ)]; rfl, unhide HB2⟩
        | true =>
          go_wp2
          go_roundw
          case rel => exact ⟨k + 1, by omega, by go_num, hide ⟨fun j hj => by rcases Nat.lt_succ_iff_lt_or_eq.1 hj with h | h; exact (unhide HBW).1 j h; rw [h]; exact unhide HQ, unhide HB2⟩⟩
          case measure => simp [RowKit.intOf]; omega
      · go_wp2
        go_ret
        have : k = n := by omega
        subst this
        exact ⟨by rw [eqN_yes (unhide HBW).1]; rfl, (unhide HBW).2⟩
  · go_enter Tryz.func79, Tryz.ntmps79
    go_wp2
    go_ret
    exact ⟨by rw [eqN_no hnm]; rfl, Below.refl _ _⟩
set_option maxHeartbeats 1000000 in
set_option maxRecDepth 100000 in
theorem equalF1_Es {W : World} {n m : Nat} {v u : Value} {P Q : Nat → Value → Prop} {q : Nat → Bool} {g : Nat} (he : ∀ args w, (callFunc g args).run Tryz.prog w = .ok (.enter g args) w) (hP : ∀ i x, P i x → ∃ A n c, x = .slice A n c) (hQ : ∀ i x, Q i x → ∃ A n c, x = .slice A n c)
    (hv : SlF W 1 24 n v fun i ds => ∃ x, ds = [x] ∧ P i x) (hu : SlF W 1 24 m u fun i ds => ∃ x, ds = [x] ∧ Q i x)
    (hf : ∀ W', Below W.heap.size W W' → ∀ i x y, i < n → i < m → P i x → Q i y → Calls Tryz.prog g #[x, y] W' fun e W2 => e = .returned (.bool (q i)) ∧ Below W'.heap.size W' W2) :
    Calls Tryz.prog 81 #[v, u, .func (Fn.func g) #[] #[]] W fun e W' => e = .returned (.bool (eqN n m q)) ∧ Below W.heap.size W W' := by
  obtain ⟨A, c, rfl, hnc, hc, hby, hA⟩ := hv
  obtain ⟨A', c', rfl, hmc, hc', hby', hA'⟩ := hu
  have HA := hide hA
  have HA' := hide hA'
  have HF := hide hf
  have HP := hide hP
  have HQ' := hide hQ
  have hn : n ≤ 9223372036854775807 := by omega
  have hm : m ≤ 9223372036854775807 := by omega
  clear hA hA' hf hnc hc hby hmc hc' hby' hP hQ
  by_cases hnm : n = m
  · subst hnm
    go_enter Tryz.func81, Tryz.ntmps81
    go_wp2
    go_loopw [7, 8, 9, 17] (fun _ _ _ i wr => ∃ k : Nat, k ≤ n ∧ i = .int .i64 k ∧ Hid ((∀ j, j < k → q j = true) ∧ Below W.heap.size W wr)) (fun _ _ _ i _ => n - (RowKit.intOf i).toNat)
    case atStart => exact ⟨0, Nat.zero_le _, rfl, hide ⟨fun j hj => by omega, Below.refl _ _⟩⟩
    case round =>
      obtain ⟨k, hk, rfl, HBW⟩ := hrel
      by_cases hlt : k < n
      · obtain ⟨b, o, rfl, hb, hcs⟩ := (unhide HA) (by omega)
        obtain ⟨cs, hl, hone, ⟨x, rfl, hP⟩, hr⟩ := hcs k hlt
        obtain ⟨b', o', rfl, hb', hds⟩ := (unhide HA') (by omega)
        obtain ⟨ds, hl', hone', ⟨y, rfl, hQ⟩, hr'⟩ := hds k hlt
        have HC := hide fun wr' hb => hide ((unhide HF) wr' hb k x y hlt hlt hP hQ)
        obtain ⟨A1, n1, c1, rfl⟩ := (unhide HP) k x hP
        obtain ⟨A2, n2, c2, rfl⟩ := (unhide HQ') k y hQ
        have d1 : wr.cell? ⟨b, o + k, none⟩ = some (.slice A1 n1 c1) := by simpa using rangeAt_below hr (unhide HBW).2 0 _ rfl
        have d2 : wr.cell? ⟨b', o' + k, none⟩ = some (.slice A2 n2 c2) := by simpa using rangeAt_below hr' (unhide HBW).2 0 _ rfl
        clear hcs hds hr hr' hP hQ hl hl' hone hone'
        generalize hq : q k = qk at HC
        have HQ := hide hq
        have l1 := lt_of_cell d1
        have l2 := lt_of_cell d2
        clear hq
        go_wp2_with fail
        refine (unhide (unhide HC _ (unhide HBW).2)).mono ?_
        rintro e w2 ⟨rfl, hb2⟩
        have HB2 := hide (Below.andThen (unhide HBW).2 hb2)
        clear hb2 d1 d2
        cases qk with
        | false =>
          go_wp2
          go_ret
          exact ⟨by rw [eqN_at hlt (unhide HQ)]; rfl, unhide HB2⟩
        | true =>
          go_wp2
          go_roundw
          case rel => exact ⟨k + 1, by omega, by go_num, hide ⟨fun j hj => by rcases Nat.lt_succ_iff_lt_or_eq.1 hj with h | h; exact (unhide HBW).1 j h; rw [h]; exact unhide HQ, unhide HB2⟩⟩
          case measure => simp [RowKit.intOf]; omega
      · go_wp2
        go_ret
        have : k = n := by omega
        subst this
        exact ⟨by rw [eqN_yes (unhide HBW).1]; rfl, (unhide HBW).2⟩
  · go_enter Tryz.func81, Tryz.ntmps81
    go_wp2
    go_ret
    exact ⟨by rw [eqN_no hnm]; rfl, Below.refl _ _⟩
end Go.Proofs.YtddedijencleeaaGreatDoor

/- consistoryref9.alikes, Alike: contracts. -/
import Derived.Test.YtddedijencleeaaGreatDoorGc
set_option linter.all false
namespace Go.Proofs.YtddedijencleeaaGreatDoor
open Go.RowKit Go.Lib

set_option maxHeartbeats 1000000 in
set_option maxRecDepth 100000 in
theorem alikes_gen {W : World} {n m : Nat} {v u : Value} {f g : Nat → E} (q : Nat → Bool) (hv : EsIn W n f v) (hu : EsIn W m g u)
    (hf : ∀ W', Below W.heap.size W W' → ∀ i cs ds, i < n → i < m → EIn W (f i) cs → EIn W (g i) ds → Calls Tryz.prog 58 #[.agg cs.toArray, .agg ds.toArray] W' fun e W2 => e = .returned (.bool (q i)) ∧ Below W'.heap.size W' W2) :
    Calls Tryz.prog 57 #[v, u] W fun e W' => e = .returned (.bool (eqN n m q)) ∧ Below W.heap.size W W' := by
  obtain ⟨A, c, rfl, hnc, hc, hby, hA⟩ := hv
  obtain ⟨A', c', rfl, hmc, hc', hby', hA'⟩ := hu
  have HA := hide hA
  have HA' := hide hA'
  have HF := hide hf
  have hn : n ≤ 9223372036854775807 := by omega
  have hm : m ≤ 9223372036854775807 := by omega
  clear hA hA' hf hnc hc hby hmc hc' hby'
  by_cases hnm : n = m
  · subst hnm
    go_enter Tryz.func57, Tryz.ntmps57
    go_wp2
    go_loopw [5] (fun i wr => ∃ k : Nat, k ≤ n ∧ i = .int .i64 k ∧ Hid ((∀ j, j < k → q j = true) ∧ Below W.heap.size W wr)) (fun i _ => n - (RowKit.intOf i).toNat)
    case atStart => exact ⟨0, Nat.zero_le _, rfl, hide ⟨fun j hj => by omega, Below.refl _ _⟩⟩
    case round =>
      obtain ⟨k, hk, rfl, HBW⟩ := hrel
      by_cases hlt : k < n
      · obtain ⟨b, o, rfl, hb, hcs⟩ := (unhide HA) (by omega)
        obtain ⟨cs, hl, hone, hP, hr⟩ := hcs k hlt
        obtain ⟨b', o', rfl, hb', hds⟩ := (unhide HA') (by omega)
        obtain ⟨ds, hl', hone', hQ, hr'⟩ := hds k hlt
        have HC := hide fun wr' hb => hide ((unhide HF) wr' hb k cs ds hlt hlt hP hQ)
        have R := rangeAt_below hr (unhide HBW).2
        have R' := rangeAt_below hr' (unhide HBW).2
        obtain ⟨k1, o1, vk1, vn1, vt1, tb1, nm1, A1, n1, c1, pl1, ty1, rfl⟩ := EIn.form hP
        obtain ⟨k2, o2, vk2, vn2, vt2, tb2, nm2, A2, n2, c2, pl2, ty2, rfl⟩ := EIn.form hQ
        have x0 := R 0 _ rfl
        have x1 := R 1 _ rfl
        have x2 := R 2 _ rfl
        have x3 := R 3 _ rfl
        have x4 := R 4 _ rfl
        have x5 := R 5 _ rfl
        have x6 := R 6 _ rfl
        have x7 := R 7 _ rfl
        have x8 := R 8 _ rfl
        have x9 := R 9 _ rfl
        have y0 := R' 0 _ rfl
        have y1 := R' 1 _ rfl
        have y2 := R' 2 _ rfl
        have y3 := R' 3 _ rfl
        have y4 := R' 4 _ rfl
        have y5 := R' 5 _ rfl
        have y6 := R' 6 _ rfl
        have y7 := R' 7 _ rfl
        have y8 := R' 8 _ rfl
        have y9 := R' 9 _ rfl
        rw [Nat.add_zero] at x0 y0
        clear hcs hds hr hr' hb hb' hP hQ R R' hl hl' hone hone'
        generalize hq : q k = qk at HC
        have HQ := hide hq
        clear hq
        go_upto_region 6 with fail
        go_region_with (go_at_call 58; refine (unhide (unhide HC _ (by first | exact (unhide HBW).2 | exact (unhide HBW).2.drew))).mono ?_; rintro e w2 ⟨rfl, hb2⟩)
        all_goals
          have HB2 : Hid (Below W.heap.size W w2) := by first | exact hide (Below.andThen (unhide HBW).2 hb2) | exact hide (Below.andThen (unhide HBW).2.drew hb2)
          clear hb2
          cases qk with
          | false =>
            go_wp2
            go_ret
            exact ⟨by rw [eqN_at hlt (unhide HQ)]; rfl, unhide HB2⟩
          | true =>
            go_wp2
            go_roundw
            case rel => exact ⟨k + 1, by omega, by go_num, hide ⟨fun j hj => by rcases Nat.lt_succ_iff_lt_or_eq.1 hj with h | h; exact (unhide HBW).1 j h; rw [h]; exact unhide HQ, unhide HB2⟩⟩
            case measure => simp [RowKit.intOf]; omega
      · go_wp2
        go_ret
        have : k = n := by omega
        subst this
        exact ⟨by rw [eqN_yes (unhide HBW).1]; rfl, (unhide HBW).2⟩
  · go_enter Tryz.func57, Tryz.ntmps57
    go_wp2
    go_ret
    exact ⟨by rw [eqN_no hnm]; rfl, Below.refl _ _⟩
set_option maxHeartbeats 4000000 in
set_option maxRecDepth 100000 in
theorem alike_ok : ∀ (e e' : E) (cs cs' : List Value) (W : World), EIn W e cs → EIn W e' cs' →
    Calls Tryz.prog 58 #[.agg cs.toArray, .agg cs'.toArray] W fun r W' => r = .returned (.bool (alikeE e e')) ∧ Below W.heap.size W W'
  | .no, _, _, _, _, h, _ => False.elim h
  | .mk .., .no, _, _, _, _, h => False.elim h
  | .mk k op vk vn vt tb nm n args pl ty, .mk k' op' vk' vn' vt' tb' nm' n' args' pl' ty', cs, cs', W, h, h' => by
    obtain ⟨_, v, rfl, hv⟩ := h
    obtain ⟨_, u, rfl, hu⟩ := h'
    have HC := hide fun W' (hb : Below W.heap.size W W') => hide (alikes_gen (W := W') (fun i => alikeE (args i) (args' i)) (SlF.both hv (.below hb) fun _ _ _ h => EIn.sub (.below hb) h) (SlF.both hu (.below hb) fun _ _ _ h => EIn.sub (.below hb) h)
      (fun W2 hb2 i cs ds _ _ h h' => alike_ok (args i) (args' i) cs ds W2 (EIn.sub (.below hb2) h) (EIn.sub (.below hb2) h')))
    have HB : ∀ o o', Hid (Below W.heap.size W ((W.alloc o).alloc o')) := fun o o' => hide (((Below.refl _ _).alloc (Nat.le_refl _) o).alloc (by simp) o')
    obtain ⟨A, c, rfl, _⟩ := hv
    obtain ⟨A', c', rfl, _⟩ := hu
    have hq := fun w => eqVal vk vn vt vk' vn' vt' w
    simp only [alikeE]
    generalize eqN n n' (fun i => alikeE (args i) (args' i)) = z at HC ⊢
    generalize valB vk vn vk' vn' vt vt' = b2 at hq ⊢
    generalize h0 : (k == k') = b0
    generalize h1 : (op == op') = b1
    unfold strB
    generalize h3 : (tb.toList == tb'.toList) = b3
    generalize h4 : (nm.toList == nm'.toList) = b4
    generalize h5 : (pl == pl') = b5
    generalize h6 : (ty == ty') = b6
    dsimp only [eCells]
    cases b0
    · go_enter Tryz.func58, Tryz.ntmps58
      go_wp2_with fail
      go_ret
      exact ⟨by simp, unhide (HB _ _)⟩
    cases b1
    · go_enter Tryz.func58, Tryz.ntmps58
      go_wp2_with fail
      go_ret
      exact ⟨by simp, unhide (HB _ _)⟩
    cases b2
    · go_enter Tryz.func58, Tryz.ntmps58
      go_wp2_with fail
      go_ret
      exact ⟨by simp, unhide (HB _ _)⟩
    cases b3
    · go_enter Tryz.func58, Tryz.ntmps58
      go_wp2_with fail
      go_ret
      exact ⟨by simp, unhide (HB _ _)⟩
    cases b4
    · go_enter Tryz.func58, Tryz.ntmps58
      go_wp2_with fail
      go_ret
      exact ⟨by simp, unhide (HB _ _)⟩
    cases b5
    · go_enter Tryz.func58, Tryz.ntmps58
      go_wp2_with fail
      go_ret
      exact ⟨by simp, unhide (HB _ _)⟩
    cases b6
    · go_enter Tryz.func58, Tryz.ntmps58
      go_wp2_with fail
      go_ret
      exact ⟨by simp, unhide (HB _ _)⟩
    go_enter Tryz.func58, Tryz.ntmps58
    go_wp2_with fail
    refine (unhide ((unhide HC) _ (unhide (HB _ _)))).mono ?_
    rintro e w1 ⟨rfl, hb1⟩
    have HW := hide (Below.andThen (unhide (HB _ _)) hb1)
    clear hb1
    go_wp2
    go_ret
    exact ⟨by simp, unhide HW⟩
theorem alikes_ok {W : World} {n m : Nat} {v u : Value} {f g : Nat → E} (hv : EsIn W n f v) (hu : EsIn W m g u) :
    Calls Tryz.prog 57 #[v, u] W fun e W' => e = .returned (.bool (eqN n m fun i => alikeE (f i) (g i))) ∧ Below W.heap.size W W' :=
  alikes_gen (fun i => alikeE (f i) (g i)) hv hu fun W2 hb2 i cs ds _ _ h h' => alike_ok (f i) (g i) cs ds W2 (EIn.sub (.below hb2) h) (EIn.sub (.below hb2) h')
end Go.Proofs.YtddedijencleeaaGreatDoor

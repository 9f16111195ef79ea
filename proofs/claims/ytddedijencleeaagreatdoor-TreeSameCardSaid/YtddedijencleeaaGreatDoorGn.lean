/- consistoryref9.strings, bares, bare: contracts. -/
import Derived.Test.YtddedijencleeaaGreatDoorGiA
import Derived.Test.YtddedijencleeaaGreatDoorGl
set_option linter.all false
namespace Go.Proofs.YtddedijencleeaaGreatDoor
open Go.RowKit Go.Lib

set_option maxHeartbeats 1000000 in
set_option maxRecDepth 100000 in
theorem ref_strings {W : World} {n m : Nat} {v u : Value} {f g : Nat → ByteArray} (hv : NsIn W n f v) (hu : NsIn W m g u) :
    Calls Tryz.prog 56 #[v, u] W fun e W' => e = .returned (.bool (eqN n m fun i => strB (f i) (g i))) ∧ Below W.heap.size W W' := by
  obtain ⟨A, c, rfl, hnc, hc, hby, hA⟩ := hv
  obtain ⟨A', c', rfl, hmc, hc', hby', hA'⟩ := hu
  have HA := hide hA
  have HA' := hide hA'
  have hn : n ≤ 9223372036854775807 := by omega
  have hm : m ≤ 9223372036854775807 := by omega
  clear hA hA' hnc hc hby hmc hc' hby'
  by_cases hnm : n = m
  · subst hnm
    go_enter Tryz.func56, Tryz.ntmps56
    go_wp2
    go_loopw [5] (fun i wr => ∃ k : Nat, k ≤ n ∧ i = .int .i64 k ∧ Hid ((∀ j, j < k → strB (f j) (g j) = true) ∧ Below W.heap.size W wr)) (fun i _ => n - (RowKit.intOf i).toNat)
    case atStart => exact ⟨0, Nat.zero_le _, rfl, hide ⟨fun j hj => by omega, Below.refl _ _⟩⟩
    case round =>
      obtain ⟨k, hk, rfl, HBW⟩ := hrel
      by_cases hlt : k < n
      · obtain ⟨b, o, rfl, hb, hcs⟩ := (unhide HA) (by omega)
        obtain ⟨cs, hl, hone, ⟨rfl, _⟩, hr⟩ := hcs k hlt
        obtain ⟨b', o', rfl, hb', hds⟩ := (unhide HA') (by omega)
        obtain ⟨ds, hl', hone', ⟨rfl, _⟩, hr'⟩ := hds k hlt
        have c1 : wr.cell? ⟨b, o + k, none⟩ = some (.string (f k)) := by simpa using rangeAt_below hr (unhide HBW).2 0 _ rfl
        have c2 : wr.cell? ⟨b', o' + k, none⟩ = some (.string (g k)) := by simpa using rangeAt_below hr' (unhide HBW).2 0 _ rfl
        clear hcs hds hr hr' hb hb' hl hl' hone hone'
        have HQ : Hid (strB (f k) (g k) = ((f k).toList == (g k).toList)) := hide rfl
        generalize hq : ((f k).toList == (g k).toList) = qk at HQ
        cases qk
        · go_upto_region 6 with fail
          go_region
          go_wp2
          go_ret
          exact ⟨by rw [eqN_at hlt (unhide HQ)]; rfl, (unhide HBW).2.drew⟩
        · go_upto_region 6 with fail
          go_region
          go_wp2
          go_roundw
          case rel => exact ⟨k + 1, by omega, by go_num, hide ⟨fun j hj => by rcases Nat.lt_succ_iff_lt_or_eq.1 hj with h | h; exact (unhide HBW).1 j h; rw [h]; exact unhide HQ, (unhide HBW).2.drew⟩⟩
          case measure => simp [RowKit.intOf]; omega
      · go_wp2
        go_ret
        have : k = n := by omega
        subst this
        exact ⟨by rw [eqN_yes (unhide HBW).1]; rfl, (unhide HBW).2⟩
  · go_enter Tryz.func56, Tryz.ntmps56
    go_wp2
    go_ret
    exact ⟨by rw [eqN_no hnm]; rfl, Below.refl _ _⟩
set_option maxHeartbeats 2000000 in
set_option maxRecDepth 100000 in
theorem bares_gen {W : World} {n : Nat} {v : Value} {P : Nat → List Value → Prop} {Q : World → Nat → List Value → Prop} (hv : SlF W 10 120 n v P)
    (hQ : ∀ W1 W2 i cs, Sub W1 W2 → Q W1 i cs → Q W2 i cs)
    (hf : ∀ W', Below W.heap.size W W' → ∀ i cs, i < n → P i cs → cs.length = 10 → Calls Tryz.prog 192 #[.agg cs.toArray] W' fun e W2 => ∃ ds, e = .returned (.agg ds.toArray) ∧ ds.length = 10 ∧ ds.toArray.all (·.oneCell') = true ∧ Q (World.only W2 fun b => W'.heap.size ≤ b) i ds ∧ Below W'.heap.size W' W2) :
    Calls Tryz.prog 211 #[v] W fun e W' => ∃ u, e = .returned u ∧ SlF (World.only W' fun b => W.heap.size ≤ b) 10 120 n u (fun i ds => Q (World.only W' fun b => W.heap.size ≤ b) i ds) ∧ Below W.heap.size W W' := by
  obtain ⟨A, c, rfl, hnc, hc, hby, hA⟩ := hv
  obtain ⟨ti, hti, hzero, hsize, hbytes⟩ := info_parts inf_Expr
  have TI := hide (And.intro hti (And.intro hzero (And.intro hsize hbytes)))
  have HA := hide hA
  have HF := hide hf
  have HQ := hide hQ
  have hn : n ≤ 9223372036854775807 := by omega
  have HBY := hide hby
  clear hA hf hnc hc hby hQ hti hzero hsize hbytes
  go_enter Tryz.func211, Tryz.ntmps211
  go_wp2
  go_loopw [3, 4] (fun o i wr => ∃ k : Nat, k ≤ n ∧ i = .int .i64 k ∧ Hid (∃ css, Out W wr 34 10 k o css Q)) (fun _ i _ => n - (RowKit.intOf i).toNat)
  case atStart => exact ⟨0, Nat.zero_le _, rfl, hide ⟨fun _ => [], Out.start⟩⟩
  case round =>
    obtain ⟨k, hk, rfl, HO⟩ := hrel
    by_cases hlt : k < n
    · obtain ⟨css, hO⟩ := unhide HO
      obtain ⟨b, o, rfl, hb, hcs⟩ := (unhide HA) (by omega)
      obtain ⟨cs, hl, hone, hP, hr⟩ := hcs k hlt
      have R := hide (rangeAt_below hr hO.bl)
      have HC := hide ((unhide HF) wr hO.bl k cs hlt hP hl)
      replace hO := hide hO
      clear hcs hr hb hP HO
      go_wp2_with (refine wpList_load_mid rfl 34 _ rfl _ _ rfl cs _ (unhide R) Tryz.underlying34 rfl (by rw [hl]; exact siz_Expr) ?_)
      refine (unhide HC).mono ?_
      rintro e w2 ⟨ds, rfl, hdl, hd1, hdq, hb2⟩
      have HD := hide (And.intro hdl (And.intro hd1 hdq))
      have HB2 := hide hb2
      have hfo := fold_set z_Expr ds (by rw [hdl]; rfl)
      simp only [z_Expr] at hfo
      clear hd1 hdq hb2 HC
      go_wp2_with (at_builtin; go_must (refine wpList_append_own_at _ rfl _ _ 32 rfl W.heap.size 34 ti (.agg z_Expr.toArray) 10 120 Tryz.underlying32 (unhide TI).1 (unhide TI).2.1 (unhide TI).2.2.1 (unhide TI).2.2.2 rfl (by decide) u3 k (flatN css k) rfl (own_below0 (unhide hO) (unhide HB2) _) ⟨w2.heap.size, 0, none⟩ 1 1 ds rfl (by rw [(unhide HD).1]) (cells_new w2 ds _) (all_mem (unhide HD).2.1) (by unfold maxLen; omega) (by have := unhide HBY; have h2 : (k + 1) * 120 ≤ n * 120 := Nat.mul_le_mul_right _ hlt; omega) (by have h1 := (unhide hO).bl.size; have h2 := (unhide HB2).size; simp; omega) ?_); intro v' w4 ho hg _ hat)
      have HN := hide (Out.next (unhide hO) (unhide HQ) (Nat.le_refl _) (unhide HB2) (unhide HD).2.2 (unhide HD).1 (unhide HD).2.1 ho hg hat)
      clear ho hg hat HD HB2 hO hfo
      go_wp2_with fail
      go_roundw
      case rel => exact ⟨k + 1, by omega, by go_num, hide ⟨_, unhide HN⟩⟩
      case measure => simp [RowKit.intOf]; omega
    · go_wp2
      have : k = n := by omega
      subst this
      obtain ⟨css, hO⟩ := unhide HO
      go_ret
      exact ⟨_, rfl, hO.done (unhide HQ) (unhide HBY), hO.bl⟩
set_option maxHeartbeats 4000000 in
set_option maxRecDepth 100000 in
theorem ref_bare : ∀ (e : E) (cs : List Value) (W : World), EIn W e cs →
    Calls Tryz.prog 192 #[.agg cs.toArray] W fun r W' => ∃ ds, r = .returned (.agg ds.toArray) ∧ EIn (World.only W' fun b => W.heap.size ≤ b) (bareE e) ds ∧ Below W.heap.size W W'
  | .no, _, _, h => False.elim h
  | .mk k op vk vn vt tb nm n args pl ty, cs, W, h => by
    obtain ⟨wf, v, rfl, hv⟩ := h
    have HC := hide fun W' (hb : Below W.heap.size W W') => hide (bares_gen (W := W') (Q := fun W1 i cs => EIn W1 (bareE (args i)) cs) (hv.both (.below hb) fun _ _ _ h => EIn.sub (.below hb) h) (fun _ _ _ _ hs h => EIn.sub hs h)
      (fun W2 hb2 i cs _ h hl => (ref_bare (args i) cs W2 (EIn.sub (.below hb2) h)).mono fun e W3 ⟨ds, h1, h2, h3⟩ => ⟨ds, h1, h2.len, EIn.one h2, h2, h3⟩))
    have HB : ∀ o o', Hid (Below W.heap.size W ((W.alloc o).alloc o')) := fun o o' => hide (((Below.refl _ _).alloc (Nat.le_refl _) o).alloc (by simp) o')
    have WF := hide wf
    obtain ⟨A, c, rfl, _⟩ := hv
    have S2 := hide (SB.two W (eCells k op vk vn vt tb nm (.slice A n c) pl ty) z_Expr 34)
    clear wf
    go_enter Tryz.func192, Tryz.ntmps192
    go_upto_region 1 with fail
    generalize hD : (W.alloc _).alloc _ = D0
    replace S2 : Hid (SB D0 W.heap.size (eCells k op vk vn vt tb nm (.slice A n c) pl ty) ∧ SB D0 (W.heap.size + 1) z_Expr) := by rw [← hD]; exact S2
    have HW : Hid (Below W.heap.size W D0 ∧ W.heap.size + 1 + 1 = D0.heap.size) := hide ⟨by rw [← hD]; exact unhide (HB _ _), by rw [← hD]; simp⟩
    clear hD HB
    have x8 := (unhide S2).1.cell 8 rfl
    have x9 := (unhide S2).1.cell 9 rfl
    have f8 := (unhide S2).1.free 8 (show 8 < 10 by decide)
    have f9 := (unhide S2).1.free 9 (show 9 < 10 by decide)
    have Y1 := hide (((unhide S2).1.put 8 [.int .i64 0] (show 9 ≤ 10 by decide)).put 9 [.int .i64 0] (show 10 ≤ 10 by decide))
    have Y2 := hide (((unhide S2).2.far (b := W.heap.size) (by omega) 8 [.int .i64 0]).far (b := W.heap.size) (by omega) 9 [.int .i64 0])
    have HW2 := hide (((unhide HW).1.setCell (p := ⟨W.heap.size, 8, none⟩) (Nat.le_refl _) (.int .i64 0)).setCell (p := ⟨W.heap.size, 9, none⟩) (Nat.le_refl _) (.int .i64 0))
    go_upto_region 2 with fail
    generalize hD : World.setCell _ _ _ = D
    replace Y1 : Hid (SB D W.heap.size (eCells k op vk vn vt tb nm (.slice A n c) 0 0)) := by rw [← hD]; exact Y1
    replace Y2 : Hid (SB D (W.heap.size + 1) z_Expr) := by rw [← hD]; exact Y2
    replace HW : Hid (Below W.heap.size W D ∧ W.heap.size + 1 + 1 = D.heap.size) := by rw [← hD]; exact hide ⟨unhide HW2, by simp [World.setCell]; exact (unhide HW).2⟩
    clear hD x8 x9 f8 f9 S2 HW2
    have x7 := (unhide Y1).cell 7 rfl
    go_wp2_with fail
    refine (unhide ((unhide HC) _ (unhide HW).1)).mono ?_
    rintro e w1 ⟨u, rfl, hu, hb1⟩
    have HU := hide hu
    obtain ⟨A', c', hue, _⟩ := id hu
    subst hue
    have HDs := hide (unhide HW).2
    replace HW := hide (And.intro (Below.andThen (unhide HW).1 hb1) (And.intro (unhide HW).2 hb1.size))
    have y7 := ((unhide Y1).below hb1).cell 7 rfl
    have g7 := ((unhide Y1).below hb1).free 7 (show 7 < 10 by decide)
    have Z1 := hide (((unhide Y1).below hb1).put 7 [.slice A' n c'] (show 8 ≤ 10 by decide))
    have Z2 := hide (((unhide Y2).below hb1).far (b := W.heap.size) (by omega) 7 [.slice A' n c'])
    have HFAR := hide (fun b (hb : W.heap.size + 1 + 1 ≤ b) => (heap_setCells (b := W.heap.size) (g := b) (by omega) [.slice A' n c'] 7 w1))
    clear hb1 hu x7 Y1 Y2
    go_upto_region 3 with fail
    generalize hD : World.setCell _ _ _ = D2
    replace Z1 : Hid (SB D2 W.heap.size (eCells k op vk vn vt tb nm (.slice A' n c') 0 0)) := by rw [← hD]; exact Z1
    replace Z2 : Hid (SB D2 (W.heap.size + 1) z_Expr) := by rw [← hD]; exact Z2
    replace HFAR : Hid ((∀ b, W.heap.size + 1 + 1 ≤ b → D2.heap[b]? = w1.heap[b]?) ∧ w1.heap.size = D2.heap.size) := by rw [← hD]; exact hide ⟨unhide HFAR, by simp [World.setCell]⟩
    replace HW : Hid (Below W.heap.size W D2 ∧ W.heap.size + 1 + 1 ≤ w1.heap.size) := by rw [← hD]; exact hide ⟨(unhide HW).1.setCell (p := ⟨W.heap.size, 7, none⟩) (Nat.le_refl _) _, by have := (unhide HW).2; omega⟩
    clear hD y7 g7
    have HTH : Hid (D2.there (W.heap.size + 1) 0 10) := hide (unhide Z2).there
    go_wp2_with (first
      | (refine wpList_load_mid rfl 34 _ rfl W.heap.size _ rfl (eCells k op vk vn vt tb nm (.slice A' n c') 0 0) _ (unhide Z1).at_ Tryz.underlying34 rfl siz_Expr ?_)
      | (refine wpList_store_mid rfl 34 _ _ rfl (W.heap.size + 1) 0 (eCells k op vk vn vt tb nm (.slice A' n c') 0 0).toArray rfl rfl (unhide HTH) siz_Expr (eOne _ _ _ _ _ _ _ _ _ _ _ _) ?_))
    refine bodyPost_ret (results_cell1 rfl _ _ (b := W.heap.size + 1) (o := 0) rfl ((unhide Z2).put 0 (eCells k op vk vn vt tb nm (.slice A' n c') 0 0) (Nat.le_refl 10)).at_ Tryz.underlying34 rfl siz_Expr) rfl ?_
    have hs : Sub (World.only w1 fun b => D.heap.size ≤ b) (World.only (D2.setCells (W.heap.size + 1) 0 (eCells k op vk vn vt tb nm (.slice A' n c') 0 0)) fun b => W.heap.size ≤ b) := by
      have e := unhide HDs
      refine only_only (by rw [setCells_size]; exact Nat.le_of_eq (unhide HFAR).2) fun b h1 h2 => ⟨by omega, ?_⟩
      rw [heap_setCells (by omega)]
      exact (unhide HFAR).1 b (by omega)
    exact ⟨_, rfl, ⟨⟨(unhide WF).k, (unhide WF).op, (unhide WF).vk, (unhide WF).vn, (unhide WF).vt, (unhide WF).tb, (unhide WF).nm, by constructor <;> decide, by constructor <;> decide⟩, _, rfl, (unhide HU).both hs fun _ _ _ h => EIn.sub hs h⟩, Below.setCells (by omega) _ _ _ (unhide HW).1⟩
end Go.Proofs.YtddedijencleeaaGreatDoor

/- consistoryref9.copied, copies (bared): contracts. -/
import Derived.Test.YtddedijencleeaaGreatDoorGn
set_option linter.all false
namespace Go.Proofs.YtddedijencleeaaGreatDoor
open Go.RowKit Go.Lib

set_option maxHeartbeats 4000000 in
set_option maxRecDepth 100000 in
theorem copied_ok (x : E) (cs : List Value) (W : World) (h : EIn W x cs) :
    Calls Tryz.prog 148 #[.agg cs.toArray, .bool true] W fun r W' => ∃ ds, r = .returned (.agg ds.toArray) ∧ EIn (World.only W' fun b => W.heap.size ≤ b) (bareE x) ds ∧ Below W.heap.size W W' := by
  have hl := h.len
  have hone := EIn.one h
  have HC := hide fun W' (hb : Below W.heap.size W W') => hide (ref_bare x cs W' (EIn.sub (.below hb) h))
  have HB : ∀ o o', Hid (Below W.heap.size W ((W.alloc o).alloc o')) := fun o o' => hide (((Below.refl _ _).alloc (Nat.le_refl _) o).alloc (by simp) o')
  have S2 := hide (SB.two W cs z_Expr 34)
  clear h
  go_enter Tryz.func148, Tryz.ntmps148
  go_upto_region 1 with fail
  generalize hD : (W.alloc _).alloc _ = D
  replace S2 : Hid (SB D W.heap.size cs ∧ SB D (W.heap.size + 1) z_Expr) := by rw [← hD]; exact S2
  have HW : Hid (Below W.heap.size W D ∧ W.heap.size + 1 + 1 = D.heap.size) := hide ⟨by rw [← hD]; exact unhide (HB _ _), by rw [← hD]; simp⟩
  clear hD HB
  go_wp2_with (refine wpList_load_mid rfl 34 _ rfl W.heap.size 0 rfl cs _ (unhide S2).1.at_ Tryz.underlying34 rfl (by rw [hl]; exact siz_Expr) ?_)
  refine (unhide ((unhide HC) _ (unhide HW).1)).mono ?_
  rintro e w1 ⟨fs, rfl, hf, hb1⟩
  have hfl := hf.len
  have hfone := EIn.one hf
  have HF := hide hf
  have HDs := hide (unhide HW).2
  have Y2 := hide ((unhide S2).2.below hb1)
  replace HW := hide (And.intro (Below.andThen (unhide HW).1 hb1) (And.intro (unhide HW).2 hb1.size))
  have HTH : Hid (w1.there (W.heap.size + 1) 0 10) := hide (unhide Y2).there
  clear hb1 hf
  go_wp2_with (refine wpList_store_mid rfl 34 _ _ rfl (W.heap.size + 1) 0 fs.toArray rfl rfl (by rw [show fs.toArray.size = 10 from hfl]; exact unhide HTH) (by rw [show fs.toArray.size = 10 from hfl]; exact siz_Expr) hfone ?_)
  have Z := (unhide Y2).put 0 fs (by rw [hfl]; exact Nat.le_refl 10)
  refine bodyPost_ret (results_cell1 rfl _ _ (b := W.heap.size + 1) (o := 0) rfl (cs := fs) (by
    have := Z.at_
    simpa [hfl, z_Expr] using this) Tryz.underlying34 rfl (by rw [hfl]; exact siz_Expr)) rfl ?_
  have hs : Sub (World.only w1 fun b => D.heap.size ≤ b) (World.only (w1.setCells (W.heap.size + 1) 0 fs) fun b => W.heap.size ≤ b) := by
    have e := unhide HDs
    refine only_only (by rw [setCells_size]; exact Nat.le_refl _) fun b h1 h2 => ⟨by omega, ?_⟩
    rw [heap_setCells (by omega)]
  exact ⟨fs, rfl, EIn.sub hs (unhide HF), Below.setCells (by omega) _ _ _ (unhide HW).1⟩
set_option maxHeartbeats 2000000 in
set_option maxRecDepth 100000 in
theorem copies_gen {W : World} {n : Nat} {v : Value} {P : Nat → List Value → Prop} {Q : World → Nat → List Value → Prop} (hv : SlF W 10 120 n v P)
    (hQ : ∀ W1 W2 i cs, Sub W1 W2 → Q W1 i cs → Q W2 i cs)
    (hf : ∀ W', Below W.heap.size W W' → ∀ i cs, i < n → P i cs → cs.length = 10 → Calls Tryz.prog 148 #[.agg cs.toArray, .bool true] W' fun e W2 => ∃ ds, e = .returned (.agg ds.toArray) ∧ ds.length = 10 ∧ ds.toArray.all (·.oneCell') = true ∧ Q (World.only W2 fun b => W'.heap.size ≤ b) i ds ∧ Below W'.heap.size W' W2) :
    Calls Tryz.prog 147 #[v, .bool true] W fun e W' => ∃ u, e = .returned u ∧ SlF (World.only W' fun b => W.heap.size ≤ b) 10 120 n u (fun i ds => Q (World.only W' fun b => W.heap.size ≤ b) i ds) ∧ Below W.heap.size W W' := by
  obtain ⟨A, c, rfl, hnc, hc, hby, hA⟩ := hv
  obtain ⟨ti, hti, hzero, hsize, hbytes⟩ := info_parts inf_Expr
  have TI := hide (And.intro hti (And.intro hzero (And.intro hsize hbytes)))
  have HA := hide hA
  have HF := hide hf
  have HQ := hide hQ
  have hn : n ≤ 9223372036854775807 := by omega
  have HBY := hide hby
  clear hA hf hnc hc hby hQ hti hzero hsize hbytes
  go_enter Tryz.func147, Tryz.ntmps147
  go_wp2
  go_loopw [5, 6] (fun o i wr => ∃ k : Nat, k ≤ n ∧ i = .int .i64 k ∧ Hid (∃ css, Out W wr 34 10 k o css Q)) (fun _ i _ => n - (RowKit.intOf i).toNat)
  case atStart => exact ⟨0, Nat.zero_le _, rfl, hide ⟨fun _ => [], Out.start⟩⟩
  case round =>
    obtain ⟨k, hk, rfl, HO⟩ := hrel
    by_cases hlt : k < n
    · obtain ⟨css, hO⟩ := unhide HO
      obtain ⟨b, o, rfl, hb, hcs⟩ := (unhide HA) (by omega)
      obtain ⟨cs, hl, hone, hP, hr⟩ := hcs k hlt
      have R := hide (rangeAt_below hr hO.bl)
      have HC := hide ((unhide HF) wr hO.bl k cs hlt hP hl)
      replace hO := hide hO
      clear hcs hr hb hP HO
      go_wp2_with (refine wpList_load_mid rfl 34 _ rfl _ _ rfl cs _ (unhide R) Tryz.underlying34 rfl (by rw [hl]; exact siz_Expr) ?_)
      refine (unhide HC).mono ?_
      rintro e w2 ⟨ds, rfl, hdl, hd1, hdq, hb2⟩
      have HD := hide (And.intro hdl (And.intro hd1 hdq))
      have HB2 := hide hb2
      have hfo := fold_set z_Expr ds (by rw [hdl]; rfl)
      simp only [z_Expr] at hfo
      clear hd1 hdq hb2 HC
      go_wp2_with (at_builtin; go_must (refine wpList_append_own_at _ rfl _ _ 32 rfl W.heap.size 34 ti (.agg z_Expr.toArray) 10 120 Tryz.underlying32 (unhide TI).1 (unhide TI).2.1 (unhide TI).2.2.1 (unhide TI).2.2.2 rfl (by decide) u5 k (flatN css k) rfl (own_below0 (unhide hO) (unhide HB2) _) ⟨w2.heap.size, 0, none⟩ 1 1 ds rfl (by rw [(unhide HD).1]) (cells_new w2 ds _) (all_mem (unhide HD).2.1) (by unfold maxLen; omega) (by have := unhide HBY; have h2 : (k + 1) * 120 ≤ n * 120 := Nat.mul_le_mul_right _ hlt; omega) (by have h1 := (unhide hO).bl.size; have h2 := (unhide HB2).size; simp; omega) ?_); intro v' w4 ho hg _ hat)
      have HN := hide (Out.next (unhide hO) (unhide HQ) (Nat.le_refl _) (unhide HB2) (unhide HD).2.2 (unhide HD).1 (unhide HD).2.1 ho hg hat)
      clear ho hg hat HD HB2 hO hfo
      go_wp2_with fail
      go_roundw
      case rel => exact ⟨k + 1, by omega, by go_num, hide ⟨_, unhide HN⟩⟩
      case measure => simp [RowKit.intOf]; omega
    · go_wp2
      have : k = n := by omega
      subst this
      obtain ⟨css, hO⟩ := unhide HO
      go_ret
      exact ⟨_, rfl, hO.done (unhide HQ) (unhide HBY), hO.bl⟩
theorem copies_ok {W : World} {n : Nat} {f : Nat → E} {v : Value} (hv : EsIn W n f v) :
    Calls Tryz.prog 147 #[v, .bool true] W fun e W' => ∃ u, e = .returned u ∧ EsIn (World.only W' fun b => W.heap.size ≤ b) n (fun i => bareE (f i)) u ∧ Below W.heap.size W W' :=
  copies_gen (Q := fun W1 i cs => EIn W1 (bareE (f i)) cs) hv (fun _ _ _ _ hs h => EIn.sub hs h)
    (fun W2 hb2 i cs _ h hl => (copied_ok (f i) cs W2 (EIn.sub (.below hb2) h)).mono fun e W3 ⟨ds, h1, h2, h3⟩ => ⟨ds, h1, h2.len, EIn.one h2, h2, h3⟩)
end Go.Proofs.YtddedijencleeaaGreatDoor

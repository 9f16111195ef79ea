/- tree.each of rows of structs: contract. -/
import Derived.Test.YtddedijencleeaaGreatDoorGd
import Derived.Test.YtddedijencleeaaGreatDoorGb
import Derived.Deep.DeepMust
set_option linter.all false
namespace Go.Proofs.YtddedijencleeaaGreatDoor
open Go.RowKit Go.Lib

theorem info_parts {P : Program} {t : TypeId} {z : Value} {s b : Nat} (h : (P.info? t).map (fun i => (i.zero, i.size, i.bytes)) = some (some z, s, b)) : ∃ i, P.info? t = some i ∧ i.zero = some z ∧ i.size = s ∧ i.bytes = b := by
  cases hi : P.info? t with
  | none => rw [hi] at h; cases h
  | some i =>
    rw [hi] at h
    simp only [Option.map_some, Option.some.injEq, Prod.mk.injEq] at h
    exact ⟨i, rfl, h.1, h.2.1, h.2.2⟩
theorem foldset : ∀ (ds : List Value) (k : Nat) (cs : Array Value), k + ds.length ≤ cs.size → (List.foldl (fun (cs : Array Value) (x : Value × Nat) => cs.setIfInBounds x.snd x.fst) cs (ds.zipIdx k)).toList = cs.toList.take k ++ ds ++ cs.toList.drop (k + ds.length)
  | [], k, cs, h => by simp
  | d :: l, k, cs, h => by
    rw [List.length_cons] at h
    have hk : k < cs.toList.length := by rw [Array.length_toList]; omega
    have hl : (cs.toList.take k).length = k := by rw [List.length_take]; omega
    have e1 : (cs.toList.set k d).take (k + 1) = cs.toList.take k ++ [d] := by
      apply List.ext_getElem?
      intro i
      rw [List.getElem?_take, List.getElem?_append, hl]
      rcases Nat.lt_trichotomy i k with h1 | h1 | h1
      · rw [if_pos (by omega), if_pos h1, List.getElem?_set_ne (by omega), List.getElem?_take, if_pos h1]
      · subst h1
        rw [if_pos (by omega), if_neg (by omega), List.getElem?_set_self hk, Nat.sub_self]; rfl
      · rw [if_neg (by omega), if_neg (by omega)]
        symm
        rw [List.getElem?_eq_none]
        simp; omega
    rw [List.zipIdx_cons, List.foldl_cons, foldset l (k + 1) _ (by simp; omega), Array.toList_setIfInBounds, e1, List.drop_set_of_lt (by omega), List.append_assoc, List.append_assoc, List.append_assoc, List.length_cons, show k + 1 + l.length = k + (l.length + 1) by omega]
    rfl
theorem fold_set (zs ds : List Value) (h : zs.length = ds.length) : List.foldl (fun (cs : Array Value) (x : Value × Nat) => cs.setIfInBounds x.snd x.fst) zs.toArray ds.zipIdx = ds.toArray := by
  apply Array.toList_inj.1
  rw [foldset ds 0 zs.toArray (by simp [h])]
  simp [h]
theorem all_mem {ds : List Value} (h : ds.toArray.all (·.oneCell') = true) : ∀ u ∈ ds, u.oneCell' = true := by
  have : ds.all (·.oneCell') = true := by simpa using h
  exact List.all_eq_true.1 this
theorem own_below0 {W wr W2 : World} {e : TypeId} {size k : Nat} {v : Value} {css : Nat → List Value} {Q : World → Nat → List Value → Prop} (h : Out W wr e size k v css Q) (hb : Below wr.heap.size wr W2) (o : Obj) : (W2.alloc o).ownsRow W.heap.size e size v k (flatN css k) := by
  have hb' : Below wr.heap.size wr (W2.alloc o) := hb.alloc hb.size o
  exact h.own.kept (row := none) ⟨hb'.os, hb'.tape, hb'.output, hb'.size, fun k hk _ => hb'.block k hk⟩ (by cases v.ownBlock <;> simp)
theorem inf_Expr : (Tryz.prog.info? 34).map (fun i => (i.zero, i.size, i.bytes)) = some (some (.agg z_Expr.toArray), 10, 120) := by kernel_rfl
set_option maxHeartbeats 2000000 in
set_option maxRecDepth 100000 in
theorem each_Expr {W : World} {n : Nat} {v : Value} {P : Nat → List Value → Prop} {Q : World → Nat → List Value → Prop} {g : Nat} (he : ∀ args w, (callFunc g args).run Tryz.prog w = .ok (.enter g args) w) (hv : SlF W 10 120 n v P)
    (hQ : ∀ W1 W2 i cs, Sub W1 W2 → Q W1 i cs → Q W2 i cs)
    (hf : ∀ W', Below W.heap.size W W' → ∀ i cs, i < n → P i cs → cs.length = 10 → Calls Tryz.prog g #[.agg cs.toArray] W' fun e W2 => ∃ ds, e = .returned (.agg ds.toArray) ∧ ds.length = 10 ∧ ds.toArray.all (·.oneCell') = true ∧ Q (World.only W2 fun b => W'.heap.size ≤ b) i ds ∧ Below W'.heap.size W' W2) :
    Calls Tryz.prog 67 #[v, .func (Fn.func g) #[] #[]] W fun e W' => ∃ u, e = .returned u ∧ SlF (World.only W' fun b => W.heap.size ≤ b) 10 120 n u (fun i ds => Q (World.only W' fun b => W.heap.size ≤ b) i ds) ∧ Below W.heap.size W W' := by
  obtain ⟨A, c, rfl, hnc, hc, hby, hA⟩ := hv
  obtain ⟨ti, hti, hzero, hsize, hbytes⟩ := info_parts inf_Expr
  have TI := hide (And.intro hti (And.intro hzero (And.intro hsize hbytes)))
  have HA := hide hA
  have HF := hide hf
  have HQ := hide hQ
  have hn : n ≤ 9223372036854775807 := by omega
  have HBY := hide hby
  clear hA hf hnc hc hby hQ hti hzero hsize hbytes
  go_enter Tryz.func67, Tryz.ntmps67
  go_wp2
  go_loopw [5, 7, 10] (fun o _ i wr => ∃ k : Nat, k ≤ n ∧ i = .int .i64 k ∧ Hid (∃ css, Out W wr 34 10 k o css Q)) (fun _ _ i _ => n - (RowKit.intOf i).toNat)
  case atStart => exact ⟨0, Nat.zero_le _, rfl, hide ⟨fun _ => [], Out.start⟩⟩
  case round =>
    obtain ⟨k, hk, rfl, HO⟩ := hrel
    by_cases hlt : k < n
    · obtain ⟨css, hO⟩ := unhide HO
      obtain ⟨b, o, rfl, hb, hcs⟩ := (unhide HA) (by omega)
      obtain ⟨cs, hl, hone, hP, hr⟩ := hcs k hlt
      have R := hide (rangeAt_below hr hO.bl)
      have BX := hide (boxed wr z_Expr cs 34 (by rw [hl]; rfl))
      have HTH : Hid ((wr.alloc (.cells z_Expr.toArray 34)).there wr.heap.size 0 10) := hide (SB.new wr z_Expr 34).there
      have HC := hide fun wr' hb => hide ((unhide HF) wr' hb k cs hlt hP hl)
      replace hO := hide hO
      clear hcs hr hb hP HO
      go_upto_region 5 with (first
        | (refine wpList_load_mid rfl 34 _ rfl _ _ rfl cs _ (unhide R) Tryz.underlying34 rfl (by rw [hl]; exact siz_Expr) ?_)
        | (refine wpList_store_mid rfl 34 _ _ rfl wr.heap.size 0 cs.toArray rfl rfl (by rw [show cs.toArray.size = 10 from hl]; exact unhide HTH) (by rw [show cs.toArray.size = 10 from hl]; exact siz_Expr) hone ?_))
      generalize hD : World.setCells _ _ _ _ = D
      replace BX : Hid (SB D wr.heap.size cs ∧ Below wr.heap.size wr D ∧ D.heap.size = wr.heap.size + 1) := by rw [← hD]; exact BX
      clear hD HTH R
      replace HC := unhide HC D (Below.andThen (unhide hO).bl (unhide BX).2.1)
      go_wp2_with (refine wpList_load_mid rfl 34 _ rfl wr.heap.size _ rfl cs _ (unhide BX).1.at_ Tryz.underlying34 rfl (by rw [hl]; exact siz_Expr) ?_)
      refine (unhide HC).mono ?_
      rintro e w2 ⟨ds, rfl, hdl, hd1, hdq, hb2⟩
      have HD := hide (And.intro hdl (And.intro hd1 hdq))
      have HB2 := hide (Below.andThen (unhide BX).2.1 hb2)
      have hbs := (unhide BX).2.1.size
      have hfo := fold_set z_Expr ds (by rw [hdl]; rfl)
      simp only [z_Expr, z_Expr, List.cons_append, List.nil_append] at hfo
      clear hd1 hdq hb2 HC
      go_wp2_with (at_builtin; go_must (refine wpList_append_own_at _ rfl _ _ 32 rfl W.heap.size 34 ti (.agg z_Expr.toArray) 10 120 Tryz.underlying32 (unhide TI).1 (unhide TI).2.1 (unhide TI).2.2.1 (unhide TI).2.2.2 rfl (by decide) u5 k (flatN css k) rfl (own_below0 (unhide hO) (unhide HB2) _) ⟨w2.heap.size, 0, none⟩ 1 1 ds rfl (by rw [(unhide HD).1]) (cells_new w2 ds _) (all_mem (unhide HD).2.1) (by unfold maxLen; omega) (by have := unhide HBY; have h2 : (k + 1) * 120 ≤ n * 120 := Nat.mul_le_mul_right _ hlt; omega) (by have h1 := (unhide hO).bl.size; have h2 := (unhide HB2).size; simp; omega) ?_); intro v' w4 ho hg _ hat)
      have HN := hide (Out.next (unhide hO) (unhide HQ) hbs (unhide HB2) (unhide HD).2.2 (unhide HD).1 (unhide HD).2.1 ho hg hat)
      clear ho hg hat HD HB2 BX hO hfo
      go_wp2_with fail
      go_roundw
      case rel => exact ⟨k + 1, by omega, by go_num, hide ⟨_, unhide HN⟩⟩
      case measure => simp [RowKit.intOf]; omega
    · go_wp2
      have : k = n := by omega
      subst this
      obtain ⟨css, hO⟩ := unhide HO
      go_ret
      exact ⟨_, rfl, hO.done (unhide HQ) (unhide HBY), hO.bl⟩
theorem inf_Key : (Tryz.prog.info? 59).map (fun i => (i.zero, i.size, i.bytes)) = some (some (.agg z_Key.toArray), 4, 48) := by kernel_rfl
set_option maxHeartbeats 2000000 in
set_option maxRecDepth 100000 in
theorem each_Key {W : World} {n : Nat} {v : Value} {P : Nat → List Value → Prop} {Q : World → Nat → List Value → Prop} {g : Nat} (he : ∀ args w, (callFunc g args).run Tryz.prog w = .ok (.enter g args) w) (hv : SlF W 4 48 n v P)
    (hQ : ∀ W1 W2 i cs, Sub W1 W2 → Q W1 i cs → Q W2 i cs)
    (hf : ∀ W', Below W.heap.size W W' → ∀ i cs, i < n → P i cs → cs.length = 4 → Calls Tryz.prog g #[.agg cs.toArray] W' fun e W2 => ∃ ds, e = .returned (.agg ds.toArray) ∧ ds.length = 4 ∧ ds.toArray.all (·.oneCell') = true ∧ Q (World.only W2 fun b => W'.heap.size ≤ b) i ds ∧ Below W'.heap.size W' W2) :
    Calls Tryz.prog 60 #[v, .func (Fn.func g) #[] #[]] W fun e W' => ∃ u, e = .returned u ∧ SlF (World.only W' fun b => W.heap.size ≤ b) 4 48 n u (fun i ds => Q (World.only W' fun b => W.heap.size ≤ b) i ds) ∧ Below W.heap.size W W' := by
  obtain ⟨A, c, rfl, hnc, hc, hby, hA⟩ := hv
  obtain ⟨ti, hti, hzero, hsize, hbytes⟩ := info_parts inf_Key
  have TI := hide (And.intro hti (And.intro hzero (And.intro hsize hbytes)))
  have HA := hide hA
  have HF := hide hf
  have HQ := hide hQ
  have hn : n ≤ 9223372036854775807 := by omega
  have HBY := hide hby
  clear hA hf hnc hc hby hQ hti hzero hsize hbytes
  go_enter Tryz.func60, Tryz.ntmps60
  go_wp2
  go_loopw [5, 7, 10] (fun o _ i wr => ∃ k : Nat, k ≤ n ∧ i = .int .i64 k ∧ Hid (∃ css, Out W wr 59 4 k o css Q)) (fun _ _ i _ => n - (RowKit.intOf i).toNat)
  case atStart => exact ⟨0, Nat.zero_le _, rfl, hide ⟨fun _ => [], Out.start⟩⟩
  case round =>
    obtain ⟨k, hk, rfl, HO⟩ := hrel
    by_cases hlt : k < n
    · obtain ⟨css, hO⟩ := unhide HO
      obtain ⟨b, o, rfl, hb, hcs⟩ := (unhide HA) (by omega)
      obtain ⟨cs, hl, hone, hP, hr⟩ := hcs k hlt
      have R := hide (rangeAt_below hr hO.bl)
      have BX := hide (boxed wr z_Key cs 59 (by rw [hl]; rfl))
      have HTH : Hid ((wr.alloc (.cells z_Key.toArray 59)).there wr.heap.size 0 4) := hide (SB.new wr z_Key 59).there
      have HC := hide fun wr' hb => hide ((unhide HF) wr' hb k cs hlt hP hl)
      replace hO := hide hO
      clear hcs hr hb hP HO
      go_upto_region 5 with (first
        | (refine wpList_load_mid rfl 59 _ rfl _ _ rfl cs _ (unhide R) Tryz.underlying59 rfl (by rw [hl]; exact siz_Key) ?_)
        | (refine wpList_store_mid rfl 59 _ _ rfl wr.heap.size 0 cs.toArray rfl rfl (by rw [show cs.toArray.size = 4 from hl]; exact unhide HTH) (by rw [show cs.toArray.size = 4 from hl]; exact siz_Key) hone ?_))
      generalize hD : World.setCells _ _ _ _ = D
      replace BX : Hid (SB D wr.heap.size cs ∧ Below wr.heap.size wr D ∧ D.heap.size = wr.heap.size + 1) := by rw [← hD]; exact BX
      clear hD HTH R
      replace HC := unhide HC D (Below.andThen (unhide hO).bl (unhide BX).2.1)
      go_wp2_with (refine wpList_load_mid rfl 59 _ rfl wr.heap.size _ rfl cs _ (unhide BX).1.at_ Tryz.underlying59 rfl (by rw [hl]; exact siz_Key) ?_)
      refine (unhide HC).mono ?_
      rintro e w2 ⟨ds, rfl, hdl, hd1, hdq, hb2⟩
      have HD := hide (And.intro hdl (And.intro hd1 hdq))
      have HB2 := hide (Below.andThen (unhide BX).2.1 hb2)
      have hbs := (unhide BX).2.1.size
      have hfo := fold_set z_Key ds (by rw [hdl]; rfl)
      simp only [z_Key, z_Expr, List.cons_append, List.nil_append] at hfo
      clear hd1 hdq hb2 HC
      go_wp2_with (at_builtin; go_must (refine wpList_append_own_at _ rfl _ _ 23 rfl W.heap.size 59 ti (.agg z_Key.toArray) 4 48 Tryz.underlying23 (unhide TI).1 (unhide TI).2.1 (unhide TI).2.2.1 (unhide TI).2.2.2 rfl (by decide) u5 k (flatN css k) rfl (own_below0 (unhide hO) (unhide HB2) _) ⟨w2.heap.size, 0, none⟩ 1 1 ds rfl (by rw [(unhide HD).1]) (cells_new w2 ds _) (all_mem (unhide HD).2.1) (by unfold maxLen; omega) (by have := unhide HBY; have h2 : (k + 1) * 48 ≤ n * 48 := Nat.mul_le_mul_right _ hlt; omega) (by have h1 := (unhide hO).bl.size; have h2 := (unhide HB2).size; simp; omega) ?_); intro v' w4 ho hg _ hat)
      have HN := hide (Out.next (unhide hO) (unhide HQ) hbs (unhide HB2) (unhide HD).2.2 (unhide HD).1 (unhide HD).2.1 ho hg hat)
      clear ho hg hat HD HB2 BX hO hfo
      go_wp2_with fail
      go_roundw
      case rel => exact ⟨k + 1, by omega, by go_num, hide ⟨_, unhide HN⟩⟩
      case measure => simp [RowKit.intOf]; omega
    · go_wp2
      have : k = n := by omega
      subst this
      obtain ⟨css, hO⟩ := unhide HO
      go_ret
      exact ⟨_, rfl, hO.done (unhide HQ) (unhide HBY), hO.bl⟩
theorem inf_Set : (Tryz.prog.info? 61).map (fun i => (i.zero, i.size, i.bytes)) = some (some (.agg z_Set.toArray), 11, 136) := by kernel_rfl
set_option maxHeartbeats 2000000 in
set_option maxRecDepth 100000 in
theorem each_Set {W : World} {n : Nat} {v : Value} {P : Nat → List Value → Prop} {Q : World → Nat → List Value → Prop} {g : Nat} (he : ∀ args w, (callFunc g args).run Tryz.prog w = .ok (.enter g args) w) (hv : SlF W 11 136 n v P)
    (hQ : ∀ W1 W2 i cs, Sub W1 W2 → Q W1 i cs → Q W2 i cs)
    (hf : ∀ W', Below W.heap.size W W' → ∀ i cs, i < n → P i cs → cs.length = 11 → Calls Tryz.prog g #[.agg cs.toArray] W' fun e W2 => ∃ ds, e = .returned (.agg ds.toArray) ∧ ds.length = 11 ∧ ds.toArray.all (·.oneCell') = true ∧ Q (World.only W2 fun b => W'.heap.size ≤ b) i ds ∧ Below W'.heap.size W' W2) :
    Calls Tryz.prog 69 #[v, .func (Fn.func g) #[] #[]] W fun e W' => ∃ u, e = .returned u ∧ SlF (World.only W' fun b => W.heap.size ≤ b) 11 136 n u (fun i ds => Q (World.only W' fun b => W.heap.size ≤ b) i ds) ∧ Below W.heap.size W W' := by
  obtain ⟨A, c, rfl, hnc, hc, hby, hA⟩ := hv
  obtain ⟨ti, hti, hzero, hsize, hbytes⟩ := info_parts inf_Set
  have TI := hide (And.intro hti (And.intro hzero (And.intro hsize hbytes)))
  have HA := hide hA
  have HF := hide hf
  have HQ := hide hQ
  have hn : n ≤ 9223372036854775807 := by omega
  have HBY := hide hby
  clear hA hf hnc hc hby hQ hti hzero hsize hbytes
  go_enter Tryz.func69, Tryz.ntmps69
  go_wp2
  go_loopw [5, 7, 10] (fun o _ i wr => ∃ k : Nat, k ≤ n ∧ i = .int .i64 k ∧ Hid (∃ css, Out W wr 61 11 k o css Q)) (fun _ _ i _ => n - (RowKit.intOf i).toNat)
  case atStart => exact ⟨0, Nat.zero_le _, rfl, hide ⟨fun _ => [], Out.start⟩⟩
  case round =>
    obtain ⟨k, hk, rfl, HO⟩ := hrel
    by_cases hlt : k < n
    · obtain ⟨css, hO⟩ := unhide HO
      obtain ⟨b, o, rfl, hb, hcs⟩ := (unhide HA) (by omega)
      obtain ⟨cs, hl, hone, hP, hr⟩ := hcs k hlt
      have R := hide (rangeAt_below hr hO.bl)
      have BX := hide (boxed wr z_Set cs 61 (by rw [hl]; rfl))
      have HTH : Hid ((wr.alloc (.cells z_Set.toArray 61)).there wr.heap.size 0 11) := hide (SB.new wr z_Set 61).there
      have HC := hide fun wr' hb => hide ((unhide HF) wr' hb k cs hlt hP hl)
      replace hO := hide hO
      clear hcs hr hb hP HO
      go_upto_region 5 with (first
        | (refine wpList_load_mid rfl 61 _ rfl _ _ rfl cs _ (unhide R) Tryz.underlying61 rfl (by rw [hl]; exact siz_Set) ?_)
        | (refine wpList_store_mid rfl 61 _ _ rfl wr.heap.size 0 cs.toArray rfl rfl (by rw [show cs.toArray.size = 11 from hl]; exact unhide HTH) (by rw [show cs.toArray.size = 11 from hl]; exact siz_Set) hone ?_))
      generalize hD : World.setCells _ _ _ _ = D
      replace BX : Hid (SB D wr.heap.size cs ∧ Below wr.heap.size wr D ∧ D.heap.size = wr.heap.size + 1) := by rw [← hD]; exact BX
      clear hD HTH R
      replace HC := unhide HC D (Below.andThen (unhide hO).bl (unhide BX).2.1)
      go_wp2_with (refine wpList_load_mid rfl 61 _ rfl wr.heap.size _ rfl cs _ (unhide BX).1.at_ Tryz.underlying61 rfl (by rw [hl]; exact siz_Set) ?_)
      refine (unhide HC).mono ?_
      rintro e w2 ⟨ds, rfl, hdl, hd1, hdq, hb2⟩
      have HD := hide (And.intro hdl (And.intro hd1 hdq))
      have HB2 := hide (Below.andThen (unhide BX).2.1 hb2)
      have hbs := (unhide BX).2.1.size
      have hfo := fold_set z_Set ds (by rw [hdl]; rfl)
      simp only [z_Set, z_Expr, List.cons_append, List.nil_append] at hfo
      clear hd1 hdq hb2 HC
      go_wp2_with (at_builtin; go_must (refine wpList_append_own_at _ rfl _ _ 29 rfl W.heap.size 61 ti (.agg z_Set.toArray) 11 136 Tryz.underlying29 (unhide TI).1 (unhide TI).2.1 (unhide TI).2.2.1 (unhide TI).2.2.2 rfl (by decide) u5 k (flatN css k) rfl (own_below0 (unhide hO) (unhide HB2) _) ⟨w2.heap.size, 0, none⟩ 1 1 ds rfl (by rw [(unhide HD).1]) (cells_new w2 ds _) (all_mem (unhide HD).2.1) (by unfold maxLen; omega) (by have := unhide HBY; have h2 : (k + 1) * 136 ≤ n * 136 := Nat.mul_le_mul_right _ hlt; omega) (by have h1 := (unhide hO).bl.size; have h2 := (unhide HB2).size; simp; omega) ?_); intro v' w4 ho hg _ hat)
      have HN := hide (Out.next (unhide hO) (unhide HQ) hbs (unhide HB2) (unhide HD).2.2 (unhide HD).1 (unhide HD).2.1 ho hg hat)
      clear ho hg hat HD HB2 BX hO hfo
      go_wp2_with fail
      go_roundw
      case rel => exact ⟨k + 1, by omega, by go_num, hide ⟨_, unhide HN⟩⟩
      case measure => simp [RowKit.intOf]; omega
    · go_wp2
      have : k = n := by omega
      subst this
      obtain ⟨css, hO⟩ := unhide HO
      go_ret
      exact ⟨_, rfl, hO.done (unhide HQ) (unhide HBY), hO.bl⟩
theorem inf_Item : (Tryz.prog.info? 63).map (fun i => (i.zero, i.size, i.bytes)) = some (some (.agg z_Item.toArray), 12, 144) := by kernel_rfl
set_option maxHeartbeats 2000000 in
set_option maxRecDepth 100000 in
theorem each_Item {W : World} {n : Nat} {v : Value} {P : Nat → List Value → Prop} {Q : World → Nat → List Value → Prop} {g : Nat} (he : ∀ args w, (callFunc g args).run Tryz.prog w = .ok (.enter g args) w) (hv : SlF W 12 144 n v P)
    (hQ : ∀ W1 W2 i cs, Sub W1 W2 → Q W1 i cs → Q W2 i cs)
    (hf : ∀ W', Below W.heap.size W W' → ∀ i cs, i < n → P i cs → cs.length = 12 → Calls Tryz.prog g #[.agg cs.toArray] W' fun e W2 => ∃ ds, e = .returned (.agg ds.toArray) ∧ ds.length = 12 ∧ ds.toArray.all (·.oneCell') = true ∧ Q (World.only W2 fun b => W'.heap.size ≤ b) i ds ∧ Below W'.heap.size W' W2) :
    Calls Tryz.prog 71 #[v, .func (Fn.func g) #[] #[]] W fun e W' => ∃ u, e = .returned u ∧ SlF (World.only W' fun b => W.heap.size ≤ b) 12 144 n u (fun i ds => Q (World.only W' fun b => W.heap.size ≤ b) i ds) ∧ Below W.heap.size W W' := by
  obtain ⟨A, c, rfl, hnc, hc, hby, hA⟩ := hv
  obtain ⟨ti, hti, hzero, hsize, hbytes⟩ := info_parts inf_Item
  have TI := hide (And.intro hti (And.intro hzero (And.intro hsize hbytes)))
  have HA := hide hA
  have HF := hide hf
  have HQ := hide hQ
  have hn : n ≤ 9223372036854775807 := by omega
  have HBY := hide hby
  clear hA hf hnc hc hby hQ hti hzero hsize hbytes
  go_enter Tryz.func71, Tryz.ntmps71
  go_wp2
  go_loopw [5, 7, 10] (fun o _ i wr => ∃ k : Nat, k ≤ n ∧ i = .int .i64 k ∧ Hid (∃ css, Out W wr 63 12 k o css Q)) (fun _ _ i _ => n - (RowKit.intOf i).toNat)
  case atStart => exact ⟨0, Nat.zero_le _, rfl, hide ⟨fun _ => [], Out.start⟩⟩
  case round =>
    obtain ⟨k, hk, rfl, HO⟩ := hrel
    by_cases hlt : k < n
    · obtain ⟨css, hO⟩ := unhide HO
      obtain ⟨b, o, rfl, hb, hcs⟩ := (unhide HA) (by omega)
      obtain ⟨cs, hl, hone, hP, hr⟩ := hcs k hlt
      have R := hide (rangeAt_below hr hO.bl)
      have BX := hide (boxed wr z_Item cs 63 (by rw [hl]; rfl))
      have HTH : Hid ((wr.alloc (.cells z_Item.toArray 63)).there wr.heap.size 0 12) := hide (SB.new wr z_Item 63).there
      have HC := hide fun wr' hb => hide ((unhide HF) wr' hb k cs hlt hP hl)
      replace hO := hide hO
      clear hcs hr hb hP HO
      go_upto_region 5 with (first
        | (refine wpList_load_mid rfl 63 _ rfl _ _ rfl cs _ (unhide R) Tryz.underlying63 rfl (by rw [hl]; exact siz_Item) ?_)
        | (refine wpList_store_mid rfl 63 _ _ rfl wr.heap.size 0 cs.toArray rfl rfl (by rw [show cs.toArray.size = 12 from hl]; exact unhide HTH) (by rw [show cs.toArray.size = 12 from hl]; exact siz_Item) hone ?_))
      generalize hD : World.setCells _ _ _ _ = D
      replace BX : Hid (SB D wr.heap.size cs ∧ Below wr.heap.size wr D ∧ D.heap.size = wr.heap.size + 1) := by rw [← hD]; exact BX
      clear hD HTH R
      replace HC := unhide HC D (Below.andThen (unhide hO).bl (unhide BX).2.1)
      go_wp2_with (refine wpList_load_mid rfl 63 _ rfl wr.heap.size _ rfl cs _ (unhide BX).1.at_ Tryz.underlying63 rfl (by rw [hl]; exact siz_Item) ?_)
      refine (unhide HC).mono ?_
      rintro e w2 ⟨ds, rfl, hdl, hd1, hdq, hb2⟩
      have HD := hide (And.intro hdl (And.intro hd1 hdq))
      have HB2 := hide (Below.andThen (unhide BX).2.1 hb2)
      have hbs := (unhide BX).2.1.size
      have hfo := fold_set z_Item ds (by rw [hdl]; rfl)
      simp only [z_Item, z_Expr, List.cons_append, List.nil_append] at hfo
      clear hd1 hdq hb2 HC
      go_wp2_with (at_builtin; go_must (refine wpList_append_own_at _ rfl _ _ 35 rfl W.heap.size 63 ti (.agg z_Item.toArray) 12 144 Tryz.underlying35 (unhide TI).1 (unhide TI).2.1 (unhide TI).2.2.1 (unhide TI).2.2.2 rfl (by decide) u5 k (flatN css k) rfl (own_below0 (unhide hO) (unhide HB2) _) ⟨w2.heap.size, 0, none⟩ 1 1 ds rfl (by rw [(unhide HD).1]) (cells_new w2 ds _) (all_mem (unhide HD).2.1) (by unfold maxLen; omega) (by have := unhide HBY; have h2 : (k + 1) * 144 ≤ n * 144 := Nat.mul_le_mul_right _ hlt; omega) (by have h1 := (unhide hO).bl.size; have h2 := (unhide HB2).size; simp; omega) ?_); intro v' w4 ho hg _ hat)
      have HN := hide (Out.next (unhide hO) (unhide HQ) hbs (unhide HB2) (unhide HD).2.2 (unhide HD).1 (unhide HD).2.1 ho hg hat)
      clear ho hg hat HD HB2 BX hO hfo
      go_wp2_with fail
      go_roundw
      case rel => exact ⟨k + 1, by omega, by go_num, hide ⟨_, unhide HN⟩⟩
      case measure => simp [RowKit.intOf]; omega
    · go_wp2
      have : k = n := by omega
      subst this
      obtain ⟨css, hO⟩ := unhide HO
      go_ret
      exact ⟨_, rfl, hO.done (unhide HQ) (unhide HBY), hO.bl⟩
theorem inf_Source : (Tryz.prog.info? 65).map (fun i => (i.zero, i.size, i.bytes)) = some (some (.agg z_Source.toArray), 13, 160) := by kernel_rfl
set_option maxHeartbeats 2000000 in
set_option maxRecDepth 100000 in
theorem each_Source {W : World} {n : Nat} {v : Value} {P : Nat → List Value → Prop} {Q : World → Nat → List Value → Prop} {g : Nat} (he : ∀ args w, (callFunc g args).run Tryz.prog w = .ok (.enter g args) w) (hv : SlF W 13 160 n v P)
    (hQ : ∀ W1 W2 i cs, Sub W1 W2 → Q W1 i cs → Q W2 i cs)
    (hf : ∀ W', Below W.heap.size W W' → ∀ i cs, i < n → P i cs → cs.length = 13 → Calls Tryz.prog g #[.agg cs.toArray] W' fun e W2 => ∃ ds, e = .returned (.agg ds.toArray) ∧ ds.length = 13 ∧ ds.toArray.all (·.oneCell') = true ∧ Q (World.only W2 fun b => W'.heap.size ≤ b) i ds ∧ Below W'.heap.size W' W2) :
    Calls Tryz.prog 73 #[v, .func (Fn.func g) #[] #[]] W fun e W' => ∃ u, e = .returned u ∧ SlF (World.only W' fun b => W.heap.size ≤ b) 13 160 n u (fun i ds => Q (World.only W' fun b => W.heap.size ≤ b) i ds) ∧ Below W.heap.size W W' := by
  obtain ⟨A, c, rfl, hnc, hc, hby, hA⟩ := hv
  obtain ⟨ti, hti, hzero, hsize, hbytes⟩ := info_parts inf_Source
  have TI := hide (And.intro hti (And.intro hzero (And.intro hsize hbytes)))
  have HA := hide hA
  have HF := hide hf
  have HQ := hide hQ
  have hn : n ≤ 9223372036854775807 := by omega
  have HBY := hide hby
  clear hA hf hnc hc hby hQ hti hzero hsize hbytes
  go_enter Tryz.func73, Tryz.ntmps73
  go_wp2
  go_loopw [5, 7, 10] (fun o _ i wr => ∃ k : Nat, k ≤ n ∧ i = .int .i64 k ∧ Hid (∃ css, Out W wr 65 13 k o css Q)) (fun _ _ i _ => n - (RowKit.intOf i).toNat)
  case atStart => exact ⟨0, Nat.zero_le _, rfl, hide ⟨fun _ => [], Out.start⟩⟩
  case round =>
    obtain ⟨k, hk, rfl, HO⟩ := hrel
    by_cases hlt : k < n
    · obtain ⟨css, hO⟩ := unhide HO
      obtain ⟨b, o, rfl, hb, hcs⟩ := (unhide HA) (by omega)
      obtain ⟨cs, hl, hone, hP, hr⟩ := hcs k hlt
      have R := hide (rangeAt_below hr hO.bl)
      have BX := hide (boxed wr z_Source cs 65 (by rw [hl]; rfl))
      have HTH : Hid ((wr.alloc (.cells z_Source.toArray 65)).there wr.heap.size 0 13) := hide (SB.new wr z_Source 65).there
      have HC := hide fun wr' hb => hide ((unhide HF) wr' hb k cs hlt hP hl)
      replace hO := hide hO
      clear hcs hr hb hP HO
      go_upto_region 5 with (first
        | (refine wpList_load_mid rfl 65 _ rfl _ _ rfl cs _ (unhide R) Tryz.underlying65 rfl (by rw [hl]; exact siz_Source) ?_)
        | (refine wpList_store_mid rfl 65 _ _ rfl wr.heap.size 0 cs.toArray rfl rfl (by rw [show cs.toArray.size = 13 from hl]; exact unhide HTH) (by rw [show cs.toArray.size = 13 from hl]; exact siz_Source) hone ?_))
      generalize hD : World.setCells _ _ _ _ = D
      replace BX : Hid (SB D wr.heap.size cs ∧ Below wr.heap.size wr D ∧ D.heap.size = wr.heap.size + 1) := by rw [← hD]; exact BX
      clear hD HTH R
      replace HC := unhide HC D (Below.andThen (unhide hO).bl (unhide BX).2.1)
      go_wp2_with (refine wpList_load_mid rfl 65 _ rfl wr.heap.size _ rfl cs _ (unhide BX).1.at_ Tryz.underlying65 rfl (by rw [hl]; exact siz_Source) ?_)
      refine (unhide HC).mono ?_
      rintro e w2 ⟨ds, rfl, hdl, hd1, hdq, hb2⟩
      have HD := hide (And.intro hdl (And.intro hd1 hdq))
      have HB2 := hide (Below.andThen (unhide BX).2.1 hb2)
      have hbs := (unhide BX).2.1.size
      have hfo := fold_set z_Source ds (by rw [hdl]; rfl)
      simp only [z_Source, z_Expr, List.cons_append, List.nil_append] at hfo
      clear hd1 hdq hb2 HC
      go_wp2_with (at_builtin; go_must (refine wpList_append_own_at _ rfl _ _ 36 rfl W.heap.size 65 ti (.agg z_Source.toArray) 13 160 Tryz.underlying36 (unhide TI).1 (unhide TI).2.1 (unhide TI).2.2.1 (unhide TI).2.2.2 rfl (by decide) u5 k (flatN css k) rfl (own_below0 (unhide hO) (unhide HB2) _) ⟨w2.heap.size, 0, none⟩ 1 1 ds rfl (by rw [(unhide HD).1]) (cells_new w2 ds _) (all_mem (unhide HD).2.1) (by unfold maxLen; omega) (by have := unhide HBY; have h2 : (k + 1) * 160 ≤ n * 160 := Nat.mul_le_mul_right _ hlt; omega) (by have h1 := (unhide hO).bl.size; have h2 := (unhide HB2).size; simp; omega) ?_); intro v' w4 ho hg _ hat)
      have HN := hide (Out.next (unhide hO) (unhide HQ) hbs (unhide HB2) (unhide HD).2.2 (unhide HD).1 (unhide HD).2.1 ho hg hat)
      clear ho hg hat HD HB2 BX hO hfo
      go_wp2_with fail
      go_roundw
      case rel => exact ⟨k + 1, by omega, by go_num, hide ⟨_, unhide HN⟩⟩
      case measure => simp [RowKit.intOf]; omega
    · go_wp2
      have : k = n := by omega
      subst this
      obtain ⟨css, hO⟩ := unhide HO
      go_ret
      exact ⟨_, rfl, hO.done (unhide HQ) (unhide HBY), hO.bl⟩
theorem inf_Order : (Tryz.prog.info? 67).map (fun i => (i.zero, i.size, i.bytes)) = some (some (.agg z_Order.toArray), 11, 128) := by kernel_rfl
set_option maxHeartbeats 2000000 in
set_option maxRecDepth 100000 in
theorem each_Order {W : World} {n : Nat} {v : Value} {P : Nat → List Value → Prop} {Q : World → Nat → List Value → Prop} {g : Nat} (he : ∀ args w, (callFunc g args).run Tryz.prog w = .ok (.enter g args) w) (hv : SlF W 11 128 n v P)
    (hQ : ∀ W1 W2 i cs, Sub W1 W2 → Q W1 i cs → Q W2 i cs)
    (hf : ∀ W', Below W.heap.size W W' → ∀ i cs, i < n → P i cs → cs.length = 11 → Calls Tryz.prog g #[.agg cs.toArray] W' fun e W2 => ∃ ds, e = .returned (.agg ds.toArray) ∧ ds.length = 11 ∧ ds.toArray.all (·.oneCell') = true ∧ Q (World.only W2 fun b => W'.heap.size ≤ b) i ds ∧ Below W'.heap.size W' W2) :
    Calls Tryz.prog 75 #[v, .func (Fn.func g) #[] #[]] W fun e W' => ∃ u, e = .returned u ∧ SlF (World.only W' fun b => W.heap.size ≤ b) 11 128 n u (fun i ds => Q (World.only W' fun b => W.heap.size ≤ b) i ds) ∧ Below W.heap.size W W' := by
  obtain ⟨A, c, rfl, hnc, hc, hby, hA⟩ := hv
  obtain ⟨ti, hti, hzero, hsize, hbytes⟩ := info_parts inf_Order
  have TI := hide (And.intro hti (And.intro hzero (And.intro hsize hbytes)))
  have HA := hide hA
  have HF := hide hf
  have HQ := hide hQ
  have hn : n ≤ 9223372036854775807 := by omega
  have HBY := hide hby
  clear hA hf hnc hc hby hQ hti hzero hsize hbytes
  go_enter Tryz.func75, Tryz.ntmps75
  go_wp2
  go_loopw [5, 7, 10] (fun o _ i wr => ∃ k : Nat, k ≤ n ∧ i = .int .i64 k ∧ Hid (∃ css, Out W wr 67 11 k o css Q)) (fun _ _ i _ => n - (RowKit.intOf i).toNat)
  case atStart => exact ⟨0, Nat.zero_le _, rfl, hide ⟨fun _ => [], Out.start⟩⟩
  case round =>
    obtain ⟨k, hk, rfl, HO⟩ := hrel
    by_cases hlt : k < n
    · obtain ⟨css, hO⟩ := unhide HO
      obtain ⟨b, o, rfl, hb, hcs⟩ := (unhide HA) (by omega)
      obtain ⟨cs, hl, hone, hP, hr⟩ := hcs k hlt
      have R := hide (rangeAt_below hr hO.bl)
      have BX := hide (boxed wr z_Order cs 67 (by rw [hl]; rfl))
      have HTH : Hid ((wr.alloc (.cells z_Order.toArray 67)).there wr.heap.size 0 11) := hide (SB.new wr z_Order 67).there
      have HC := hide fun wr' hb => hide ((unhide HF) wr' hb k cs hlt hP hl)
      replace hO := hide hO
      clear hcs hr hb hP HO
      go_upto_region 5 with (first
        | (refine wpList_load_mid rfl 67 _ rfl _ _ rfl cs _ (unhide R) Tryz.underlying67 rfl (by rw [hl]; exact siz_Order) ?_)
        | (refine wpList_store_mid rfl 67 _ _ rfl wr.heap.size 0 cs.toArray rfl rfl (by rw [show cs.toArray.size = 11 from hl]; exact unhide HTH) (by rw [show cs.toArray.size = 11 from hl]; exact siz_Order) hone ?_))
      generalize hD : World.setCells _ _ _ _ = D
      replace BX : Hid (SB D wr.heap.size cs ∧ Below wr.heap.size wr D ∧ D.heap.size = wr.heap.size + 1) := by rw [← hD]; exact BX
      clear hD HTH R
      replace HC := unhide HC D (Below.andThen (unhide hO).bl (unhide BX).2.1)
      go_wp2_with (refine wpList_load_mid rfl 67 _ rfl wr.heap.size _ rfl cs _ (unhide BX).1.at_ Tryz.underlying67 rfl (by rw [hl]; exact siz_Order) ?_)
      refine (unhide HC).mono ?_
      rintro e w2 ⟨ds, rfl, hdl, hd1, hdq, hb2⟩
      have HD := hide (And.intro hdl (And.intro hd1 hdq))
      have HB2 := hide (Below.andThen (unhide BX).2.1 hb2)
      have hbs := (unhide BX).2.1.size
      have hfo := fold_set z_Order ds (by rw [hdl]; rfl)
      simp only [z_Order, z_Expr, List.cons_append, List.nil_append] at hfo
      clear hd1 hdq hb2 HC
      go_wp2_with (at_builtin; go_must (refine wpList_append_own_at _ rfl _ _ 37 rfl W.heap.size 67 ti (.agg z_Order.toArray) 11 128 Tryz.underlying37 (unhide TI).1 (unhide TI).2.1 (unhide TI).2.2.1 (unhide TI).2.2.2 rfl (by decide) u5 k (flatN css k) rfl (own_below0 (unhide hO) (unhide HB2) _) ⟨w2.heap.size, 0, none⟩ 1 1 ds rfl (by rw [(unhide HD).1]) (cells_new w2 ds _) (all_mem (unhide HD).2.1) (by unfold maxLen; omega) (by have := unhide HBY; have h2 : (k + 1) * 128 ≤ n * 128 := Nat.mul_le_mul_right _ hlt; omega) (by have h1 := (unhide hO).bl.size; have h2 := (unhide HB2).size; simp; omega) ?_); intro v' w4 ho hg _ hat)
      have HN := hide (Out.next (unhide hO) (unhide HQ) hbs (unhide HB2) (unhide HD).2.2 (unhide HD).1 (unhide HD).2.1 ho hg hat)
      clear ho hg hat HD HB2 BX hO hfo
      go_wp2_with fail
      go_roundw
      case rel => exact ⟨k + 1, by omega, by go_num, hide ⟨_, unhide HN⟩⟩
      case measure => simp [RowKit.intOf]; omega
    · go_wp2
      have : k = n := by omega
      subst this
      obtain ⟨css, hO⟩ := unhide HO
      go_ret
      exact ⟨_, rfl, hO.done (unhide HQ) (unhide HBY), hO.bl⟩
end Go.Proofs.YtddedijencleeaaGreatDoor

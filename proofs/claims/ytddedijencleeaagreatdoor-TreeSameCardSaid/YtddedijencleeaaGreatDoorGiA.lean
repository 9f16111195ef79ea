/- tree.bare; tree.each of rows of rows; tree.Bare's closures: contracts. -/
import Derived.Test.YtddedijencleeaaGreatDoorGh
import Derived.Test.YtddedijencleeaaGreatDoorGc
import Derived.Laws.ResultCell
set_option linter.all false
namespace Go.Proofs.YtddedijencleeaaGreatDoor
open Go.RowKit Go.Lib

/-- A result that lies in memory, whole. -/
theorem results_cell1 {P : Program} {fn : Func} {p : Tmp} {ty : TypeId} (h : fn.results = #[.cell p ty]) (tmps : Array Value) (w : World) {b o : Nat} (hp : tmps.getD p undef = .pointer (some ⟨b, o, none⟩)) {cs : List Value} {d : TypeDesc} (hc : w.rangeAt b o cs)
    (hu : P.underlying ty = some d) (hd : d.isRow = true) (hi : (P.info? ty).map (·.size) = some cs.length) : (results fn tmps).run P w = .ok (.agg cs.toArray) w := by
  have hl := run_loadVar_mid (P := P) w b o ty cs d hc hu hd hi
  have hp' : tmps[p]?.getD undef = .pointer (some ⟨b, o, none⟩) := by simpa using hp
  have ha : ∀ w : World, (asAddr (tmps[p]?.getD undef)).run P w = .ok ⟨b, o, none⟩ w := fun w => by rw [hp']; rfl
  simp only [results, h]
  simp [Sem.run_bind, Result.andThen, ha, hl]
theorem heap_setCells {b g : Nat} (hg : g ≠ b) : ∀ (vs : List Value) (o : Nat) (w : World), (w.setCells b o vs).heap[g]? = w.heap[g]?
  | [], _, _ => rfl
  | v :: r, o, w => by rw [World.setCells, heap_setCells hg r]; exact Below.heap_setCell _ _ _ _ (by simpa using hg)
theorem eOne (k op vk vn : Int) (vt tb nm : ByteArray) (A : Option Addr) (n c : Nat) (pl ty : Int) : (eCells k op vk vn vt tb nm (.slice A n c) pl ty).toArray.all (·.oneCell') = true := by simp [eCells, Value.oneCell']
theorem Sub.only_mono {W : World} {p q : Nat → Prop} [DecidablePred p] [DecidablePred q] (h : ∀ b, p b → q b) : Sub (World.only W p) (World.only W q) := only_only (Nat.le_refl _) fun b _ hb => ⟨h b hb, rfl⟩
/-- What a call made, told from further up. -/
theorem Sub.later {W W' : World} {B B' : Nat} (hb : Below W.heap.size W W') (h : B' ≤ B) : Sub (World.only W fun b => B ≤ b) (World.only W' fun b => B' ≤ b) := only_only hb.size fun b h1 h2 => ⟨by omega, hb.block b h1⟩
set_option maxHeartbeats 4000000 in
set_option maxRecDepth 100000 in
theorem bare_ok : ∀ (e : E) (cs : List Value) (W : World), EIn W e cs →
    Calls Tryz.prog 68 #[.agg cs.toArray] W fun r W' => ∃ ds, r = .returned (.agg ds.toArray) ∧ EIn (World.only W' fun b => W.heap.size ≤ b) (bareE e) ds ∧ Below W.heap.size W W'
  | .no, _, _, h => False.elim h
  | .mk k op vk vn vt tb nm n args pl ty, cs, W, h => by
    obtain ⟨wf, v, rfl, hv⟩ := h
    have HC := hide fun W' (hb : Below W.heap.size W W') => hide (each_Expr (W := W') (Q := fun W1 i cs => EIn W1 (bareE (args i)) cs) (entersG Tryz.func68 (by kernel_rfl) rfl) (hv.both (.below hb) fun _ _ _ h => EIn.sub (.below hb) h) (fun _ _ _ _ hs h => EIn.sub hs h)
      (fun W2 hb2 i cs _ h hl => (bare_ok (args i) cs W2 (EIn.sub (.below hb2) h)).mono fun e W3 ⟨ds, h1, h2, h3⟩ => ⟨ds, h1, h2.len, EIn.one h2, h2, h3⟩))
    have HB : ∀ o o', Hid (Below W.heap.size W ((W.alloc o).alloc o')) := fun o o' => hide (((Below.refl _ _).alloc (Nat.le_refl _) o).alloc (by simp) o')
    have WF := hide wf
    obtain ⟨A, c, rfl, _⟩ := hv
    have S2 := hide (SB.two W (eCells k op vk vn vt tb nm (.slice A n c) pl ty) z_Expr 34)
    clear wf
    dsimp only [eCells]
    go_enter Tryz.func68, Tryz.ntmps68
    go_wp2_with fail
    refine (unhide ((unhide HC) _ (unhide (HB _ _)))).mono ?_
    rintro e w1 ⟨u, rfl, hu, hb1⟩
    have HU := hide hu
    obtain ⟨A', c', hue, _⟩ := id hu
    subst hue
    clear hu
    have X1 := (unhide S2).1.below hb1
    have X2 := (unhide S2).2.below hb1
    have HW := hide (Below.andThen (unhide (HB _ _)) hb1)
    have x7 := X1.cell 7 rfl
    have x8 := X1.cell 8 rfl
    have x9 := X1.cell 9 rfl
    have f7 := X1.free 7 (show 7 < 10 by decide)
    have f8 := X1.free 8 (show 8 < 10 by decide)
    have f9 := X1.free 9 (show 9 < 10 by decide)
    have Y1 := hide (((X1.put 8 [.int .i64 0] (show 9 ≤ 10 by decide)).put 9 [.int .i64 0] (show 10 ≤ 10 by decide)).put 7 [.slice A' n c'] (show 8 ≤ 10 by decide))
    have Y2 := hide (((X2.far (b := W.heap.size) (by omega) 8 [.int .i64 0]).far (b := W.heap.size) (by omega) 9 [.int .i64 0]).far (b := W.heap.size) (by omega) 7 [.slice A' n c'])
    have HW2 := hide (((unhide HW).setCell (p := ⟨W.heap.size, 8, none⟩) (Nat.le_refl _) (.int .i64 0)).setCell (p := ⟨W.heap.size, 9, none⟩) (Nat.le_refl _) (.int .i64 0) |>.setCell (p := ⟨W.heap.size, 7, none⟩) (Nat.le_refl _) (.slice A' n c'))
    clear hb1 X1 X2
    go_upto_region 2 with fail
    have hfar : ∀ b, W.heap.size + 1 + 1 ≤ b → (((w1.setCell ⟨W.heap.size, 8, none⟩ (.int .i64 0)).setCell ⟨W.heap.size, 9, none⟩ (.int .i64 0)).setCell ⟨W.heap.size, 7, none⟩ (.slice A' n c')).heap[b]? = w1.heap[b]? := fun b hb => by
      rw [Below.heap_setCell _ _ _ _ (by simp; omega), Below.heap_setCell _ _ _ _ (by simp; omega), Below.heap_setCell _ _ _ _ (by simp; omega)]
    have HFAR := hide (And.intro hfar (show w1.heap.size ≤ (((w1.setCell ⟨W.heap.size, 8, none⟩ (.int .i64 0)).setCell ⟨W.heap.size, 9, none⟩ (.int .i64 0)).setCell ⟨W.heap.size, 7, none⟩ (.slice A' n c')).heap.size by simp [World.setCell]))
    generalize hD : World.setCell _ _ _ = D
    replace Y1 : Hid (SB D W.heap.size (eCells k op vk vn vt tb nm (.slice A' n c') 0 0)) := by rw [← hD]; exact Y1
    replace Y2 : Hid (SB D (W.heap.size + 1) z_Expr) := by rw [← hD]; exact Y2
    replace HW2 : Hid (Below W.heap.size W D) := by rw [← hD]; exact HW2
    replace HFAR : Hid ((∀ b, W.heap.size + 1 + 1 ≤ b → D.heap[b]? = w1.heap[b]?) ∧ w1.heap.size ≤ D.heap.size) := by rw [← hD]; exact HFAR
    clear hD hfar x7 x8 x9 f7 f8 f9
    have HTH : Hid (D.there (W.heap.size + 1) 0 10) := hide (unhide Y2).there
    go_wp2_with (first
      | (refine wpList_load_mid rfl 34 _ rfl W.heap.size _ rfl (eCells k op vk vn vt tb nm (.slice A' n c') 0 0) _ (unhide Y1).at_ Tryz.underlying34 rfl siz_Expr ?_)
      | (refine wpList_store_mid rfl 34 _ _ rfl (W.heap.size + 1) 0 (eCells k op vk vn vt tb nm (.slice A' n c') 0 0).toArray rfl rfl (unhide HTH) siz_Expr (eOne _ _ _ _ _ _ _ _ _ _ _ _) ?_))
    refine bodyPost_ret (results_cell1 rfl _ _ (b := W.heap.size + 1) (o := 0) rfl ((unhide Y2).put 0 (eCells k op vk vn vt tb nm (.slice A' n c') 0 0) (Nat.le_refl 10)).at_ Tryz.underlying34 rfl siz_Expr) rfl ?_
    have hs : Sub (World.only w1 fun b => ((W.alloc (.cells #[.int .i64 k, .int .i64 op, .int .i64 vk, .int .i64 vn, .string vt, .string tb, .string nm, .slice A n c, .int .i64 pl, .int .i64 ty] 34)).alloc (.cells z_Expr.toArray 34)).heap.size ≤ b) (World.only (D.setCells (W.heap.size + 1) 0 (eCells k op vk vn vt tb nm (.slice A' n c') 0 0)) fun b => W.heap.size ≤ b) := by
      refine only_only (by rw [setCells_size]; exact (unhide HFAR).2) fun b h1 h2 => ⟨by simp at h2; omega, ?_⟩
      simp at h2
      rw [heap_setCells (by omega)]
      exact (unhide HFAR).1 b (by omega)
    exact ⟨_, rfl, ⟨⟨(unhide WF).k, (unhide WF).op, (unhide WF).vk, (unhide WF).vn, (unhide WF).vt, (unhide WF).tb, (unhide WF).nm, by constructor <;> decide, by constructor <;> decide⟩, _, rfl, (unhide HU).both hs fun _ _ _ h => EIn.sub hs h⟩, Below.setCells (by omega) _ _ _ (unhide HW2)⟩
end Go.Proofs.YtddedijencleeaaGreatDoor

/- tree.Bare's closures: contracts. -/
set_option linter.all false
namespace Go.Proofs.YtddedijencleeaaGreatDoor
open Go.RowKit Go.Lib

set_option maxHeartbeats 4000000 in
set_option maxRecDepth 100000 in
theorem bare_St (x : St) (cs : List Value) (W : World) (h : StIn W x cs) :
    Calls Tryz.prog 70 #[.agg cs.toArray] W fun r W' => ∃ ds, r = .returned (.agg ds.toArray) ∧ StIn (World.only W' fun b => W.heap.size ≤ b) { x with e := bareE x.e } ds ∧ ds.length = 11 ∧ ds.toArray.all (·.oneCell') = true ∧ Below W.heap.size W W' := by
  obtain ⟨hn, es, rfl, he⟩ := h
  have hl := he.len
  have hone := EIn.one he
  have HC := hide fun W' (hb : Below W.heap.size W W') => hide (bare_ok x.e es W' (EIn.sub (.below hb) he))
  have HB : ∀ o o', Hid (Below W.heap.size W ((W.alloc o).alloc o')) := fun o o' => hide (((Below.refl _ _).alloc (Nat.le_refl _) o).alloc (by simp) o')
  have S2 := hide (SB.two W (Value.string x.nm :: es) z_Set 61)
  clear he
  go_enter Tryz.func70, Tryz.ntmps70
  go_upto_region 1 with fail
  generalize hD : (W.alloc _).alloc _ = D
  replace S2 : Hid (SB D W.heap.size (Value.string x.nm :: es) ∧ SB D (W.heap.size + 1) z_Set) := by rw [← hD]; exact S2
  have HW : Hid (Below W.heap.size W D ∧ W.heap.size + 1 + 1 = D.heap.size) := hide ⟨by rw [← hD]; exact unhide (HB _ _), by rw [← hD]; simp⟩
  clear hD HB
  go_wp2_with (refine wpList_load_mid rfl 34 _ rfl W.heap.size 1 rfl es _ ((unhide S2).1.mid 1 es (by simp [hl, List.take_append, List.take_of_length_le])) Tryz.underlying34 rfl (by rw [hl]; exact siz_Expr) ?_)
  refine (unhide ((unhide HC) _ (unhide HW).1)).mono ?_
  rintro e w1 ⟨fs, rfl, hf, hb1⟩
  have hfl := hf.len
  have hfone := EIn.one hf
  have HF := hide hf
  have HDs := hide (unhide HW).2
  replace HW := hide (And.intro (Below.andThen (unhide HW).1 hb1) (And.intro (unhide HW).2 hb1.size))
  have Y := hide (((unhide S2).1.below hb1).put 1 fs (by simp [hl, hfl]))
  have Y2 := hide (((unhide S2).2.below hb1).far (b := W.heap.size) (by omega) 1 fs)
  have HTH : Hid (w1.there W.heap.size 1 10) := hide (((unhide S2).1.below hb1).sub 1 10 (by simp [hl]))
  have HFAR := hide (fun b (hb : W.heap.size + 1 + 1 ≤ b) => (heap_setCells (b := W.heap.size) (g := b) (by omega) fs 1 w1))
  clear hb1 hf
  go_upto_region 2 with (refine wpList_store_mid rfl 34 _ _ rfl W.heap.size 1 fs.toArray rfl rfl (by rw [show fs.toArray.size = 10 from hfl]; exact unhide HTH) (by rw [show fs.toArray.size = 10 from hfl]; exact siz_Expr) hfone ?_)
  generalize hD : World.setCells _ _ _ _ = D2
  replace Y : Hid (SB D2 W.heap.size (Value.string x.nm :: fs)) := by
    have := unhide Y
    rw [hD] at this
    refine hide ?_
    simpa [hl, hfl, List.take_append, List.drop_append, List.take_of_length_le, List.drop_of_length_le] using this
  replace Y2 : Hid (SB D2 (W.heap.size + 1) z_Set) := by rw [← hD]; exact Y2
  replace HFAR : Hid ((∀ b, W.heap.size + 1 + 1 ≤ b → D2.heap[b]? = w1.heap[b]?) ∧ w1.heap.size = D2.heap.size) := by rw [← hD]; exact hide ⟨unhide HFAR, by rw [setCells_size]⟩
  replace HW : Hid (Below W.heap.size W D2 ∧ W.heap.size + 1 + 1 ≤ w1.heap.size) := by rw [← hD]; exact hide ⟨Below.setCells (Nat.le_refl _) _ _ _ (unhide HW).1, by have := (unhide HW).2; omega⟩
  clear hD HTH
  have HTH : Hid (D2.there (W.heap.size + 1) 0 11) := hide (unhide Y2).there
  have hone2 : ((Value.string x.nm :: fs)).toArray.all (·.oneCell') = true := by simpa [Value.oneCell'] using hfone
  have hlen2 : ((Value.string x.nm :: fs)).length = 11 := by simp [hfl]
  go_wp2_with (first
    | (refine wpList_load_mid rfl 61 _ rfl W.heap.size _ rfl (Value.string x.nm :: fs) _ (unhide Y).at_ Tryz.underlying61 rfl (by rw [hlen2]; exact siz_Set) ?_)
    | (refine wpList_store_mid rfl 61 _ _ rfl (W.heap.size + 1) 0 ((Value.string x.nm :: fs)).toArray rfl rfl (by rw [show ((Value.string x.nm :: fs)).toArray.size = 11 from hlen2]; exact unhide HTH) (by rw [show ((Value.string x.nm :: fs)).toArray.size = 11 from hlen2]; exact siz_Set) hone2 ?_))
  have Z := (unhide Y2).put 0 (Value.string x.nm :: fs) (by rw [hlen2]; exact Nat.le_refl 11)
  refine bodyPost_ret (results_cell1 rfl _ _ (b := W.heap.size + 1) (o := 0) rfl (cs := (Value.string x.nm :: fs)) (by
    have := Z.at_
    simpa [hfl, z_Set, z_Expr] using this) Tryz.underlying61 rfl (by rw [hlen2]; exact siz_Set)) rfl ?_
  have hs : Sub (World.only w1 fun b => D.heap.size ≤ b) (World.only (D2.setCells (W.heap.size + 1) 0 (Value.string x.nm :: fs)) fun b => W.heap.size ≤ b) := by
    have e := unhide HDs
    refine only_only (by rw [setCells_size]; exact Nat.le_of_eq (unhide HFAR).2) fun b h1 h2 => ⟨by omega, ?_⟩
    rw [heap_setCells (by omega)]
    exact (unhide HFAR).1 b (by omega)
  exact ⟨(Value.string x.nm :: fs), rfl, ⟨hn, fs, rfl, EIn.sub hs (unhide HF)⟩, hlen2, hone2, Below.setCells (by omega) _ _ _ (unhide HW).1⟩
set_option maxHeartbeats 4000000 in
set_option maxRecDepth 100000 in
theorem bare_It (x : It) (cs : List Value) (W : World) (h : ItIn W x cs) :
    Calls Tryz.prog 72 #[.agg cs.toArray] W fun r W' => ∃ ds, r = .returned (.agg ds.toArray) ∧ ItIn (World.only W' fun b => W.heap.size ≤ b) { x with e := bareE x.e } ds ∧ ds.length = 12 ∧ ds.toArray.all (·.oneCell') = true ∧ Below W.heap.size W W' := by
  obtain ⟨hn, es, rfl, he⟩ := h
  have hl := he.len
  have hone := EIn.one he
  have HC := hide fun W' (hb : Below W.heap.size W W') => hide (bare_ok x.e es W' (EIn.sub (.below hb) he))
  have HB : ∀ o o', Hid (Below W.heap.size W ((W.alloc o).alloc o')) := fun o o' => hide (((Below.refl _ _).alloc (Nat.le_refl _) o).alloc (by simp) o')
  have S2 := hide (SB.two W (Value.bool x.star :: (es ++ [Value.string x.nm])) z_Item 63)
  clear he
  go_enter Tryz.func72, Tryz.ntmps72
  go_upto_region 1 with fail
  generalize hD : (W.alloc _).alloc _ = D
  replace S2 : Hid (SB D W.heap.size (Value.bool x.star :: (es ++ [Value.string x.nm])) ∧ SB D (W.heap.size + 1) z_Item) := by rw [← hD]; exact S2
  have HW : Hid (Below W.heap.size W D ∧ W.heap.size + 1 + 1 = D.heap.size) := hide ⟨by rw [← hD]; exact unhide (HB _ _), by rw [← hD]; simp⟩
  clear hD HB
  go_wp2_with (refine wpList_load_mid rfl 34 _ rfl W.heap.size 1 rfl es _ ((unhide S2).1.mid 1 es (by simp [hl, List.take_append, List.take_of_length_le])) Tryz.underlying34 rfl (by rw [hl]; exact siz_Expr) ?_)
  refine (unhide ((unhide HC) _ (unhide HW).1)).mono ?_
  rintro e w1 ⟨fs, rfl, hf, hb1⟩
  have hfl := hf.len
  have hfone := EIn.one hf
  have HF := hide hf
  have HDs := hide (unhide HW).2
  replace HW := hide (And.intro (Below.andThen (unhide HW).1 hb1) (And.intro (unhide HW).2 hb1.size))
  have Y := hide (((unhide S2).1.below hb1).put 1 fs (by simp [hl, hfl]))
  have Y2 := hide (((unhide S2).2.below hb1).far (b := W.heap.size) (by omega) 1 fs)
  have HTH : Hid (w1.there W.heap.size 1 10) := hide (((unhide S2).1.below hb1).sub 1 10 (by simp [hl]))
  have HFAR := hide (fun b (hb : W.heap.size + 1 + 1 ≤ b) => (heap_setCells (b := W.heap.size) (g := b) (by omega) fs 1 w1))
  clear hb1 hf
  go_upto_region 2 with (refine wpList_store_mid rfl 34 _ _ rfl W.heap.size 1 fs.toArray rfl rfl (by rw [show fs.toArray.size = 10 from hfl]; exact unhide HTH) (by rw [show fs.toArray.size = 10 from hfl]; exact siz_Expr) hfone ?_)
  generalize hD : World.setCells _ _ _ _ = D2
  replace Y : Hid (SB D2 W.heap.size (Value.bool x.star :: (fs ++ [Value.string x.nm]))) := by
    have := unhide Y
    rw [hD] at this
    refine hide ?_
    simpa [hl, hfl, List.take_append, List.drop_append, List.take_of_length_le, List.drop_of_length_le] using this
  replace Y2 : Hid (SB D2 (W.heap.size + 1) z_Item) := by rw [← hD]; exact Y2
  replace HFAR : Hid ((∀ b, W.heap.size + 1 + 1 ≤ b → D2.heap[b]? = w1.heap[b]?) ∧ w1.heap.size = D2.heap.size) := by rw [← hD]; exact hide ⟨unhide HFAR, by rw [setCells_size]⟩
  replace HW : Hid (Below W.heap.size W D2 ∧ W.heap.size + 1 + 1 ≤ w1.heap.size) := by rw [← hD]; exact hide ⟨Below.setCells (Nat.le_refl _) _ _ _ (unhide HW).1, by have := (unhide HW).2; omega⟩
  clear hD HTH
  have HTH : Hid (D2.there (W.heap.size + 1) 0 12) := hide (unhide Y2).there
  have hone2 : ((Value.bool x.star :: (fs ++ [Value.string x.nm]))).toArray.all (·.oneCell') = true := by simpa [Value.oneCell'] using hfone
  have hlen2 : ((Value.bool x.star :: (fs ++ [Value.string x.nm]))).length = 12 := by simp [hfl]
  go_wp2_with (first
    | (refine wpList_load_mid rfl 63 _ rfl W.heap.size _ rfl (Value.bool x.star :: (fs ++ [Value.string x.nm])) _ (unhide Y).at_ Tryz.underlying63 rfl (by rw [hlen2]; exact siz_Item) ?_)
    | (refine wpList_store_mid rfl 63 _ _ rfl (W.heap.size + 1) 0 ((Value.bool x.star :: (fs ++ [Value.string x.nm]))).toArray rfl rfl (by rw [show ((Value.bool x.star :: (fs ++ [Value.string x.nm]))).toArray.size = 12 from hlen2]; exact unhide HTH) (by rw [show ((Value.bool x.star :: (fs ++ [Value.string x.nm]))).toArray.size = 12 from hlen2]; exact siz_Item) hone2 ?_))
  have Z := (unhide Y2).put 0 (Value.bool x.star :: (fs ++ [Value.string x.nm])) (by rw [hlen2]; exact Nat.le_refl 12)
  refine bodyPost_ret (results_cell1 rfl _ _ (b := W.heap.size + 1) (o := 0) rfl (cs := (Value.bool x.star :: (fs ++ [Value.string x.nm]))) (by
    have := Z.at_
    simpa [hfl, z_Item, z_Expr] using this) Tryz.underlying63 rfl (by rw [hlen2]; exact siz_Item)) rfl ?_
  have hs : Sub (World.only w1 fun b => D.heap.size ≤ b) (World.only (D2.setCells (W.heap.size + 1) 0 (Value.bool x.star :: (fs ++ [Value.string x.nm]))) fun b => W.heap.size ≤ b) := by
    have e := unhide HDs
    refine only_only (by rw [setCells_size]; exact Nat.le_of_eq (unhide HFAR).2) fun b h1 h2 => ⟨by omega, ?_⟩
    rw [heap_setCells (by omega)]
    exact (unhide HFAR).1 b (by omega)
  exact ⟨(Value.bool x.star :: (fs ++ [Value.string x.nm])), rfl, ⟨hn, fs, rfl, EIn.sub hs (unhide HF)⟩, hlen2, hone2, Below.setCells (by omega) _ _ _ (unhide HW).1⟩
set_option maxHeartbeats 4000000 in
set_option maxRecDepth 100000 in
theorem bare_So (x : So) (cs : List Value) (W : World) (h : SoIn W x cs) :
    Calls Tryz.prog 74 #[.agg cs.toArray] W fun r W' => ∃ ds, r = .returned (.agg ds.toArray) ∧ SoIn (World.only W' fun b => W.heap.size ≤ b) { x with e := bareE x.e } ds ∧ ds.length = 13 ∧ ds.toArray.all (·.oneCell') = true ∧ Below W.heap.size W W' := by
  obtain ⟨hn, hn2, es, rfl, he⟩ := h
  have hl := he.len
  have hone := EIn.one he
  have HC := hide fun W' (hb : Below W.heap.size W W') => hide (bare_ok x.e es W' (EIn.sub (.below hb) he))
  have HB : ∀ o o', Hid (Below W.heap.size W ((W.alloc o).alloc o')) := fun o o' => hide (((Below.refl _ _).alloc (Nat.le_refl _) o).alloc (by simp) o')
  have S2 := hide (SB.two W (Value.string x.nm :: Value.string x.al :: Value.bool x.left :: es) z_Source 65)
  clear he
  go_enter Tryz.func74, Tryz.ntmps74
  go_upto_region 1 with fail
  generalize hD : (W.alloc _).alloc _ = D
  replace S2 : Hid (SB D W.heap.size (Value.string x.nm :: Value.string x.al :: Value.bool x.left :: es) ∧ SB D (W.heap.size + 1) z_Source) := by rw [← hD]; exact S2
  have HW : Hid (Below W.heap.size W D ∧ W.heap.size + 1 + 1 = D.heap.size) := hide ⟨by rw [← hD]; exact unhide (HB _ _), by rw [← hD]; simp⟩
  clear hD HB
  go_wp2_with (refine wpList_load_mid rfl 34 _ rfl W.heap.size 3 rfl es _ ((unhide S2).1.mid 3 es (by simp [hl, List.take_append, List.take_of_length_le])) Tryz.underlying34 rfl (by rw [hl]; exact siz_Expr) ?_)
  refine (unhide ((unhide HC) _ (unhide HW).1)).mono ?_
  rintro e w1 ⟨fs, rfl, hf, hb1⟩
  have hfl := hf.len
  have hfone := EIn.one hf
  have HF := hide hf
  have HDs := hide (unhide HW).2
  replace HW := hide (And.intro (Below.andThen (unhide HW).1 hb1) (And.intro (unhide HW).2 hb1.size))
  have Y := hide (((unhide S2).1.below hb1).put 3 fs (by simp [hl, hfl]))
  have Y2 := hide (((unhide S2).2.below hb1).far (b := W.heap.size) (by omega) 3 fs)
  have HTH : Hid (w1.there W.heap.size 3 10) := hide (((unhide S2).1.below hb1).sub 3 10 (by simp [hl]))
  have HFAR := hide (fun b (hb : W.heap.size + 1 + 1 ≤ b) => (heap_setCells (b := W.heap.size) (g := b) (by omega) fs 3 w1))
  clear hb1 hf
  go_upto_region 2 with (refine wpList_store_mid rfl 34 _ _ rfl W.heap.size 3 fs.toArray rfl rfl (by rw [show fs.toArray.size = 10 from hfl]; exact unhide HTH) (by rw [show fs.toArray.size = 10 from hfl]; exact siz_Expr) hfone ?_)
  generalize hD : World.setCells _ _ _ _ = D2
  replace Y : Hid (SB D2 W.heap.size (Value.string x.nm :: Value.string x.al :: Value.bool x.left :: fs)) := by
    have := unhide Y
    rw [hD] at this
    refine hide ?_
    simpa [hl, hfl, List.take_append, List.drop_append, List.take_of_length_le, List.drop_of_length_le] using this
  replace Y2 : Hid (SB D2 (W.heap.size + 1) z_Source) := by rw [← hD]; exact Y2
  replace HFAR : Hid ((∀ b, W.heap.size + 1 + 1 ≤ b → D2.heap[b]? = w1.heap[b]?) ∧ w1.heap.size = D2.heap.size) := by rw [← hD]; exact hide ⟨unhide HFAR, by rw [setCells_size]⟩
  replace HW : Hid (Below W.heap.size W D2 ∧ W.heap.size + 1 + 1 ≤ w1.heap.size) := by rw [← hD]; exact hide ⟨Below.setCells (Nat.le_refl _) _ _ _ (unhide HW).1, by have := (unhide HW).2; omega⟩
  clear hD HTH
  have HTH : Hid (D2.there (W.heap.size + 1) 0 13) := hide (unhide Y2).there
  have hone2 : ((Value.string x.nm :: Value.string x.al :: Value.bool x.left :: fs)).toArray.all (·.oneCell') = true := by simpa [Value.oneCell'] using hfone
  have hlen2 : ((Value.string x.nm :: Value.string x.al :: Value.bool x.left :: fs)).length = 13 := by simp [hfl]
  go_wp2_with (first
    | (refine wpList_load_mid rfl 65 _ rfl W.heap.size _ rfl (Value.string x.nm :: Value.string x.al :: Value.bool x.left :: fs) _ (unhide Y).at_ Tryz.underlying65 rfl (by rw [hlen2]; exact siz_Source) ?_)
    | (refine wpList_store_mid rfl 65 _ _ rfl (W.heap.size + 1) 0 ((Value.string x.nm :: Value.string x.al :: Value.bool x.left :: fs)).toArray rfl rfl (by rw [show ((Value.string x.nm :: Value.string x.al :: Value.bool x.left :: fs)).toArray.size = 13 from hlen2]; exact unhide HTH) (by rw [show ((Value.string x.nm :: Value.string x.al :: Value.bool x.left :: fs)).toArray.size = 13 from hlen2]; exact siz_Source) hone2 ?_))
  have Z := (unhide Y2).put 0 (Value.string x.nm :: Value.string x.al :: Value.bool x.left :: fs) (by rw [hlen2]; exact Nat.le_refl 13)
  refine bodyPost_ret (results_cell1 rfl _ _ (b := W.heap.size + 1) (o := 0) rfl (cs := (Value.string x.nm :: Value.string x.al :: Value.bool x.left :: fs)) (by
    have := Z.at_
    simpa [hfl, z_Source, z_Expr] using this) Tryz.underlying65 rfl (by rw [hlen2]; exact siz_Source)) rfl ?_
  have hs : Sub (World.only w1 fun b => D.heap.size ≤ b) (World.only (D2.setCells (W.heap.size + 1) 0 (Value.string x.nm :: Value.string x.al :: Value.bool x.left :: fs)) fun b => W.heap.size ≤ b) := by
    have e := unhide HDs
    refine only_only (by rw [setCells_size]; exact Nat.le_of_eq (unhide HFAR).2) fun b h1 h2 => ⟨by omega, ?_⟩
    rw [heap_setCells (by omega)]
    exact (unhide HFAR).1 b (by omega)
  exact ⟨(Value.string x.nm :: Value.string x.al :: Value.bool x.left :: fs), rfl, ⟨hn, hn2, fs, rfl, EIn.sub hs (unhide HF)⟩, hlen2, hone2, Below.setCells (by omega) _ _ _ (unhide HW).1⟩
set_option maxHeartbeats 4000000 in
set_option maxRecDepth 100000 in
theorem bare_Od (x : Od) (cs : List Value) (W : World) (h : OdIn W x cs) :
    Calls Tryz.prog 76 #[.agg cs.toArray] W fun r W' => ∃ ds, r = .returned (.agg ds.toArray) ∧ OdIn (World.only W' fun b => W.heap.size ≤ b) { x with e := bareE x.e } ds ∧ ds.length = 11 ∧ ds.toArray.all (·.oneCell') = true ∧ Below W.heap.size W W' := by
  obtain ⟨ es, rfl, he⟩ := h
  have hl := he.len
  have hone := EIn.one he
  have HC := hide fun W' (hb : Below W.heap.size W W') => hide (bare_ok x.e es W' (EIn.sub (.below hb) he))
  have HB : ∀ o o', Hid (Below W.heap.size W ((W.alloc o).alloc o')) := fun o o' => hide (((Below.refl _ _).alloc (Nat.le_refl _) o).alloc (by simp) o')
  have S2 := hide (SB.two W (es ++ [Value.bool x.desc]) z_Order 67)
  clear he
  go_enter Tryz.func76, Tryz.ntmps76
  go_upto_region 1 with fail
  generalize hD : (W.alloc _).alloc _ = D
  replace S2 : Hid (SB D W.heap.size (es ++ [Value.bool x.desc]) ∧ SB D (W.heap.size + 1) z_Order) := by rw [← hD]; exact S2
  have HW : Hid (Below W.heap.size W D ∧ W.heap.size + 1 + 1 = D.heap.size) := hide ⟨by rw [← hD]; exact unhide (HB _ _), by rw [← hD]; simp⟩
  clear hD HB
  go_wp2_with (refine wpList_load_mid rfl 34 _ rfl W.heap.size 0 rfl es _ ((unhide S2).1.mid 0 es (by simp [hl, List.take_append, List.take_of_length_le])) Tryz.underlying34 rfl (by rw [hl]; exact siz_Expr) ?_)
  refine (unhide ((unhide HC) _ (unhide HW).1)).mono ?_
  rintro e w1 ⟨fs, rfl, hf, hb1⟩
  have hfl := hf.len
  have hfone := EIn.one hf
  have HF := hide hf
  have HDs := hide (unhide HW).2
  replace HW := hide (And.intro (Below.andThen (unhide HW).1 hb1) (And.intro (unhide HW).2 hb1.size))
  have Y := hide (((unhide S2).1.below hb1).put 0 fs (by simp [hl, hfl]))
  have Y2 := hide (((unhide S2).2.below hb1).far (b := W.heap.size) (by omega) 0 fs)
  have HTH : Hid (w1.there W.heap.size 0 10) := hide (((unhide S2).1.below hb1).sub 0 10 (by simp [hl]))
  have HFAR := hide (fun b (hb : W.heap.size + 1 + 1 ≤ b) => (heap_setCells (b := W.heap.size) (g := b) (by omega) fs 0 w1))
  clear hb1 hf
  go_upto_region 2 with (refine wpList_store_mid rfl 34 _ _ rfl W.heap.size 0 fs.toArray rfl rfl (by rw [show fs.toArray.size = 10 from hfl]; exact unhide HTH) (by rw [show fs.toArray.size = 10 from hfl]; exact siz_Expr) hfone ?_)
  generalize hD : World.setCells _ _ _ _ = D2
  replace Y : Hid (SB D2 W.heap.size (fs ++ [Value.bool x.desc])) := by
    have := unhide Y
    rw [hD] at this
    refine hide ?_
    simpa [hl, hfl, List.take_append, List.drop_append, List.take_of_length_le, List.drop_of_length_le] using this
  replace Y2 : Hid (SB D2 (W.heap.size + 1) z_Order) := by rw [← hD]; exact Y2
  replace HFAR : Hid ((∀ b, W.heap.size + 1 + 1 ≤ b → D2.heap[b]? = w1.heap[b]?) ∧ w1.heap.size = D2.heap.size) := by rw [← hD]; exact hide ⟨unhide HFAR, by rw [setCells_size]⟩
  replace HW : Hid (Below W.heap.size W D2 ∧ W.heap.size + 1 + 1 ≤ w1.heap.size) := by rw [← hD]; exact hide ⟨Below.setCells (Nat.le_refl _) _ _ _ (unhide HW).1, by have := (unhide HW).2; omega⟩
  clear hD HTH
  have HTH : Hid (D2.there (W.heap.size + 1) 0 11) := hide (unhide Y2).there
  have hone2 : ((fs ++ [Value.bool x.desc])).toArray.all (·.oneCell') = true := by simpa [Value.oneCell'] using hfone
  have hlen2 : ((fs ++ [Value.bool x.desc])).length = 11 := by simp [hfl]
  go_wp2_with (first
    | (refine wpList_load_mid rfl 67 _ rfl W.heap.size _ rfl (fs ++ [Value.bool x.desc]) _ (unhide Y).at_ Tryz.underlying67 rfl (by rw [hlen2]; exact siz_Order) ?_)
    | (refine wpList_store_mid rfl 67 _ _ rfl (W.heap.size + 1) 0 ((fs ++ [Value.bool x.desc])).toArray rfl rfl (by rw [show ((fs ++ [Value.bool x.desc])).toArray.size = 11 from hlen2]; exact unhide HTH) (by rw [show ((fs ++ [Value.bool x.desc])).toArray.size = 11 from hlen2]; exact siz_Order) hone2 ?_))
  have Z := (unhide Y2).put 0 (fs ++ [Value.bool x.desc]) (by rw [hlen2]; exact Nat.le_refl 11)
  refine bodyPost_ret (results_cell1 rfl _ _ (b := W.heap.size + 1) (o := 0) rfl (cs := (fs ++ [Value.bool x.desc])) (by
    have := Z.at_
    simpa [hfl, z_Order, z_Expr] using this) Tryz.underlying67 rfl (by rw [hlen2]; exact siz_Order)) rfl ?_
  have hs : Sub (World.only w1 fun b => D.heap.size ≤ b) (World.only (D2.setCells (W.heap.size + 1) 0 (fs ++ [Value.bool x.desc])) fun b => W.heap.size ≤ b) := by
    have e := unhide HDs
    refine only_only (by rw [setCells_size]; exact Nat.le_of_eq (unhide HFAR).2) fun b h1 h2 => ⟨by omega, ?_⟩
    rw [heap_setCells (by omega)]
    exact (unhide HFAR).1 b (by omega)
  exact ⟨(fs ++ [Value.bool x.desc]), rfl, ⟨ fs, rfl, EIn.sub hs (unhide HF)⟩, hlen2, hone2, Below.setCells (by omega) _ _ _ (unhide HW).1⟩
end Go.Proofs.YtddedijencleeaaGreatDoor

/- tree.each of rows of rows; tree.Bare's closures of keys and rows: contracts. -/
set_option linter.all false
namespace Go.Proofs.YtddedijencleeaaGreatDoor
open Go.RowKit Go.Lib

theorem cells_new1 (W : World) (x : Value) (t : TypeId) : ∀ j u, [x][j]? = some u → (W.alloc (.cells #[x] t)).cell? ((⟨W.heap.size, 0, none⟩ : Addr).add j) = some u := cells_new W [x] t
theorem inf1_Ns : (Tryz.prog.info? 27).map (fun i => (i.zero, i.size, i.bytes)) = some (some (.slice none 0 0), 1, 24) := by kernel_rfl
set_option maxHeartbeats 2000000 in
set_option maxRecDepth 100000 in
theorem each1_Ns {W : World} {n : Nat} {v : Value} {P : Nat → Value → Prop} {Q : World → Nat → List Value → Prop} {g : Nat} (he : ∀ args w, (callFunc g args).run Tryz.prog w = .ok (.enter g args) w) (hP : ∀ i x, P i x → ∃ A n c, x = .slice A n c) (hv : SlF W 1 24 n v fun i ds => ∃ x, ds = [x] ∧ P i x)
    (hQ : ∀ W1 W2 i cs, Sub W1 W2 → Q W1 i cs → Q W2 i cs)
    (hf : ∀ W', Below W.heap.size W W' → ∀ i x, i < n → P i x → Calls Tryz.prog g #[x] W' fun e W2 => ∃ A m c, e = .returned (.slice A m c) ∧ Q (World.only W2 fun b => W'.heap.size ≤ b) i [.slice A m c] ∧ Below W'.heap.size W' W2) :
    Calls Tryz.prog 63 #[v, .func (Fn.func g) #[] #[]] W fun e W' => ∃ u, e = .returned u ∧ SlF (World.only W' fun b => W.heap.size ≤ b) 1 24 n u (fun i ds => Q (World.only W' fun b => W.heap.size ≤ b) i ds) ∧ Below W.heap.size W W' := by
  obtain ⟨A, c, rfl, hnc, hc, hby, hA⟩ := hv
  obtain ⟨ti, hti, hzero, hsize, hbytes⟩ := info_parts inf1_Ns
  have TI := hide (And.intro hti (And.intro hzero (And.intro hsize hbytes)))
  have HA := hide hA
  have HF := hide hf
  have HQ := hide hQ
  have HP := hide hP
  have hn : n ≤ 9223372036854775807 := by omega
  have HBY := hide hby
  clear hA hf hnc hc hby hQ hti hzero hsize hbytes hP
  go_enter Tryz.func63, Tryz.ntmps63
  go_wp2
  go_loopw [5, 7, 10] (fun o _ i wr => ∃ k : Nat, k ≤ n ∧ i = .int .i64 k ∧ Hid (∃ css, Out W wr 27 1 k o css Q)) (fun _ _ i _ => n - (RowKit.intOf i).toNat)
  case atStart => exact ⟨0, Nat.zero_le _, rfl, hide ⟨fun _ => [], Out.start⟩⟩
  case round =>
    obtain ⟨k, hk, rfl, HO⟩ := hrel
    by_cases hlt : k < n
    · obtain ⟨css, hO⟩ := unhide HO
      obtain ⟨b, o, rfl, hb, hcs⟩ := (unhide HA) (by omega)
      obtain ⟨cs, hl, hone, ⟨x, rfl, hP⟩, hr⟩ := hcs k hlt
      have HC := hide ((unhide HF) wr hO.bl k x hlt hP)
      obtain ⟨A1, n1, c1, rfl⟩ := (unhide HP) k x hP
      have d1 : wr.cell? ⟨b, o + k, none⟩ = some (.slice A1 n1 c1) := by simpa using rangeAt_below hr hO.bl 0 _ rfl
      replace hO := hide hO
      clear hcs hr hb hP HO hl hone
      go_wp2_with fail
      refine (unhide HC).mono ?_
      rintro e w2 ⟨A2, n2, c2, rfl, hdq, hb2⟩
      have HD := hide hdq
      have HB2 := hide hb2
      clear hdq hb2 HC d1
      go_wp2_with (at_builtin; go_must (refine wpList_append_own_at _ rfl _ _ 26 rfl W.heap.size 27 ti (.slice none 0 0) 1 24 Tryz.underlying26 (unhide TI).1 (unhide TI).2.1 (unhide TI).2.2.1 (unhide TI).2.2.2 rfl (by decide) u5 k (flatN css k) rfl (own_below0 (unhide hO) (unhide HB2) _) ⟨w2.heap.size, 0, none⟩ 1 1 [.slice A2 n2 c2] rfl rfl (cells_new1 w2 _ _) (fun u hu => by simp at hu; subst hu; rfl) (by unfold maxLen; omega) (by have := unhide HBY; have h2 : (k + 1) * 24 ≤ n * 24 := Nat.mul_le_mul_right _ hlt; omega) (by have h1 := (unhide hO).bl.size; have h2 := (unhide HB2).size; simp; omega) ?_); intro v' w4 ho hg _ hat)
      have HN := hide (Out.next (unhide hO) (unhide HQ) (Nat.le_refl _) (unhide HB2) (unhide HD) rfl (by simp [Value.oneCell']) ho hg hat)
      clear ho hg hat HD HB2 hO
      go_wp2_with fail
      go_roundw
      case rel => exact ⟨k + 1, by omega, by go_num, hide ⟨_, unhide HN⟩⟩
      case measure => simp [RowKit.intOf]; omega
    · go_wp2
      have : k = n := by omega
      subst this
      obtain ⟨css, hO⟩ := unhide HO
      go_ret
      exact ⟨_, rfl, hO.done (unhide HQ) (unhide HBY), hO.bl⟩
theorem inf1_Es : (Tryz.prog.info? 32).map (fun i => (i.zero, i.size, i.bytes)) = some (some (.slice none 0 0), 1, 24) := by kernel_rfl
set_option maxHeartbeats 2000000 in
set_option maxRecDepth 100000 in
theorem each1_Es {W : World} {n : Nat} {v : Value} {P : Nat → Value → Prop} {Q : World → Nat → List Value → Prop} {g : Nat} (he : ∀ args w, (callFunc g args).run Tryz.prog w = .ok (.enter g args) w) (hP : ∀ i x, P i x → ∃ A n c, x = .slice A n c) (hv : SlF W 1 24 n v fun i ds => ∃ x, ds = [x] ∧ P i x)
    (hQ : ∀ W1 W2 i cs, Sub W1 W2 → Q W1 i cs → Q W2 i cs)
    (hf : ∀ W', Below W.heap.size W W' → ∀ i x, i < n → P i x → Calls Tryz.prog g #[x] W' fun e W2 => ∃ A m c, e = .returned (.slice A m c) ∧ Q (World.only W2 fun b => W'.heap.size ≤ b) i [.slice A m c] ∧ Below W'.heap.size W' W2) :
    Calls Tryz.prog 65 #[v, .func (Fn.func g) #[] #[]] W fun e W' => ∃ u, e = .returned u ∧ SlF (World.only W' fun b => W.heap.size ≤ b) 1 24 n u (fun i ds => Q (World.only W' fun b => W.heap.size ≤ b) i ds) ∧ Below W.heap.size W W' := by
  obtain ⟨A, c, rfl, hnc, hc, hby, hA⟩ := hv
  obtain ⟨ti, hti, hzero, hsize, hbytes⟩ := info_parts inf1_Es
  have TI := hide (And.intro hti (And.intro hzero (And.intro hsize hbytes)))
  have HA := hide hA
  have HF := hide hf
  have HQ := hide hQ
  have HP := hide hP
  have hn : n ≤ 9223372036854775807 := by omega
  have HBY := hide hby
  clear hA hf hnc hc hby hQ hti hzero hsize hbytes hP
  go_enter Tryz.func65, Tryz.ntmps65
  go_wp2
  go_loopw [5, 7, 10] (fun o _ i wr => ∃ k : Nat, k ≤ n ∧ i = .int .i64 k ∧ Hid (∃ css, Out W wr 32 1 k o css Q)) (fun _ _ i _ => n - (RowKit.intOf i).toNat)
  case atStart => exact ⟨0, Nat.zero_le _, rfl, hide ⟨fun _ => [], Out.start⟩⟩
  case round =>
    obtain ⟨k, hk, rfl, HO⟩ := hrel
    by_cases hlt : k < n
    · obtain ⟨css, hO⟩ := unhide HO
      obtain ⟨b, o, rfl, hb, hcs⟩ := (unhide HA) (by omega)
      obtain ⟨cs, hl, hone, ⟨x, rfl, hP⟩, hr⟩ := hcs k hlt
      have HC := hide ((unhide HF) wr hO.bl k x hlt hP)
      obtain ⟨A1, n1, c1, rfl⟩ := (unhide HP) k x hP
      have d1 : wr.cell? ⟨b, o + k, none⟩ = some (.slice A1 n1 c1) := by simpa using rangeAt_below hr hO.bl 0 _ rfl
      replace hO := hide hO
      clear hcs hr hb hP HO hl hone
      go_wp2_with fail
      refine (unhide HC).mono ?_
      rintro e w2 ⟨A2, n2, c2, rfl, hdq, hb2⟩
      have HD := hide hdq
      have HB2 := hide hb2
      clear hdq hb2 HC d1
      go_wp2_with (at_builtin; go_must (refine wpList_append_own_at _ rfl _ _ 28 rfl W.heap.size 32 ti (.slice none 0 0) 1 24 Tryz.underlying28 (unhide TI).1 (unhide TI).2.1 (unhide TI).2.2.1 (unhide TI).2.2.2 rfl (by decide) u5 k (flatN css k) rfl (own_below0 (unhide hO) (unhide HB2) _) ⟨w2.heap.size, 0, none⟩ 1 1 [.slice A2 n2 c2] rfl rfl (cells_new1 w2 _ _) (fun u hu => by simp at hu; subst hu; rfl) (by unfold maxLen; omega) (by have := unhide HBY; have h2 : (k + 1) * 24 ≤ n * 24 := Nat.mul_le_mul_right _ hlt; omega) (by have h1 := (unhide hO).bl.size; have h2 := (unhide HB2).size; simp; omega) ?_); intro v' w4 ho hg _ hat)
      have HN := hide (Out.next (unhide hO) (unhide HQ) (Nat.le_refl _) (unhide HB2) (unhide HD) rfl (by simp [Value.oneCell']) ho hg hat)
      clear ho hg hat HD HB2 hO
      go_wp2_with fail
      go_roundw
      case rel => exact ⟨k + 1, by omega, by go_num, hide ⟨_, unhide HN⟩⟩
      case measure => simp [RowKit.intOf]; omega
    · go_wp2
      have : k = n := by omega
      subst this
      obtain ⟨css, hO⟩ := unhide HO
      go_ret
      exact ⟨_, rfl, hO.done (unhide HQ) (unhide HBY), hO.bl⟩
set_option maxRecDepth 100000 in
theorem bare_Es (x : Es) (v : Value) (W : World) (hv : EsIn W x.n x.f v) :
    Calls Tryz.prog 66 #[v] W fun r W' => ∃ A n c, r = .returned (.slice A n c) ∧ EsIn (World.only W' fun b => W.heap.size ≤ b) (bareEs x).n (bareEs x).f (.slice A n c) ∧ Below W.heap.size W W' := by
  have HC := hide (each_Expr (W := W) (Q := fun W1 i cs => EIn W1 (bareE (x.f i)) cs) (entersG Tryz.func68 (by kernel_rfl) rfl) hv (fun _ _ _ _ hs h => EIn.sub hs h)
      (fun W2 hb2 i cs _ h hl => (bare_ok (x.f i) cs W2 (EIn.sub (.below hb2) h)).mono fun e W3 ⟨ds, h1, h2, h3⟩ => ⟨ds, h1, h2.len, EIn.one h2, h2, h3⟩))
  obtain ⟨A, c, rfl, _⟩ := hv
  go_enter Tryz.func66, Tryz.ntmps66
  go_wp2_with fail
  refine (unhide HC).mono ?_
  rintro e w1 ⟨u, rfl, hu, hb1⟩
  have HU := hide hu
  obtain ⟨A', c', hue, _⟩ := id hu
  subst hue
  have HB := hide hb1
  clear hu hb1
  go_wp2
  go_ret
  exact ⟨_, _, _, rfl, unhide HU, unhide HB⟩
set_option maxHeartbeats 4000000 in
set_option maxRecDepth 100000 in
theorem bare_Ke (x : Ke) (cs : List Value) (W : World) (h : KeIn W x cs) :
    Calls Tryz.prog 61 #[.agg cs.toArray] W fun r W' => ∃ ds, r = .returned (.agg ds.toArray) ∧ KeIn (World.only W' fun b => W.heap.size ≤ b) x ds ∧ ds.length = 4 ∧ ds.toArray.all (·.oneCell') = true ∧ Below W.heap.size W W' := by
  obtain ⟨hn, v, rfl, hv⟩ := h
  have HC := hide fun W' (hb : Below W.heap.size W W') => hide (clone_int (hv.sub (.below hb)))
  have HB : ∀ o o', Hid (Below W.heap.size W ((W.alloc o).alloc o')) := fun o o' => hide (((Below.refl _ _).alloc (Nat.le_refl _) o).alloc (by simp) o')
  obtain ⟨A, c, rfl, _⟩ := hv
  have S2 := hide (SB.two W (eKey x.nm (.slice A x.n c) x.un x.pr) z_Key 59)
  go_enter Tryz.func61, Tryz.ntmps61
  go_upto_region 1 with fail
  generalize hD : (W.alloc _).alloc _ = D
  replace S2 : Hid (SB D W.heap.size (eKey x.nm (.slice A x.n c) x.un x.pr) ∧ SB D (W.heap.size + 1) z_Key) := by rw [← hD]; exact S2
  have HW : Hid (Below W.heap.size W D ∧ W.heap.size + 1 + 1 = D.heap.size) := hide ⟨by rw [← hD]; exact unhide (HB _ _), by rw [← hD]; simp⟩
  clear hD HB
  have x1 := (unhide S2).1.cell 1 rfl
  go_wp2_with fail
  refine (unhide ((unhide HC) _ (unhide HW).1)).mono ?_
  rintro e w1 ⟨u, rfl, hu, hb1⟩
  have HF := hide hu
  obtain ⟨A', c', hue, _⟩ := id hu
  subst hue
  have HDs := hide (unhide HW).2
  replace HW := hide (And.intro (Below.andThen (unhide HW).1 hb1) (And.intro (unhide HW).2 hb1.size))
  have y1 := ((unhide S2).1.below hb1).cell 1 rfl
  have f1 := ((unhide S2).1.below hb1).free 1 (show 1 < 4 by decide)
  have Y := hide (((unhide S2).1.below hb1).put 1 [.slice A' x.n c'] (show 2 ≤ 4 by decide))
  have Y2 := hide (((unhide S2).2.below hb1).far (b := W.heap.size) (by omega) 1 [.slice A' x.n c'])
  have HFAR := hide (fun b (hb : W.heap.size + 1 + 1 ≤ b) => (heap_setCells (b := W.heap.size) (g := b) (by omega) [.slice A' x.n c'] 1 w1))
  clear hb1 hu x1
  go_upto_region 2 with fail
  generalize hD : World.setCell _ _ _ = D2
  replace Y : Hid (SB D2 W.heap.size (eKey x.nm (.slice A' x.n c') x.un x.pr)) := by rw [← hD]; exact Y
  replace Y2 : Hid (SB D2 (W.heap.size + 1) z_Key) := by rw [← hD]; exact Y2
  replace HFAR : Hid ((∀ b, W.heap.size + 1 + 1 ≤ b → D2.heap[b]? = w1.heap[b]?) ∧ w1.heap.size = D2.heap.size) := by rw [← hD]; exact hide ⟨unhide HFAR, by simp [World.setCell]⟩
  replace HW : Hid (Below W.heap.size W D2 ∧ W.heap.size + 1 + 1 ≤ w1.heap.size) := by rw [← hD]; exact hide ⟨(unhide HW).1.setCell (p := ⟨W.heap.size, 1, none⟩) (Nat.le_refl _) _, by have := (unhide HW).2; omega⟩
  clear hD y1 f1
  have HTH : Hid (D2.there (W.heap.size + 1) 0 4) := hide (unhide Y2).there
  have hone2 : (eKey x.nm (.slice A' x.n c') x.un x.pr).toArray.all (·.oneCell') = true := by simp [eKey, Value.oneCell']
  go_wp2_with (first
    | (refine wpList_load_mid rfl 59 _ rfl W.heap.size _ rfl (eKey x.nm (.slice A' x.n c') x.un x.pr) _ (unhide Y).at_ Tryz.underlying59 rfl siz_Key ?_)
    | (refine wpList_store_mid rfl 59 _ _ rfl (W.heap.size + 1) 0 (eKey x.nm (.slice A' x.n c') x.un x.pr).toArray rfl rfl (unhide HTH) siz_Key hone2 ?_))
  have Z := (unhide Y2).put 0 (eKey x.nm (.slice A' x.n c') x.un x.pr) (Nat.le_refl 4)
  refine bodyPost_ret (results_cell1 rfl _ _ (b := W.heap.size + 1) (o := 0) rfl (cs := eKey x.nm (.slice A' x.n c') x.un x.pr) Z.at_ Tryz.underlying59 rfl siz_Key) rfl ?_
  have hs : Sub (World.only w1 fun b => D.heap.size ≤ b) (World.only (D2.setCells (W.heap.size + 1) 0 (eKey x.nm (.slice A' x.n c') x.un x.pr)) fun b => W.heap.size ≤ b) := by
    have e := unhide HDs
    refine only_only (by rw [setCells_size]; exact Nat.le_of_eq (unhide HFAR).2) fun b h1 h2 => ⟨by omega, ?_⟩
    rw [heap_setCells (by omega)]
    exact (unhide HFAR).1 b (by omega)
  exact ⟨_, rfl, ⟨hn, _, rfl, (unhide HF).sub hs⟩, rfl, hone2, Below.setCells (by omega) _ _ _ (unhide HW).1⟩
end Go.Proofs.YtddedijencleeaaGreatDoor

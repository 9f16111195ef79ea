/- consistorylaw9.known and consistorylaw9.TreeNests, walked. -/
import Derived.Test.YtmolojjhnbchbaaGreatDoorNtT
set_option linter.all false
namespace Go.Proofs.YtmolojjhnbchbaaGreatDoor
open Go.RowKit Go.Lib

/-- A load of a whole struct behind a guard that says yes. -/
theorem wpList_load_want {P : Program} {ops : Array Oper} {rest : List Oper} {op : Oper} {a : Act} {w : World} {Q : Exit → Act → World → Prop} (ty : TypeId) (x : Operand) (ho : op.op = .load ty x) (hw : Region.wanted op (yielded ops a.tmps) = true)
    (b o : Nat) (hx : a.eval x = .pointer (some ⟨b, o, none⟩)) (cs : List Value) (d : TypeDesc) (hc : w.rangeAt b o cs) (hu : P.underlying ty = some d) (hd : d.isRow = true) (hi : (P.info? ty).map (·.size) = some cs.length)
    (h : wpList P ops Q rest (a.put op.dst (.agg cs.toArray)) w) : wpList P ops Q (op :: rest) a w :=
  BigFrame.wpList_want hw fun _ hK => wp_load_mid ty x ho b o hx cs d hc hu hd hi (hK _ _ h)
set_option maxHeartbeats 2000000 in
set_option maxRecDepth 100000 in
theorem known9 (W : World) (hok : OkW W) (hg : 0 < W.heap.size) : Calls Tryz.prog 4 #[] W fun e W' => e = .returned (.bool true) ∧ Below W.heap.size W W' := by
  have HD := hide (((Below.refl W.heap.size W).alloc (Nat.le_refl _) (.cells (X.cells ⟨1, 0, 2, 1, ⟨#[]⟩, none, 0, 0⟩).toArray 28)).alloc (by simp) (.cells (X.cells ⟨3, 1, 0, 0, ⟨#[]⟩, some ⟨W.heap.size, 0, none⟩, 1, 1⟩).toArray 28))
  have HE := hide (expr_neg (g := W.heap.size) _ (hok.belowB hg (unhide HD)) (by simp <;> omega) ⟨by simp; omega, ((Below.refl _ _).alloc (Nat.le_refl _) (.cells (X.cells ⟨3, 1, 0, 0, ⟨#[]⟩, some ⟨W.heap.size, 0, none⟩, 1, 1⟩).toArray 28)).block W.heap.size (by simp) |>.trans (Box.new W (X.cells ⟨1, 0, 2, 1, ⟨#[]⟩, none, 0, 0⟩))⟩)
  have HP := hide fun W' (hb : Below W.heap.size W W') => hide (print_drop W' (hok.belowB hg hb) (by have := hb.size; omega))
  have HB := hide fun W' (hb : Below W.heap.size W W') => hide (print_bad W' (hok.belowB hg hb))
  have HC := hide fun v W' (hb : Below W.heap.size W W') (hE : ErrV W' 100 v 20) => hide (Class_err 100 v 20 W' (hok.belowB hg hb) hE)
  dsimp only [stV, X.val] at *
  go_enter Tryz.func4, Tryz.ntmps4
  go_wp2_with fail
  refine (unhide HE).mono ?_
  rintro e w1 ⟨rfl, hb1⟩
  replace HD := hide (Below.andThen (unhide HD) hb1)
  clear hb1 HE
  go_wp2_with fail
  refine (unhide ((unhide HP) _ (unhide HD))).mono ?_
  rintro e w2 ⟨rfl, hb2⟩
  replace HD := hide (Below.andThen (unhide HD) hb2)
  clear hb2 HP
  go_wp2_with fail
  refine (unhide ((unhide HB) _ (unhide HD))).mono ?_
  rintro e w3 ⟨v3, rfl, hE3, hb3⟩
  replace HD := hide (Below.andThen (unhide HD) hb3)
  replace HC := hide (unhide ((unhide HC) v3 _ (unhide HD) hE3))
  clear hb3 HB hE3
  go_wp2_with fail
  refine (unhide HC).mono ?_
  rintro e w4 ⟨rfl, hb4⟩
  replace HD := hide (Below.andThen (unhide HD) hb4)
  clear hb4 HC
  go_wp2
  go_ret
  exact ⟨rfl, unhide HD⟩
theorem heap_setCells {b g : Nat} (hg : g ≠ b) : ∀ (vs : List Value) (o : Nat) (w : World), (w.setCells b o vs).heap[g]? = w.heap[g]?
  | [], _, _ => rfl
  | v :: r, o, w => by rw [World.setCells, heap_setCells hg r]; exact Below.heap_setCell _ _ _ _ (by simpa using hg)
/-- The loop's state: the expression in block g0, nested k times. -/
def NInv (g0 : Nat) (w : World) (k : Nat) (wr : World) : Prop := ∃ x txt, SB wr g0 x.cells ∧ T g0 wr x txt k ∧ Below w.heap.size w wr
theorem NInv.put {g0 : Nat} {w wr : World} {x : X} (h : SB wr g0 x.cells) (hg : w.heap.size ≤ g0) (hb : Below w.heap.size w wr) (cs : List Value) (y : X) :
    SB ((wr.alloc (.cells cs.toArray 28)).setCells g0 0 y.cells) g0 y.cells ∧ (∀ g, g0 < g → g < wr.heap.size → ((wr.alloc (.cells cs.toArray 28)).setCells g0 0 y.cells).heap[g]? = wr.heap[g]?) ∧
    ((wr.alloc (.cells cs.toArray 28)).setCells g0 0 y.cells).heap[wr.heap.size]? = some (.cells cs.toArray 28 (0, 0)) ∧ Below w.heap.size w ((wr.alloc (.cells cs.toArray 28)).setCells g0 0 y.cells) := by
  refine ⟨((h.below ((Below.refl _ _).alloc (Nat.le_refl _) _)).put 0 y.cells (Nat.le_refl 10)), fun g h1 h2 => ?_, ?_, Below.setCells hg _ _ _ (hb.alloc hb.size _)⟩
  · rw [heap_setCells (by omega)]; exact Below.heap_alloc _ _ _ h2
  · rw [heap_setCells (by have := h.lt; omega)]
    show (wr.heap.push _)[wr.heap.size]? = _
    simp
section
variable {g0 k : Nat} {w wr : World} {x : X} {txt : List UInt8}
theorem NInv.sum (h : SB wr g0 x.cells) (hg : w.heap.size ≤ g0) (hb : Below w.heap.size w wr) (hT : T g0 wr x txt k) : NInv g0 w (k + 1) ((wr.alloc (.cells x.cells.toArray 28)).setCells g0 0 (X.cells ⟨7, 20, 0, 0, ⟨#[]⟩, some ⟨wr.heap.size, 0, none⟩, 1, 1⟩)) := by
  obtain ⟨h1, h2, h3, h4⟩ := NInv.put h hg hb x.cells ⟨7, 20, 0, 0, ⟨#[]⟩, some ⟨wr.heap.size, 0, none⟩, 1, 1⟩
  exact ⟨_, _, h1, .sum (hT.step h2) h.lt h3, h4⟩
theorem NInv.count (h : SB wr g0 x.cells) (hg : w.heap.size ≤ g0) (hb : Below w.heap.size w wr) (hT : T g0 wr x txt k) : NInv g0 w (k + 1) ((wr.alloc (.cells x.cells.toArray 28)).setCells g0 0 (X.cells ⟨7, 19, 0, 0, ⟨#[]⟩, some ⟨wr.heap.size, 0, none⟩, 1, 1⟩)) := by
  obtain ⟨h1, h2, h3, h4⟩ := NInv.put h hg hb x.cells ⟨7, 19, 0, 0, ⟨#[]⟩, some ⟨wr.heap.size, 0, none⟩, 1, 1⟩
  exact ⟨_, _, h1, .count (hT.step h2) h.lt h3, h4⟩
theorem NInv.case (h : SB wr g0 x.cells) (hg : w.heap.size ≤ g0) (hb : Below w.heap.size w wr) (hT : T g0 wr x txt k) : NInv g0 w (k + 1) ((wr.alloc (.cells (X.cells ⟨1, 0, 1, 0, ⟨#[]⟩, none, 0, 0⟩ ++ x.cells).toArray 28)).setCells g0 0 (X.cells ⟨6, 0, 0, 0, ⟨#[]⟩, some ⟨wr.heap.size, 0, none⟩, 2, 2⟩)) := by
  obtain ⟨h1, h2, h3, h4⟩ := NInv.put h hg hb (X.cells ⟨1, 0, 1, 0, ⟨#[]⟩, none, 0, 0⟩ ++ x.cells) ⟨6, 0, 0, 0, ⟨#[]⟩, some ⟨wr.heap.size, 0, none⟩, 2, 2⟩
  exact ⟨_, _, h1, .case (hT.step h2) h.lt h3, h4⟩
theorem NInv.isin (h : SB wr g0 x.cells) (hg : w.heap.size ≤ g0) (hb : Below w.heap.size w wr) (hT : T g0 wr x txt k) : NInv g0 w (k + 1) ((wr.alloc (.cells (X.cells ⟨2, 0, 0, 0, ⟨#[98]⟩, none, 0, 0⟩ ++ x.cells).toArray 28)).setCells g0 0 (X.cells ⟨5, 0, 0, 0, ⟨#[]⟩, some ⟨wr.heap.size, 0, none⟩, 2, 2⟩)) := by
  obtain ⟨h1, h2, h3, h4⟩ := NInv.put h hg hb (X.cells ⟨2, 0, 0, 0, ⟨#[98]⟩, none, 0, 0⟩ ++ x.cells) ⟨5, 0, 0, 0, ⟨#[]⟩, some ⟨wr.heap.size, 0, none⟩, 2, 2⟩
  exact ⟨_, _, h1, .isin (hT.step h2) h.lt h3, h4⟩
end
theorem SB.ten {W : World} {g : Nat} (x : X) (h : SB W g x.cells) : W.cell? ⟨g, 0, none⟩ = some (.int .i64 x.k) ∧ W.cell? ⟨g, 1, none⟩ = some (.int .i64 x.op) ∧ W.cell? ⟨g, 2, none⟩ = some (.int .i64 x.vk) ∧ W.cell? ⟨g, 3, none⟩ = some (.int .i64 x.vn) ∧
    W.cell? ⟨g, 4, none⟩ = some (.string ⟨#[]⟩) ∧ W.cell? ⟨g, 5, none⟩ = some (.string ⟨#[]⟩) ∧ W.cell? ⟨g, 6, none⟩ = some (.string x.nm) ∧ W.cell? ⟨g, 7, none⟩ = some (.slice x.A x.n x.c) ∧ W.cell? ⟨g, 8, none⟩ = some (.int .i64 0) ∧ W.cell? ⟨g, 9, none⟩ = some (.int .i64 0) :=
  ⟨h.cell 0 rfl, h.cell 1 rfl, h.cell 2 rfl, h.cell 3 rfl, h.cell 4 rfl, h.cell 5 rfl, h.cell 6 rfl, h.cell 7 rfl, h.cell 8 rfl, h.cell 9 rfl⟩
def nums (xs : List Int) : List Value := xs.map (Value.int .u8)
theorem txt_size (l : List UInt8) : (⟨l.toArray⟩ : ByteArray).size = l.length := by simp [ByteArray.size]

set_option maxHeartbeats 4000000 in
set_option maxRecDepth 100000 in
theorem nests_walk (A : Option Addr) (m c : Nat) (xs : List Int) (w : World) (hok : OkW w) (hg : 0 < w.heap.size) (hm : m ≤ 9223372036854775807) (wk : ∀ x, x ∈ xs → 0 ≤ x ∧ x < 256) (rk : Reads w 1 A m (nums xs)) :
    Calls Tryz.prog 3 #[.slice A m c] w fun e w' => e = .returned (.bool true) ∧ Below w.heap.size w w' := by
  have HK := hide (known9 w hok hg)
  by_cases hm40 : 40 < m
  · go_enter Tryz.func3, Tryz.ntmps3
    go_wp2_with fail
    refine (unhide HK).mono ?_
    rintro e w1 ⟨rfl, hb1⟩
    go_wp2
    go_ret
    exact ⟨rfl, hb1⟩
  · have HR := hide rk
    have HX := hide wk
    clear rk wk
    go_enter Tryz.func3, Tryz.ntmps3
    go_wp2_with fail
    refine (unhide HK).mono ?_
    rintro e w1 ⟨rfl, hb1⟩
    have hg0 : w.heap.size ≤ w1.heap.size := hb1.size
    have HI : Hid (NInv w1.heap.size w 0 (w1.alloc (.cells (X.cells ⟨2, 0, 0, 0, ⟨#[97]⟩, none, 0, 0⟩).toArray 28))) := hide ⟨_, _, SB.new _ _ _, .col _, hb1.alloc hb1.size _⟩
    clear hb1 HK
    go_wp2_with fail
    generalize hD : w1.alloc _ = D
    replace HI : Hid (NInv w1.heap.size w 0 D) := by rw [← hD]; exact HI
    clear hD
    generalize w1.heap.size = g0 at HI hg0 ⊢
    go_loopw [4, 5] (fun n i wr => ∃ k : Nat, k ≤ m ∧ n = .int .i64 k ∧ i = .int .i64 k ∧ Hid (NInv g0 w k wr)) (fun n _ _ => m - (RowKit.intOf n).toNat)
    case atStart => exact ⟨0, Nat.zero_le _, rfl, rfl, HI⟩
    case round =>
      obtain ⟨k, hk, rfl, rfl, HV⟩ := hrel
      obtain ⟨x, txt, hS, hT, hBW⟩ := unhide HV
      by_cases hlt : k < m
      · obtain ⟨b, o, u, rfl, hu, hcu⟩ := (unhide HR).at_ hlt
        obtain ⟨z, hz, rfl⟩ : ∃ z, xs[k]? = some z ∧ u = .int .u8 z := by
          simp only [nums, List.getElem?_map, Option.map_eq_some_iff] at hu
          obtain ⟨z, h1, h2⟩ := hu
          exact ⟨z, h1, h2.symm⟩
        have hz0 := (unhide HX) z (List.mem_of_getElem? hz)
        have hc' : wr.cell? ⟨b, o + k, none⟩ = some (.int .u8 z) := (hBW.cell (p := ⟨b, o + k, none⟩) (lt_of_cell hcu)).trans hcu
        obtain ⟨a0, a1, a2, a3, a4, a5, a6, a7, a8, a9⟩ := hS.ten
        have HS := hide hS
        have HT := hide hT
        have HB := hide hBW
        clear hS hT hBW hcu hu hz
        go_upto_region 13 with fail
        have hz4 : z % 4 = 0 ∨ z % 4 = 1 ∨ z % 4 = 2 ∨ z % 4 = 3 := by omega
        generalize z % 4 = r at hz4 ⊢
        clear hz0 hc' HV HI
        have HTH := hide fun o => (((unhide HS).below ((Below.refl _ _).alloc (Nat.le_refl _) o)).there : (wr.alloc o).there g0 0 10)
        rcases hz4 with rfl | rfl | rfl | rfl
        · go_upto_region 15 with (refine wpList_store_mid rfl 28 _ _ rfl g0 0 #[.int .i64 7, .int .i64 20, .int .i64 0, .int .i64 0, .string ⟨#[]⟩, .string ⟨#[]⟩, .string ⟨#[]⟩, .slice (some ⟨wr.heap.size, 0, none⟩) 1 1, .int .i64 0, .int .i64 0] rfl rfl ((unhide HTH) _) WX.size28 (by simp [Value.oneCell']) ?_)
          go_wp2_with fail
          go_roundw
          case rel => exact ⟨k + 1, by omega, by go_num, by go_num, hide (NInv.sum (unhide HS) hg0 (unhide HB) (unhide HT))⟩
          case measure => simp [RowKit.intOf]; omega
        · go_upto_region 18 with (refine wpList_store_mid rfl 28 _ _ rfl g0 0 #[.int .i64 6, .int .i64 0, .int .i64 0, .int .i64 0, .string ⟨#[]⟩, .string ⟨#[]⟩, .string ⟨#[]⟩, .slice (some ⟨wr.heap.size, 0, none⟩) 2 2, .int .i64 0, .int .i64 0] rfl rfl ((unhide HTH) _) WX.size28 (by simp [Value.oneCell']) ?_)
          go_wp2_with fail
          go_roundw
          case rel => exact ⟨k + 1, by omega, by go_num, by go_num, hide (NInv.case (unhide HS) hg0 (unhide HB) (unhide HT))⟩
          case measure => simp [RowKit.intOf]; omega
        · go_upto_region 21 with (refine wpList_store_mid rfl 28 _ _ rfl g0 0 #[.int .i64 5, .int .i64 0, .int .i64 0, .int .i64 0, .string ⟨#[]⟩, .string ⟨#[]⟩, .string ⟨#[]⟩, .slice (some ⟨wr.heap.size, 0, none⟩) 2 2, .int .i64 0, .int .i64 0] rfl rfl ((unhide HTH) _) WX.size28 (by simp [Value.oneCell']) ?_)
          go_wp2_with fail
          go_roundw
          case rel => exact ⟨k + 1, by omega, by go_num, by go_num, hide (NInv.isin (unhide HS) hg0 (unhide HB) (unhide HT))⟩
          case measure => simp [RowKit.intOf]; omega
        · go_upto_region 12 with (refine wpList_store_mid rfl 28 _ _ rfl g0 0 #[.int .i64 7, .int .i64 19, .int .i64 0, .int .i64 0, .string ⟨#[]⟩, .string ⟨#[]⟩, .string ⟨#[]⟩, .slice (some ⟨wr.heap.size, 0, none⟩) 1 1, .int .i64 0, .int .i64 0] rfl rfl ((unhide HTH) _) WX.size28 (by simp [Value.oneCell']) ?_)
          go_wp2_with fail
          go_roundw
          case rel => exact ⟨k + 1, by omega, by go_num, by go_num, hide (NInv.count (unhide HS) hg0 (unhide HB) (unhide HT))⟩
          case measure => simp [RowKit.intOf]; omega
      · obtain rfl : k = m := by omega
        obtain ⟨hl1, hl2⟩ := hT.len
        have hX := hT.ok (hok.belowB hg hBW) (by have := hBW.size; omega)
        have hl : (tDEL.data.toList ++ (tWHERE.data.toList ++ txt)).length = 20 + txt.length := by
          have e1 : tDEL.data.toList.length = 13 := by decide
          have e2 : tWHERE.data.toList.length = 7 := by decide
          simp only [List.length_append, e1, e2]; omega
        have HD := hide (Below.setCells hBW.size (delC x) 0 _ (hBW.alloc hBW.size (.cells zeroS.toArray 41)))
        have E : Hid (SB ((wr.alloc (.cells zeroS.toArray 41)).setCells wr.heap.size 0 (delC x)) wr.heap.size (delC x)) := hide ((SB.new wr zeroS 41).put 0 (delC x) (Nat.le_refl 37))
        have HA : Hid (Below wr.heap.size wr ((wr.alloc (.cells zeroS.toArray 41)).setCells wr.heap.size 0 (delC x))) := hide (Below.setCells (Nat.le_refl _) (delC x) 0 _ ((Below.refl _ _).alloc (Nat.le_refl _) _))
        have HTH := hide fun (t : TypeId) => ((SB.new wr zeroS t).there : (wr.alloc (.cells zeroS.toArray t)).there wr.heap.size 0 37)
        have HP := hide fun W' (hb : Below wr.heap.size wr W') => hide (print_del hX (by omega) (by rw [hl]; omega) W' hb hb.size)
        have HI2 := hide fun W' (hb : Below wr.heap.size wr W') => hide (is_del hX W' hb hb.size)
        have HDp := hide fun W' (hb : Below wr.heap.size wr W') => hide (depth_del hX (by omega) (by rw [hl]; omega) W' hb hb.size)
        obtain ⟨a0, a1, a2, a3, a4, a5, a6, a7, a8, a9⟩ := hS.ten
        have HL := hide (And.intro hl (And.intro hl1 hl2))
        clear hS hT hBW hX hl hl1 hl2 HV HI
        dsimp only [delV] at HP HI2 HDp
        go_upto_region 23 with (refine wpList_store_mid rfl 41 _ _ rfl wr.heap.size 0 (delC x).toArray rfl rfl ((unhide HTH) _) WX.size41 (one_del x) ?_)
        generalize hD : World.setCells _ _ _ _ = D2
        replace E : Hid (SB D2 wr.heap.size (delC x)) := by rw [← hD]; exact E
        replace HD : Hid (Below w.heap.size w D2) := by rw [← hD]; exact HD
        replace HA : Hid (Below wr.heap.size wr D2) := by rw [← hD]; exact HA
        clear hD HTH a0 a1 a2 a3 a4 a5 a6 a7 a8 a9
        go_wp2_with (refine wpList_load_mid rfl 41 _ rfl _ _ rfl (delC x) _ (unhide E).at_ Tryz.underlying41 rfl WX.size41 ?_)
        refine (unhide ((unhide HP) _ (unhide HA))).mono ?_
        rintro e w2 ⟨rfl, hb2⟩
        replace E := hide ((unhide E).below hb2)
        replace HD := hide (Below.andThen (unhide HD) hb2)
        replace HA := hide (Below.andThen (unhide HA) hb2)
        clear hb2 HP
        go_wp2_with (refine wpList_load_want 41 _ rfl (by simp [Region.wanted, yielded]) _ _ rfl (delC x) _ (unhide E).at_ Tryz.underlying41 rfl WX.size41 ?_)
        refine (unhide ((unhide HI2) _ (unhide HA))).mono ?_
        rintro e w3 ⟨rfl, hb3⟩
        replace E := hide ((unhide E).below hb3)
        replace HD := hide (Below.andThen (unhide HD) hb3)
        replace HA := hide (Below.andThen (unhide HA) hb3)
        clear hb3 HI2
        go_wp2_with (refine wpList_load_want 41 _ rfl (by simp [Region.wanted, yielded]) _ _ rfl (delC x) _ (unhide E).at_ Tryz.underlying41 rfl WX.size41 ?_)
        refine (unhide ((unhide HDp) _ (unhide HA))).mono ?_
        rintro e w4 ⟨rfl, hb4⟩
        replace HD := hide (Below.andThen (unhide HD) hb4)
        clear hb4 HDp E HA
        have hsz := txt_size (tDEL.data.toList ++ (tWHERE.data.toList ++ txt))
        rw [(unhide HL).1] at hsz
        obtain ⟨hl1, hl2⟩ := (unhide HL).2
        generalize (tDEL.data.toList ++ (tWHERE.data.toList ++ txt)) = z at hsz ⊢
        go_wp2
        go_ret
        refine ⟨?_, unhide HD⟩
        have : k ≤ txt.length := by omega
        simp [this]
end Go.Proofs.YtmolojjhnbchbaaGreatDoor

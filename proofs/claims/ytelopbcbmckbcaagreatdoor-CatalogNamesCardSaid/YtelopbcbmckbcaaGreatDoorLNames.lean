/- consistorylaw11.CatalogNames: the walk: true for every row of bytes. -/
import Derived.Test.YtelopbcbmckbcaaGreatDoorNmL
import Derived.Test.YtelopbcbmckbcaaGreatDoorMem
import Derived.Test.YtelopbcbmckbcaaGreatDoorBits
import Derived.Deep.LoopGhost
import Derived.Deep.QuietTactic
import Derived.Deep.RegionHeld3
import Derived.OwnWalk
import Derived.Laws.BytesArg
import Derived.WalkKit
import Derived.WalkSpells
import Derived.BigQuiet
import Derived.Deep.DeepCutAuto
import Derived.Deep.CutBlock
import Derived.Lib.Hide
set_option linter.all false
namespace Go.Proofs.YtelopbcbmckbcaaGreatDoor
open Go.RowKit Go.Lib

/-- Bytes as numbers. -/
def nums (xs : List Int) : List Value := xs.map (Value.int .u8)
def Blk1 (W : World) (g : Nat) (t : TypeId) (a : Value) : Prop := W.heap[g]? = some (.cells #[a] t (0, 0))
theorem Blk1.cell {W : World} {g : Nat} {t : TypeId} {a : Value} (h : Blk1 W g t a) : W.cell? ⟨g, 0, none⟩ = some a := by
  unfold Blk1 at h
  simp only [World.cell?, h]
  rfl
theorem Blk1.lt {W : World} {g : Nat} {t : TypeId} {a : Value} (h : Blk1 W g t a) : g < W.heap.size := (Array.getElem?_eq_some_iff.1 h).1
/-- What lies in the law's own blocks, from B on. -/
structure Fr (w : World) (B : Nat) (tf : Nat → Bool) (kf : Nat → Nat) (j : Nat) (sv : Value) (W : World) : Prop where
  nm : Blk3 W B 61 (.string (Ev.nmB 0)) (.string (Ev.nmB 1)) (.string (Ev.nmB 2))
  sc : Blk1 W (B + 1) 27 sv
  tb : Blk3 W (B + 1 + 1) 62 (.bool (tf 0)) (.bool (tf 1)) (.bool (tf 2))
  ky : Blk3 W (B + 1 + 1 + 1) 63 (.int .i64 (kf 0 : Nat)) (.int .i64 (kf 1 : Nat)) (.int .i64 (kf 2 : Nat))
  hs : Ev.HoldS (B + 1 + 1 + 1 + 1) (Ev.stJ j).1 (Ev.stJ j).2 W (.agg #[sv])
  bl : Below w.heap.size w W
  lo : w.heap.size ≤ B
  ok : OkW w
section
variable {w W : World} {B j : Nat} {tf : Nat → Bool} {kf : Nat → Nat} {sv : Value}
theorem three {n : Nat} (h : n < 3) : n = 0 ∨ n = 1 ∨ n = 2 := by omega
theorem Fr.size (h : Fr w B tf kf j sv W) : B + 1 + 1 + 1 + 1 ≤ W.heap.size := h.ky.lt
theorem Fr.below (h : Fr w B tf kf j sv W) {W' : World} (hb : Below W.heap.size W W') : Fr w B tf kf j sv W' :=
  ⟨h.nm.below hb, (hb.block _ h.sc.lt).trans h.sc, h.tb.below hb, h.ky.below hb, h.hs.below hb, Below.andThen h.bl hb, h.lo, h.ok⟩
theorem Fr.nmAt (h : Fr w B tf kf j sv W) {n : Nat} (hn : n < 3) : W.cell? ⟨B, n, none⟩ = some (.string (Ev.nmB n)) := by
  obtain ⟨a, b, c, _⟩ := h.nm.cells
  rcases three hn with rfl | rfl | rfl <;> assumption
theorem Fr.tbAt (h : Fr w B tf kf j sv W) {n : Nat} (hn : n < 3) : W.cell? ⟨B + 1 + 1, n, none⟩ = some (.bool (tf n)) := by
  obtain ⟨a, b, c, _⟩ := h.tb.cells
  rcases three hn with rfl | rfl | rfl <;> assumption
theorem Fr.kyAt (h : Fr w B tf kf j sv W) {n : Nat} (hn : n < 3) : W.cell? ⟨B + 1 + 1 + 1, n, none⟩ = some (.int .i64 (kf n : Nat)) := by
  obtain ⟨a, b, c, _⟩ := h.ky.cells
  rcases three hn with rfl | rfl | rfl <;> assumption
theorem Blk3.setn {W : World} {g : Nat} {t : TypeId} {f : Nat → Value} (h : Blk3 W g t (f 0) (f 1) (f 2)) {n : Nat} (hn : n < 3) (v : Value) :
    Blk3 (W.setCell ⟨g, n, none⟩ v) g t (bif Nat.beq 0 n then v else f 0) (bif Nat.beq 1 n then v else f 1) (bif Nat.beq 2 n then v else f 2) := by
  unfold Blk3 at h ⊢
  rcases three hn with rfl | rfl | rfl <;> simp [World.setCell, Array.getElem?_modify, h, Nat.beq]
theorem Blk3.far {W : World} {g : Nat} {t : TypeId} {a b c : Value} (h : Blk3 W g t a b c) {p : Addr} (hp : g ≠ p.block) (v : Value) : Blk3 (W.setCell p v) g t a b c := by
  unfold Blk3 at h ⊢
  rw [Below.heap_setCell _ _ _ _ hp, h]
theorem Blk1.far {W : World} {g : Nat} {t : TypeId} {a : Value} (h : Blk1 W g t a) {p : Addr} (hp : g ≠ p.block) (v : Value) : Blk1 (W.setCell p v) g t a := by
  unfold Blk1 at h ⊢
  rw [Below.heap_setCell _ _ _ _ hp, h]
theorem Fr.keep (h : Fr w B tf kf j sv W) (g : Nat) (hg : Ev.base.keep g) (b : Nat) (hb : B ≤ b) : g ≠ b := by
  have := Ev.base.lt w g h.ok hg
  have := h.lo
  omega
theorem Fr.setT (h : Fr w B tf kf j sv W) {n : Nat} (hn : n < 3) (v : Bool) : Fr w B (fun i => bif Nat.beq i n then v else tf i) kf j sv (W.setCell ⟨B + 1 + 1, n, none⟩ (.bool v)) := by
  refine ⟨h.nm.far (by simp <;> omega) _, h.sc.far (by simp) _, ?_, h.ky.far (by simp) _, h.hs.set _ _ (by simp <;> omega) (fun g hg => h.keep g hg _ (by simp <;> omega)), h.bl.setCell (p := ⟨B + 1 + 1, n, none⟩) (by have := h.lo; simp; omega) _, h.lo, h.ok⟩
  have := Blk3.setn (f := fun i => .bool (tf i)) h.tb hn (.bool v)
  have e : ∀ i : Nat, (bif Nat.beq i n then Value.bool v else .bool (tf i)) = .bool (bif Nat.beq i n then v else tf i) := fun i => by cases Nat.beq i n <;> rfl
  simpa only [e] using this
theorem Fr.setK (h : Fr w B tf kf j sv W) {n : Nat} (hn : n < 3) (v : Nat) : Fr w B tf (fun i => bif Nat.beq i n then v else kf i) j sv (W.setCell ⟨B + 1 + 1 + 1, n, none⟩ (.int .i64 (v : Int))) := by
  refine ⟨h.nm.far (by simp <;> omega) _, h.sc.far (by simp) _, h.tb.far (by simp) _, ?_, h.hs.set _ _ (by simp) (fun g hg => h.keep g hg _ (by simp <;> omega)), h.bl.setCell (p := ⟨B + 1 + 1 + 1, n, none⟩) (by have := h.lo; simp; omega) _, h.lo, h.ok⟩
  have := Blk3.setn (f := fun i => .int .i64 (kf i : Nat)) h.ky hn (.int .i64 (v : Int))
  have e : ∀ i : Nat, (bif Nat.beq i n then Value.int .i64 (v : Int) else .int .i64 (kf i : Nat)) = .int .i64 ((bif Nat.beq i n then v else kf i : Nat) : Int) := fun i => by cases Nat.beq i n <;> rfl
  simpa only [e] using this
theorem Fr.setS (h : Fr w B tf kf j sv W) {k : Nat} {sv' : Value} (hs : Ev.HoldS (B + 1 + 1 + 1 + 1) (Ev.stJ k).1 (Ev.stJ k).2 W (.agg #[sv'])) : Fr w B tf kf k sv' (W.setCell ⟨B + 1, 0, none⟩ sv') := by
  refine ⟨h.nm.far (by simp) _, ?_, h.tb.far (by simp) _, h.ky.far (by simp <;> omega) _, hs.set _ _ (by simp <;> omega) (fun g hg => h.keep g hg _ (by simp)), h.bl.setCell (p := ⟨B + 1, 0, none⟩) (by have := h.lo; simp; omega) _, h.lo, h.ok⟩
  have := h.sc
  unfold Blk1 at this ⊢
  simp [World.setCell, Array.getElem?_modify, this]
/-- The tables as functions that agree. -/
theorem Fr.tables (h : Fr w B tf kf j sv W) {tf' : Nat → Bool} {kf' : Nat → Nat} (ht : ∀ i, i < 3 → tf i = tf' i) (hk : ∀ i, i < 3 → kf i = kf' i) : Fr w B tf' kf' j sv W :=
  ⟨h.nm, h.sc, by rw [← ht 0 (by omega), ← ht 1 (by omega), ← ht 2 (by omega)]; exact h.tb, by rw [← hk 0 (by omega), ← hk 1 (by omega), ← hk 2 (by omega)]; exact h.ky, h.hs, h.bl, h.lo, h.ok⟩
end
theorem Blk1.new (W : World) (t : TypeId) (a : Value) : Blk1 (W.alloc (.cells #[a] t)) W.heap.size t a := by
  show (W.heap.push _)[W.heap.size]? = _
  simp
theorem Blk1.below {W W' : World} {g : Nat} {t : TypeId} {a : Value} (h : Blk1 W g t a) (hb : Below W.heap.size W W') : Blk1 W' g t a := (hb.block g h.lt).trans h
theorem Blk1.two {W : World} {g : Nat} {t : TypeId} {a : Value} (h : Blk1 W g t a) : W.cell? ⟨g, 0, none⟩ = some a ∧ ∀ i, W.frozen? ⟨g, i, none⟩ = false := by
  unfold Blk1 at h
  simp [World.cell?, World.frozen?, h]
theorem blt_dec (a b : Nat) : Nat.blt a b = decide (a < b) := by
  cases h : Nat.blt a b
  · symm; rw [decide_eq_false_iff_not]; intro q; rw [← Nat.blt_eq] at q; rw [h] at q; cases q
  · symm; rw [decide_eq_true_eq]; rwa [Nat.blt_eq] at h
theorem bif_same {α : Type} {f : Nat → α} {n i : Nat} {v : α} (h : f n = v) : (bif Nat.beq i n then v else f i) = f i := by
  cases hb : Nat.beq i n
  · rfl
  · rw [Nat.beq_eq] at hb; rw [hb, h]; rfl
theorem blt_zero {a : Nat} (h : Nat.blt 0 a = false) : a = 0 := by rw [blt_dec, decide_eq_false_iff_not] at h; omega
theorem blt_self (q : Nat) : Nat.blt q q = false := by rw [blt_dec, decide_eq_false_iff_not]; omega
theorem keq_yes {a n : Nat} (h : a = n + 1) : ((a : Int) == (n : Int) + 1) = true := by rw [h]; simp
theorem keq_no {a n : Nat} (h : ¬ a = n + 1) : ((a : Int) == (n : Int) + 1) = false := by simp; omega
theorem kf_yes {f : Nat → Nat} {q n i : Nat} (h : f q = n + 1) : (bif Nat.beq i q then 0 else (bif Nat.blt i q && Nat.beq (f i) (n + 1) then 0 else f i)) = (bif Nat.blt i (q + 1) && Nat.beq (f i) (n + 1) then 0 else f i) := by
  rw [blt_dec, blt_dec]
  by_cases hi : i = q
  · subst hi
    rw [h]
    simp
  · have : Nat.beq i q = false := Bool.eq_false_iff.2 fun q1 => hi (Nat.eq_of_beq_eq_true q1)
    rw [this, cond_false, show decide (i < q + 1) = decide (i < q) from decide_eq_decide.2 (by omega)]
theorem kf_no {f : Nat → Nat} {q n i : Nat} (h : ¬ f q = n + 1) : (bif Nat.blt i q && Nat.beq (f i) (n + 1) then 0 else f i) = (bif Nat.blt i (q + 1) && Nat.beq (f i) (n + 1) then 0 else f i) := by
  rw [blt_dec, blt_dec]
  by_cases hi : i = q
  · subst hi
    have : Nat.beq (f i) (n + 1) = false := Bool.eq_false_iff.2 fun q1 => h (Nat.eq_of_beq_eq_true q1)
    rw [this, Bool.and_false, Bool.and_false]
  · rw [show decide (i < q + 1) = decide (i < q) from decide_eq_decide.2 (by omega)]
theorem kf_all {f : Nat → Nat} {n i : Nat} (h : i < 3) : (bif Nat.blt i 3 && Nat.beq (f i) (n + 1) then 0 else f i) = (bif Nat.beq (f i) (n + 1) then 0 else f i) := by
  rw [blt_dec, decide_eq_true h, Bool.true_and]
theorem nmB_size (n : Nat) : (Ev.nmB n).size = 1 := rfl
/-- What holds behind the choice of the statement: its row's outcome is told. -/
def ToldN (w : World) (B j t : Nat) (ok : Bool) (sv : Value) (W : World) : Prop := match Ev.kdK j t with
  | .go k _ _ => ok = true ∧ k < 41 ∧ Fr w B (Ev.tabB k) (Ev.keyN k) j sv W
  | .err e _ _ => ok = false ∧ e < 3 ∧ Fr w B (Ev.tabB j) (Ev.keyN j) j sv W
theorem Fr.told {w W : World} {B j t : Nat} {tf tf' : Nat → Bool} {kf kf' : Nat → Nat} {ok : Bool} {sv : Value} (h : Fr w B tf kf j sv W) (hG : Ev.Gone j t ok tf' kf')
    (h1 : ok = true → ∀ i, i < 3 → tf i = tf' i ∧ kf i = kf' i) (h0 : ok = false → ∀ i, i < 3 → tf i = Ev.tabB j i ∧ kf i = Ev.keyN j i) : ToldN w B j t ok sv W := by
  unfold ToldN
  unfold Ev.Gone at hG
  cases hk : Ev.kdK j t with
  | go k _ _ =>
    rw [hk] at hG
    exact ⟨hG.1, hG.2.1, h.tables (fun i hi => (h1 hG.1 i hi).1.trans (hG.2.2.1 i hi)) (fun i hi => (h1 hG.1 i hi).2.trans (hG.2.2.2 i hi))⟩
  | err e _ _ =>
    rw [hk] at hG
    exact ⟨hG.1, hG.2, h.tables (fun i hi => (h0 hG.1 i hi).1) (fun i hi => (h0 hG.1 i hi).2)⟩
/-- .. and behind Apply. -/
def DoneN (w : World) (B j t : Nat) (ok : Bool) (sv : Value) (W : World) (s14 s15 : Value) : Prop := ∃ (G : Nat) (tv : Value), s14 = .pointer (some ⟨G, 0, none⟩) ∧ (∃ A n c, tv = .slice A n c) ∧ Blk1 W G 27 tv ∧
  match Ev.kdK j t with
  | .go k _ _ => ok = true ∧ k < 41 ∧ Fr w B (Ev.tabB k) (Ev.keyN k) j sv W ∧ s15 = .nilIface ∧ Ev.HoldS (B + 1 + 1 + 1 + 1) (Ev.stJ k).1 (Ev.stJ k).2 W (.agg #[tv])
  | .err e _ _ => ok = false ∧ e < 3 ∧ Fr w B (Ev.tabB j) (Ev.keyN j) j sv W ∧ (∃ T y, s15 = .iface T y) ∧ Ev.HoldS (B + 1 + 1 + 1 + 1) (Ev.erK e).1 (Ev.erK e).2 W s15
theorem fr_of {w W : World} {B j t : Nat} {ok : Bool} {sv : Value} (h : Hid (ToldN w B j t ok sv W)) : ∃ tf kf, Hid (Fr w B tf kf j sv W) := by
  have h := unhide h
  unfold ToldN at h
  cases hk : Ev.kdK j t with
  | go k _ _ => rw [hk] at h; exact ⟨_, _, hide h.2.2⟩
  | err k _ _ => rw [hk] at h; exact ⟨_, _, hide h.2.2⟩
theorem kb_of {w W : World} {B j t : Nat} {ok : Bool} {sv : Value} (h : ToldN w B j t ok sv W) : match Ev.kdK j t with | .go k _ _ => k < 41 | _ => True := by
  unfold ToldN at h
  cases hk : Ev.kdK j t with
  | go k _ _ => rw [hk] at h; exact h.2.1
  | err k _ _ => trivial
theorem cls_ok (e : Nat) (he : e < 3) : Ev.clsB e = true := by
  rcases three he with rfl | rfl | rfl
  · exact Ev.cls0
  · exact Ev.cls1
  · exact Ev.cls2
theorem ToldN.done {w W W1 W2 : World} {B j t C G : Nat} {ok : Bool} {sv tv v : Value} (h : ToldN w B j t ok sv W) (hA : Ev.Applied C j t W1 (.agg #[tv]) v) (hb : Below W.heap.size W W2)
    (hH : ∀ a bs u, Ev.HoldS C a bs W1 u → Ev.HoldS (B + 1 + 1 + 1 + 1) a bs W2 u) (hG : Blk1 W2 G 27 tv) (ht : ∃ A n c, tv = .slice A n c) : DoneN w B j t ok sv W2 (.pointer (some ⟨G, 0, none⟩)) v := by
  refine ⟨G, tv, rfl, ht, hG, ?_⟩
  unfold ToldN at h
  unfold Ev.Applied at hA
  cases hk : Ev.kdK j t with
  | go k _ _ => rw [hk] at h hA; exact ⟨h.1, h.2.1, h.2.2.below hb, hA.1, hH _ _ _ hA.2.1⟩
  | err k _ _ => rw [hk] at h hA; exact ⟨h.1, h.2.1, h.2.2.below hb, hA.1, hH _ _ _ hA.2⟩
theorem DoneN.below {w W W' : World} {B j t : Nat} {ok : Bool} {sv s14 s15 : Value} (h : DoneN w B j t ok sv W s14 s15) (hb : Below W.heap.size W W') : DoneN w B j t ok sv W' s14 s15 := by
  obtain ⟨G, tv, e, ht, hG, h⟩ := h
  refine ⟨G, tv, e, ht, hG.below hb, ?_⟩
  cases hk : Ev.kdK j t with
  | go k _ _ => rw [hk] at h; exact ⟨h.1, h.2.1, h.2.2.1.below hb, h.2.2.2.1, h.2.2.2.2.below hb⟩
  | err k _ _ => rw [hk] at h; exact ⟨h.1, h.2.1, h.2.2.1.below hb, h.2.2.2.1, h.2.2.2.2.below hb⟩
theorem Blk1.self {W : World} {g : Nat} {t : TypeId} {a : Value} (h : Blk1 W g t a) (v : Value) : Blk1 (W.setCell ⟨g, 0, none⟩ v) g t v := by
  unfold Blk1 at h ⊢
  simp [World.setCell, Array.getElem?_modify, h]
theorem ToldN.doneS {w W W1 : World} {B j t C G : Nat} {ok : Bool} {sv tv v a : Value} (h : ToldN w B j t ok sv W) {tf : Nat → Bool} {kf : Nat → Nat} (hF : Fr w B tf kf j sv W) (hA : Ev.Applied C j t W1 (.agg #[tv]) v) (hb : Below W.heap.size W W1)
    (hG0 : Blk1 W1 G 27 a) (hlo : W.heap.size ≤ G) (hGC : G < C) (ht : ∃ A n c, tv = .slice A n c) : DoneN w B j t ok sv (W1.setCell ⟨G, 0, none⟩ tv) (.pointer (some ⟨G, 0, none⟩)) v := by
  have hs := hF.size
  refine h.done hA (hb.setCell (p := ⟨G, 0, none⟩) hlo tv) (fun a bs u hH => (hH.set ⟨G, 0, none⟩ tv hGC (fun g hg => hF.keep g hg G (by omega))).less (by omega)) (hG0.self tv) ht
theorem ToldN.doneN {w W W1 : World} {B j t C : Nat} {ok : Bool} {sv tv v : Value} (h : ToldN w B j t ok sv W) {tf : Nat → Bool} {kf : Nat → Nat} (hF : Fr w B tf kf j sv W) (hA : Ev.Applied C j t W1 (.agg #[tv]) v) (hb : Below W.heap.size W W1)
    (hC : W.heap.size ≤ C) (ht : ∃ A n c, tv = .slice A n c) : DoneN w B j t ok sv (W1.alloc (.cells #[tv] 27)) (.pointer (some ⟨W1.heap.size, 0, none⟩)) v := by
  have hs := hF.size
  exact h.done hA (hb.alloc hb.size _) (fun a bs u hH => (hH.below ((Below.refl _ _).alloc (Nat.le_refl _) _)).less (by omega)) (Blk1.new _ _ _) ht
theorem Blk1.alloc {W : World} {g : Nat} {t : TypeId} {a : Value} (h : Blk1 W g t a) (o : Obj) : Blk1 (W.alloc o) g t a := h.below ((Below.refl _ _).alloc (Nat.le_refl _) o)
theorem holdS0 {C : Nat} {W : World} (h : OkW W) : Ev.HoldS C (Ev.stJ 0).1 (Ev.stJ 0).2 W (.agg #[.slice none 0 0]) :=
  ⟨⟨fun _ => none, fun _ => 0, fun _ => 0⟩, Ev.Rep.empty (fun _ => 0) h, (by kernel_rfl), fun i g h => by cases h⟩
theorem fr0 {w w1 : World} (hg : OkW w) (hb : Below w.heap.size w w1) : Fr w w1.heap.size (Ev.tabB 0) (Ev.keyN 0) 0 (.slice none 0 0) ((((w1.alloc (.cells #[.string ⟨#[120]⟩, .string ⟨#[121]⟩, .string ⟨#[122]⟩] 61)).alloc (.cells #[.slice none 0 0] 27)).alloc (.cells #[.bool false, .bool false, .bool false] 62)).alloc (.cells #[.int .i64 0, .int .i64 0, .int .i64 0] 63)) := by
  have hbw := Below.andThen hb (((((Below.refl w1.heap.size w1).alloc (Nat.le_refl _) (.cells #[.string ⟨#[120]⟩, .string ⟨#[121]⟩, .string ⟨#[122]⟩] 61)).alloc (by simp) (.cells #[.slice none 0 0] 27)).alloc (by simp <;> omega) (.cells #[.bool false, .bool false, .bool false] 62)).alloc (by simp <;> omega) (.cells #[.int .i64 0, .int .i64 0, .int .i64 0] 63))
  refine ⟨?_, ?_, ?_, ?_, holdS0 (hg.below hbw), hbw, hb.size, hg⟩
  · exact (((Blk3.new w1 _ _ _ _).alloc _).alloc _).alloc _
  · have h := Blk1.new (w1.alloc (.cells #[.string ⟨#[120]⟩, .string ⟨#[121]⟩, .string ⟨#[122]⟩] 61)) 27 (.slice none 0 0)
    have s1 : (w1.alloc (.cells #[.string ⟨#[120]⟩, .string ⟨#[121]⟩, .string ⟨#[122]⟩] 61)).heap.size = w1.heap.size + 1 := by simp
    rw [s1] at h
    exact (h.alloc _).alloc _
  · exact (Blk3.new2 w1 _ _ 62 (.bool false) (.bool false) (.bool false)).alloc _
  · have h := Blk3.new (((w1.alloc (.cells #[.string ⟨#[120]⟩, .string ⟨#[121]⟩, .string ⟨#[122]⟩] 61)).alloc (.cells #[.slice none 0 0] 27)).alloc (.cells #[.bool false, .bool false, .bool false] 62)) 63 (.int .i64 0) (.int .i64 0) (.int .i64 0)
    have s3 : (((w1.alloc (.cells #[.string ⟨#[120]⟩, .string ⟨#[121]⟩, .string ⟨#[122]⟩] 61)).alloc (.cells #[.slice none 0 0] 27)).alloc (.cells #[.bool false, .bool false, .bool false] 62)).heap.size = w1.heap.size + 1 + 1 + 1 := by simp
    rw [s3] at h
    exact h
set_option maxRecDepth 100000 in
set_option maxHeartbeats 2000000 in
theorem names_walk (A : Option Addr) (m c : Nat) (xs : List Int) (w : World) (hg : OkW w) (hm : m ≤ 9223372036854775807) (hx : ∀ x, x ∈ xs → 0 ≤ x ∧ x < 256) (h : Reads w 1 A m (nums xs)) :
    Calls Tryz.prog 5 #[.slice A m c] w fun e w' => e = .returned (.bool true) ∧ Below w.heap.size w w' := by
  have HK := hide (Ev.known_ok w hg)
  have HX := hide hx
  have H := hide h
  have HG := hide hg
  clear hx h hg
  by_cases h40 : m ≤ 40
  · have q1 : decide ((40 : Int) < (m : Int)) = false := decide_eq_false (by omega)
    go_enter Tryz.func5, Tryz.ntmps5
    go_wp2_with fail
    refine (unhide HK).mono ?_
    rintro e w1 ⟨rfl, hb1⟩
    have HBW := hide hb1
    clear hb1 HK
    go_wp2_with fail
    have hF0 : Fr w w1.heap.size (Ev.tabB 0) (Ev.keyN 0) 0 (.slice none 0 0) ((((w1.alloc (.cells #[.string ⟨#[120]⟩, .string ⟨#[121]⟩, .string ⟨#[122]⟩] 61)).alloc (.cells #[.slice none 0 0] 27)).alloc (.cells #[.bool false, .bool false, .bool false] 62)).alloc (.cells #[.int .i64 0, .int .i64 0, .int .i64 0] 63)) := by
      exact fr0 (unhide HG) (unhide HBW)
    go_loopw [7] (fun i wr => ∃ (p j : Nat) (sv : Value), p ≤ m ∧ i = .int .i64 p ∧ j < 41 ∧ Hid (Fr w w1.heap.size (Ev.tabB j) (Ev.keyN j) j sv wr)) (fun i _ => m - (RowKit.intOf i).toNat)
    case atStart => exact ⟨0, 0, _, Nat.zero_le _, rfl, by decide, hide hF0⟩
    case round => as_aux_lemma =>
      obtain ⟨p, j, sv, hp, rfl, hj, HF⟩ := hrel
      by_cases hpl : p < m
      · obtain ⟨b, o, rfl, hblt, hcells⟩ := (unhide H).2 (by omega)
        obtain ⟨x, hxp⟩ : ∃ x, xs[p]? = some x := ⟨_, List.getElem?_eq_getElem (by have := (unhide H).1; simp [nums] at this; omega)⟩
        have hx8 := (unhide HX) x (List.mem_of_getElem? hxp)
        have c0 : wr.cell? ⟨b, o + p, none⟩ = some (.int .u8 x) := ((unhide HF).bl.cell (p := ⟨b, o + p, none⟩) hblt).trans (hcells p _ (by simp [nums, hxp]))
        obtain ⟨n, hn3, hN⟩ : ∃ n : Nat, n < 3 ∧ x / 4 % 3 = (n : Int) := ⟨(x / 4 % 3).toNat, by omega, by omega⟩
        obtain ⟨y, hy3, hO⟩ : ∃ y : Nat, y < 3 ∧ x / 12 % 3 = (y : Int) := ⟨(x / 12 % 3).toNat, by omega, by omega⟩
        go_wp2_with fail
        go_big_quiet (fail)
        have HF2 := fun q => hide ((unhide HF).below (below_drewN (Below.refl _ wr) q))
        generalize hwd : wr.drewN _ = wd
        have HF3 : Hid (Fr w w1.heap.size (Ev.tabB j) (Ev.keyN j) j sv wd) := by rw [← hwd]; exact HF2 _
        clear HF HF2 hwd
        have d0 : wd.cell? ⟨b, o + p, none⟩ = some (.int .u8 x) := ((unhide HF3).bl.cell (p := ⟨b, o + p, none⟩) hblt).trans (hcells p _ (by simp [nums, hxp]))
        have HC := hide hcells
        have HXP := hide hxp
        clear hcells hxp c0
        have kk : x % 4 = 0 ∨ x % 4 = 1 ∨ x % 4 = 2 ∨ x % 4 = 3 := by omega
        have tn := (unhide HF3).tbAt hn3
        have kn := (unhide HF3).kyAt hn3
        go_upto_region 13 with fail
        go_cut [10] (fun s10 wx => s10 = .bool (Ev.takenB j n) ∧ wx = wd)
        case first => as_aux_lemma =>
          cases htn : Ev.tabB j n with
          | true =>
            rw [htn] at tn
            go_wp2_with fail
            go_meet
            exact ⟨by unfold Ev.takenB; rw [htn]; rfl, rfl⟩
          | false =>
            rw [htn] at tn
            go_wp2_with fail
            go_meet
            refine ⟨?_, rfl⟩
            unfold Ev.takenB
            rw [htn, Bool.false_or]
            exact congrArg Value.bool (blt_dec _ _).symm
        case rest => as_aux_lemma =>
          obtain ⟨rfl, rfl⟩ := hcut
          have my := (unhide HF3).nmAt hy3
          have mn := (unhide HF3).nmAt hn3
          have ty := (unhide HF3).tbAt hy3
          have z1 := nmB_size n
          have z2 := nmB_size y
          obtain ⟨_, _, _, fT⟩ := (unhide HF3).tb.cells
          obtain ⟨_, _, _, fK⟩ := (unhide HF3).ky.cells
          have hLP := Ev.law_parts j n y hj hn3 hy3
          have HLP := hide hLP
          clear hLP
          go_upto_block 2 with fail
          go_cut [10, 11, 12] (fun _ s11 s12 wx => ∃ (t : Nat) (ok : Bool), s11 = .string ⟨(Ev.txT t).1.toArray⟩ ∧ s12 = .bool ok ∧ t < 18 ∧ Hid (ToldN w w1.heap.size j t ok sv wx))
          case first => as_aux_lemma =>
            rcases kk with kk | kk | kk | kk
            · cases htn : Ev.tabB j n with
              | true =>
                rw [htn] at tn
                have htk : Ev.takenB j n = true := by unfold Ev.takenB; rw [htn]; rfl
                go_wp2_with fail
                go_meet
                exact ⟨n, !Ev.takenB j n, congrArg Value.string (Ev.text0 n hn3), by rw [htk]; rfl, by omega, hide (((unhide HF3).setT hn3 true).told (unhide HLP).1 (fun q => by rw [htk] at q; cases q) (fun q i hi => ⟨bif_same htn, rfl⟩))⟩
              | false =>
                rw [htn] at tn
                go_wp2_with fail
                go_meet
                exact ⟨n, !Ev.takenB j n, congrArg Value.string (Ev.text0 n hn3), rfl, by omega, hide (((unhide HF3).setT hn3 (!Ev.takenB j n)).told (unhide HLP).1 (fun q i hi => ⟨by rw [q], rfl⟩) (fun q i hi => ⟨bif_same (htn.trans q.symm), rfl⟩))⟩
            · cases htk : Ev.takenB j n with
              | true =>
                go_wp2_with fail
                go_big_quiet (fail)
                go_wp2_with fail
                go_meet
                exact ⟨3 + 3 * n + y, !Ev.takenB j n && Ev.tabB j y, congrArg Value.string (Ev.text1 n y hn3 hy3), by rw [htk]; rfl, by omega, hide (((unhide HF3).below (below_drewN (Below.refl _ _) _)).told (unhide HLP).2.1 (fun q => by rw [htk] at q; cases q) (fun q i hi => ⟨rfl, rfl⟩))⟩
              | false =>
                cases hty : Ev.tabB j y with
                | true =>
                  rw [hty] at ty
                  go_wp2_with fail
                  go_big_quiet (fail)
                  go_wp2_with fail
                  go_meet
                  exact ⟨3 + 3 * n + y, !Ev.takenB j n && Ev.tabB j y, congrArg Value.string (Ev.text1 n y hn3 hy3), by rw [htk, hty]; rfl, by omega, hide ((((unhide HF3).below (below_drewN (Below.refl _ _) _)).setK hn3 (y + 1)).told (unhide HLP).2.1 (fun q i hi => ⟨rfl, rfl⟩) (fun q => by rw [htk, hty] at q; cases q))⟩
                | false =>
                  rw [hty] at ty
                  go_wp2_with fail
                  go_big_quiet (fail)
                  go_wp2_with fail
                  go_meet
                  exact ⟨3 + 3 * n + y, !Ev.takenB j n && Ev.tabB j y, congrArg Value.string (Ev.text1 n y hn3 hy3), by rw [htk, hty]; rfl, by omega, hide (((unhide HF3).below (below_drewN (Below.refl _ _) _)).told (unhide HLP).2.1 (fun q => by rw [htk, hty] at q; cases q) (fun q i hi => ⟨rfl, rfl⟩))⟩
            · cases htn : Ev.tabB j n with
              | true =>
                rw [htn] at tn
                go_wp2_with fail
                go_big_quiet (fail)
                go_wp2_with fail
                go_loopw [13] (fun i wr => ∃ q : Nat, q ≤ 3 ∧ i = .int .i64 q ∧ Hid (Fr w w1.heap.size (fun i => bif Nat.beq i n then false else Ev.tabB j i) (fun i => bif Nat.blt i q && Nat.beq (Ev.keyN j i) (n + 1) then 0 else Ev.keyN j i) j sv wr)) (fun i _ => 3 - (RowKit.intOf i).toNat)
                case atStart => exact ⟨0, by omega, rfl, hide ((((unhide HF3).below (below_drewN (Below.refl _ _) _)).setT hn3 false).tables (fun _ _ => rfl) (fun i _ => rfl))⟩
                case round => as_aux_lemma =>
                  obtain ⟨q, hq, rfl, HQ⟩ := hrel
                  by_cases hq3 : q < 3
                  · have kq : wr.cell? ⟨w1.heap.size + 1 + 1 + 1, q, none⟩ = some (.int .i64 (Ev.keyN j q : Nat)) := by
                      have := (unhide HQ).kyAt hq3
                      rwa [blt_self, Bool.false_and, cond_false] at this
                    obtain ⟨_, _, _, fQ⟩ := (unhide HQ).ky.cells
                    by_cases hkn : Ev.keyN j q = n + 1
                    · have e1 := keq_yes hkn
                      have HKN := hide hkn
                      clear hkn
                      go_wp2_with fail
                      go_roundw
                      case rel => exact ⟨q + 1, by omega, by go_num, hide (((unhide HQ).setK hq3 0).tables (fun _ _ => rfl) (fun i _ => kf_yes (unhide HKN)))⟩
                      case measure => simp [RowKit.intOf]; omega
                    · have e1 := keq_no hkn
                      have HKN := hide hkn
                      clear hkn
                      go_wp2_with fail
                      go_roundw
                      case rel =>
                        refine ⟨q + 1, by omega, by go_num, hide ((unhide HQ).tables (fun _ _ => rfl) (fun i _ => kf_no (unhide HKN)))⟩
                      case measure => simp [RowKit.intOf]; omega
                  · have q3 : decide ((q : Int) < 3) = false := decide_eq_false (by omega)
                    have hq33 : q = 3 := by omega
                    subst hq33
                    go_wp2_with fail
                    go_meet
                    exact ⟨12 + n, Ev.tabB j n, congrArg Value.string (Ev.text2 n hn3), by rw [htn], by omega, hide ((unhide HQ).told (unhide HLP).2.2.1 (fun q i hi => ⟨rfl, kf_all hi⟩) (fun q => by rw [htn] at q; cases q))⟩
              | false =>
                rw [htn] at tn
                go_wp2_with fail
                go_big_quiet (fail)
                go_wp2_with fail
                go_loopw [13] (fun i wr => ∃ q : Nat, q ≤ 3 ∧ i = .int .i64 q ∧ Hid (Fr w w1.heap.size (fun i => bif Nat.beq i n then false else Ev.tabB j i) (Ev.keyN j) j sv wr)) (fun i _ => 3 - (RowKit.intOf i).toNat)
                case atStart => exact ⟨0, by omega, rfl, hide (((unhide HF3).below (below_drewN (Below.refl _ _) _)).setT hn3 false)⟩
                case round => as_aux_lemma =>
                  obtain ⟨q, hq, rfl, HQ⟩ := hrel
                  by_cases hq3 : q < 3
                  · go_wp2_with fail
                    go_roundw
                    case rel => exact ⟨q + 1, by omega, by go_num, HQ⟩
                    case measure => simp [RowKit.intOf]; omega
                  · have q3 : decide ((q : Int) < 3) = false := decide_eq_false (by omega)
                    go_wp2_with fail
                    go_meet
                    exact ⟨12 + n, Ev.tabB j n, congrArg Value.string (Ev.text2 n hn3), by rw [htn], by omega, hide ((unhide HQ).told (unhide HLP).2.2.1 (fun q => by rw [htn] at q; cases q) (fun q i hi => ⟨bif_same htn, rfl⟩))⟩
            · cases hkp : Nat.blt 0 (Ev.keyN j n) with
              | true =>
                go_wp2_with fail
                go_big_quiet (fail)
                go_wp2_with fail
                go_meet
                exact ⟨15 + n, Nat.blt 0 (Ev.keyN j n), congrArg Value.string (Ev.text3 n hn3), by rw [blt_dec] <;> rfl, by omega, hide ((((unhide HF3).below (below_drewN (Below.refl _ _) _)).setK hn3 0).told (unhide HLP).2.2.2 (fun q i hi => ⟨rfl, rfl⟩) (fun q => by rw [hkp] at q; cases q))⟩
              | false =>
                go_wp2_with fail
                go_big_quiet (fail)
                go_wp2_with fail
                go_meet
                exact ⟨15 + n, Nat.blt 0 (Ev.keyN j n), congrArg Value.string (Ev.text3 n hn3), by rw [blt_dec] <;> rfl, by omega, hide ((((unhide HF3).below (below_drewN (Below.refl _ _) _)).setK hn3 0).told (unhide HLP).2.2.2 (fun q => by rw [hkp] at q; cases q) (fun q i hi => ⟨rfl, bif_same (f := Ev.keyN j) (blt_zero hkp)⟩))⟩
          case rest => as_aux_lemma =>
            obtain ⟨t, ok, rfl, rfl, ht18, HT⟩ := hcut
            clear tn kn my mn ty z1 z2 fT fK HLP kk d0 HF3 hN hO hx8
            go_upto_region 33 with fail
            go_cut [14, 15] (fun s14 s15 wx => Hid (DoneN w w1.heap.size j t ok sv wx s14 s15))
            case first => as_aux_lemma =>
              obtain ⟨wa, rfl⟩ : ∃ wa, wa = wc := ⟨_, rfl⟩
              obtain ⟨tf, kf, HFa⟩ := fr_of HT
              have s0 := (unhide HFa).sc.cell
              have HST := hide fun W (h : Fr w w1.heap.size tf kf j sv W) => hide (Ev.stmt_at _ j t ht18 h.size h.hs)
              have HKB := hide (kb_of (unhide HT))
              have KS : Hid (∀ W, Hid (Below wa.heap.size wa W) → W.cell? ⟨w1.heap.size + 1, 0, none⟩ = some sv ∧ Hid (Below wa.heap.size wa W)) := fun W hb => ⟨((unhide HFa).below (unhide hb)).sc.cell, hb⟩
              go_region_held3 (fun w' => w'.cell? ⟨w1.heap.size + 1, 0, none⟩ = some sv ∧ Hid (Below wa.heap.size wa w'))
                (first | exact (unhide KS) _ (hide (below_drewN (Below.refl _ _) 1)) | exact (unhide KS) _ (hide (Below.andThen (unhide hq1) hbb)) | exact (unhide KS) _ (hide (Below.andThen (unhide hq2) hbc)) | exact (unhide KS) _ (hide ((Below.andThen (unhide hq2) hbc).alloc hz2 _)) | (obtain ⟨_, hq3⟩ := ‹_ ∧ Hid (Below _ _ _)›; first | exact (unhide KS) _ (hide ((unhide hq3).alloc (unhide hq3).size _)) | exact (unhide KS) _ (hide ((unhide hq3).setCell (p := ⟨_, _, none⟩) (by first | exact Nat.le_refl _ | (dsimp only; omega) | (simp; omega)) _))))
                (first | (go_at_call 9; obtain ⟨_, hq1⟩ := ‹_ ∧ Hid (Below _ _ _)›; refine (unhide ((unhide HST) _ ((unhide HFa).below (unhide hq1)))).mono ?_; rintro e wb ⟨xv, rfl, hX, hbb⟩; have hz1 : wa.heap.size ≤ wb.heap.size := (Below.andThen (unhide hq1) hbb).size; try (have tbb := Blk1.below (Blk1.new wa.drew 27 (.slice none 0 0)) hbb)) | (go_at_call 10; obtain ⟨_, hq2⟩ := ‹_ ∧ Hid (Below _ _ _)›; refine (Ev.apply_at _ j t (Ev.rows_ok j _ hj (by omega)) (unhide HKB) (hX.below (by first | exact Below.refl _ _ | exact (Below.refl _ _).alloc (Nat.le_refl _) _))).mono ?_; rintro e wc ⟨A3, n3, c3, v, rfl, hAp, hbc⟩; have hz2 : wa.heap.size ≤ wc.heap.size := (Below.andThen (unhide hq2) hbc).size; have tcc := (Blk1.below (Blk1.new wb 27 (.slice none 0 0)) hbc).two; obtain ⟨tc0, tc1⟩ := tcc) | (go_at_call 10; obtain ⟨_, hq2⟩ := ‹_ ∧ Hid (Below _ _ _)›; refine (Ev.apply_at _ j t (Ev.rows_ok j _ hj (by omega)) (unhide HKB) (hX.below (by first | exact Below.refl _ _ | exact (Below.refl _ _).alloc (Nat.le_refl _) _))).mono ?_; rintro e wc ⟨A3, n3, c3, v, rfl, hAp, hbc⟩; have hz2 : wa.heap.size ≤ wc.heap.size := (Below.andThen (unhide hq2) hbc).size; have tdd := (Blk1.below tbb hbc).two; obtain ⟨td0, td1⟩ := tdd; have te0 : wc.cell? ⟨wa.heap.size, 0, none⟩ = some (.slice none 0 0) := td0; have te1 : ∀ i, wc.frozen? ⟨wa.heap.size, i, none⟩ = false := td1) | (go_at_call 10; obtain ⟨_, hq2⟩ := ‹_ ∧ Hid (Below _ _ _)›; refine (Ev.apply_at _ j t (Ev.rows_ok j _ hj (by omega)) (unhide HKB) (hX.below (by first | exact Below.refl _ _ | exact (Below.refl _ _).alloc (Nat.le_refl _) _))).mono ?_; rintro e wc ⟨A3, n3, c3, v, rfl, hAp, hbc⟩; have hz2 : wa.heap.size ≤ wc.heap.size := (Below.andThen (unhide hq2) hbc).size))
              all_goals (go_wp2_with fail; go_meet)
              · exact hide ((unhide HT).doneN (unhide HFa) hAp (Below.andThen (unhide hq2) hbc) (unhide hq2).size ⟨_, _, _, rfl⟩)
              · exact hide ((unhide HT).doneS (unhide HFa) hAp (Below.andThen (unhide hq2) hbc) (Blk1.below (Blk1.new wb 27 (.slice none 0 0)) hbc) hz1 (by simp) ⟨_, _, _, rfl⟩)
              · exact hide ((unhide HT).doneS (unhide HFa) hAp (Below.andThen (unhide hq2) hbc) (Blk1.below tbb hbc) (Nat.le_refl _) (Nat.lt_of_lt_of_le (by simp [World.drew]) hbb.size) ⟨_, _, _, rfl⟩)
            case rest => as_aux_lemma =>
              have HD := hcut
              clear hcut HT
              go_upto_region 34 with fail
              go_cut [155] (fun s155 wx => s155 = .bool false ∧ Hid (DoneN w w1.heap.size j t ok sv wx u14 u15))
              case first => as_aux_lemma =>
                obtain ⟨G, tv, rfl, ⟨A5, n5, c5, rfl⟩, HG0, HM⟩ := unhide HD
                have HGG := hide HG0
                clear HG0
                cases hkd : Ev.kdK j t with
                | go k pi kn =>
                  rw [hkd] at HM
                  obtain ⟨rfl, hk41, HM1, rfl, HM2⟩ := HM
                  have HM1 := hide HM1
                  have HM2 := hide HM2
                  have HKD := hide hkd
                  clear hkd
                  go_wp2_with fail
                  go_meet
                  exact ⟨rfl, HD⟩
                | err k pi kn =>
                  rw [hkd] at HM
                  obtain ⟨rfl, hk3, HM1, ⟨T5, y5, rfl⟩, HM2⟩ := HM
                  have HCL := hide (Ev.class_at k (cls_ok k hk3) HM2)
                  have HM1 := hide HM1
                  have HM2 := hide HM2
                  have HKD := hide hkd
                  clear hkd
                  go_wp2_with fail
                  refine (unhide HCL).mono ?_
                  rintro e w2 ⟨rfl, hb2⟩
                  have HB2 := hide hb2
                  clear hb2
                  go_wp2_with fail
                  go_meet
                  exact ⟨rfl, hide ((unhide HD).below (unhide HB2))⟩
              case rest => as_aux_lemma =>
                obtain ⟨rfl, HD2⟩ := hcut
                clear HD
                go_upto_if 156 with fail
                go_cut [156] (fun _ wx => ∃ (k : Nat) (sv' : Value), k < 41 ∧ Hid (Fr w w1.heap.size (Ev.tabB k) (Ev.keyN k) k sv' wx))
                case first => as_aux_lemma =>
                  obtain ⟨G, tv, rfl, ⟨A5, n5, c5, rfl⟩, HG0, HM⟩ := unhide HD2
                  obtain ⟨g0, g1⟩ := HG0.two
                  have HGG := hide HG0
                  clear HG0
                  cases hkd : Ev.kdK j t with
                  | go k pi kn =>
                    rw [hkd] at HM
                    obtain ⟨rfl, hk41, HM1, rfl, HM2⟩ := HM
                    obtain ⟨s0, s1⟩ := HM1.sc.two
                    have HM1 := hide HM1
                    have HM2 := hide HM2
                    have HKD := hide hkd
                    clear hkd
                    go_wp2_with fail
                    go_meet
                    exact ⟨k, _, hk41, hide ((unhide HM1).setS (unhide HM2))⟩
                  | err k pi kn =>
                    rw [hkd] at HM
                    obtain ⟨rfl, hk3, HM1, ⟨T5, y5, rfl⟩, HM2⟩ := HM
                    have HM1 := hide HM1
                    have HM2 := hide HM2
                    have HKD := hide hkd
                    clear hkd
                    go_wp2_with fail
                    go_meet
                    exact ⟨j, sv, hj, HM1⟩
                case rest => as_aux_lemma =>
                  obtain ⟨k, sv', hk41, HFk⟩ := hcut
                  clear HD2
                  go_wp2_with fail
                  go_loopw [16] (fun i wr => ∃ q : Nat, q ≤ 3 ∧ i = .int .i64 q ∧ Hid (Fr w w1.heap.size (Ev.tabB k) (Ev.keyN k) k sv' wr)) (fun i _ => 3 - (RowKit.intOf i).toNat)
                  case atStart => exact ⟨0, by omega, rfl, HFk⟩
                  case round => as_aux_lemma =>
                    obtain ⟨q, hq, rfl, HQ⟩ := hrel
                    by_cases hq3 : q < 3
                    · have s0 := (unhide HQ).sc.cell
                      have mq := (unhide HQ).nmAt hq3
                      have tq := (unhide HQ).tbAt hq3
                      have kq := (unhide HQ).kyAt hq3
                      have HFK : Hid (∀ W, Fr w w1.heap.size (Ev.tabB k) (Ev.keyN k) k sv' W → Calls Tryz.prog 14 #[.agg #[sv'], .string (Ev.nmB q)] W fun e w' => ∃ z y : Int, e = .returned (.tuple #[.int .i64 z, .int .i64 y]) ∧ decide (0 ≤ z) = decide (0 < Ev.keyN k q) ∧ Below W.heap.size W w') := hide fun W h => Ev.findKey_at k q hk41 hq3 h.hs
                      have HFD : Hid (∀ W, Fr w w1.heap.size (Ev.tabB k) (Ev.keyN k) k sv' W → Calls Tryz.prog 16 #[.agg #[sv'], .string (Ev.nmB q)] W fun e w' => ∃ z : Int, e = .returned (.int .i64 z) ∧ decide (0 ≤ z) = Ev.tabB k q ∧ Below W.heap.size W w') := hide fun W h => Ev.find_at k q hk41 hq3 h.hs
                      go_upto_region 41 with fail
                      go_cut [17] (fun s17 wx => ∃ z : Int, s17 = .int .i64 z ∧ Hid (decide (0 ≤ z) = decide (0 < Ev.keyN k q)) ∧ Hid (Fr w w1.heap.size (Ev.tabB k) (Ev.keyN k) k sv' wx))
                      case first => as_aux_lemma =>
                        have KS : Hid (∀ W, Hid (Below wr.heap.size wr W) → W.cell? ⟨w1.heap.size + 1, 0, none⟩ = some sv' ∧ W.cell? ⟨w1.heap.size, q, none⟩ = some (.string (Ev.nmB q)) ∧ Hid (Below wr.heap.size wr W)) := hide fun W hb => ⟨((unhide HQ).below (unhide hb)).sc.cell, ((unhide HQ).below (unhide hb)).nmAt hq3, hb⟩
                        go_region_held3 (fun w' => w'.cell? ⟨w1.heap.size + 1, 0, none⟩ = some sv' ∧ w'.cell? ⟨w1.heap.size, q, none⟩ = some (.string (Ev.nmB q)) ∧ Hid (Below wr.heap.size wr w'))
                          (first | exact (unhide KS) _ (hide (below_drewN (Below.refl _ _) 1)) | exact (unhide KS) _ (hide (Below.andThen (unhide hq1) hbb)))
                          (first | (go_at_call 14; obtain ⟨_, _, hq1⟩ := ‹_ ∧ _ ∧ Hid (Below _ _ _)›; refine ((unhide HFK) _ ((unhide HQ).below (unhide hq1))).mono ?_; rintro e wb ⟨z, yy, rfl, hz, hbb⟩; have HZ := hide hz; clear hz))
                        all_goals go_wp2_with fail
                        all_goals go_meet
                        all_goals exact ⟨z, rfl, HZ, hide ((unhide HQ).below (Below.andThen (unhide hq1) hbb))⟩
                      case rest => as_aux_lemma =>
                        obtain ⟨z, rfl, HZ, HQ2⟩ := hcut
                        clear s0 mq tq kq
                        have HQW := HQ
                        clear HQ HFK
                        have HZ2 := unhide HZ
                        clear HZ
                        have s0 := (unhide HQ2).sc.cell
                        have mq := (unhide HQ2).nmAt hq3
                        have tq := (unhide HQ2).tbAt hq3
                        have kq := (unhide HQ2).kyAt hq3
                        go_upto_region 42 with fail
                        go_cut [188] (fun s188 wx => s188 = .bool false ∧ Hid (Fr w w1.heap.size (Ev.tabB k) (Ev.keyN k) k sv' wx))
                        case first => as_aux_lemma =>
                          have KS : Hid (∀ W, Hid (Below wc.heap.size wc W) → W.cell? ⟨w1.heap.size + 1, 0, none⟩ = some sv' ∧ W.cell? ⟨w1.heap.size, q, none⟩ = some (.string (Ev.nmB q)) ∧ W.cell? ⟨w1.heap.size + 1 + 1, q, none⟩ = some (.bool (Ev.tabB k q)) ∧ W.cell? ⟨w1.heap.size + 1 + 1 + 1, q, none⟩ = some (.int .i64 (Ev.keyN k q : Nat)) ∧ Hid (Below wc.heap.size wc W)) := hide fun W hb => ⟨((unhide HQ2).below (unhide hb)).sc.cell, ((unhide HQ2).below (unhide hb)).nmAt hq3, ((unhide HQ2).below (unhide hb)).tbAt hq3, ((unhide HQ2).below (unhide hb)).kyAt hq3, hb⟩
                          obtain ⟨tb, htb⟩ : ∃ tb, Ev.tabB k q = tb := ⟨_, rfl⟩
                          obtain ⟨kb, hkb⟩ : ∃ kb, decide (0 < Ev.keyN k q) = kb := ⟨_, rfl⟩
                          have HFD2 := unhide HFD
                          rw [htb] at HFD2 tq KS
                          have HFD := hide HFD2
                          clear HFD2
                          have HTB := hide htb
                          clear htb
                          have hkc : decide ((0 : Int) < (Ev.keyN k q : Int)) = kb := by rw [← hkb]; exact decide_eq_decide.2 (by omega)
                          rw [hkb] at HZ2
                          cases tb <;> cases kb
                          · go_region_held3 (fun w' => w'.cell? ⟨w1.heap.size + 1, 0, none⟩ = some sv' ∧ w'.cell? ⟨w1.heap.size, q, none⟩ = some (.string (Ev.nmB q)) ∧ w'.cell? ⟨w1.heap.size + 1 + 1, q, none⟩ = some (.bool false) ∧ w'.cell? ⟨w1.heap.size + 1 + 1 + 1, q, none⟩ = some (.int .i64 (Ev.keyN k q : Nat)) ∧ Hid (Below wc.heap.size wc w'))
                              (first | exact (unhide KS) _ (hide (below_drewN (Below.refl _ _) 1)) | exact (unhide KS) _ (hide (Below.andThen (unhide hq1) hbb)))
                              (first | (go_at_call 16; obtain ⟨_, _, _, _, hq1⟩ := ‹_ ∧ _ ∧ _ ∧ _ ∧ Hid (Below _ _ _)›; refine ((unhide HFD) _ ((unhide HQ2).below (unhide hq1))).mono ?_; rintro e wb ⟨z2, rfl, hz2, hbb⟩))
                            all_goals (go_wp2_with fail; go_meet; exact ⟨rfl, hide ((unhide HQ2).below (Below.andThen (unhide hq1) hbb))⟩)
                          · go_region_held3 (fun w' => w'.cell? ⟨w1.heap.size + 1, 0, none⟩ = some sv' ∧ w'.cell? ⟨w1.heap.size, q, none⟩ = some (.string (Ev.nmB q)) ∧ w'.cell? ⟨w1.heap.size + 1 + 1, q, none⟩ = some (.bool false) ∧ w'.cell? ⟨w1.heap.size + 1 + 1 + 1, q, none⟩ = some (.int .i64 (Ev.keyN k q : Nat)) ∧ Hid (Below wc.heap.size wc w'))
                              (first | exact (unhide KS) _ (hide (below_drewN (Below.refl _ _) 1)) | exact (unhide KS) _ (hide (Below.andThen (unhide hq1) hbb)))
                              (first | (go_at_call 16; obtain ⟨_, _, _, _, hq1⟩ := ‹_ ∧ _ ∧ _ ∧ _ ∧ Hid (Below _ _ _)›; refine ((unhide HFD) _ ((unhide HQ2).below (unhide hq1))).mono ?_; rintro e wb ⟨z2, rfl, hz2, hbb⟩))
                            all_goals (go_wp2_with fail; go_meet; exact ⟨rfl, hide ((unhide HQ2).below (Below.andThen (unhide hq1) hbb))⟩)
                          · go_region_held3 (fun w' => w'.cell? ⟨w1.heap.size + 1, 0, none⟩ = some sv' ∧ w'.cell? ⟨w1.heap.size, q, none⟩ = some (.string (Ev.nmB q)) ∧ w'.cell? ⟨w1.heap.size + 1 + 1, q, none⟩ = some (.bool true) ∧ w'.cell? ⟨w1.heap.size + 1 + 1 + 1, q, none⟩ = some (.int .i64 (Ev.keyN k q : Nat)) ∧ Hid (Below wc.heap.size wc w'))
                              (first | exact (unhide KS) _ (hide (below_drewN (Below.refl _ _) 1)) | exact (unhide KS) _ (hide (Below.andThen (unhide hq1) hbb)))
                              (first | (go_at_call 16; obtain ⟨_, _, _, _, hq1⟩ := ‹_ ∧ _ ∧ _ ∧ _ ∧ Hid (Below _ _ _)›; refine ((unhide HFD) _ ((unhide HQ2).below (unhide hq1))).mono ?_; rintro e wb ⟨z2, rfl, hz2, hbb⟩))
                            all_goals (go_wp2_with fail; go_meet; exact ⟨rfl, hide ((unhide HQ2).below (Below.andThen (unhide hq1) hbb))⟩)
                          · go_region_held3 (fun w' => w'.cell? ⟨w1.heap.size + 1, 0, none⟩ = some sv' ∧ w'.cell? ⟨w1.heap.size, q, none⟩ = some (.string (Ev.nmB q)) ∧ w'.cell? ⟨w1.heap.size + 1 + 1, q, none⟩ = some (.bool true) ∧ w'.cell? ⟨w1.heap.size + 1 + 1 + 1, q, none⟩ = some (.int .i64 (Ev.keyN k q : Nat)) ∧ Hid (Below wc.heap.size wc w'))
                              (first | exact (unhide KS) _ (hide (below_drewN (Below.refl _ _) 1)) | exact (unhide KS) _ (hide (Below.andThen (unhide hq1) hbb)))
                              (first | (go_at_call 16; obtain ⟨_, _, _, _, hq1⟩ := ‹_ ∧ _ ∧ _ ∧ _ ∧ Hid (Below _ _ _)›; refine ((unhide HFD) _ ((unhide HQ2).below (unhide hq1))).mono ?_; rintro e wb ⟨z2, rfl, hz2, hbb⟩))
                            all_goals (go_wp2_with fail; go_meet; exact ⟨rfl, hide ((unhide HQ2).below (Below.andThen (unhide hq1) hbb))⟩)
                        case rest => as_aux_lemma =>
                          obtain ⟨rfl, HQ3⟩ := hcut
                          go_wp2_with fail
                          go_roundw
                          case rel => exact ⟨q + 1, by omega, by go_num, HQ3⟩
                          case measure => simp [RowKit.intOf]; omega
                    · have q3 : decide ((q : Int) < 3) = false := decide_eq_false (by omega)
                      go_wp2_with fail
                      go_roundw
                      case rel => exact ⟨p + 1, k, sv', by omega, by go_num, hk41, HQ⟩
                      case measure => simp [RowKit.intOf]; omega
      · obtain ⟨n0, n1, n2, fN⟩ := (unhide HF).nm.cells
        have q2 : decide ((p : Int) < (m : Int)) = false := decide_eq_false (by omega)
        have s0 : wr.cell? ⟨w1.heap.size + 1, 0, none⟩ = some sv := (unhide HF).sc.cell
        have HIs := hide (Ev.is_at j hj (unhide HF).hs)
        go_wp2_with fail
        refine (unhide HIs).mono ?_
        rintro e w2 ⟨rfl, hb2⟩
        have HB2 := hide (Below.andThen (unhide HF).bl hb2)
        clear hb2
        go_wp2
        go_ret
        exact ⟨rfl, unhide HB2⟩
  · have q1 : decide ((40 : Int) < (m : Int)) = true := decide_eq_true (by omega)
    go_enter Tryz.func5, Tryz.ntmps5
    go_wp2_with fail
    refine (unhide HK).mono ?_
    rintro e w1 ⟨rfl, hb1⟩
    have HBW := hide hb1
    clear hb1 HK
    go_wp2
    go_ret
    exact ⟨rfl, unhide HBW⟩
end Go.Proofs.YtelopbcbmckbcaaGreatDoor

/- value.unkey of bytes that begin with a value's own: contract, kinds 0 and 1. -/
import Derived.Test.YtpmjpbndpnmdlaaDoorKey1
import Derived.Lib.BytesEntry
set_option linter.all false
namespace Go.Proofs.YtpmjpbndpnmdlaaDoor
open Go.RowKit Go.Lib

theorem Reads.shift {w : World} {b o n : Nat} {p rest : List Int} (h : Reads w 1 (some ⟨b, o, none⟩) n (nums (p ++ rest))) : Reads w 1 (some ⟨b, o + p.length, none⟩) rest.length (nums rest) := by
  have hl : n = p.length + rest.length := by have := h.1; simp [nums] at this; omega
  refine ⟨by simp [nums], fun hr => ?_⟩
  obtain ⟨b', o', e, hlt, hc⟩ := h.2 (by omega)
  cases e
  refine ⟨b, o + p.length, rfl, hlt, fun j u hu => ?_⟩
  have := hc (p.length + j) u (by rw [nums_append, List.getElem?_append_right (by simp [nums])]; simpa [nums] using hu)
  rwa [← Nat.add_assoc] at this
theorem Reads.byte {w : World} {b o n j : Nat} {xs : List Int} {x : Int} (h : Reads w 1 (some ⟨b, o, none⟩) n (nums xs)) (hx : xs[j]? = some x) : w.cell? ⟨b, o + j, none⟩ = some (.int .u8 x) := by
  have hl : xs.length = n := by have := h.1; simpa [nums] using this
  have hj : j < xs.length := (List.getElem?_eq_some_iff.1 hx).1
  obtain ⟨b', o', e, hlt, hc⟩ := h.2 (by omega)
  cases e
  exact hc j _ (by simp [nums, hx])
/-- What is left of bytes behind a value's own. -/
def UPost (w : World) (v : V) (rest : List Int) (X : Option Addr) (m : Nat) (p : List Int) (e : Ending) (w' : World) : Prop :=
  ∃ A c, e = .returned (.tuple #[v.agg, .slice A rest.length c, .nilIface]) ∧ (∀ W, Reads W 1 X m (nums (p ++ rest)) → Reads W 1 A rest.length (nums rest)) ∧ rest.length ≤ c ∧ Below w.heap.size w w'
theorem upost {w W : World} {v : V} {rest p : List Int} {b o n c : Nat} (h : Reads w 1 (some ⟨b, o, none⟩) n (nums (p ++ rest))) (hb : Below w.heap.size w W) (hc : rest.length ≤ c) :
    UPost w v rest (some ⟨b, o, none⟩) n p (.returned (.tuple #[v.agg, .slice (some ⟨b, o + p.length, none⟩) rest.length c, .nilIface])) W := ⟨_, c, rfl, fun _ h => h.shift, hc, hb⟩
theorem upost_end {w W : World} {v : V} {A X : Option Addr} {m c : Nat} {p : List Int} (hb : Below w.heap.size w W) : UPost w v [] X m p (.returned (.tuple #[v.agg, .slice A 0 c, .nilIface])) W := ⟨A, c, rfl, fun _ _ => Reads.none_, Nat.zero_le _, hb⟩
theorem may0 : mayB 0 0 ⟨#[]⟩ = true := by kernel_rfl

set_option maxRecDepth 100000 in
set_option maxHeartbeats 1000000 in
theorem unkey_0 (b o m c : Nat) (rest : List Int) (w : World) (hm : m ≤ 9223372036854775807) (hc : m ≤ c) (h : Reads w 1 (some ⟨b, o, none⟩) m (nums ([0] ++ rest))) :
    Calls Tryd.prog 45 #[.slice (some ⟨b, o, none⟩) m c] w (UPost w ⟨0, 0, ⟨#[]⟩⟩ rest (some ⟨b, o, none⟩) m [0]) := by
  have hl : m = rest.length + 1 := by have := h.1; simp [nums] at this; omega
  subst hl
  have c0 : (w.alloc (.cells #[.int .i64 0, .int .i64 0, .string ⟨#[]⟩] 23)).cell? ⟨b, o, none⟩ = some (.int .u8 0) := (h.alloc _).byte (j := 0) rfl
  have H := hide h
  clear h
  have BR := (Blk3.new w 23 (.int .i64 0) (.int .i64 0) (.string ⟨#[]⟩)).alloc (.cells #[.int .i64 0, .int .i64 0, .string ⟨#[]⟩] 23)
  have BV := Blk3.new1 w (.cells #[.int .i64 0, .int .i64 0, .string ⟨#[]⟩] 23) 23 (.int .i64 0) (.int .i64 0) (.string ⟨#[]⟩)
  obtain ⟨b0, b1, b2, fB⟩ := BV.cells
  have hI := fun w => value_Is 0 0 ⟨#[]⟩ w (by decide)
  rw [may0] at hI
  have HI := fun w => hide (hI w)
  clear hI
  have q1 : decide ((rest.length : Int) < 0) = false := decide_eq_false (by omega)
  have hal : Below w.heap.size w ((w.alloc (.cells #[.int .i64 0, .int .i64 0, .string ⟨#[]⟩] 23)).alloc (.cells #[.int .i64 0, .int .i64 0, .string ⟨#[]⟩] 23)) := ((Below.refl _ _).alloc (Nat.le_refl _) _).alloc (by simp) _
  have HBW := hide hal
  clear hal
  by_cases hc1 : 1 < c
  · go_enter Tryd.func45, Tryd.ntmps45
    go_wp2_with fail
    refine (unhide (HI _)).mono ?_
    rintro e w2 ⟨rfl, hb2⟩
    replace BR := BR.below hb2
    replace BV := BV.below hb2
    clear b0 b1 b2 fB
    obtain ⟨b0, b1, b2, fB⟩ := BV.cells
    obtain ⟨r0, r1, r2, fR⟩ := BR.cells
    replace HBW := hide (Below.andThen (unhide HBW) hb2)
    clear hb2 c0
    go_wp2
    go_region
    go_wp2
    replace BR := BR.set3 (.int .i64 0) (.int .i64 0) (.string ⟨#[]⟩)
    obtain ⟨z0, z1, z2, _⟩ := BR.cells
    replace HBW := hide (below_set3 (unhide HBW) (Nat.le_refl w.heap.size) (.int .i64 0) (.int .i64 0) (.string ⟨#[]⟩)).drew
    refine bodyPost_ret (v := .tuple #[.agg #[.int .i64 0, .int .i64 0, .string ⟨#[]⟩], .slice (some ⟨b, o + 1, none⟩) rest.length (c - 1), .nilIface]) (by simp [results, Tryd.results45, go_sem, z0, z1, z2]) rfl ?_
    exact upost (p := [0]) (unhide H) (unhide HBW) (by omega)
  · have hr0 : rest = [] := List.eq_nil_of_length_eq_zero (by omega)
    subst hr0
    have hce : c = 1 := by simp at hc; omega
    subst hce
    go_enter Tryd.func45, Tryd.ntmps45
    go_wp2_with fail
    refine (unhide (HI _)).mono ?_
    rintro e w2 ⟨rfl, hb2⟩
    replace BR := BR.below hb2
    replace BV := BV.below hb2
    clear b0 b1 b2 fB
    obtain ⟨b0, b1, b2, fB⟩ := BV.cells
    obtain ⟨r0, r1, r2, fR⟩ := BR.cells
    replace HBW := hide (Below.andThen (unhide HBW) hb2)
    clear hb2 c0
    go_wp2
    go_region
    go_wp2
    replace BR := BR.set3 (.int .i64 0) (.int .i64 0) (.string ⟨#[]⟩)
    obtain ⟨z0, z1, z2, _⟩ := BR.cells
    replace HBW := hide (below_set3 (unhide HBW) (Nat.le_refl w.heap.size) (.int .i64 0) (.int .i64 0) (.string ⟨#[]⟩)).drew
    refine bodyPost_ret (v := .tuple #[.agg #[.int .i64 0, .int .i64 0, .string ⟨#[]⟩], .slice (some ⟨b, o, none⟩) 0 0, .nilIface]) (by simp [results, Tryd.results45, go_sem, z0, z1, z2]) rfl ?_
    exact upost_end (unhide HBW)
theorem Blk3.set1 {W : World} {g : Nat} {t : TypeId} {a b c : Value} (h : Blk3 W g t a b c) (y : Value) : Blk3 (W.setCell ⟨g, 1, none⟩ y) g t a y c := by
  unfold Blk3 at h ⊢
  simp [World.setCell, Array.getElem?_modify, h]
theorem Blk3.setT {W : World} {g : Nat} {t : TypeId} {a b c : Value} (h : Blk3 W g t a b c) (y : Value) : Blk3 (W.setCell ⟨g, 2, none⟩ y) g t a b y := by
  unfold Blk3 at h ⊢
  simp [World.setCell, Array.getElem?_modify, h]
theorem Blk3.far1 {W : World} {g g' : Nat} {t : TypeId} {a b c : Value} (h : Blk3 W g t a b c) (hne : g ≠ g') (j : Nat) (y : Value) : Blk3 (W.setCell ⟨g', j, none⟩ y) g t a b c := by
  unfold Blk3 at h ⊢
  rw [Below.heap_setCell _ _ _ _ hne, h]
theorem may1_0 : mayB 1 0 ⟨#[]⟩ = true := by kernel_rfl
set_option maxRecDepth 100000 in
set_option maxHeartbeats 1000000 in
theorem unkey_1_0 (b o m c : Nat) (rest : List Int) (w : World) (hm : m ≤ 9223372036854775807) (hc : m ≤ c) (h : Reads w 1 (some ⟨b, o, none⟩) m (nums ([1, 0] ++ rest))) :
    Calls Tryd.prog 45 #[.slice (some ⟨b, o, none⟩) m c] w (UPost w ⟨1, 0, ⟨#[]⟩⟩ rest (some ⟨b, o, none⟩) m [1, 0]) := by
  have hl : m = rest.length + 2 := by have := h.1; simp [nums] at this; omega
  subst hl
  have c0 : (w.alloc (.cells #[.int .i64 0, .int .i64 0, .string ⟨#[]⟩] 23)).cell? ⟨b, o, none⟩ = some (.int .u8 1) := (h.alloc _).byte (j := 0) rfl
  have c1 : ((w.alloc (.cells #[.int .i64 0, .int .i64 0, .string ⟨#[]⟩] 23)).alloc (.cells #[.int .i64 1, .int .i64 0, .string ⟨#[]⟩] 23)).cell? ⟨b, o + 1, none⟩ = some (.int .u8 0) := ((h.alloc _).alloc _).byte (j := 1) rfl
  have H := hide h
  clear h
  have BR := (Blk3.new w 23 (.int .i64 0) (.int .i64 0) (.string ⟨#[]⟩)).alloc (.cells #[.int .i64 1, .int .i64 0, .string ⟨#[]⟩] 23)
  have BV := Blk3.new1 w (.cells #[.int .i64 0, .int .i64 0, .string ⟨#[]⟩] 23) 23 (.int .i64 1) (.int .i64 0) (.string ⟨#[]⟩)
  obtain ⟨b0, b1, b2, fB⟩ := BV.cells
  have hI := fun w => value_Is 1 0 ⟨#[]⟩ w (by decide)
  rw [may1_0] at hI
  have HI := fun w => hide (hI w)
  clear hI
  have q1 : decide ((rest.length : Int) + 1 < 1) = false := decide_eq_false (by omega)
  have hal : Below w.heap.size w ((w.alloc (.cells #[.int .i64 0, .int .i64 0, .string ⟨#[]⟩] 23)).alloc (.cells #[.int .i64 1, .int .i64 0, .string ⟨#[]⟩] 23)) := ((Below.refl _ _).alloc (Nat.le_refl _) _).alloc (by simp) _
  have HBW := hide hal
  clear hal
  by_cases hc1 : 2 < c
  · go_enter Tryd.func45, Tryd.ntmps45
    go_wp2_with fail
    refine (unhide (HI _)).mono ?_
    rintro e w2 ⟨rfl, hb2⟩
    replace BR := BR.below hb2
    replace BV := BV.below hb2
    clear b0 b1 b2 fB
    obtain ⟨b0, b1, b2, fB⟩ := BV.cells
    obtain ⟨r0, r1, r2, fR⟩ := BR.cells
    replace HBW := hide (Below.andThen (unhide HBW) hb2)
    clear hb2 c0 c1
    go_wp2
    go_region
    go_wp2
    replace BR := BR.set3 (.int .i64 1) (.int .i64 0) (.string ⟨#[]⟩)
    obtain ⟨z0, z1, z2, _⟩ := BR.cells
    replace HBW := hide (below_set3 (unhide HBW) (Nat.le_refl w.heap.size) (.int .i64 1) (.int .i64 0) (.string ⟨#[]⟩)).drew
    refine bodyPost_ret (v := .tuple #[.agg #[.int .i64 1, .int .i64 0, .string ⟨#[]⟩], .slice (some ⟨b, o + 1 + 1, none⟩) rest.length (c - 1 - 1), .nilIface]) (by simp [results, Tryd.results45, go_sem, z0, z1, z2]) rfl ?_
    exact upost (p := [1, 0]) (unhide H) (unhide HBW) (by omega)
  · have hr0 : rest = [] := List.eq_nil_of_length_eq_zero (by omega)
    subst hr0
    have hce : c = 2 := by simp at hc; omega
    subst hce
    go_enter Tryd.func45, Tryd.ntmps45
    go_wp2_with fail
    refine (unhide (HI _)).mono ?_
    rintro e w2 ⟨rfl, hb2⟩
    replace BR := BR.below hb2
    replace BV := BV.below hb2
    clear b0 b1 b2 fB
    obtain ⟨b0, b1, b2, fB⟩ := BV.cells
    obtain ⟨r0, r1, r2, fR⟩ := BR.cells
    replace HBW := hide (Below.andThen (unhide HBW) hb2)
    clear hb2 c0 c1
    go_wp2
    go_region
    go_wp2
    replace BR := BR.set3 (.int .i64 1) (.int .i64 0) (.string ⟨#[]⟩)
    obtain ⟨z0, z1, z2, _⟩ := BR.cells
    replace HBW := hide (below_set3 (unhide HBW) (Nat.le_refl w.heap.size) (.int .i64 1) (.int .i64 0) (.string ⟨#[]⟩)).drew
    refine bodyPost_ret (v := .tuple #[.agg #[.int .i64 1, .int .i64 0, .string ⟨#[]⟩], .slice (some ⟨b, o + 1, none⟩) 0 0, .nilIface]) (by simp [results, Tryd.results45, go_sem, z0, z1, z2]) rfl ?_
    exact upost_end (unhide HBW)
theorem may1_1 : mayB 1 1 ⟨#[]⟩ = true := by kernel_rfl
set_option maxRecDepth 100000 in
set_option maxHeartbeats 1000000 in
theorem unkey_1_1 (b o m c : Nat) (rest : List Int) (w : World) (hm : m ≤ 9223372036854775807) (hc : m ≤ c) (h : Reads w 1 (some ⟨b, o, none⟩) m (nums ([1, 1] ++ rest))) :
    Calls Tryd.prog 45 #[.slice (some ⟨b, o, none⟩) m c] w (UPost w ⟨1, 1, ⟨#[]⟩⟩ rest (some ⟨b, o, none⟩) m [1, 1]) := by
  have hl : m = rest.length + 2 := by have := h.1; simp [nums] at this; omega
  subst hl
  have c0 : (w.alloc (.cells #[.int .i64 0, .int .i64 0, .string ⟨#[]⟩] 23)).cell? ⟨b, o, none⟩ = some (.int .u8 1) := (h.alloc _).byte (j := 0) rfl
  have c1 : ((w.alloc (.cells #[.int .i64 0, .int .i64 0, .string ⟨#[]⟩] 23)).alloc (.cells #[.int .i64 1, .int .i64 0, .string ⟨#[]⟩] 23)).cell? ⟨b, o + 1, none⟩ = some (.int .u8 1) := ((h.alloc _).alloc _).byte (j := 1) rfl
  have H := hide h
  clear h
  have BR := (Blk3.new w 23 (.int .i64 0) (.int .i64 0) (.string ⟨#[]⟩)).alloc (.cells #[.int .i64 1, .int .i64 1, .string ⟨#[]⟩] 23)
  have BV := Blk3.new1 w (.cells #[.int .i64 0, .int .i64 0, .string ⟨#[]⟩] 23) 23 (.int .i64 1) (.int .i64 1) (.string ⟨#[]⟩)
  obtain ⟨b0, b1, b2, fB⟩ := BV.cells
  have hI := fun w => value_Is 1 1 ⟨#[]⟩ w (by decide)
  rw [may1_1] at hI
  have HI := fun w => hide (hI w)
  clear hI
  have q1 : decide ((rest.length : Int) + 1 < 1) = false := decide_eq_false (by omega)
  have hal : Below w.heap.size w ((w.alloc (.cells #[.int .i64 0, .int .i64 0, .string ⟨#[]⟩] 23)).alloc (.cells #[.int .i64 1, .int .i64 1, .string ⟨#[]⟩] 23)) := ((Below.refl _ _).alloc (Nat.le_refl _) _).alloc (by simp) _
  have HBW := hide hal
  clear hal
  by_cases hc1 : 2 < c
  · go_enter Tryd.func45, Tryd.ntmps45
    go_wp2_with fail
    refine (unhide (HI _)).mono ?_
    rintro e w2 ⟨rfl, hb2⟩
    replace BR := BR.below hb2
    replace BV := BV.below hb2
    clear b0 b1 b2 fB
    obtain ⟨b0, b1, b2, fB⟩ := BV.cells
    obtain ⟨r0, r1, r2, fR⟩ := BR.cells
    replace HBW := hide (Below.andThen (unhide HBW) hb2)
    clear hb2 c0 c1
    go_wp2
    go_region
    go_wp2
    replace BR := BR.set3 (.int .i64 1) (.int .i64 1) (.string ⟨#[]⟩)
    obtain ⟨z0, z1, z2, _⟩ := BR.cells
    replace HBW := hide (below_set3 (unhide HBW) (Nat.le_refl w.heap.size) (.int .i64 1) (.int .i64 1) (.string ⟨#[]⟩)).drew
    refine bodyPost_ret (v := .tuple #[.agg #[.int .i64 1, .int .i64 1, .string ⟨#[]⟩], .slice (some ⟨b, o + 1 + 1, none⟩) rest.length (c - 1 - 1), .nilIface]) (by simp [results, Tryd.results45, go_sem, z0, z1, z2]) rfl ?_
    exact upost (p := [1, 1]) (unhide H) (unhide HBW) (by omega)
  · have hr0 : rest = [] := List.eq_nil_of_length_eq_zero (by omega)
    subst hr0
    have hce : c = 2 := by simp at hc; omega
    subst hce
    go_enter Tryd.func45, Tryd.ntmps45
    go_wp2_with fail
    refine (unhide (HI _)).mono ?_
    rintro e w2 ⟨rfl, hb2⟩
    replace BR := BR.below hb2
    replace BV := BV.below hb2
    clear b0 b1 b2 fB
    obtain ⟨b0, b1, b2, fB⟩ := BV.cells
    obtain ⟨r0, r1, r2, fR⟩ := BR.cells
    replace HBW := hide (Below.andThen (unhide HBW) hb2)
    clear hb2 c0 c1
    go_wp2
    go_region
    go_wp2
    replace BR := BR.set3 (.int .i64 1) (.int .i64 1) (.string ⟨#[]⟩)
    obtain ⟨z0, z1, z2, _⟩ := BR.cells
    replace HBW := hide (below_set3 (unhide HBW) (Nat.le_refl w.heap.size) (.int .i64 1) (.int .i64 1) (.string ⟨#[]⟩)).drew
    refine bodyPost_ret (v := .tuple #[.agg #[.int .i64 1, .int .i64 1, .string ⟨#[]⟩], .slice (some ⟨b, o + 1, none⟩) 0 0, .nilIface]) (by simp [results, Tryd.results45, go_sem, z0, z1, z2]) rfl ?_
    exact upost_end (unhide HBW)
end Go.Proofs.YtpmjpbndpnmdlaaDoor

/- A statement's data in memory, opened: by what the card says, it is a statement (SIn). No program's code but its types. -/
import Derived.Test.YtddedijencleeaaGreatDoorMGb
import Derived.ChangeArms
import Derived.Deep.Slices
import Derived.ChangeSame
import Derived.SizedLaws
set_option linter.all false
namespace Go.Proofs.YtddedijencleeaaGreatDoor
open Go.ChangeShapes Go.WideShapes Go.ChangeAt Go.RowKit Go.Deep

namespace Op
theorem flat0 {W : World} {a : Addr} {u : Value} (h : W.cell? (a.add 0) = some u) : ∃ b o, a = ⟨b, o, none⟩ ∧ b < W.heap.size := by
  obtain ⟨b, o, s⟩ := a
  cases s with
  | none => exact ⟨b, o, rfl, by simpa [Addr.add] using Kz h⟩
  | some s =>
    exfalso
    have e : ((⟨b, o, some s⟩ : Addr).add 0) = ⟨b, o, some s⟩ := by simp [Addr.add]
    rw [e] at h
    unfold World.cell? at h
    split at h <;> simp at h
theorem add_flat (b o j : Nat) : (⟨b, o, none⟩ : Addr).add j = ⟨b, o + j, none⟩ := by unfold Addr.add; split <;> simp_all
section
variable {H : Type} {enc : TypeId × Value → H} {P : Program} {W : World}
/-- Cells that read as data of a type, none of it too large. -/
def Ko (enc : TypeId × Value → H) (P : Program) (W : World) (n : Nat) (t : TypeId) (cs : List Value) : Prop :=
  ∃ x, DataW.trod enc P W 0 (fun _ => true) true n t cs = some x ∧ ∀ k ∈ DataW.weights P t x.1, k ≤ reachBytes
theorem Ko.int {n : Nat} {t : TypeId} {cs : List Value} {k : IntKind} (h : Ko enc P W n t cs) (ht : P.underlying t = some (.int k)) : ∃ z, cs = [.int k z] ∧ (Lit.int k z).wf = true := by
  obtain ⟨x, h, _⟩ := h
  obtain ⟨z, h1, _, h2⟩ := DataW.trod_int ht h
  exact ⟨z, h1, h2⟩
theorem Ko.i64 {n : Nat} {t : TypeId} {cs : List Value} (h : Ko enc P W n t cs) (ht : P.underlying t = some (.int .i64)) : ∃ z, cs = [.int .i64 z] ∧ KM z := by
  obtain ⟨z, h1, h2⟩ := h.int ht
  refine ⟨z, h1, ?_⟩
  simp [Lit.wf, IntKind.min, IntKind.max, IntKind.signed, IntKind.bits] at h2
  unfold KM
  omega
theorem Ko.bool {n : Nat} {t : TypeId} {cs : List Value} (h : Ko enc P W n t cs) (ht : P.underlying t = some .bool) : ∃ z, cs = [.bool z] := by
  obtain ⟨x, h, _⟩ := h
  obtain ⟨z, h1, _⟩ := DataW.trod_bool ht h
  exact ⟨z, h1⟩
theorem Ko.str {n : Nat} {t : TypeId} {cs : List Value} (h : Ko enc P W n t cs) (ht : P.underlying t = some .string) : ∃ s : ByteArray, cs = [.string s] ∧ s.size ≤ 9223372036854775807 := by
  obtain ⟨x, h, _⟩ := h
  obtain ⟨s, h1, _, h2⟩ := DataW.trod_string ht h
  exact ⟨s, h1, by unfold maxLen at h2; omega⟩
theorem Ko.struct {n : Nat} {t : TypeId} {cs : List Value} {fs : Array Field} (h : Ko enc P W n t cs) (ht : P.underlying t = some (.struct fs)) :
    ∃ m, n = m + 1 ∧ cs.length = P.cellsOf t ∧ ∀ (i : Nat) (f : Field), fs[i]? = some f → Ko enc P W m f.type ((cs.drop f.offset).take (P.cellsOf f.type)) := by
  obtain ⟨x, h, hw⟩ := h
  obtain ⟨xs, m, rfl, rfl, hl, hn, hf⟩ := DataW.trod_struct ht h
  refine ⟨m, rfl, hl, fun i f hi => ?_⟩
  have hlt : i < xs.length := by rw [hn]; exact (Array.getElem?_eq_some_iff.1 hi).1
  have h1 := hf i f hi
  rw [List.getElem?_eq_getElem hlt] at h1
  refine ⟨_, h1, fun k hk => hw k ?_⟩
  simp only [DataW.weights, ht]
  refine DataW.weights_mem_each (j := i) (t := f.type) (d := (xs[i]).1) ?_ ?_ k hk
  · rw [List.getElem?_map, ← Array.getElem?_toList] at *
    rw [hi]; rfl
  · rw [List.getElem?_map, List.getElem?_eq_getElem hlt]; rfl
theorem mem_all {e : TypeId} : ∀ {l : List (DataW H)} {d : DataW H} {k : Nat}, d ∈ l → k ∈ d.weights P e → k ∈ DataW.weightsAll P e l
  | d0 :: l, d, k, hd, hk => by
    simp only [DataW.weightsAll, List.mem_append]
    rcases List.mem_cons.1 hd with rfl | hd
    · exact .inl hk
    · exact .inr (mem_all hd hk)
theorem Ko.slice {n : Nat} {t e : TypeId} {cs : List Value} (h : Ko enc P W n t cs) (ht : P.underlying t = some (.slice e)) (hc : 0 < P.cellsOf e) :
    ∃ A len c, cs = [.slice A len c] ∧ len ≤ c ∧ c ≤ 9223372036854775807 ∧ len * P.bytesOf e ≤ 140737488355328 ∧
      (0 < len → ∃ m b o, n = m + 1 ∧ A = some ⟨b, o, none⟩ ∧ b < W.heap.size ∧ ∀ i, i < len → ∃ ds, ds.length = P.cellsOf e ∧ W.rangeAt b (o + i * P.cellsOf e) ds ∧ Ko enc P W m e ds) := by
  obtain ⟨x, h, hw⟩ := h
  rcases DataW.trod_slice ht h with ⟨rfl, _⟩ | ⟨a, len, cap, elems, rest, m, rfl, rfl, rfl, _, hl, hm, hlen, hel, hsp, _⟩
  · exact ⟨none, 0, 0, rfl, Nat.le_refl _, by omega, by omega, fun h => absurd h (Nat.lt_irrefl 0)⟩
  · have hr := (hsp rfl).1
    have hby : len * P.bytesOf e ≤ 140737488355328 := by
      have := hw ((elems.length + rest.length) * P.bytesOf e) (by simp only [DataW.weights, ht, List.length_map]; exact List.mem_cons_self)
      rw [hlen, hr, show len + (cap - len) = cap by omega] at this
      have h2 : len * P.bytesOf e ≤ cap * P.bytesOf e := Nat.mul_le_mul_right _ hl
      unfold reachBytes at this
      omega
    have one : ∀ i, i < len → ∃ ds, W.cells? 0 (a.add (i * P.cellsOf e)) (P.cellsOf e) = some ds ∧ Ko enc P W m e ds := fun i hi => by
      have h1 := hel i hi
      have hlt : i < elems.length := by omega
      rw [List.getElem?_eq_getElem hlt] at h1
      obtain ⟨ds, h2, h3⟩ := Option.bind_eq_some_iff.1 h1
      refine ⟨ds, h2, _, h3, fun k hk => hw k ?_⟩
      simp only [DataW.weights, ht, List.mem_cons, List.mem_append]
      exact .inr (.inl (mem_all (List.mem_map.2 ⟨_, List.getElem_mem hlt, rfl⟩) hk))
    refine ⟨some a, len, cap, rfl, hl, by unfold maxLen at hm; omega, hby, fun h0 => ?_⟩
    obtain ⟨ds, h1, _⟩ := one 0 h0
    obtain ⟨_, h2, h3⟩ := World.cells?_some h1
    have h4 := h3 0 hc
    rw [add_add] at h4
    rw [show 0 * P.cellsOf e + 0 = 0 by omega] at h4
    have hlt : 0 < ds.length := by omega
    rw [List.getElem?_eq_getElem hlt] at h4
    obtain ⟨b, o, rfl, hb⟩ := flat0 h4
    refine ⟨m, b, o, rfl, rfl, hb, fun i hi => ?_⟩
    obtain ⟨ds, h1, h5⟩ := one i hi
    obtain ⟨_, h2, h3⟩ := World.cells?_some h1
    refine ⟨ds, h2, fun j v hj => ?_, h5⟩
    have := h3 j (by have := (List.getElem?_eq_some_iff.1 hj).1; omega)
    rw [add_add, hj, add_flat] at this
    rw [← this]
    congr 2
    omega
/-- A slice whose elements are each something. -/
theorem Ko.rows {α : Type} [Inhabited α] {R : α → List Value → Prop} {n size bytes : Nat} {t e : TypeId} {cs : List Value} (h : Ko enc P W n t cs) (ht : P.underlying t = some (.slice e)) (hc : P.cellsOf e = size) (h0 : 0 < size) (hb : P.bytesOf e = bytes)
    (hel : ∀ m ds, m < n → Ko enc P W m e ds → ∃ x, R x ds ∧ ds.toArray.all (·.oneCell') = true) : ∃ (len : Nat) (f : Nat → α) (v : Value), cs = [v] ∧ QR W size bytes len v (fun i ds => R (f i) ds) := by
  obtain ⟨A, len, c, rfl, h1, h2, h3, h4⟩ := h.slice ht (by omega)
  by_cases hl : 0 < len
  · obtain ⟨m, b, o, rfl, rfl, hlt, h5⟩ := h4 hl
    obtain ⟨f, hf⟩ := choose_lt (α := α) (p := fun i x => ∃ ds, ds.length = size ∧ ds.toArray.all (·.oneCell') = true ∧ R x ds ∧ W.rangeAt b (o + i * size) ds) (n := len) (fun i hi => by
      obtain ⟨ds, h6, h7, h8⟩ := h5 i hi
      obtain ⟨x, h9, h10⟩ := hel m ds (by omega) h8
      exact ⟨x, ds, by rw [h6, hc], h10, h9, by rwa [hc] at h7⟩)
    exact ⟨len, f, _, rfl, _, _, rfl, h1, h2, by rw [← hb]; exact h3, fun _ => ⟨b, o, rfl, hlt, hf⟩⟩
  · exact ⟨len, fun _ => default, _, rfl, _, _, rfl, h1, h2, by rw [← hb]; exact h3, fun h => absurd h hl⟩
end
-- TYPES
section
variable {H : Type} {enc : TypeId × Value → H} {W : World}
theorem Ko.field {P : Program} {cs : List Value} {m : Nat} {fs : Array Field} (F : ∀ (i : Nat) (f : Field), fs[i]? = some f → Ko enc P W m f.type ((cs.drop f.offset).take (P.cellsOf f.type))) (i : Nat) {T : TypeId} {o k : Nat} {ds : List Value}
    (h : fs[i]?.map (fun f => (f.type, f.offset)) = some (T, o)) (hk : P.cellsOf T = k) (hd : (cs.drop o).take k = ds) : Ko enc P W m T ds := by
  obtain ⟨f, hf, he⟩ := Option.map_eq_some_iff.1 h
  cases he
  have := F i f hf
  rwa [hk, hd] at this
theorem len3 : ∀ {cs : List Value}, cs.length = 3 → ∃ c0 c1 c2, cs = c0 :: c1 :: c2 :: []
  | c0 :: c1 :: c2 :: [], _ => ⟨_, _, _, rfl⟩
theorem len4 : ∀ {cs : List Value}, cs.length = 4 → ∃ c0 c1 c2 c3, cs = c0 :: c1 :: c2 :: c3 :: []
  | c0 :: c1 :: c2 :: c3 :: [], _ => ⟨_, _, _, _, rfl⟩
theorem len10 : ∀ {cs : List Value}, cs.length = 10 → ∃ c0 c1 c2 c3 c4 c5 c6 c7 c8 c9, cs = c0 :: c1 :: c2 :: c3 :: c4 :: c5 :: c6 :: c7 :: c8 :: c9 :: []
  | c0 :: c1 :: c2 :: c3 :: c4 :: c5 :: c6 :: c7 :: c8 :: c9 :: [], _ => ⟨_, _, _, _, _, _, _, _, _, _, rfl⟩
theorem len11 : ∀ {cs : List Value}, cs.length = 11 → ∃ c0 c1 c2 c3 c4 c5 c6 c7 c8 c9 c10, cs = c0 :: c1 :: c2 :: c3 :: c4 :: c5 :: c6 :: c7 :: c8 :: c9 :: c10 :: []
  | c0 :: c1 :: c2 :: c3 :: c4 :: c5 :: c6 :: c7 :: c8 :: c9 :: c10 :: [], _ => ⟨_, _, _, _, _, _, _, _, _, _, _, rfl⟩
theorem len12 : ∀ {cs : List Value}, cs.length = 12 → ∃ c0 c1 c2 c3 c4 c5 c6 c7 c8 c9 c10 c11, cs = c0 :: c1 :: c2 :: c3 :: c4 :: c5 :: c6 :: c7 :: c8 :: c9 :: c10 :: c11 :: []
  | c0 :: c1 :: c2 :: c3 :: c4 :: c5 :: c6 :: c7 :: c8 :: c9 :: c10 :: c11 :: [], _ => ⟨_, _, _, _, _, _, _, _, _, _, _, _, rfl⟩
theorem len13 : ∀ {cs : List Value}, cs.length = 13 → ∃ c0 c1 c2 c3 c4 c5 c6 c7 c8 c9 c10 c11 c12, cs = c0 :: c1 :: c2 :: c3 :: c4 :: c5 :: c6 :: c7 :: c8 :: c9 :: c10 :: c11 :: c12 :: []
  | c0 :: c1 :: c2 :: c3 :: c4 :: c5 :: c6 :: c7 :: c8 :: c9 :: c10 :: c11 :: c12 :: [], _ => ⟨_, _, _, _, _, _, _, _, _, _, _, _, _, rfl⟩
theorem len37 : ∀ {cs : List Value}, cs.length = 37 → ∃ c0 c1 c2 c3 c4 c5 c6 c7 c8 c9 c10 c11 c12 c13 c14 c15 c16 c17 c18 c19 c20 c21 c22 c23 c24 c25 c26 c27 c28 c29 c30 c31 c32 c33 c34 c35 c36, cs = c0 :: c1 :: c2 :: c3 :: c4 :: c5 :: c6 :: c7 :: c8 :: c9 :: c10 :: c11 :: c12 :: c13 :: c14 :: c15 :: c16 :: c17 :: c18 :: c19 :: c20 :: c21 :: c22 :: c23 :: c24 :: c25 :: c26 :: c27 :: c28 :: c29 :: c30 :: c31 :: c32 :: c33 :: c34 :: c35 :: c36 :: []
  | c0 :: c1 :: c2 :: c3 :: c4 :: c5 :: c6 :: c7 :: c8 :: c9 :: c10 :: c11 :: c12 :: c13 :: c14 :: c15 :: c16 :: c17 :: c18 :: c19 :: c20 :: c21 :: c22 :: c23 :: c24 :: c25 :: c26 :: c27 :: c28 :: c29 :: c30 :: c31 :: c32 :: c33 :: c34 :: c35 :: c36 :: [], _ => ⟨_, _, _, _, _, _, _, _, _, _, _, _, _, _, _, _, _, _, _, _, _, _, _, _, _, _, _, _, _, _, _, _, _, _, _, _, _, rfl⟩
theorem fed_str1 {n : Nat} {cs : List Value} (h : Ko enc Tryz.prog W n 9 cs) : ∃ x : ByteArray, (cs = [.string x] ∧ x.size ≤ 9223372036854775807) ∧ cs.toArray.all (·.oneCell') = true := by
  obtain ⟨x, rfl, h0⟩ := h.str Tryz.underlying9
  exact ⟨x, ⟨rfl, h0⟩, by simp [Value.oneCell']⟩
theorem fed_int1 {n : Nat} {cs : List Value} (h : Ko enc Tryz.prog W n 3 cs) : ∃ x : Int, (cs = [.int .i64 x] ∧ KM x) ∧ cs.toArray.all (·.oneCell') = true := by
  obtain ⟨x, rfl, h0⟩ := h.i64 Tryz.underlying3
  exact ⟨x, ⟨rfl, h0⟩, by simp [Value.oneCell']⟩
instance : Inhabited E := ⟨.no⟩
theorem fed_Col {n : Nat} {cs : List Value} (h : Ko enc Tryz.prog W n 105 cs) : ∃ x, CoIn x cs ∧ cs.toArray.all (·.oneCell') = true := by
  obtain ⟨m, rfl, hl, F⟩ := h.struct Tryz.underlying105
  replace hl := hl.trans (show Tryz.prog.cellsOf 105 = 3 by kernel_rfl)
  obtain ⟨c0, c1, c2, rfl⟩ := len3 hl
  have f0 := Ko.field F 0 (T := 9) (o := 0) (k := 1) (ds := [c0]) rfl (by kernel_rfl) rfl
  have f1 := Ko.field F 1 (T := 3) (o := 1) (k := 1) (ds := [c1]) rfl (by kernel_rfl) rfl
  have f2 := Ko.field F 2 (T := 4) (o := 2) (k := 1) (ds := [c2]) rfl (by kernel_rfl) rfl
  clear F h
  obtain ⟨a, e0, w0⟩ := f0.str Tryz.underlying9
  cases e0
  obtain ⟨b, e1, w1⟩ := f1.i64 Tryz.underlying3
  cases e1
  obtain ⟨c, e2⟩ := f2.bool Tryz.underlying4
  cases e2
  exact ⟨⟨a, b, c⟩, ⟨rfl, w0, w1⟩, by simp [Value.oneCell']⟩
theorem fed_Key {n : Nat} {cs : List Value} (h : Ko enc Tryz.prog W n 59 cs) : ∃ x, KeIn W x cs ∧ cs.toArray.all (·.oneCell') = true := by
  obtain ⟨m, rfl, hl, F⟩ := h.struct Tryz.underlying59
  replace hl := hl.trans (show Tryz.prog.cellsOf 59 = 4 by kernel_rfl)
  obtain ⟨c0, c1, c2, c3, rfl⟩ := len4 hl
  have f0 := Ko.field F 0 (T := 9) (o := 0) (k := 1) (ds := [c0]) rfl (by kernel_rfl) rfl
  have f1 := Ko.field F 1 (T := 57) (o := 1) (k := 1) (ds := [c1]) rfl (by kernel_rfl) rfl
  have f2 := Ko.field F 2 (T := 4) (o := 2) (k := 1) (ds := [c2]) rfl (by kernel_rfl) rfl
  have f3 := Ko.field F 3 (T := 4) (o := 3) (k := 1) (ds := [c3]) rfl (by kernel_rfl) rfl
  clear F h
  obtain ⟨a, e0, w0⟩ := f0.str Tryz.underlying9
  cases e0
  obtain ⟨n1, g1, v, e1, w1⟩ := f1.rows (α := Int) (R := fun x ds => ds = [.int .i64 x] ∧ KM x) (size := 1) (bytes := 8) Tryz.underlying57 (by kernel_rfl) (by decide) (by kernel_rfl) (fun k ds hk hd => fed_int1 hd)
  cases e1
  obtain ⟨c, e2⟩ := f2.bool Tryz.underlying4
  cases e2
  obtain ⟨d, e3⟩ := f3.bool Tryz.underlying4
  cases e3
  refine ⟨⟨a, n1, g1, c, d⟩, ⟨w0, _, rfl, w1⟩, ?_⟩
  obtain ⟨A, k, rfl, _⟩ := w1
  simp [Value.oneCell']
instance : Inhabited Co := ⟨⟨⟨#[]⟩, 0, false⟩⟩
instance : Inhabited Ke := ⟨⟨⟨#[]⟩, 0, fun _ => 0, false, false⟩⟩
theorem fed_Tab {n : Nat} {cs : List Value} (h : Ko enc Tryz.prog W n 25 cs) : ∃ x, TaIn W x cs ∧ cs.toArray.all (·.oneCell') = true := by
  obtain ⟨m, rfl, hl, F⟩ := h.struct Tryz.underlying25
  replace hl := hl.trans (show Tryz.prog.cellsOf 25 = 3 by kernel_rfl)
  obtain ⟨c0, c1, c2, rfl⟩ := len3 hl
  have f0 := Ko.field F 0 (T := 9) (o := 0) (k := 1) (ds := [c0]) rfl (by kernel_rfl) rfl
  have f1 := Ko.field F 1 (T := 22) (o := 1) (k := 1) (ds := [c1]) rfl (by kernel_rfl) rfl
  have f2 := Ko.field F 2 (T := 23) (o := 2) (k := 1) (ds := [c2]) rfl (by kernel_rfl) rfl
  clear F h
  obtain ⟨a, e0, w0⟩ := f0.str Tryz.underlying9
  cases e0
  obtain ⟨n1, g1, v, e1, w1⟩ := f1.rows (α := Co) (R := fun x ds => CoIn x ds) (size := 3) (bytes := 32) Tryz.underlying22 (by kernel_rfl) (by decide) (by kernel_rfl) (fun k ds hk hd => fed_Col hd)
  cases e1
  obtain ⟨n2, g2, u, e2, w2⟩ := f2.rows (α := Ke) (R := fun x ds => KeIn W x ds) (size := 4) (bytes := 48) Tryz.underlying23 (by kernel_rfl) (by decide) (by kernel_rfl) (fun k ds hk hd => fed_Key hd)
  cases e2
  refine ⟨⟨a, n1, g1, n2, g2⟩, ⟨w0, _, _, rfl, w1, w2⟩, ?_⟩
  obtain ⟨A, k, rfl, _⟩ := w1
  obtain ⟨A', k', rfl, _⟩ := w2
  simp [Value.oneCell']
theorem fed_Val {n : Nat} {cs : List Value} (h : Ko enc Tryz.prog W n 31 cs) : (∃ a b c, cs = [.int .i64 a, .int .i64 b, .string c] ∧ KM a ∧ KM b ∧ c.size ≤ 9223372036854775807) ∧ cs.toArray.all (·.oneCell') = true := by
  obtain ⟨m, rfl, hl, F⟩ := h.struct Tryz.underlying31
  replace hl := hl.trans (show Tryz.prog.cellsOf 31 = 3 by kernel_rfl)
  obtain ⟨c0, c1, c2, rfl⟩ := len3 hl
  have f0 := Ko.field F 0 (T := 3) (o := 0) (k := 1) (ds := [c0]) rfl (by kernel_rfl) rfl
  have f1 := Ko.field F 1 (T := 2) (o := 1) (k := 1) (ds := [c1]) rfl (by kernel_rfl) rfl
  have f2 := Ko.field F 2 (T := 9) (o := 2) (k := 1) (ds := [c2]) rfl (by kernel_rfl) rfl
  clear F h
  obtain ⟨a, e0, w0⟩ := f0.i64 Tryz.underlying3
  cases e0
  obtain ⟨b, e1, w1⟩ := f1.i64 Tryz.underlying2
  cases e1
  obtain ⟨c, e2, w2⟩ := f2.str Tryz.underlying9
  cases e2
  exact ⟨⟨a, b, c, rfl, w0, w1, w2⟩, by simp [Value.oneCell']⟩
theorem fed_E : ∀ (n : Nat) (cs : List Value), Ko enc Tryz.prog W n 34 cs → ∃ x, QI W x cs ∧ cs.toArray.all (·.oneCell') = true := by
  intro n
  refine Nat.strongRecOn n fun n ih => ?_
  intro cs h
  obtain ⟨m, rfl, hl, F⟩ := h.struct Tryz.underlying34
  replace hl := hl.trans (show Tryz.prog.cellsOf 34 = 10 by kernel_rfl)
  obtain ⟨c0, c1, c2, c3, c4, c5, c6, c7, c8, c9, rfl⟩ := len10 hl
  have f0 := Ko.field F 0 (T := 3) (o := 0) (k := 1) (ds := [c0]) rfl (by kernel_rfl) rfl
  have f1 := Ko.field F 1 (T := 3) (o := 1) (k := 1) (ds := [c1]) rfl (by kernel_rfl) rfl
  have f2 := Ko.field F 2 (T := 31) (o := 2) (k := 3) (ds := [c2, c3, c4]) rfl (by kernel_rfl) rfl
  have f3 := Ko.field F 3 (T := 9) (o := 5) (k := 1) (ds := [c5]) rfl (by kernel_rfl) rfl
  have f4 := Ko.field F 4 (T := 9) (o := 6) (k := 1) (ds := [c6]) rfl (by kernel_rfl) rfl
  have f5 := Ko.field F 5 (T := 32) (o := 7) (k := 1) (ds := [c7]) rfl (by kernel_rfl) rfl
  have f6 := Ko.field F 6 (T := 3) (o := 8) (k := 1) (ds := [c8]) rfl (by kernel_rfl) rfl
  have f7 := Ko.field F 7 (T := 3) (o := 9) (k := 1) (ds := [c9]) rfl (by kernel_rfl) rfl
  clear F h
  obtain ⟨k, e0, w0⟩ := f0.i64 Tryz.underlying3
  cases e0
  obtain ⟨op, e1, w1⟩ := f1.i64 Tryz.underlying3
  cases e1
  obtain ⟨⟨vk, vn, vt, e2, wk, wn, wt⟩, _⟩ := fed_Val f2
  cases e2
  obtain ⟨tb, e3, w3⟩ := f3.str Tryz.underlying9
  cases e3
  obtain ⟨nm, e4, w4⟩ := f4.str Tryz.underlying9
  cases e4
  obtain ⟨pl, e6, w6⟩ := f6.i64 Tryz.underlying3
  cases e6
  obtain ⟨ty, e7, w7⟩ := f7.i64 Tryz.underlying3
  cases e7
  obtain ⟨n5, g5, v, e5, w5⟩ := f5.rows (α := E) (R := fun x ds => QI W x ds) (size := 10) (bytes := 120) Tryz.underlying32 (by kernel_rfl) (by decide) (by kernel_rfl) (fun k ds hk hd => ih k (by omega) ds hd)
  cases e5
  refine ⟨.mk k op vk vn vt tb nm n5 g5 pl ty, ⟨⟨w0, w1, wk, wn, wt, w3, w4, w6, w7⟩, _, rfl, w5⟩, ?_⟩
  obtain ⟨A, c, rfl, _⟩ := w5
  simp [Value.oneCell']
theorem fed_St {n : Nat} {cs : List Value} (h : Ko enc Tryz.prog W n 61 cs) : ∃ x, StIn W x cs ∧ cs.toArray.all (·.oneCell') = true := by
  obtain ⟨m, rfl, hl, F⟩ := h.struct Tryz.underlying61
  replace hl := hl.trans (show Tryz.prog.cellsOf 61 = 11 by kernel_rfl)
  obtain ⟨c0, c1, c2, c3, c4, c5, c6, c7, c8, c9, c10, rfl⟩ := len11 hl
  have f0 := Ko.field F 0 (T := 9) (o := 0) (k := 1) (ds := [c0]) rfl (by kernel_rfl) rfl
  have f1 := Ko.field F 1 (T := 34) (o := 1) (k := 10) (ds := [c1, c2, c3, c4, c5, c6, c7, c8, c9, c10]) rfl (by kernel_rfl) rfl
  clear F h
  obtain ⟨a, e0, w0⟩ := f0.str Tryz.underlying9
  cases e0
  obtain ⟨e, w1, o1⟩ := fed_E _ _ f1
  exact ⟨⟨a, e⟩, ⟨w0, _, rfl, w1⟩, by simpa [Value.oneCell'] using o1⟩
theorem fed_It {n : Nat} {cs : List Value} (h : Ko enc Tryz.prog W n 63 cs) : ∃ x, ItIn W x cs ∧ cs.toArray.all (·.oneCell') = true := by
  obtain ⟨m, rfl, hl, F⟩ := h.struct Tryz.underlying63
  replace hl := hl.trans (show Tryz.prog.cellsOf 63 = 12 by kernel_rfl)
  obtain ⟨c0, c1, c2, c3, c4, c5, c6, c7, c8, c9, c10, c11, rfl⟩ := len12 hl
  have f0 := Ko.field F 0 (T := 4) (o := 0) (k := 1) (ds := [c0]) rfl (by kernel_rfl) rfl
  have f1 := Ko.field F 1 (T := 34) (o := 1) (k := 10) (ds := [c1, c2, c3, c4, c5, c6, c7, c8, c9, c10]) rfl (by kernel_rfl) rfl
  have f2 := Ko.field F 2 (T := 9) (o := 11) (k := 1) (ds := [c11]) rfl (by kernel_rfl) rfl
  clear F h
  obtain ⟨a, e0⟩ := f0.bool Tryz.underlying4
  cases e0
  obtain ⟨e, w1, o1⟩ := fed_E _ _ f1
  obtain ⟨c, e2, w2⟩ := f2.str Tryz.underlying9
  cases e2
  exact ⟨⟨a, e, c⟩, ⟨w2, _, rfl, w1⟩, by simpa [Value.oneCell'] using o1⟩
theorem fed_So {n : Nat} {cs : List Value} (h : Ko enc Tryz.prog W n 65 cs) : ∃ x, SoIn W x cs ∧ cs.toArray.all (·.oneCell') = true := by
  obtain ⟨m, rfl, hl, F⟩ := h.struct Tryz.underlying65
  replace hl := hl.trans (show Tryz.prog.cellsOf 65 = 13 by kernel_rfl)
  obtain ⟨c0, c1, c2, c3, c4, c5, c6, c7, c8, c9, c10, c11, c12, rfl⟩ := len13 hl
  have f0 := Ko.field F 0 (T := 9) (o := 0) (k := 1) (ds := [c0]) rfl (by kernel_rfl) rfl
  have f1 := Ko.field F 1 (T := 9) (o := 1) (k := 1) (ds := [c1]) rfl (by kernel_rfl) rfl
  have f2 := Ko.field F 2 (T := 4) (o := 2) (k := 1) (ds := [c2]) rfl (by kernel_rfl) rfl
  have f3 := Ko.field F 3 (T := 34) (o := 3) (k := 10) (ds := [c3, c4, c5, c6, c7, c8, c9, c10, c11, c12]) rfl (by kernel_rfl) rfl
  clear F h
  obtain ⟨a, e0, w0⟩ := f0.str Tryz.underlying9
  cases e0
  obtain ⟨b, e1, w1⟩ := f1.str Tryz.underlying9
  cases e1
  obtain ⟨c, e2⟩ := f2.bool Tryz.underlying4
  cases e2
  obtain ⟨e, w3, o3⟩ := fed_E _ _ f3
  exact ⟨⟨a, b, c, e⟩, ⟨w0, w1, _, rfl, w3⟩, by simpa [Value.oneCell'] using o3⟩
theorem fed_Od {n : Nat} {cs : List Value} (h : Ko enc Tryz.prog W n 67 cs) : ∃ x, OdIn W x cs ∧ cs.toArray.all (·.oneCell') = true := by
  obtain ⟨m, rfl, hl, F⟩ := h.struct Tryz.underlying67
  replace hl := hl.trans (show Tryz.prog.cellsOf 67 = 11 by kernel_rfl)
  obtain ⟨c0, c1, c2, c3, c4, c5, c6, c7, c8, c9, c10, rfl⟩ := len11 hl
  have f0 := Ko.field F 0 (T := 34) (o := 0) (k := 10) (ds := [c0, c1, c2, c3, c4, c5, c6, c7, c8, c9]) rfl (by kernel_rfl) rfl
  have f1 := Ko.field F 1 (T := 4) (o := 10) (k := 1) (ds := [c10]) rfl (by kernel_rfl) rfl
  clear F h
  obtain ⟨e, w0, o0⟩ := fed_E _ _ f0
  obtain ⟨b, e1⟩ := f1.bool Tryz.underlying4
  cases e1
  exact ⟨⟨e, b⟩, ⟨_, rfl, w0⟩, by simpa [Value.oneCell'] using o0⟩
theorem fed_Na {n : Nat} {cs : List Value} (h : Ko enc Tryz.prog W n 27 cs) : ∃ x : Na, (∃ v, cs = [v] ∧ ZD W x.n x.f v) ∧ cs.toArray.all (·.oneCell') = true := by
  obtain ⟨k, g, v, rfl, h0⟩ := h.rows (α := ByteArray) (R := fun x ds => ds = [.string x] ∧ x.size ≤ 9223372036854775807) (size := 1) (bytes := 16) Tryz.underlying27 (by kernel_rfl) (by decide) (by kernel_rfl) (fun k ds hk hd => fed_str1 hd)
  refine ⟨⟨k, g⟩, ⟨v, rfl, h0⟩, ?_⟩
  obtain ⟨A, c, rfl, _⟩ := h0
  simp [Value.oneCell']
theorem fed_Es {n : Nat} {cs : List Value} (h : Ko enc Tryz.prog W n 32 cs) : ∃ x : Es, (∃ v, cs = [v] ∧ Z6 W x.n x.f v) ∧ cs.toArray.all (·.oneCell') = true := by
  obtain ⟨k, g, v, rfl, h0⟩ := h.rows (α := E) (R := fun x ds => QI W x ds) (size := 10) (bytes := 120) Tryz.underlying32 (by kernel_rfl) (by decide) (by kernel_rfl) (fun k ds hk hd => fed_E k ds hd)
  refine ⟨⟨k, g⟩, ⟨v, rfl, h0⟩, ?_⟩
  obtain ⟨A, c, rfl, _⟩ := h0
  simp [Value.oneCell']
instance : Inhabited Na := ⟨⟨0, fun _ => ⟨#[]⟩⟩⟩
instance : Inhabited Es := ⟨⟨0, fun _ => default⟩⟩
instance : Inhabited St := ⟨⟨⟨#[]⟩, default⟩⟩
instance : Inhabited It := ⟨⟨false, default, ⟨#[]⟩⟩⟩
instance : Inhabited So := ⟨⟨⟨#[]⟩, ⟨#[]⟩, false, default⟩⟩
instance : Inhabited Od := ⟨⟨default, false⟩⟩
set_option maxRecDepth 100000 in
theorem fed_Stmt {n : Nat} {cs : List Value} (h : Ko enc Tryz.prog W n 39 cs) : ∃ x, Ks W x cs ∧ cs.toArray.all (·.oneCell') = true := by
  obtain ⟨m, rfl, hl, F⟩ := h.struct Tryz.underlying39
  replace hl := hl.trans (show Tryz.prog.cellsOf 39 = 37 by kernel_rfl)
  obtain ⟨c0, c1, c2, c3, c4, c5, c6, c7, c8, c9, c10, c11, c12, c13, c14, c15, c16, c17, c18, c19, c20, c21, c22, c23, c24, c25, c26, c27, c28, c29, c30, c31, c32, c33, c34, c35, c36, rfl⟩ := len37 hl
  have f0 := Ko.field F 0 (T := 3) (o := 0) (k := 1) (ds := [c0]) rfl (by kernel_rfl) rfl
  have f1 := Ko.field F 1 (T := 25) (o := 1) (k := 3) (ds := [c1, c2, c3]) rfl (by kernel_rfl) rfl
  have f2 := Ko.field F 2 (T := 26) (o := 4) (k := 1) (ds := [c4]) rfl (by kernel_rfl) rfl
  have f3 := Ko.field F 3 (T := 9) (o := 5) (k := 1) (ds := [c5]) rfl (by kernel_rfl) rfl
  have f4 := Ko.field F 4 (T := 9) (o := 6) (k := 1) (ds := [c6]) rfl (by kernel_rfl) rfl
  have f5 := Ko.field F 5 (T := 4) (o := 7) (k := 1) (ds := [c7]) rfl (by kernel_rfl) rfl
  have f6 := Ko.field F 6 (T := 27) (o := 8) (k := 1) (ds := [c8]) rfl (by kernel_rfl) rfl
  have f7 := Ko.field F 7 (T := 28) (o := 9) (k := 1) (ds := [c9]) rfl (by kernel_rfl) rfl
  have f8 := Ko.field F 8 (T := 29) (o := 10) (k := 1) (ds := [c10]) rfl (by kernel_rfl) rfl
  have f9 := Ko.field F 9 (T := 34) (o := 11) (k := 10) (ds := [c11, c12, c13, c14, c15, c16, c17, c18, c19, c20]) rfl (by kernel_rfl) rfl
  have f10 := Ko.field F 10 (T := 4) (o := 21) (k := 1) (ds := [c21]) rfl (by kernel_rfl) rfl
  have f11 := Ko.field F 11 (T := 35) (o := 22) (k := 1) (ds := [c22]) rfl (by kernel_rfl) rfl
  have f12 := Ko.field F 12 (T := 36) (o := 23) (k := 1) (ds := [c23]) rfl (by kernel_rfl) rfl
  have f13 := Ko.field F 13 (T := 32) (o := 24) (k := 1) (ds := [c24]) rfl (by kernel_rfl) rfl
  have f14 := Ko.field F 14 (T := 34) (o := 25) (k := 10) (ds := [c25, c26, c27, c28, c29, c30, c31, c32, c33, c34]) rfl (by kernel_rfl) rfl
  have f15 := Ko.field F 15 (T := 37) (o := 35) (k := 1) (ds := [c35]) rfl (by kernel_rfl) rfl
  have f16 := Ko.field F 16 (T := 2) (o := 36) (k := 1) (ds := [c36]) rfl (by kernel_rfl) rfl
  clear F h
  obtain ⟨kd, e0, w0⟩ := f0.i64 Tryz.underlying3
  cases e0
  obtain ⟨ta, w1, o1⟩ := fed_Tab f1
  obtain ⟨n2, g2, v2, e2, w2⟩ := f2.rows (α := Na) (R := fun x ds => ∃ v, ds = [v] ∧ ZD W x.n x.f v) (size := 1) (bytes := 24) Tryz.underlying26 (by kernel_rfl) (by decide) (by kernel_rfl) (fun k ds hk hd => fed_Na hd)
  cases e2
  obtain ⟨nm, e3, w3⟩ := f3.str Tryz.underlying9
  cases e3
  obtain ⟨ix, e4, w4⟩ := f4.str Tryz.underlying9
  cases e4
  obtain ⟨un, e5⟩ := f5.bool Tryz.underlying4
  cases e5
  obtain ⟨cl, ⟨v6, e6, w6⟩, _⟩ := fed_Na f6
  cases e6
  obtain ⟨n7, g7, v7, e7, w7⟩ := f7.rows (α := Es) (R := fun x ds => ∃ v, ds = [v] ∧ Z6 W x.n x.f v) (size := 1) (bytes := 24) Tryz.underlying28 (by kernel_rfl) (by decide) (by kernel_rfl) (fun k ds hk hd => fed_Es hd)
  cases e7
  obtain ⟨n8, g8, v8, e8, w8⟩ := f8.rows (α := St) (R := fun x ds => StIn W x ds) (size := 11) (bytes := 136) Tryz.underlying29 (by kernel_rfl) (by decide) (by kernel_rfl) (fun k ds hk hd => fed_St hd)
  cases e8
  obtain ⟨wh, w9, o9⟩ := fed_E _ _ f9
  obtain ⟨di, e10⟩ := f10.bool Tryz.underlying4
  cases e10
  obtain ⟨n11, g11, v11, e11, w11⟩ := f11.rows (α := It) (R := fun x ds => ItIn W x ds) (size := 12) (bytes := 144) Tryz.underlying35 (by kernel_rfl) (by decide) (by kernel_rfl) (fun k ds hk hd => fed_It hd)
  cases e11
  obtain ⟨n12, g12, v12, e12, w12⟩ := f12.rows (α := So) (R := fun x ds => SoIn W x ds) (size := 13) (bytes := 160) Tryz.underlying36 (by kernel_rfl) (by decide) (by kernel_rfl) (fun k ds hk hd => fed_So hd)
  cases e12
  obtain ⟨gr, ⟨v13, e13, w13⟩, _⟩ := fed_Es f13
  cases e13
  obtain ⟨hv, w14, o14⟩ := fed_E _ _ f14
  obtain ⟨n15, g15, v15, e15, w15⟩ := f15.rows (α := Od) (R := fun x ds => OdIn W x ds) (size := 11) (bytes := 128) Tryz.underlying37 (by kernel_rfl) (by decide) (by kernel_rfl) (fun k ds hk hd => fed_Od hd)
  cases e15
  obtain ⟨li, e16, w16⟩ := f16.i64 Tryz.underlying2
  cases e16
  refine ⟨⟨kd, ta, n2, g2, nm, ix, un, cl, n7, g7, n8, g8, wh, di, n11, g11, n12, g12, gr, hv, n15, g15, li⟩, ⟨_, _, _, _, _, _, _, _, _, _, _, rfl, ⟨⟨w0, w3, w4, w16⟩, w1, w2, w6, w7, w8, w9, w11, w12, w13, w14, w15⟩⟩, ?_⟩
  obtain ⟨_, _, rfl, _⟩ := w2
  obtain ⟨_, _, rfl, _⟩ := w6
  obtain ⟨_, _, rfl, _⟩ := w7
  obtain ⟨_, _, rfl, _⟩ := w8
  obtain ⟨_, _, rfl, _⟩ := w11
  obtain ⟨_, _, rfl, _⟩ := w12
  obtain ⟨_, _, rfl, _⟩ := w13
  obtain ⟨_, _, rfl, _⟩ := w15
  have k1 := o1
  have k2 := o9
  have k3 := o14
  simp_all [Value.oneCell']
set_option maxRecDepth 100000 in
theorem open_Stmt {r : Reach} {b0 : Nat} {v : Value} {d : DataW H} {ps : List MemPlace} (hv : Value.okWide Tryz.prog W r b0 39 v) (h : DataW.Trod enc Tryz.prog W 0 (fun _ => true) true 39 v d ps) (hw : ∀ k ∈ DataW.weights Tryz.prog 39 d, k ≤ reachBytes) :
    ∃ a ca, v = .agg (List.toArray ca) ∧ Ks W a ca := by
  obtain ⟨cs, rfl, _⟩ := okWide_struct Tryz.underlying39 hv
  obtain ⟨n, hn⟩ := h
  obtain ⟨a, h1, _⟩ := fed_Stmt (enc := enc) (W := W) (n := n) (cs := cs.toList) ⟨(d, ps), hn, hw⟩
  exact ⟨a, cs.toList, rfl, h1⟩
end
end Op
end Go.Proofs.YtddedijencleeaaGreatDoor

/- consistoryref6.Unkey of any bytes: contract. -/
import Derived.Test.YtpmjpbndpnmdlaaDoorKey9
import Derived.Test.YtpmjpbndpnmdlaaDoorKey6
set_option linter.all false
namespace Go.Proofs.YtpmjpbndpnmdlaaDoor
open Go.RowKit Go.Lib

/-- What a row's reading is told to be: a row, or none. -/
def Told (D : Option (List V)) (xs : List Int) : Prop := match D with
  | some l => l.length ≤ 16 ∧ (∀ v, v ∈ l → Good1 v) ∧ xs = keyI l
  | none => NoRow xs
def Inv6 (D : Option (List V)) (xs : List Int) (l : List V) (rest : List Int) : Prop :=
  l.length ≤ 16 ∧ (∀ v, v ∈ l → Good1 v) ∧ keyI l ++ rest = xs ∧ ∀ L, D = some L → ∃ k, k ≤ L.length ∧ l = L.take k ∧ rest = keyI (L.drop k)
theorem inv6_start {D : Option (List V)} {xs : List Int} (h : Told D xs) : Inv6 D xs [] xs := by
  refine ⟨by simp, ?_, rfl, fun L hL => ?_⟩
  · intro v hv
    exact absurd hv (List.not_mem_nil)
  · subst hL
    exact ⟨0, Nat.zero_le _, rfl, h.2.2⟩
theorem inv6_step {D : Option (List V)} {xs : List Int} {l : List V} {rest : List Int} (ht : Told D xs) (h : Inv6 D xs l rest) (hr : 0 < rest.length) :
    (D = none ∧ ¬ Dec rest) ∨ (∃ v rest', Good1 v ∧ rest = encI v ++ rest' ∧ ((D = none ∧ l.length = 16) ∨ (l.length < 16 ∧ Inv6 D xs (l ++ [v]) rest'))) := by
  obtain ⟨h1, h2, h3, h4⟩ := h
  have good : ∀ v, Good1 v → ∀ u, u ∈ l ++ [v] → Good1 u := fun v hv u hu => by
    rcases List.mem_append.1 hu with h | h
    · exact h2 u h
    · rw [List.mem_singleton.1 h]; exact hv
  cases D with
  | none =>
    by_cases hd : Dec rest
    · obtain ⟨v, rest', hv, hd⟩ := hd
      refine .inr ⟨v, rest', hv, hd, ?_⟩
      by_cases hk : l.length = 16
      · exact .inl ⟨rfl, hk⟩
      · exact .inr ⟨by omega, by simp; omega, good v hv, by rw [keyI_app, List.append_assoc, ← hd]; exact h3, fun L hL => by cases hL⟩
    · exact .inl ⟨rfl, hd⟩
  | some L =>
    obtain ⟨k, hk, e1, e2⟩ := h4 L rfl
    have hkl : k < L.length := by
      by_cases hkl : k < L.length
      · exact hkl
      · rw [e2, List.drop_eq_nil_of_le (by omega)] at hr
        simp [keyI] at hr
    obtain ⟨v, hv⟩ : ∃ v, L[k]? = some v := ⟨_, List.getElem?_eq_getElem hkl⟩
    have hd := keyI_drop hv
    have hvg := ht.2.1 v (List.mem_of_getElem? hv)
    have hlk : l.length = k := by rw [e1, List.length_take]; omega
    have hL := ht.1
    have e3 : l ++ [v] = L.take (k + 1) := by rw [List.take_add_one, hv, e1]; rfl
    refine .inr ⟨v, keyI (L.drop (k + 1)), hvg, by rw [e2, hd], .inr ⟨by omega, by simp; omega, good v hvg, ?_, fun L' hL' => ?_⟩⟩
    · rw [keyI_app, List.append_assoc, ← hd, ← e2]; exact h3
    · cases hL'
      exact ⟨k + 1, by omega, e3, rfl⟩
theorem inv6_end {D : Option (List V)} {xs : List Int} {l : List V} (ht : Told D xs) (h : Inv6 D xs l []) : D = some l := by
  obtain ⟨h1, h2, h3, h4⟩ := h
  cases D with
  | none => exact absurd h3.symm (by rw [List.append_nil]; exact ht l h1 h2)
  | some L =>
    obtain ⟨k, hk, e1, e2⟩ := h4 L rfl
    have hkl : k = L.length := by
      by_cases hkl : k < L.length
      · obtain ⟨v, hv⟩ : ∃ v, L[k]? = some v := ⟨_, List.getElem?_eq_getElem hkl⟩
        have := congrArg List.length (e2.trans (keyI_drop hv))
        rw [List.length_append] at this
        have := encI_pos v
        simp at *
        omega
      · omega
    rw [e1, hkl, List.take_of_length_le (Nat.le_refl _)]
theorem txt_ne0 {y : UInt8} (h : y ≠ 0) : ((y.toNat : Int) == 0) = false := by
  rw [beq_eq_false_iff_ne]
  intro e
  exact h (UInt8.toNat_inj.1 (by simpa using e))
theorem txt_get {t : ByteArray} {j : Nat} {y : UInt8} (h : t.data.toList[j]? = some y) (r : List Int) : (txtI t ++ r)[j]? = some (y.toNat : Int) := by
  have hl := (List.getElem?_eq_some_iff.1 h).1
  rw [List.getElem?_append_left (by rw [txt_len]; simpa using hl)]
  unfold txtI
  rw [List.getElem?_map, h]
  rfl
theorem txt_end (t : ByteArray) (r : List Int) : (txtI t ++ 0 :: r)[t.size]? = some 0 := by
  rw [List.getElem?_append_right (by rw [txt_len]; exact Nat.le_refl _), txt_len]
  simp
theorem txt_reads {W : World} {b o a : Nat} {t : ByteArray} {r : List Int} (hlt : b < W.heap.size) (KC : ∀ (j : Nat) (x : Int), (3 :: (txtI t ++ 0 :: r))[j]? = some x → W.cell? ⟨b, o + (a + j), none⟩ = some (.int .u8 x)) : Reads W 1 (some ⟨b, o + (a + 1), none⟩) t.size (nums (txtI t)) := by
  refine ⟨by simp [nums, txt_len], fun _ => ⟨b, o + (a + 1), rfl, hlt, fun j u hu => ?_⟩⟩
  simp only [nums, List.getElem?_map, Option.map_eq_some_iff] at hu
  obtain ⟨x, hx, rfl⟩ := hu
  have := KC (j + 1) x (by rw [List.getElem?_cons_succ, List.getElem?_append_left (List.getElem?_eq_some_iff.1 hx).1]; exact hx)
  rwa [show o + (a + (j + 1)) = o + (a + 1) + j by omega] at this
theorem add_step {p c : Int} (h0 : 0 ≤ p) (h1 : p < 72057594037927936) (c0 : 0 ≤ c) (c1 : c < 256) : IntKind.wrap .u64 (IntKind.wrap .u64 (p * 256) + IntKind.wrap .u64 c) = p * 256 + c := by
  rw [wrap_u64 (x := p * 256) (by omega) (by omega), wrap_u64 (x := c) (by omega) (by omega), wrap_u64 (by omega) (by omega)]
def R6Post (w : World) (D : Option (List V)) (e : Ending) (w' : World) : Prop := match D with
  | some l => ∃ A c, e = .returned (.tuple #[.slice A l.length c, .int .i64 0]) ∧ Reads w' 3 A l.length (vcells l) ∧ Below w.heap.size w w'
  | none => e = .returned (.tuple #[.slice none 0 0, .int .i64 20]) ∧ Below w.heap.size w w'

set_option maxRecDepth 100000 in
set_option maxHeartbeats 1000000 in
theorem ref6_Unkey (A : Option Addr) (m c : Nat) (xs : List Int) (D : Option (List V)) (w : World) (hx : InB xs) (hD : Told D xs) (hm : m ≤ 9223372036854770000) (hc : m ≤ c) (h : Reads w 1 A m (nums xs)) :
    Calls Tryd.prog 25 #[.slice A m c] w (R6Post w D) := by
  have hlm : xs.length = m := by have := h.1; simpa [nums] using this
  have HD := hide hD
  have HX := hide hx
  have H := hide h
  obtain ⟨iV, hiV, hzV, hsV, hbV⟩ := info_parts infoV
  have H0 := hide (inv6_start hD)
  clear hD hx h
  go_enter Tryd.func25, Tryd.ntmps25
  go_wp2
  go_loopw [4, 5] (fun o i wr => ∃ (l : List V) (rest : List Int) (a : Nat), Hid (Inv6 D xs l rest) ∧ a + rest.length = m ∧ i = .int .i64 a ∧
    wr.ownsRowF w.heap.size 23 3 o l.length (vcells l) ∧ Below w.heap.size w wr) (fun _ i _ => m - (RowKit.intOf i).toNat)
  case atStart => exact ⟨[], xs, 0, H0, by omega, rfl, World.ownsRowF_nil _ _ _ _, Below.refl _ _⟩
  case round =>
    obtain ⟨l, rest, a, HI6, ham, rfl, hown, hb⟩ := hrel
    obtain ⟨A2, c2, rfl⟩ := ownsF_shape hown
    have h16 : l.length ≤ 16 := (unhide HI6).1
    by_cases hpos : 0 < rest.length
    · have hla : (keyI l).length = a := by have := congrArg List.length (unhide HI6).2.2.1; rw [List.length_append] at this; omega
      have hrb : InB rest := fun y hy => (unhide HX) y (by rw [← (unhide HI6).2.2.1]; exact List.mem_append_right _ hy)
      obtain ⟨b, o, rfl, hblt, _⟩ := (unhide H).2 (by omega)
      have KC : Hid (∀ (j : Nat) (x : Int), rest[j]? = some x → ∀ W, Below w.heap.size w W → W.cell? ⟨b, o + (a + j), none⟩ = some (.int .u8 x)) := fun j x hj W hbW => by
        have hc := (unhide H).byte (j := a + j) (x := x) (by rw [← (unhide HI6).2.2.1, List.getElem?_append_right (by omega)]; rw [hla]; simpa using hj)
        exact (hbW.cell (p := ⟨b, o + (a + j), none⟩) (lt_of_cell hc)).trans hc
      have HB := hide hb
      have HOWN := hide hown
      have hs1 := hb.size
      have hq : decide ((a : Int) < (m : Int)) = true := decide_eq_true (by omega)
      clear hb hown
      rcases inv6_step (unhide HD) (unhide HI6) hpos with ⟨rfl, hnd⟩ | ⟨v, rest', hv, hd, hfin⟩
      · obtain _ | ⟨x, ys⟩ := rest
        · simp at hpos
        have c0 : wr.cell? ⟨b, o + a, none⟩ = some (.int .u8 x) := (unhide KC) 0 x rfl wr (unhide HB)
        have hpl : ys.length + (a + 1) = m := by simp at ham; omega
        rcases not_dec hrb hnd (by omega) with h3 | ⟨rfl, rfl⟩ | ⟨rfl, y, r, rfl, hy⟩ | ⟨rfl, h8⟩ | ⟨rfl, h0⟩ | ⟨rfl, t, r, rfl, ht, hv⟩
        · have HI := fun w => hide (ref1_Is x 0 ⟨#[]⟩ w size0)
          have hx1 : (x == 1) = false := by rw [beq_eq_false_iff_ne]; omega
          have hx2 : (x == 2) = false := by rw [beq_eq_false_iff_ne]; omega
          have hx3 : (x == 3) = false := by rw [beq_eq_false_iff_ne]; omega
          have hwx : IntKind.wrap .i64 x = x := wrap64_byte (by omega)
          have hmay : mayB x 0 ⟨#[]⟩ = false := by
            unfold mayB
            rw [if_neg (by omega), if_neg (by omega), if_neg (by omega), if_neg (by omega)]
          rw [hmay] at HI
          go_wp2_with fail
          clear c0
          refine (unhide (HI _)).mono ?_
          rintro e w2 ⟨rfl, hb2⟩
          replace HB := hide (Below.andThen ((unhide HB).alloc (by omega) _) hb2)
          clear hb2 KC
          go_wp2
          go_ret2
          exact ⟨rfl, unhide HB⟩
        · have hpe : ((a : Int) + 1 == (m : Int)) = true := by simp at hpl; rw [beq_iff_eq]; omega
          go_wp2_with fail
          go_ret2
          exact ⟨rfl, (unhide HB).alloc (by omega) _⟩
        · have HI := fun w => hide (ref1_Is 1 y ⟨#[]⟩ w size0)
          have hl1 : a + 1 < m := by simp at hpl; omega
          have hpe : ((a : Int) + 1 == (m : Int)) = false := by rw [beq_eq_false_iff_ne]; omega
          have c1 : (wr.alloc (.cells #[.int .i64 1, .int .i64 0, .string ⟨#[]⟩] 23)).cell? ⟨b, o + (a + 1), none⟩ = some (.int .u8 y) := (unhide KC) 1 y rfl _ ((unhide HB).alloc (by omega) _)
          have hwx : IntKind.wrap .i64 y = y := wrap64_byte (by omega)
          have hmay : mayB 1 y ⟨#[]⟩ = false := by
            unfold mayB
            rw [if_neg (by decide), if_pos rfl, decide_eq_false (by omega), decide_eq_false (by omega)]
            rfl
          rw [hmay] at HI
          go_wp2_with fail
          clear c0 c1
          refine (unhide (HI _)).mono ?_
          rintro e w2 ⟨rfl, hb2⟩
          replace HB := hide (Below.andThen ((unhide HB).alloc (by omega) _) hb2)
          clear hb2 KC
          go_wp2
          go_ret2
          exact ⟨rfl, unhide HB⟩
        · have hpe : decide ((m : Int) < (a : Int) + 1 + 8) = true := decide_eq_true (by omega)
          go_wp2_with fail
          go_ret2
          exact ⟨rfl, (unhide HB).alloc (by omega) _⟩
        · go_wp2_with fail
          go_loop [9] (fun i => ∃ j : Nat, j ≤ ys.length ∧ i = .int .i64 ((a : Int) + 1 + j)) (fun i => m - (RowKit.intOf i).toNat)
          case atStart => exact ⟨0, Nat.zero_le _, by simp⟩
          case round =>
            obtain ⟨j, hj, rfl⟩ := hrel
            by_cases hjl : j < ys.length
            · obtain ⟨y, hy⟩ : ∃ y, ys[j]? = some y := ⟨_, List.getElem?_eq_getElem hjl⟩
              have hy0 : (y == 0) = false := by rw [beq_eq_false_iff_ne]; rintro rfl; exact h0 (List.mem_of_getElem? hy)
              have q1 : decide ((a : Int) + 1 + (j : Int) < (m : Int)) = true := decide_eq_true (by omega)
              have hlj : a + 1 + j < m := by omega
              have cj : (wr.alloc (.cells #[.int .i64 3, .int .i64 0, .string ⟨#[]⟩] 23)).cell? ⟨b, o + (a + 1 + j), none⟩ = some (.int .u8 y) := by
                have := (unhide KC) (j + 1) y (by rw [List.getElem?_cons_succ]; exact hy) _ ((unhide HB).alloc (by omega) (.cells #[.int .i64 3, .int .i64 0, .string ⟨#[]⟩] 23))
                rwa [show a + (j + 1) = a + 1 + j by omega] at this
              go_wp2
              exact ⟨⟨j + 1, by omega, congrArg (Value.int .i64) (by omega)⟩, by show m - ((a : Int) + 1 + j + 1).toNat < m - ((a : Int) + 1 + j).toNat; omega⟩
            · have hje : j = ys.length := by omega
              have q1 : decide ((a : Int) + 1 + (j : Int) < (m : Int)) = false := decide_eq_false (by omega)
              have q2 : ((a : Int) + 1 + (j : Int) == (m : Int)) = true := by rw [beq_iff_eq]; omega
              go_wp2_with fail
              go_ret2
              exact ⟨rfl, (unhide HB).alloc (by omega) _⟩
        · have hts : t.size ≤ m := by rw [List.length_append, txt_len] at hpl; omega
          have hpt : t.size + (1 + r.length) + (a + 1) = m := by rw [List.length_append, txt_len] at hpl; simp at hpl; omega
          have HI := fun w => hide (ref1_Is 3 0 t w (by omega))
          rw [hv] at HI
          have KC3 := KC
          have hta : a + 1 + t.size < m := by omega
          have hac : a + 1 < c := by omega
          have hac2 : a + 1 + t.size ≤ c := by omega
          have hcn : ¬ c = a + 1 := by omega
          have htx := txt_reads (W := wr.alloc (.cells #[.int .i64 3, .int .i64 0, .string ⟨#[]⟩] 23)) (t := t) (r := r) (b := b) (o := o) (a := a) (by simp; omega) (fun j x hx => (unhide KC3) j x hx _ ((unhide HB).alloc (by omega) _))
          have hcv := htx.conv (P := Tryd.prog) 49 5 Tryd.underlying49 Tryd.underlying5 (c - (a + 1)) 9 Tryd.underlying9
          rw [str_txt] at hcv
          have HCV := hide hcv
          clear hcv htx
          go_wp2_with fail
          go_loop [9] (fun i => ∃ j : Nat, j ≤ t.size ∧ i = .int .i64 ((a : Int) + 1 + j)) (fun i => m - (RowKit.intOf i).toNat)
          case atStart => exact ⟨0, Nat.zero_le _, by simp⟩
          case round =>
            obtain ⟨j, hj, rfl⟩ := hrel
            have q1 : decide ((a : Int) + 1 + (j : Int) < (m : Int)) = true := decide_eq_true (by omega)
            have hlj : a + 1 + j < m := by omega
            by_cases hjl : j < t.size
            · obtain ⟨y, hy⟩ : ∃ y, t.data.toList[j]? = some y := ⟨_, List.getElem?_eq_getElem (by simpa using hjl)⟩
              have hy0 : ((y.toNat : Int) == 0) = false := txt_ne0 (ht _ (List.mem_of_getElem? hy))
              have cj : (wr.alloc (.cells #[.int .i64 3, .int .i64 0, .string ⟨#[]⟩] 23)).cell? ⟨b, o + (a + 1 + j), none⟩ = some (.int .u8 (y.toNat : Int)) := by
                have := (unhide KC3) (j + 1) (y.toNat : Int) (by rw [List.getElem?_cons_succ]; exact txt_get hy _) _ ((unhide HB).alloc (by omega) (.cells #[.int .i64 3, .int .i64 0, .string ⟨#[]⟩] 23))
                rwa [show a + (j + 1) = a + 1 + j by omega] at this
              go_wp2
              exact ⟨⟨j + 1, by omega, congrArg (Value.int .i64) (by omega)⟩, by show m - ((a : Int) + 1 + j + 1).toNat < m - ((a : Int) + 1 + j).toNat; omega⟩
            · have hje : j = t.size := by omega
              subst hje
              have q2 : ((a : Int) + 1 + (t.size : Int) == (m : Int)) = false := by rw [beq_eq_false_iff_ne]; omega
              have cj : (wr.alloc (.cells #[.int .i64 3, .int .i64 0, .string ⟨#[]⟩] 23)).cell? ⟨b, o + (a + 1 + t.size), none⟩ = some (.int .u8 0) := by
                have := (unhide KC3) (t.size + 1) 0 (by rw [List.getElem?_cons_succ]; exact txt_end t r) _ ((unhide HB).alloc (by omega) (.cells #[.int .i64 3, .int .i64 0, .string ⟨#[]⟩] 23))
                rwa [show a + (t.size + 1) = a + 1 + t.size by omega] at this
              have hcv := unhide HCV
              go_wp2_with fail
              clear cj hcv c0 HCV KC3
              refine (unhide (HI _)).mono ?_
              rintro e w2 ⟨rfl, hb2⟩
              replace HB := hide (Below.andThen ((unhide HB).alloc (by omega) _) hb2)
              clear hb2 KC
              go_wp2
              go_ret2
              exact ⟨rfl, unhide HB⟩
      · rcases good_shape hv with rfl | rfl | rfl | ⟨n, hn, rfl⟩ | ⟨t, ht, hts, rfl⟩
        · have c0 : wr.cell? ⟨b, o + a, none⟩ = some (.int .u8 0) := (unhide KC) 0 0 (by rw [hd]; rfl) wr (unhide HB)
          have hlen : a + 1 + rest'.length = m := by rw [hd] at ham; simp [encI, bodyI] at ham; omega
          have HI := fun w => hide (ref1_Is 0 0 ⟨#[]⟩ w size0)
          rw [may0] at HI
          go_wp2_with fail
          clear c0
          refine (unhide (HI _)).mono ?_
          rintro e w2 ⟨rfl, hb2⟩
          have BV := (Blk3.new wr 23 (.int .i64 (0)) (.int .i64 (0)) (.string ⟨#[]⟩)).below hb2
          obtain ⟨b0, b1, b2, fB⟩ := BV.cells
          have HB2 := hide (Below.andThen ((unhide HB).alloc (by omega) (.cells #[.int .i64 (0), .int .i64 (0), .string ⟨#[]⟩] 23)) hb2)
          have hs2 : wr.heap.size + 1 ≤ w2.heap.size := by have := hb2.size; simpa using this
          have hown2 := ((unhide HOWN).alloc (.cells #[.int .i64 (0), .int .i64 (0), .string ⟨#[]⟩] 23)).kept (only_of_below hb2 none) (by cases (Value.slice A2 l.length c2).ownBlock <;> simp)
          rcases hfin with ⟨rfl, hk⟩ | ⟨hk, hinv⟩
          · have hk16 : ((l.length : Int) == 16) = true := by rw [hk]; rfl
            clear hb2 KC hown2
            go_wp2
            go_ret2
            exact ⟨rfl, unhide HB2⟩
          · have hk16 : ((l.length : Int) == 16) = false := by rw [beq_eq_false_iff_ne]; omega
            have HO := hide (hown2.alloc (.cells #[.int .i64 (0), .int .i64 (0), .string ⟨#[]⟩] 23))
            have HNEW := hide (newsV (W := w2) (t := 23) (x := .int .i64 (0)) (y := .int .i64 (0)) (z := .string ⟨#[]⟩) (g := w2.heap.size) rfl)
            have HINV := hide hinv
            have HTAKE := hide (vcells_app l ⟨0, 0, ⟨#[]⟩⟩)
            have hl2 : (l ++ [(⟨0, 0, ⟨#[]⟩⟩ : V)]).length = l.length + 1 := by simp
            clear hb2 KC hown2 hinv HOWN HB
            go_wp2_with (first | (at_builtin; (refine wpList_append_ownF _ rfl _ _ 26 rfl w.heap.size 23 iV _ 3 32 Tryd.underlying26 hiV hzV hsV hbV rfl (by decide) (.slice A2 l.length c2) l.length _ rfl (unhide HO) ⟨w2.heap.size, 0, none⟩ 1 1 [.int .i64 (0), .int .i64 (0), .string ⟨#[]⟩] rfl rfl (unhide HNEW) (by intro u hu; simp at hu; rcases hu with rfl | rfl | rfl <;> rfl) (by unfold maxLen; omega) (by omega) (by simp; omega) ?_; rintro v1 w3 ho3 hg3 _)))
            have hb3 := ((unhide HB2).alloc (by omega) (.cells #[.int .i64 (0), .int .i64 (0), .string ⟨#[]⟩] 23)).grown hg3 (by simp; omega) (fun j hj => ((unhide HO).lt j hj).1)
            exact ⟨⟨l ++ [⟨0, 0, ⟨#[]⟩⟩], rest', a + 1, HINV, hlen, congrArg (Value.int .i64) (by omega), by rw [hl2, unhide HTAKE]; exact ho3, hb3⟩, by show m - ((a : Int) + 1 : Int).toNat < m - (a : Int).toNat; omega⟩
        · have hlen : a + 1 + 1 + rest'.length = m := by rw [hd] at ham; simp [encI, bodyI] at ham; omega
          have hl1 : a + 1 < m := by omega
          have hpe : ((a : Int) + 1 == (m : Int)) = false := by rw [beq_eq_false_iff_ne]; omega
          have c0 : wr.cell? ⟨b, o + a, none⟩ = some (.int .u8 1) := (unhide KC) 0 1 (by rw [hd]; rfl) wr (unhide HB)
          have c1 : (wr.alloc (.cells #[.int .i64 1, .int .i64 0, .string ⟨#[]⟩] 23)).cell? ⟨b, o + (a + 1), none⟩ = some (.int .u8 0) := (unhide KC) 1 0 (by rw [hd]; rfl) _ ((unhide HB).alloc (by omega) _)
          have HI := fun w => hide (ref1_Is 1 0 ⟨#[]⟩ w size0)
          rw [may1_0] at HI
          go_wp2_with fail
          clear c0 c1
          refine (unhide (HI _)).mono ?_
          rintro e w2 ⟨rfl, hb2⟩
          have BV := (Blk3.new wr 23 (.int .i64 (1)) (.int .i64 (0)) (.string ⟨#[]⟩)).below hb2
          obtain ⟨b0, b1, b2, fB⟩ := BV.cells
          have HB2 := hide (Below.andThen ((unhide HB).alloc (by omega) (.cells #[.int .i64 (1), .int .i64 (0), .string ⟨#[]⟩] 23)) hb2)
          have hs2 : wr.heap.size + 1 ≤ w2.heap.size := by have := hb2.size; simpa using this
          have hown2 := ((unhide HOWN).alloc (.cells #[.int .i64 (1), .int .i64 (0), .string ⟨#[]⟩] 23)).kept (only_of_below hb2 none) (by cases (Value.slice A2 l.length c2).ownBlock <;> simp)
          rcases hfin with ⟨rfl, hk⟩ | ⟨hk, hinv⟩
          · have hk16 : ((l.length : Int) == 16) = true := by rw [hk]; rfl
            clear hb2 KC hown2
            go_wp2
            go_ret2
            exact ⟨rfl, unhide HB2⟩
          · have hk16 : ((l.length : Int) == 16) = false := by rw [beq_eq_false_iff_ne]; omega
            have HO := hide (hown2.alloc (.cells #[.int .i64 (1), .int .i64 (0), .string ⟨#[]⟩] 23))
            have HNEW := hide (newsV (W := w2) (t := 23) (x := .int .i64 (1)) (y := .int .i64 (0)) (z := .string ⟨#[]⟩) (g := w2.heap.size) rfl)
            have HINV := hide hinv
            have HTAKE := hide (vcells_app l ⟨1, 0, ⟨#[]⟩⟩)
            have hl2 : (l ++ [(⟨1, 0, ⟨#[]⟩⟩ : V)]).length = l.length + 1 := by simp
            clear hb2 KC hown2 hinv HOWN HB
            go_wp2_with (first | (at_builtin; (refine wpList_append_ownF _ rfl _ _ 26 rfl w.heap.size 23 iV _ 3 32 Tryd.underlying26 hiV hzV hsV hbV rfl (by decide) (.slice A2 l.length c2) l.length _ rfl (unhide HO) ⟨w2.heap.size, 0, none⟩ 1 1 [.int .i64 (1), .int .i64 (0), .string ⟨#[]⟩] rfl rfl (unhide HNEW) (by intro u hu; simp at hu; rcases hu with rfl | rfl | rfl <;> rfl) (by unfold maxLen; omega) (by omega) (by simp; omega) ?_; rintro v1 w3 ho3 hg3 _)))
            have hb3 := ((unhide HB2).alloc (by omega) (.cells #[.int .i64 (1), .int .i64 (0), .string ⟨#[]⟩] 23)).grown hg3 (by simp; omega) (fun j hj => ((unhide HO).lt j hj).1)
            exact ⟨⟨l ++ [⟨1, 0, ⟨#[]⟩⟩], rest', a + 1 + 1, HINV, hlen, congrArg (Value.int .i64) (by omega), by rw [hl2, unhide HTAKE]; exact ho3, hb3⟩, by show m - ((a : Int) + 1 + 1 : Int).toNat < m - (a : Int).toNat; omega⟩
        · have hlen : a + 1 + 1 + rest'.length = m := by rw [hd] at ham; simp [encI, bodyI] at ham; omega
          have hl1 : a + 1 < m := by omega
          have hpe : ((a : Int) + 1 == (m : Int)) = false := by rw [beq_eq_false_iff_ne]; omega
          have c0 : wr.cell? ⟨b, o + a, none⟩ = some (.int .u8 1) := (unhide KC) 0 1 (by rw [hd]; rfl) wr (unhide HB)
          have c1 : (wr.alloc (.cells #[.int .i64 1, .int .i64 0, .string ⟨#[]⟩] 23)).cell? ⟨b, o + (a + 1), none⟩ = some (.int .u8 1) := (unhide KC) 1 1 (by rw [hd]; rfl) _ ((unhide HB).alloc (by omega) _)
          have HI := fun w => hide (ref1_Is 1 1 ⟨#[]⟩ w size0)
          rw [may1_1] at HI
          go_wp2_with fail
          clear c0 c1
          refine (unhide (HI _)).mono ?_
          rintro e w2 ⟨rfl, hb2⟩
          have BV := (Blk3.new wr 23 (.int .i64 (1)) (.int .i64 (1)) (.string ⟨#[]⟩)).below hb2
          obtain ⟨b0, b1, b2, fB⟩ := BV.cells
          have HB2 := hide (Below.andThen ((unhide HB).alloc (by omega) (.cells #[.int .i64 (1), .int .i64 (1), .string ⟨#[]⟩] 23)) hb2)
          have hs2 : wr.heap.size + 1 ≤ w2.heap.size := by have := hb2.size; simpa using this
          have hown2 := ((unhide HOWN).alloc (.cells #[.int .i64 (1), .int .i64 (1), .string ⟨#[]⟩] 23)).kept (only_of_below hb2 none) (by cases (Value.slice A2 l.length c2).ownBlock <;> simp)
          rcases hfin with ⟨rfl, hk⟩ | ⟨hk, hinv⟩
          · have hk16 : ((l.length : Int) == 16) = true := by rw [hk]; rfl
            clear hb2 KC hown2
            go_wp2
            go_ret2
            exact ⟨rfl, unhide HB2⟩
          · have hk16 : ((l.length : Int) == 16) = false := by rw [beq_eq_false_iff_ne]; omega
            have HO := hide (hown2.alloc (.cells #[.int .i64 (1), .int .i64 (1), .string ⟨#[]⟩] 23))
            have HNEW := hide (newsV (W := w2) (t := 23) (x := .int .i64 (1)) (y := .int .i64 (1)) (z := .string ⟨#[]⟩) (g := w2.heap.size) rfl)
            have HINV := hide hinv
            have HTAKE := hide (vcells_app l ⟨1, 1, ⟨#[]⟩⟩)
            have hl2 : (l ++ [(⟨1, 1, ⟨#[]⟩⟩ : V)]).length = l.length + 1 := by simp
            clear hb2 KC hown2 hinv HOWN HB
            go_wp2_with (first | (at_builtin; (refine wpList_append_ownF _ rfl _ _ 26 rfl w.heap.size 23 iV _ 3 32 Tryd.underlying26 hiV hzV hsV hbV rfl (by decide) (.slice A2 l.length c2) l.length _ rfl (unhide HO) ⟨w2.heap.size, 0, none⟩ 1 1 [.int .i64 (1), .int .i64 (1), .string ⟨#[]⟩] rfl rfl (unhide HNEW) (by intro u hu; simp at hu; rcases hu with rfl | rfl | rfl <;> rfl) (by unfold maxLen; omega) (by omega) (by simp; omega) ?_; rintro v1 w3 ho3 hg3 _)))
            have hb3 := ((unhide HB2).alloc (by omega) (.cells #[.int .i64 (1), .int .i64 (1), .string ⟨#[]⟩] 23)).grown hg3 (by simp; omega) (fun j hj => ((unhide HO).lt j hj).1)
            exact ⟨⟨l ++ [⟨1, 1, ⟨#[]⟩⟩], rest', a + 1 + 1, HINV, hlen, congrArg (Value.int .i64) (by omega), by rw [hl2, unhide HTAKE]; exact ho3, hb3⟩, by show m - ((a : Int) + 1 + 1 : Int).toNat < m - (a : Int).toNat; omega⟩
        · have c0 : wr.cell? ⟨b, o + a, none⟩ = some (.int .u8 2) := (unhide KC) 0 2 (by rw [hd]; rfl) wr (unhide HB)
          have hlen : a + 1 + 8 + rest'.length = m := by rw [hd, List.length_append, encI2] at ham; simp at ham; omega
          have hpe : decide ((m : Int) < (a : Int) + 1 + 8) = false := decide_eq_false (by omega)
          have hcells : ∀ j, j < 8 → (wr.alloc (.cells #[.int .i64 2, .int .i64 0, .string ⟨#[]⟩] 23)).cell? ⟨b, o + (a + 1 + j), none⟩ = some (.int .u8 (bigI (n + 9223372036854775808) j)) := fun j hj => by
            have := (unhide KC) (j + 1) (bigI (n + 9223372036854775808) j) (by rw [hd, encI2, List.cons_append, List.getElem?_cons_succ]; exact bigL_get _ hj rest') _ ((unhide HB).alloc (by omega) (.cells #[.int .i64 2, .int .i64 0, .string ⟨#[]⟩] 23))
            rwa [show a + (j + 1) = a + 1 + j by omega] at this
          have HCELLS := hide hcells
          have HI := fun w => hide (ref1_Is 2 n ⟨#[]⟩ w size0)
          rw [may2 n] at HI
          clear hcells
          have hfin2 := pref_fin hn
          go_wp2_with fail
          go_loopw [7, 8] (fun u i wr' => ∃ k : Nat, k ≤ 8 ∧ i = .int .i64 k ∧ u = .int .u64 (prefI (n + 9223372036854775808) k) ∧ wr' = wr.alloc (.cells #[.int .i64 2, .int .i64 0, .string ⟨#[]⟩] 23)) (fun _ i _ => 8 - (RowKit.intOf i).toNat)
          case atStart => exact ⟨0, by omega, rfl, by unfold In64 at hn; unfold prefI; simp; omega, rfl⟩
          case round =>
            obtain ⟨k, hk, rfl, rfl, rfl⟩ := hrel
            have hk' : k = 0 ∨ k = 1 ∨ k = 2 ∨ k = 3 ∨ k = 4 ∨ k = 5 ∨ k = 6 ∨ k = 7 ∨ k = 8 := by omega
            rcases hk' with rfl | rfl | rfl | rfl | rfl | rfl | rfl | rfl | rfl
            · have e0 := (unhide HCELLS) 0 (by decide)
              go_wp2
              refine ⟨⟨0 + 1, by omega, rfl, ?_, trivial⟩, by simp [RowKit.intOf]⟩
              rw [add_step (by have := pref_in hn 0 (by decide); exact this.1) (by have := pref_in hn 0 (by decide); exact this.2) (big_in _ _).1 (big_in _ _).2, pref_step hn 0 (by decide)]
            · have e0 := (unhide HCELLS) 1 (by decide)
              go_wp2
              refine ⟨⟨1 + 1, by omega, rfl, ?_, trivial⟩, by simp [RowKit.intOf]⟩
              rw [add_step (by have := pref_in hn 1 (by decide); exact this.1) (by have := pref_in hn 1 (by decide); exact this.2) (big_in _ _).1 (big_in _ _).2, pref_step hn 1 (by decide)]
            · have e0 := (unhide HCELLS) 2 (by decide)
              go_wp2
              refine ⟨⟨2 + 1, by omega, rfl, ?_, trivial⟩, by simp [RowKit.intOf]⟩
              rw [add_step (by have := pref_in hn 2 (by decide); exact this.1) (by have := pref_in hn 2 (by decide); exact this.2) (big_in _ _).1 (big_in _ _).2, pref_step hn 2 (by decide)]
            · have e0 := (unhide HCELLS) 3 (by decide)
              go_wp2
              refine ⟨⟨3 + 1, by omega, rfl, ?_, trivial⟩, by simp [RowKit.intOf]⟩
              rw [add_step (by have := pref_in hn 3 (by decide); exact this.1) (by have := pref_in hn 3 (by decide); exact this.2) (big_in _ _).1 (big_in _ _).2, pref_step hn 3 (by decide)]
            · have e0 := (unhide HCELLS) 4 (by decide)
              go_wp2
              refine ⟨⟨4 + 1, by omega, rfl, ?_, trivial⟩, by simp [RowKit.intOf]⟩
              rw [add_step (by have := pref_in hn 4 (by decide); exact this.1) (by have := pref_in hn 4 (by decide); exact this.2) (big_in _ _).1 (big_in _ _).2, pref_step hn 4 (by decide)]
            · have e0 := (unhide HCELLS) 5 (by decide)
              go_wp2
              refine ⟨⟨5 + 1, by omega, rfl, ?_, trivial⟩, by simp [RowKit.intOf]⟩
              rw [add_step (by have := pref_in hn 5 (by decide); exact this.1) (by have := pref_in hn 5 (by decide); exact this.2) (big_in _ _).1 (big_in _ _).2, pref_step hn 5 (by decide)]
            · have e0 := (unhide HCELLS) 6 (by decide)
              go_wp2
              refine ⟨⟨6 + 1, by omega, rfl, ?_, trivial⟩, by simp [RowKit.intOf]⟩
              rw [add_step (by have := pref_in hn 6 (by decide); exact this.1) (by have := pref_in hn 6 (by decide); exact this.2) (big_in _ _).1 (big_in _ _).2, pref_step hn 6 (by decide)]
            · have e0 := (unhide HCELLS) 7 (by decide)
              go_wp2
              refine ⟨⟨7 + 1, by omega, rfl, ?_, trivial⟩, by simp [RowKit.intOf]⟩
              rw [add_step (by have := pref_in hn 7 (by decide); exact this.1) (by have := pref_in hn 7 (by decide); exact this.2) (big_in _ _).1 (big_in _ _).2, pref_step hn 7 (by decide)]
            · go_wp2_with fail
              clear c0
              refine (unhide (HI _)).mono ?_
              rintro e w2 ⟨rfl, hb2⟩
              have BV := (Blk3.new wr 23 (.int .i64 (2)) (.int .i64 (n)) (.string ⟨#[]⟩)).below hb2
              obtain ⟨b0, b1, b2, fB⟩ := BV.cells
              have HB2 := hide (Below.andThen ((unhide HB).alloc (by omega) (.cells #[.int .i64 (2), .int .i64 (n), .string ⟨#[]⟩] 23)) hb2)
              have hs2 : wr.heap.size + 1 ≤ w2.heap.size := by have := hb2.size; simpa using this
              have hown2 := ((unhide HOWN).alloc (.cells #[.int .i64 (2), .int .i64 (n), .string ⟨#[]⟩] 23)).kept (only_of_below hb2 none) (by cases (Value.slice A2 l.length c2).ownBlock <;> simp)
              rcases hfin with ⟨rfl, hk⟩ | ⟨hk, hinv⟩
              · have hk16 : ((l.length : Int) == 16) = true := by rw [hk]; rfl
                clear hb2 KC hown2
                go_wp2
                go_ret2
                exact ⟨rfl, unhide HB2⟩
              · have hk16 : ((l.length : Int) == 16) = false := by rw [beq_eq_false_iff_ne]; omega
                have HO := hide (hown2.alloc (.cells #[.int .i64 (2), .int .i64 (n), .string ⟨#[]⟩] 23))
                have HNEW := hide (newsV (W := w2) (t := 23) (x := .int .i64 (2)) (y := .int .i64 (n)) (z := .string ⟨#[]⟩) (g := w2.heap.size) rfl)
                have HINV := hide hinv
                have HTAKE := hide (vcells_app l ⟨2, n, ⟨#[]⟩⟩)
                have hl2 : (l ++ [(⟨2, n, ⟨#[]⟩⟩ : V)]).length = l.length + 1 := by simp
                clear hb2 KC hown2 hinv HOWN HB
                go_wp2_with (first | (at_builtin; (refine wpList_append_ownF _ rfl _ _ 26 rfl w.heap.size 23 iV _ 3 32 Tryd.underlying26 hiV hzV hsV hbV rfl (by decide) (.slice A2 l.length c2) l.length _ rfl (unhide HO) ⟨w2.heap.size, 0, none⟩ 1 1 [.int .i64 (2), .int .i64 (n), .string ⟨#[]⟩] rfl rfl (unhide HNEW) (by intro u hu; simp at hu; rcases hu with rfl | rfl | rfl <;> rfl) (by unfold maxLen; omega) (by omega) (by simp; omega) ?_; rintro v1 w3 ho3 hg3 _)))
                have hb3 := ((unhide HB2).alloc (by omega) (.cells #[.int .i64 (2), .int .i64 (n), .string ⟨#[]⟩] 23)).grown hg3 (by simp; omega) (fun j hj => ((unhide HO).lt j hj).1)
                exact ⟨⟨l ++ [⟨2, n, ⟨#[]⟩⟩], rest', a + 1 + 8, HINV, hlen, congrArg (Value.int .i64) (by omega), by rw [hl2, unhide HTAKE]; exact ho3, hb3⟩, by show m - ((a : Int) + 1 + 8 : Int).toNat < m - (a : Int).toNat; omega⟩
        · have c0 : wr.cell? ⟨b, o + a, none⟩ = some (.int .u8 3) := (unhide KC) 0 3 (by rw [hd]; rfl) wr (unhide HB)
          have HI := fun w => hide (ref1_Is 3 0 t w (by omega))
          rw [ht] at HI
          obtain ⟨r, hr⟩ : ∃ r, r = rest' := ⟨_, rfl⟩
          have hd3 : rest = 3 :: (txtI t ++ 0 :: r) := by rw [hd, encI3, hr]; simp [txtI]
          have KC3 := unhide KC
          rw [hd3] at KC3
          replace KC3 := hide KC3
          have hlen : a + 1 + t.size + 1 + rest'.length = m := by rw [hd, List.length_append, encI3_len] at ham; omega
          replace ht := may3_plain ht
          clear hd3 hr
          have hta : a + 1 + t.size < m := by omega
          have hac : a + 1 < c := by omega
          have hac2 : a + 1 + t.size ≤ c := by omega
          have hcn : ¬ c = a + 1 := by omega
          have htx := txt_reads (W := wr.alloc (.cells #[.int .i64 3, .int .i64 0, .string ⟨#[]⟩] 23)) (t := t) (r := r) (b := b) (o := o) (a := a) (by simp; omega) (fun j x hx => (unhide KC3) j x hx _ ((unhide HB).alloc (by omega) _))
          have hcv := htx.conv (P := Tryd.prog) 49 5 Tryd.underlying49 Tryd.underlying5 (c - (a + 1)) 9 Tryd.underlying9
          rw [str_txt] at hcv
          have HCV := hide hcv
          clear hcv htx
          go_wp2_with fail
          go_loop [9] (fun i => ∃ j : Nat, j ≤ t.size ∧ i = .int .i64 ((a : Int) + 1 + j)) (fun i => m - (RowKit.intOf i).toNat)
          case atStart => exact ⟨0, Nat.zero_le _, by simp⟩
          case round =>
            obtain ⟨j, hj, rfl⟩ := hrel
            have q1 : decide ((a : Int) + 1 + (j : Int) < (m : Int)) = true := decide_eq_true (by omega)
            have hlj : a + 1 + j < m := by omega
            by_cases hjl : j < t.size
            · obtain ⟨y, hy⟩ : ∃ y, t.data.toList[j]? = some y := ⟨_, List.getElem?_eq_getElem (by simpa using hjl)⟩
              have hy0 : ((y.toNat : Int) == 0) = false := txt_ne0 (ht _ (List.mem_of_getElem? hy))
              have cj : (wr.alloc (.cells #[.int .i64 3, .int .i64 0, .string ⟨#[]⟩] 23)).cell? ⟨b, o + (a + 1 + j), none⟩ = some (.int .u8 (y.toNat : Int)) := by
                have := (unhide KC3) (j + 1) (y.toNat : Int) (by rw [List.getElem?_cons_succ]; exact txt_get hy _) _ ((unhide HB).alloc (by omega) (.cells #[.int .i64 3, .int .i64 0, .string ⟨#[]⟩] 23))
                rwa [show a + (j + 1) = a + 1 + j by omega] at this
              go_wp2
              exact ⟨⟨j + 1, by omega, congrArg (Value.int .i64) (by omega)⟩, by show m - ((a : Int) + 1 + j + 1).toNat < m - ((a : Int) + 1 + j).toNat; omega⟩
            · have hje : j = t.size := by omega
              subst hje
              have q2 : ((a : Int) + 1 + (t.size : Int) == (m : Int)) = false := by rw [beq_eq_false_iff_ne]; omega
              have cj : (wr.alloc (.cells #[.int .i64 3, .int .i64 0, .string ⟨#[]⟩] 23)).cell? ⟨b, o + (a + 1 + t.size), none⟩ = some (.int .u8 0) := by
                have := (unhide KC3) (t.size + 1) 0 (by rw [List.getElem?_cons_succ]; exact txt_end t r) _ ((unhide HB).alloc (by omega) (.cells #[.int .i64 3, .int .i64 0, .string ⟨#[]⟩] 23))
                rwa [show a + (t.size + 1) = a + 1 + t.size by omega] at this
              have hcv := unhide HCV
              go_wp2_with fail
              clear cj hcv c0 HCV KC3
              refine (unhide (HI _)).mono ?_
              rintro e w2 ⟨rfl, hb2⟩
              have BV := (Blk3.new wr 23 (.int .i64 (3)) (.int .i64 (0)) (.string t)).below hb2
              obtain ⟨b0, b1, b2, fB⟩ := BV.cells
              have HB2 := hide (Below.andThen ((unhide HB).alloc (by omega) (.cells #[.int .i64 (3), .int .i64 (0), .string t] 23)) hb2)
              have hs2 : wr.heap.size + 1 ≤ w2.heap.size := by have := hb2.size; simpa using this
              have hown2 := ((unhide HOWN).alloc (.cells #[.int .i64 (3), .int .i64 (0), .string t] 23)).kept (only_of_below hb2 none) (by cases (Value.slice A2 l.length c2).ownBlock <;> simp)
              rcases hfin with ⟨rfl, hk⟩ | ⟨hk, hinv⟩
              · have hk16 : ((l.length : Int) == 16) = true := by rw [hk]; rfl
                clear hb2 KC hown2
                go_wp2
                go_ret2
                exact ⟨rfl, unhide HB2⟩
              · have hk16 : ((l.length : Int) == 16) = false := by rw [beq_eq_false_iff_ne]; omega
                have HO := hide (hown2.alloc (.cells #[.int .i64 (3), .int .i64 (0), .string t] 23))
                have HNEW := hide (newsV (W := w2) (t := 23) (x := .int .i64 (3)) (y := .int .i64 (0)) (z := .string t) (g := w2.heap.size) rfl)
                have HINV := hide hinv
                have HTAKE := hide (vcells_app l ⟨3, 0, t⟩)
                have hl2 : (l ++ [(⟨3, 0, t⟩ : V)]).length = l.length + 1 := by simp
                clear hb2 KC hown2 hinv HOWN HB
                go_wp2_with (first | (at_builtin; (refine wpList_append_ownF _ rfl _ _ 26 rfl w.heap.size 23 iV _ 3 32 Tryd.underlying26 hiV hzV hsV hbV rfl (by decide) (.slice A2 l.length c2) l.length _ rfl (unhide HO) ⟨w2.heap.size, 0, none⟩ 1 1 [.int .i64 (3), .int .i64 (0), .string t] rfl rfl (unhide HNEW) (by intro u hu; simp at hu; rcases hu with rfl | rfl | rfl <;> rfl) (by unfold maxLen; omega) (by omega) (by simp; omega) ?_; rintro v1 w3 ho3 hg3 _)))
                have hb3 := ((unhide HB2).alloc (by omega) (.cells #[.int .i64 (3), .int .i64 (0), .string t] 23)).grown hg3 (by simp; omega) (fun j hj => ((unhide HO).lt j hj).1)
                exact ⟨⟨l ++ [⟨3, 0, t⟩], rest', a + 1 + t.size + 1, HINV, hlen, congrArg (Value.int .i64) (by omega), by rw [hl2, unhide HTAKE]; exact ho3, hb3⟩, by show m - ((a : Int) + 1 + t.size + 1 : Int).toNat < m - (a : Int).toNat; omega⟩
    · have hr0 : rest = [] := List.eq_nil_of_length_eq_zero (by omega)
      subst hr0
      have hend := inv6_end (unhide HD) (unhide HI6)
      subst hend
      obtain ⟨A3, c3, e3, hr3⟩ := owns_readsV hown
      cases e3
      have HR := hide hr3
      have HB := hide hb
      have hq : decide ((a : Int) < (m : Int)) = false := decide_eq_false (by simp at ham; omega)
      clear hown hr3 hb
      go_wp2
      go_ret2
      exact ⟨_, _, rfl, unhide HR, unhide HB⟩
end Go.Proofs.YtpmjpbndpnmdlaaDoor

/- value.Unkey of bytes that are no row's: contract. -/
import Derived.Test.YtpmjpbndpnmdlaaDoorKey8
import Derived.Test.YtpmjpbndpnmdlaaDoorVal6
set_option linter.all false
namespace Go.Proofs.YtpmjpbndpnmdlaaDoor
open Go.RowKit Go.Lib

def NoRow (xs : List Int) : Prop := ∀ l : List V, l.length ≤ 16 → (∀ v, v ∈ l → Good1 v) → xs ≠ keyI l
theorem keyI_app (l : List V) (v : V) : keyI (l ++ [v]) = keyI l ++ encI v := by
  unfold keyI
  simp
theorem vcells_app (l : List V) (v : V) : vcells (l ++ [v]) = vcells l ++ v.cells := by
  unfold vcells
  simp
theorem dec_parts {xs : List Int} {v : V} {rest : List Int} (h : xs = encI v ++ rest) : xs.length = (encI v).length + rest.length := by rw [h, List.length_append]
set_option maxRecDepth 100000 in
set_option maxHeartbeats 1000000 in
theorem value_Unkey_bad (A : Option Addr) (m c : Nat) (xs : List Int) (w : World) (hx : InB xs) (hno : NoRow xs) (hm : m ≤ 9223372036854775807) (hc : m ≤ c) (h : Reads w 1 A m (nums xs)) :
    Calls Tryd.prog 24 #[.slice A m c] w fun e w' => ∃ v, e = .returned (.tuple #[.slice none 0 0, v]) ∧ IsErr w' v 20 ∧ Below w.heap.size w w' := by
  have hlm : xs.length = m := by have := h.1; simpa [nums] using this
  have HNO := hide hno
  have HX := hide hx
  clear hno hx
  have HF := fun w => hide (value_fault 20 (by decide) w)
  obtain ⟨iV, hiV, hzV, hsV, hbV⟩ := info_parts infoV
  go_enter Tryd.func24, Tryd.ntmps24
  go_wp2
  go_loopw [0, 4] (fun s o wr => ∃ (l : List V) (rest : List Int) (A : Option Addr) (c : Nat), l.length ≤ 16 ∧ Hid (∀ v, v ∈ l → Good1 v) ∧ Hid (keyI l ++ rest = xs) ∧ s = .slice A rest.length c ∧ rest.length ≤ c ∧ rest.length ≤ m ∧ Reads w 1 A rest.length (nums rest) ∧
    wr.ownsRowF w.heap.size 23 3 o l.length (vcells l) ∧ Below w.heap.size w wr) (fun s _ _ => lenOf s)
  case atStart => exact ⟨[], xs, A, c, by simp, hide (fun v hv => by cases hv), hide rfl, by rw [hlm], by omega, by omega, by simpa [hlm] using h, World.ownsRowF_nil _ _ _ _, Below.refl _ _⟩
  case round =>
    obtain ⟨l, rest, A, c, h16, HG, HE, rfl, hc, hlen, hr, hown, hb⟩ := hrel
    obtain ⟨A2, c2, rfl⟩ := ownsF_shape hown
    by_cases hpos : 0 < rest.length
    · obtain ⟨b, o, rfl, _, _⟩ := hr.2 hpos
      have hq : decide ((0 : Int) < (rest.length : Int)) = true := decide_eq_true (by omega)
      by_cases hd : Dec rest
      · obtain ⟨v, rest', hv, hd⟩ := hd
        have HU := value_unkey v b o _ c rest' wr hv.1 hv.2.1 hv.2.2 (by omega) hc (by rw [← hd]; exact hr.below hb)
        have hshort : rest'.length < rest.length := by have := dec_parts hd; have := encI_pos v; omega
        have HSH : Hid (∀ A' : Option Addr, (∀ W, Reads W 1 (some ⟨b, o, none⟩) rest.length (nums (encI v ++ rest')) → Reads W 1 A' rest'.length (nums rest')) → Reads w 1 A' rest'.length (nums rest')) :=
          fun A' f => f w (by rw [← hd]; exact hr)
        have HG2 : Hid (∀ u, u ∈ l ++ [v] → Good1 u) := fun u hu => by
          rcases List.mem_append.1 hu with h | h
          · exact (unhide HG) u h
          · rw [List.mem_singleton.1 h]; exact hv
        have HE2 : Hid (keyI (l ++ [v]) ++ rest' = xs) := hide (by rw [keyI_app, List.append_assoc, ← hd]; exact unhide HE)
        have hl2 : (l ++ [v]).length = l.length + 1 := by simp
        have HTAKE := hide (vcells_app l v)
        obtain ⟨vk, vn, vt⟩ := v
        replace HU : Hid (Calls Tryd.prog 45 #[.slice (some ⟨b, o, none⟩) rest.length c] wr fun e w' => ∃ A' c', e = .returned (.tuple #[.agg #[.int .i64 vk, .int .i64 vn, .string vt], .slice A' rest'.length c', .nilIface]) ∧
          (∀ W, Reads W 1 (some ⟨b, o, none⟩) rest.length (nums (encI ⟨vk, vn, vt⟩ ++ rest')) → Reads W 1 A' rest'.length (nums rest')) ∧ rest'.length ≤ c' ∧ Below wr.heap.size wr w') := hide HU
        have HOWN := hide hown
        have HB := hide hb
        have hs1 := hb.size
        clear hr hown hb hd hv HE HG
        by_cases hk : l.length = 16
        · have hk16 : ((l.length : Int) == 16) = true := by rw [hk]; rfl
          go_wp2_with fail
          refine (unhide HU).mono ?_
          rintro e w2 ⟨A', c', rfl, hsh, hc', hb2⟩
          have hs2 := hb2.size
          have HB2 := hide (Below.andThen (unhide HB) hb2)
          clear hsh hb2 HSH HU HG2 HE2 HTAKE HOWN HB hc'
          go_wp2_with fail
          refine (unhide (HF _)).mono ?_
          rintro e w3 ⟨v3, rfl, he, hb3⟩
          have HHE := hide he
          replace HB2 := hide (Below.andThen ((unhide HB2).alloc (by omega) _) hb3)
          clear he hb3
          go_wp2
          go_ret2
          exact ⟨_, rfl, unhide HHE, unhide HB2⟩
        · have hk16 : ((l.length : Int) == 16) = false := by rw [beq_eq_false_iff_ne]; omega
          go_wp2_with fail
          refine (unhide HU).mono ?_
          rintro e w2 ⟨A', c', rfl, hsh, hc', hb2⟩
          have hr' := hide ((unhide HSH) A' hsh)
          have hown2 := (unhide HOWN).kept (only_of_below hb2 none) (by cases (Value.slice A2 l.length c2).ownBlock <;> simp)
          have HO := hide ((hown2.alloc (.cells #[.int .i64 vk, .int .i64 vn, .string vt] 23)).alloc (.cells #[.int .i64 vk, .int .i64 vn, .string vt] 23))
          have hs2 := hb2.size
          have HB2 := hide (Below.andThen (unhide HB) hb2)
          have HNEW := hide (newsV (W := w2.alloc (.cells #[.int .i64 vk, .int .i64 vn, .string vt] 23)) (t := 23) (x := .int .i64 vk) (y := .int .i64 vn) (z := .string vt) (g := w2.heap.size + 1) (by simp))
          obtain ⟨b0, b1, b2, fB⟩ := (Blk3.new w2 23 (.int .i64 vk) (.int .i64 vn) (.string vt)).cells
          clear hsh hown2 hb2 HSH HU
          go_wp2_with (first | (at_builtin; (refine wpList_append_ownF _ rfl _ _ 26 rfl w.heap.size 23 iV _ 3 32 Tryd.underlying26 hiV hzV hsV hbV rfl (by decide) (.slice A2 l.length c2) l.length _ rfl (unhide HO) ⟨w2.heap.size + 1, 0, none⟩ 1 1 [.int .i64 vk, .int .i64 vn, .string vt] rfl rfl (unhide HNEW) (by intro u hu; simp at hu; rcases hu with rfl | rfl | rfl <;> rfl) (by unfold maxLen; omega) (by omega) (by simp; omega) ?_; rintro v1 w3 ho3 hg3 _)))
          have hb3 := (((unhide HB2).alloc (by omega) (.cells #[.int .i64 vk, .int .i64 vn, .string vt] 23)).alloc (by simp; omega) (.cells #[.int .i64 vk, .int .i64 vn, .string vt] 23)).grown hg3 (by simp; omega) (fun j hj => ((unhide HO).lt j hj).1)
          exact ⟨⟨l ++ [⟨vk, vn, vt⟩], rest', A', c', by omega, HG2, HE2, rfl, hc', by omega, unhide hr', by rw [hl2, unhide HTAKE]; exact ho3, hb3⟩, hshort⟩
      · have HU := hide (value_unkey_bad b o _ c rest wr (fun y hy => (unhide HX) y (by rw [← unhide HE]; exact List.mem_append_right _ hy)) hd hpos (by omega) hc (hr.below hb))
        have HB := hide hb
        have hs1 := hb.size
        clear hr hown hb hd HE HG
        go_wp2_with fail
        refine (unhide HU).mono ?_
        rintro e w2 ⟨vk, vn, vt, r2, rfl, he2, hb2⟩
        obtain ⟨T2, x2, rfl⟩ := IsErr.held he2 (by decide)
        have hs2 := hb2.size
        have HB2 := hide (Below.andThen (unhide HB) hb2)
        clear hb2 HU HB he2
        obtain ⟨b0, b1, b2, fB⟩ := (Blk3.new w2 23 (.int .i64 vk) (.int .i64 vn) (.string vt)).cells
        go_wp2_with fail
        refine (unhide (HF _)).mono ?_
        rintro e w3 ⟨v3, rfl, he, hb3⟩
        have HHE := hide he
        replace HB2 := hide (Below.andThen ((unhide HB2).alloc (by omega) _) hb3)
        clear he hb3
        go_wp2
        go_ret2
        exact ⟨_, rfl, unhide HHE, unhide HB2⟩
    · have hr0 : rest = [] := List.eq_nil_of_length_eq_zero (by omega)
      subst hr0
      exact absurd (unhide HE).symm (by rw [List.append_nil]; exact (unhide HNO) l h16 (unhide HG))
end Go.Proofs.YtpmjpbndpnmdlaaDoor

/- value.unkey of any value's bytes, value.Unkey of a row's key: contracts. -/
import Derived.Test.YtpmjpbndpnmdlaaDoorKey4
set_option linter.all false
namespace Go.Proofs.YtpmjpbndpnmdlaaDoor
open Go.RowKit Go.Lib

theorem empty_of {t : ByteArray} (h : t.toList.isEmpty = true) : t = ⟨#[]⟩ := by
  rw [ByteArray.toList_eq, List.isEmpty_iff] at h
  apply ByteArray.ext
  show t.data = #[]
  exact Array.toList_eq_nil_iff.1 h
theorem value_unkey (v : V) (b o m c : Nat) (rest : List Int) (w : World) (hv : mayB v.k v.n v.t = true) (hn : In64 v.n) (ht : v.t.size ≤ 9223372036854775807) (hm : m ≤ 9223372036854775807) (hc : m ≤ c) (h : Reads w 1 (some ⟨b, o, none⟩) m (nums (encI v ++ rest))) :
    Calls Tryd.prog 45 #[.slice (some ⟨b, o, none⟩) m c] w (UPost w v rest (some ⟨b, o, none⟩) m (encI v)) := by
  obtain ⟨k, n, t⟩ := v
  have hv0 := hv
  simp only at hv0 h hn ht hv
  unfold mayB at hv0
  by_cases h0 : k = 0
  · subst h0
    simp at hv0
    obtain ⟨rfl, h2⟩ := hv0
    obtain rfl := empty_of (by simpa using h2)
    have e : encI ⟨0, 0, ⟨#[]⟩⟩ = [0] := by simp [encI, bodyI]
    rw [e] at h ⊢
    exact unkey_0 b o m c rest w hm hc h
  · by_cases h1 : k = 1
    · subst h1
      simp at hv0
      obtain ⟨h1, h2⟩ := hv0
      obtain rfl := empty_of (by simpa using h2)
      rcases h1 with rfl | rfl
      · have e : encI ⟨1, 0, ⟨#[]⟩⟩ = [1, 0] := by simp [encI, bodyI]
        rw [e] at h ⊢
        exact unkey_1_0 b o m c rest w hm hc h
      · have e : encI ⟨1, 1, ⟨#[]⟩⟩ = [1, 1] := by simp [encI, bodyI]
        rw [e] at h ⊢
        exact unkey_1_1 b o m c rest w hm hc h
    · by_cases h2 : k = 2
      · subst h2
        rw [if_neg h0, if_neg h1, if_pos rfl] at hv0
        obtain rfl := empty_of hv0
        rw [encI2] at h ⊢
        exact unkey_2 b o m c n rest w hn hm hc h
      · by_cases h3 : k = 3
        · subst h3
          rw [if_neg h0, if_neg h1, if_neg h2, if_pos rfl] at hv0
          simp only [Bool.and_eq_true, decide_eq_true_eq] at hv0
          obtain ⟨rfl, _⟩ := hv0
          rw [encI3] at h ⊢
          exact unkey_3 b o m c t rest w hv ht hm hc h
        · rw [if_neg h0, if_neg h1, if_neg h2, if_neg h3] at hv0
          cases hv0
theorem infoV : (Tryd.prog.info? 23).map (fun i => (i.zero, i.size, i.bytes)) = some (some (.agg #[.int .i64 0, .int .i64 0, .string ⟨#[]⟩]), 3, 32) := by kernel_rfl
theorem newsV {W : World} {t : TypeId} {x y z : Value} {g : Nat} (hg : g = W.heap.size) : ∀ j u, ([x, y, z] : List Value)[j]? = some u → (W.alloc (.cells #[x, y, z] t)).cell? ((⟨g, 0, none⟩ : Addr).add j) = some u := by
  subst hg
  intro j u hu
  have hadd : (⟨W.heap.size, 0, none⟩ : Addr).add j = ⟨W.heap.size, j, none⟩ := by unfold Addr.add; split <;> simp_all
  rw [hadd]
  have hb : (W.alloc (.cells #[x, y, z] t)).heap[W.heap.size]? = some (.cells #[x, y, z] t (0, 0)) := Blk3.new W t x y z
  simp only [World.cell?, hb]
  simpa using hu
def lenOf : Value → Nat
  | .slice _ n _ => n
  | _ => 0
theorem ownsF_shape {w : World} {B : Nat} {e : TypeId} {size : Nat} {v : Value} {n : Nat} {xs : List Value} (h : w.ownsRowF B e size v n xs) : ∃ A c, v = .slice A n c := by
  rcases h.2 with ⟨rfl, rfl⟩ | ⟨g, cap, cur, fz, rfl, _⟩
  · exact ⟨none, 0, rfl⟩
  · exact ⟨_, cap, rfl⟩
theorem owns_readsV {w : World} {B : Nat} {e : TypeId} {v : Value} {n : Nat} {l : List V} (h : w.ownsRowF B e 3 v n (vcells l)) : ∃ A c, v = .slice A n c ∧ Reads w 3 A n (vcells l) := by
  have hlen := h.1
  rcases h.2 with ⟨rfl, rfl⟩ | ⟨g, cap, cur, fz, rfl, hb, hg, _⟩
  · exact ⟨none, 0, rfl, ⟨hlen, fun h => absurd h (by omega)⟩⟩
  · refine ⟨_, cap, rfl, hlen, fun _ => ⟨g, 0, rfl, (Array.getElem?_eq_some_iff.1 hg).1, fun j u hu => ?_⟩⟩
    have := h.cells (g := g) rfl j u hu
    have hadd : (⟨g, 0, none⟩ : Addr).add j = ⟨g, 0 + j, none⟩ := by unfold Addr.add; split <;> simp_all
    rwa [hadd] at this
theorem vcells_take {l : List V} {k : Nat} {v : V} (h : l[k]? = some v) : vcells (l.take (k + 1)) = vcells (l.take k) ++ v.cells := by
  unfold vcells
  rw [List.take_add_one, h]
  simp
theorem keyI_drop {l : List V} {k : Nat} {v : V} (h : l[k]? = some v) : keyI (l.drop k) = encI v ++ keyI (l.drop (k + 1)) := by
  rw [drop_at, h]
  rfl
theorem encI_pos (v : V) : 0 < (encI v).length := by unfold encI; simp

set_option maxRecDepth 100000 in
set_option maxHeartbeats 1000000 in
theorem value_Unkey (A : Option Addr) (m c : Nat) (l : List V) (w : World) (h16 : l.length ≤ 16) (hv : ∀ v, v ∈ l → mayB v.k v.n v.t = true) (hn : ∀ v, v ∈ l → In64 v.n) (ht : ∀ v, v ∈ l → v.t.size ≤ 9223372036854775807) (hm : m ≤ 9223372036854775807) (hc : m ≤ c) (h : Reads w 1 A m (nums (keyI l))) :
    Calls Tryd.prog 24 #[.slice A m c] w fun e w' => ∃ A' c', e = .returned (.tuple #[.slice A' l.length c', .nilIface]) ∧ Reads w' 3 A' l.length (vcells l) ∧ Below w.heap.size w w' := by
  have hlm : (keyI l).length = m := by have := h.1; simpa [nums] using this
  have HV := hide hv
  have HN := hide hn
  have HT := hide ht
  clear hv hn ht
  obtain ⟨iV, hiV, hzV, hsV, hbV⟩ := info_parts infoV
  go_enter Tryd.func24, Tryd.ntmps24
  go_wp2
  go_loopw [0, 4] (fun s o wr => ∃ (k : Nat) (A : Option Addr) (c : Nat), k ≤ l.length ∧ s = .slice A (keyI (l.drop k)).length c ∧ (keyI (l.drop k)).length ≤ c ∧ Reads w 1 A (keyI (l.drop k)).length (nums (keyI (l.drop k))) ∧
    wr.ownsRowF w.heap.size 23 3 o k (vcells (l.take k)) ∧ Below w.heap.size w wr) (fun s _ _ => lenOf s)
  case atStart => exact ⟨0, A, c, Nat.zero_le _, by simp [hlm], by simpa [hlm] using hc, by simpa [hlm] using h, World.ownsRowF_nil _ _ _ _, Below.refl _ _⟩
  case round =>
    obtain ⟨k, A, c, hk, rfl, hc, hr, hown, hb⟩ := hrel
    obtain ⟨A2, c2, rfl⟩ := ownsF_shape hown
    have hlen : (keyI (l.drop k)).length ≤ 700 := by
      have h1 := keyI_len (l := l.drop k) fun v hv => (unhide HV) v (List.mem_of_mem_drop hv)
      have h2 : (l.drop k).length ≤ l.length := by rw [List.length_drop]; omega
      omega
    by_cases hlt : k < l.length
    · obtain ⟨v, hv⟩ : ∃ v, l[k]? = some v := ⟨_, List.getElem?_eq_getElem hlt⟩
      have hd := keyI_drop hv
      have hmem := List.mem_of_getElem? hv
      have hpos : 0 < (keyI (l.drop k)).length := by rw [hd, List.length_append]; have := encI_pos v; omega
      obtain ⟨b, o, rfl, _, _⟩ := hr.2 hpos
      have HU := value_unkey v b o _ c (keyI (l.drop (k + 1))) wr ((unhide HV) v hmem) ((unhide HN) v hmem) ((unhide HT) v hmem) (by omega) hc (by rw [← hd]; exact hr.below hb)
      have hshort : (keyI (l.drop (k + 1))).length < (keyI (l.drop k)).length := by rw [hd, List.length_append]; have := encI_pos v; omega
      have htake := vcells_take hv
      have HSH : Hid (∀ A' : Option Addr, (∀ W, Reads W 1 (some ⟨b, o, none⟩) (keyI (l.drop k)).length (nums (encI v ++ keyI (l.drop (k + 1)))) → Reads W 1 A' (keyI (l.drop (k + 1))).length (nums (keyI (l.drop (k + 1))))) → Reads w 1 A' (keyI (l.drop (k + 1))).length (nums (keyI (l.drop (k + 1))))) :=
        fun A' f => f w (by rw [← hd]; exact hr)
      obtain ⟨vk, vn, vt⟩ := v
      replace HU : Hid (Calls Tryd.prog 45 #[.slice (some ⟨b, o, none⟩) (keyI (l.drop k)).length c] wr fun e w' => ∃ A' c', e = .returned (.tuple #[.agg #[.int .i64 vk, .int .i64 vn, .string vt], .slice A' (keyI (l.drop (k + 1))).length c', .nilIface]) ∧
        (∀ W, Reads W 1 (some ⟨b, o, none⟩) (keyI (l.drop k)).length (nums (encI ⟨vk, vn, vt⟩ ++ keyI (l.drop (k + 1)))) → Reads W 1 A' (keyI (l.drop (k + 1))).length (nums (keyI (l.drop (k + 1))))) ∧ (keyI (l.drop (k + 1))).length ≤ c' ∧ Below wr.heap.size wr w') := hide HU
      have HTAKE : Hid (vcells (l.take (k + 1)) = vcells (l.take k) ++ [.int .i64 vk, .int .i64 vn, .string vt]) := hide htake
      have HOWN := hide hown
      have HB := hide hb
      have hs1 := hb.size
      clear hr hown hb htake hd hmem hv
      generalize hL : (keyI (l.drop k)).length = L at *
      have hq : decide ((0 : Int) < (L : Int)) = true := decide_eq_true (by omega)
      have hk16 : ((k : Int) == 16) = false := by rw [beq_eq_false_iff_ne]; omega
      clear hL
      go_wp2_with fail
      refine (unhide HU).mono ?_
      rintro e w2 ⟨A', c', rfl, hsh, hc', hb2⟩
      have hr' := hide ((unhide HSH) A' hsh)
      have hown2 := (unhide HOWN).kept (only_of_below hb2 none) (by cases (Value.slice A2 k c2).ownBlock <;> simp)
      have HO := hide ((hown2.alloc (.cells #[.int .i64 vk, .int .i64 vn, .string vt] 23)).alloc (.cells #[.int .i64 vk, .int .i64 vn, .string vt] 23))
      have hs2 := hb2.size
      have HB2 := hide (Below.andThen (unhide HB) hb2)
      have HNEW := hide (newsV (W := w2.alloc (.cells #[.int .i64 vk, .int .i64 vn, .string vt] 23)) (t := 23) (x := .int .i64 vk) (y := .int .i64 vn) (z := .string vt) (g := w2.heap.size + 1) (by simp))
      obtain ⟨b0, b1, b2, fB⟩ := (Blk3.new w2 23 (.int .i64 vk) (.int .i64 vn) (.string vt)).cells
      clear hsh hown2 hb2 HSH HU
      go_wp2_with (first | (at_builtin; (refine wpList_append_ownF _ rfl _ _ 26 rfl w.heap.size 23 iV _ 3 32 Tryd.underlying26 hiV hzV hsV hbV rfl (by decide) (.slice A2 k c2) k _ rfl (unhide HO) ⟨w2.heap.size + 1, 0, none⟩ 1 1 [.int .i64 vk, .int .i64 vn, .string vt] rfl rfl (unhide HNEW) (by intro u hu; simp at hu; rcases hu with rfl | rfl | rfl <;> rfl) (by unfold maxLen; omega) (by omega) (by simp; omega) ?_; rintro v1 w3 ho3 hg3 _)))
      have hb3 := (((unhide HB2).alloc (by omega) (.cells #[.int .i64 vk, .int .i64 vn, .string vt] 23)).alloc (by simp; omega) (.cells #[.int .i64 vk, .int .i64 vn, .string vt] 23)).grown hg3 (by simp; omega) (fun j hj => ((unhide HO).lt j hj).1)
      exact ⟨⟨k + 1, A', c', by omega, rfl, hc', unhide hr', by rw [unhide HTAKE]; exact ho3, hb3⟩, hshort⟩
    · have hke : k = l.length := by omega
      subst hke
      have hd0 : (keyI (l.drop l.length)).length = 0 := by rw [List.drop_eq_nil_of_le (Nat.le_refl _)]; rfl
      rw [List.take_of_length_le (Nat.le_refl _)] at hown
      obtain ⟨A3, c3, e3, hr3⟩ := owns_readsV hown
      cases e3
      have HR := hide hr3
      have HB := hide hb
      clear hown hr3 hb hr hlen
      generalize (keyI (l.drop l.length)).length = L at *
      subst hd0
      go_wp2
      go_ret2
      exact ⟨_, _, rfl, unhide HR, unhide HB⟩
end Go.Proofs.YtpmjpbndpnmdlaaDoor

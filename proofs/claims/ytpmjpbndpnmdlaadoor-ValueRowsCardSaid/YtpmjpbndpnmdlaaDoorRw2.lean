/- slices.CompareFunc over value.Compare, value.Rows: contracts. -/
import Derived.Test.YtpmjpbndpnmdlaaDoorRw1
set_option linter.all false
namespace Go.Proofs.YtpmjpbndpnmdlaaDoor
open Go.RowKit

/-- The order of two rows. -/
def rowsV : List V → List V → Int
  | [], [] => 0
  | [], _ :: _ => -1
  | _ :: _, [] => 1
  | u :: l, v :: l' => if compareV u.k u.n u.t v.k v.n v.t = 0 then rowsV l l' else compareV u.k u.n u.t v.k v.n v.t

/-- Behind k elements that are alike. -/
theorem rowsV_drop {l l' : List V} : ∀ {k : Nat}, (∀ (j : Nat) (v v' : V), j < k → l[j]? = some v → l'[j]? = some v' → compareV v.k v.n v.t v'.k v'.n v'.t = 0) → k ≤ l.length → k ≤ l'.length → rowsV l l' = rowsV (l.drop k) (l'.drop k)
  | 0, _, _, _ => by simp
  | k + 1, h, h1, h2 => by
    cases l with
    | nil => simp at h1
    | cons u l =>
      cases l' with
      | nil => simp at h2
      | cons v l' =>
        have h0 := h 0 u v (by omega) rfl rfl
        rw [rowsV, if_pos h0, List.drop_succ_cons, List.drop_succ_cons]
        exact rowsV_drop (fun j a b hj ha hb => h (j + 1) a b (by omega) (by simpa using ha) (by simpa using hb)) (by simpa using h1) (by simpa using h2)

theorem drop_at {l : List V} {k : Nat} : l.drop k = match l[k]? with | none => [] | some v => v :: l.drop (k + 1) := by
  cases h : l[k]? with
  | none => exact List.drop_eq_nil_of_le (List.getElem?_eq_none_iff.1 h)
  | some v =>
    obtain ⟨hk, rfl⟩ := List.getElem?_eq_some_iff.1 h
    exact List.drop_eq_getElem_cons hk
theorem rowsV_both {l l' : List V} {k : Nat} {v v' : V} (h : ∀ (j : Nat) (v v' : V), j < k → l[j]? = some v → l'[j]? = some v' → compareV v.k v.n v.t v'.k v'.n v'.t = 0) (h1 : k ≤ l.length) (h2 : k ≤ l'.length)
    (hv : l[k]? = some v) (hv' : l'[k]? = some v') (hne : compareV v.k v.n v.t v'.k v'.n v'.t ≠ 0) : rowsV l l' = compareV v.k v.n v.t v'.k v'.n v'.t := by
  rw [rowsV_drop h h1 h2, drop_at, hv, drop_at (l := l'), hv']
  simp only [rowsV]
  rw [if_neg hne]
theorem rowsV_more {l l' : List V} {k : Nat} (h : ∀ (j : Nat) (v v' : V), j < k → l[j]? = some v → l'[j]? = some v' → compareV v.k v.n v.t v'.k v'.n v'.t = 0) (h1 : k < l.length) (h2 : k = l'.length) : rowsV l l' = 1 := by
  rw [rowsV_drop h (by omega) (by omega), drop_at, List.getElem?_eq_getElem h1, List.drop_eq_nil_of_le (show l'.length ≤ k by omega)]
  simp only [rowsV]
theorem rowsV_less {l l' : List V} {k : Nat} (h : ∀ (j : Nat) (v v' : V), j < k → l[j]? = some v → l'[j]? = some v' → compareV v.k v.n v.t v'.k v'.n v'.t = 0) (h1 : k = l.length) (h2 : k < l'.length) : rowsV l l' = -1 := by
  rw [rowsV_drop h (by omega) (by omega), drop_at (l := l'), List.getElem?_eq_getElem h2, List.drop_eq_nil_of_le (show l.length ≤ k by omega)]
  simp only [rowsV]
theorem rowsV_end {l l' : List V} {k : Nat} (h : ∀ (j : Nat) (v v' : V), j < k → l[j]? = some v → l'[j]? = some v' → compareV v.k v.n v.t v'.k v'.n v'.t = 0) (h1 : k = l.length) (h2 : k = l'.length) : rowsV l l' = 0 := by
  rw [rowsV_drop h (by omega) (by omega), List.drop_eq_nil_of_le (show l.length ≤ k by omega), List.drop_eq_nil_of_le (show l'.length ≤ k by omega)]
  simp only [rowsV]

set_option maxRecDepth 100000 in
theorem compare_func (A : Option Addr) (n c : Nat) (A' : Option Addr) (n' c' : Nat) (l l' : List V) (w : World) (hn : n ≤ 9223372036854775807)
    (ht : ∀ v, v ∈ l → v.t.size ≤ 9223372036854775807) (ht' : ∀ v, v ∈ l' → v.t.size ≤ 9223372036854775807)
    (h : Reads w 3 A n (vcells l)) (h' : Reads w 3 A' n' (vcells l')) :
    Calls Tryd.prog 46 #[.slice A n c, .slice A' n' c', .func (Fn.func 13) #[] #[]] w fun e w' => e = .returned (.int .i64 (rowsV l l')) ∧ Below w.heap.size w w' := by
  have HL := hide h
  have HL' := hide h'
  have HN := hide h.vlen
  have HN' := hide h'.vlen
  have HT := hide ht
  have HT' := hide ht'
  clear h h' ht ht'
  go_enter Tryd.func46, Tryd.ntmps46
  go_wp2
  go_loopw [13] (fun i wr => ∃ k : Nat, k ≤ n ∧ k ≤ n' ∧ i = .int .i64 k ∧ Hid (∀ (j : Nat) (v v' : V), j < k → l[j]? = some v → l'[j]? = some v' → compareV v.k v.n v.t v'.k v'.n v'.t = 0) ∧ Hid (Below w.heap.size w wr)) (fun i _ => n - (intOf i).toNat)
  case atStart => exact ⟨0, Nat.zero_le _, Nat.zero_le _, rfl, hide (fun j v v' hj => absurd hj (by omega)), hide (Below.refl _ _)⟩
  case round =>
    obtain ⟨k, hk, hk', rfl, HA, HBW⟩ := hrel
    by_cases hlt : k < n
    · obtain ⟨b, o, v, rfl, hv, c0, c1, c2⟩ := ((unhide HL).below (unhide HBW)).val hlt
      by_cases hlt' : k < n'
      · obtain ⟨b', o', v', rfl, hv', d0, d1, d2⟩ := (((unhide HL').below (unhide HBW)).alloc (.cells #[.int .i64 v.k, .int .i64 v.n, .string v.t] 23)).val hlt'
        have BA := (Blk3.new wr 23 (.int .i64 v.k) (.int .i64 v.n) (.string v.t)).alloc (.cells #[.int .i64 v'.k, .int .i64 v'.n, .string v'.t] 23)
        have BB := Blk3.new1 wr (.cells #[.int .i64 v.k, .int .i64 v.n, .string v.t] 23) 23 (.int .i64 v'.k) (.int .i64 v'.n) (.string v'.t)
        obtain ⟨a0, a1, a2, fA⟩ := BA.cells
        obtain ⟨b0, b1, b2, fB⟩ := BB.cells
        have hal : Below wr.heap.size wr ((wr.alloc (.cells #[.int .i64 v.k, .int .i64 v.n, .string v.t] 23)).alloc (.cells #[.int .i64 v'.k, .int .i64 v'.n, .string v'.t] 23)) := ((Below.refl _ _).alloc (Nat.le_refl _) _).alloc (by simp) _
        have HB2 := hide (Below.andThen (unhide HBW) hal)
        clear hal
        have HC := fun w => hide (value_Compare v.k v.n v.t v'.k v'.n v'.t w ((unhide HT) v (List.mem_of_getElem? hv)) ((unhide HT') v' (List.mem_of_getElem? hv')))
        have HV := hide hv
        have HV' := hide hv'
        clear hv hv'
        generalize hcv : compareV v.k v.n v.t v'.k v'.n v'.t = cv at HC
        have HCV := hide hcv
        clear hcv
        by_cases hc0 : cv = 0
        · subst hc0
          go_wp2_with fail
          refine (unhide (HC _)).mono ?_
          rintro e w2 ⟨rfl, hb2⟩
          replace HB2 := hide (Below.andThen (unhide HB2) hb2)
          clear hb2
          go_wp2
          go_roundw
          case rel =>
            refine ⟨k + 1, by omega, by omega, by go_num, hide (fun j v₁ v₂ hj h₁ h₂ => ?_), HB2⟩
            by_cases hjk : j < k
            · exact (unhide HA) j v₁ v₂ hjk h₁ h₂
            · have hje : j = k := by omega
              subst hje
              rw [unhide HV] at h₁
              rw [unhide HV'] at h₂
              injection h₁ with h₁
              injection h₂ with h₂
              subst h₁ h₂
              exact unhide HCV
          case measure => simp [intOf]; omega
        · have hcb : (cv == 0) = false := by simpa using hc0
          have HC0 := hide hc0
          clear hc0
          go_wp2_with fail
          refine (unhide (HC _)).mono ?_
          rintro e w2 ⟨rfl, hb2⟩
          replace HB2 := hide (Below.andThen (unhide HB2) hb2)
          clear hb2
          go_wp2
          go_ret
          refine ⟨ret_int ?_, unhide HB2⟩
          rw [rowsV_both (unhide HA) (by rw [unhide HN]; omega) (by rw [unhide HN']; omega) (unhide HV) (unhide HV') (by rw [unhide HCV]; exact unhide HC0), unhide HCV]
      · clear hv
        have hal : Below wr.heap.size wr (wr.alloc (.cells #[.int .i64 v.k, .int .i64 v.n, .string v.t] 23)) := (Below.refl _ _).alloc (Nat.le_refl _) _
        have HB2 := hide (Below.andThen (unhide HBW) hal)
        clear hal
        go_wp2
        go_ret
        refine ⟨ret_int ?_, unhide HB2⟩
        rw [rowsV_more (unhide HA) (by rw [unhide HN]; exact hlt) (by rw [unhide HN']; omega)]
    · by_cases hlt' : n < n'
      · go_wp2
        go_ret
        refine ⟨ret_int ?_, unhide HBW⟩
        rw [rowsV_less (unhide HA) (by rw [unhide HN]; omega) (by rw [unhide HN']; omega)]
      · go_wp2
        go_ret
        refine ⟨ret_int ?_, unhide HBW⟩
        rw [rowsV_end (unhide HA) (by rw [unhide HN]; omega) (by rw [unhide HN']; omega)]

theorem value_Rows (A : Option Addr) (n c : Nat) (A' : Option Addr) (n' c' : Nat) (l l' : List V) (w : World) (hn : n ≤ 9223372036854775807)
    (ht : ∀ v, v ∈ l → v.t.size ≤ 9223372036854775807) (ht' : ∀ v, v ∈ l' → v.t.size ≤ 9223372036854775807)
    (h : Reads w 3 A n (vcells l)) (h' : Reads w 3 A' n' (vcells l')) :
    Calls Tryd.prog 26 #[.slice A n c, .slice A' n' c'] w fun e w' => e = .returned (.int .i64 (rowsV l l')) ∧ Below w.heap.size w w' := by
  have H := hide (compare_func A n c A' n' c' l l' w hn ht ht' h h')
  clear h h' ht ht'
  go_enter Tryd.func26, Tryd.ntmps26
  go_wp2_with fail
  refine (unhide H).mono ?_
  rintro e w2 ⟨rfl, hb2⟩
  go_wp2
  go_ret
  exact ⟨rfl, hb2⟩
end Go.Proofs.YtpmjpbndpnmdlaaDoor

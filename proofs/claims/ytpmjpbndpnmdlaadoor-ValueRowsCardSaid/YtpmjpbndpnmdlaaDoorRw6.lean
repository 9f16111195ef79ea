/- slices.IndexFunc, slices.ContainsFunc over value.Key's own question: contracts. -/
import Derived.Test.YtpmjpbndpnmdlaaDoorRw2
set_option linter.all false
namespace Go.Proofs.YtpmjpbndpnmdlaaDoor
open Go.RowKit

theorem key_not (k n : Int) (s : ByteArray) (w : World) (hs : s.size ≤ 9223372036854775807) :
    Calls Tryd.prog 42 #[.agg #[.int .i64 k, .int .i64 n, .string s]] w fun e w' => e = .returned (.bool (!(mayB k n s))) ∧ Below w.heap.size w w' := by
  have HI := fun w => hide (value_Is k n s w hs)
  have hB : ∀ o, Below w.heap.size w (w.alloc o) := fun o => (Below.refl _ _).alloc (Nat.le_refl _) o
  have HB := hide hB
  clear hB
  have BA := Blk3.new w 23 (.int .i64 k) (.int .i64 n) (.string s)
  obtain ⟨a0, a1, a2, fA⟩ := BA.cells
  go_enter Tryd.func42, Tryd.ntmps42
  go_wp2_with fail
  refine (unhide (HI _)).mono ?_
  rintro e w2 ⟨rfl, hb2⟩
  have HBW := hide (Below.andThen (unhide HB _) hb2)
  clear hb2
  go_wp2
  go_ret
  exact ⟨rfl, unhide HBW⟩

/-- The first that may not be. -/
def badIdx : List V → Nat → Int
  | [], _ => -1
  | v :: l, k => if mayB v.k v.n v.t = true then badIdx l (k + 1) else (k : Int)
theorem badIdx_drop {l : List V} : ∀ {k : Nat} {j : Nat}, (∀ (i : Nat) (v : V), i < k → l[i]? = some v → mayB v.k v.n v.t = true) → k ≤ l.length → badIdx l j = badIdx (l.drop k) (j + k)
  | 0, _, _, _ => by simp
  | k + 1, j, h, hk => by
    cases l with
    | nil => simp at hk
    | cons v l =>
      have h0 := h 0 v (by omega) rfl
      rw [badIdx, if_pos h0, List.drop_succ_cons, badIdx_drop (k := k) (j := j + 1) (fun i v hi hv => h (i + 1) v (by omega) (by simpa using hv)) (by simpa using hk)]
      congr 1
      omega
theorem badIdx_hit {l : List V} {k : Nat} {v : V} (h : ∀ (i : Nat) (v : V), i < k → l[i]? = some v → mayB v.k v.n v.t = true) (hv : l[k]? = some v) (hn : mayB v.k v.n v.t = false) : badIdx l 0 = (k : Int) := by
  have hk := (List.getElem?_eq_some_iff.1 hv).1
  rw [badIdx_drop h (by omega), drop_at, hv]
  simp [badIdx, hn]
theorem badIdx_none {l : List V} {k : Nat} (h : ∀ (i : Nat) (v : V), i < k → l[i]? = some v → mayB v.k v.n v.t = true) (hk : l.length = k) : badIdx l 0 = -1 := by
  rw [badIdx_drop h (by omega), List.drop_eq_nil_of_le (by omega)]
  rfl

set_option maxRecDepth 100000 in
theorem index_func (A : Option Addr) (n c : Nat) (l : List V) (w : World) (hn : n ≤ 9223372036854775807) (ht : ∀ v, v ∈ l → v.t.size ≤ 9223372036854775807) (h : Reads w 3 A n (vcells l)) :
    Calls Tryd.prog 61 #[.slice A n c, .func (Fn.func 42) #[] #[]] w fun e w' => e = .returned (.int .i64 (badIdx l 0)) ∧ Below w.heap.size w w' := by
  have HL := hide h
  have HN := hide h.vlen
  have HT := hide ht
  clear h ht
  go_enter Tryd.func61, Tryd.ntmps61
  go_wp2
  go_loopw [8] (fun i wr => ∃ k : Nat, k ≤ n ∧ i = .int .i64 k ∧ Hid (∀ (j : Nat) (v : V), j < k → l[j]? = some v → mayB v.k v.n v.t = true) ∧ Hid (Below w.heap.size w wr)) (fun i _ => n - (intOf i).toNat)
  case atStart => exact ⟨0, Nat.zero_le _, rfl, hide (fun j v hj => absurd hj (by omega)), hide (Below.refl _ _)⟩
  case round =>
    obtain ⟨k, hk, rfl, HA, HBW⟩ := hrel
    by_cases hlt : k < n
    · obtain ⟨b, o, v, rfl, hv, c0, c1, c2⟩ := ((unhide HL).below (unhide HBW)).val hlt
      have HC := fun w => hide (key_not v.k v.n v.t w ((unhide HT) v (List.mem_of_getElem? hv)))
      have HV := hide hv
      clear hv
      generalize hm : mayB v.k v.n v.t = m at HC
      have HM := hide hm
      clear hm
      cases m
      · go_wp2_with fail
        refine (unhide (HC _)).mono ?_
        rintro e w2 ⟨rfl, hb2⟩
        replace HBW := hide (Below.andThen (unhide HBW) hb2)
        clear hb2 c0 c1 c2
        go_wp2
        go_ret
        exact ⟨ret_int (badIdx_hit (unhide HA) (unhide HV) (unhide HM)).symm, unhide HBW⟩
      · go_wp2_with fail
        refine (unhide (HC _)).mono ?_
        rintro e w2 ⟨rfl, hb2⟩
        replace HBW := hide (Below.andThen (unhide HBW) hb2)
        clear hb2 c0 c1 c2
        go_wp2
        go_roundw
        case rel =>
          refine ⟨k + 1, by omega, by go_num, hide (fun j u hj hu => ?_), HBW⟩
          by_cases hjk : j < k
          · exact (unhide HA) j u hjk hu
          · have hje : j = k := by omega
            subst hje
            rw [unhide HV] at hu
            injection hu with hu
            subst hu
            exact unhide HM
        case measure => simp [intOf]; omega
    · go_wp2
      go_ret
      exact ⟨ret_int (badIdx_none (unhide HA) (by rw [unhide HN]; omega)).symm, unhide HBW⟩

def badB (l : List V) : Bool := decide (0 ≤ badIdx l 0)
theorem contains_func (A : Option Addr) (n c : Nat) (l : List V) (w : World) (hn : n ≤ 9223372036854775807) (ht : ∀ v, v ∈ l → v.t.size ≤ 9223372036854775807) (h : Reads w 3 A n (vcells l)) :
    Calls Tryd.prog 41 #[.slice A n c, .func (Fn.func 42) #[] #[]] w fun e w' => e = .returned (.bool (badB l)) ∧ Below w.heap.size w w' := by
  have HF := hide (index_func A n c l w hn ht h)
  clear h ht
  go_enter Tryd.func41, Tryd.ntmps41
  go_wp2_with fail
  refine (unhide HF).mono ?_
  rintro e w2 ⟨rfl, hb2⟩
  go_wp2
  go_ret
  exact ⟨rfl, hb2⟩
end Go.Proofs.YtpmjpbndpnmdlaaDoor

/- consistorylaw6.known: it answers true; consistoryhelp.Few: contracts. -/
import Derived.Test.YtjcpmdbgjjmcdaaDoorVal6
import Derived.Test.YtjcpmdbgjjmcdaaDoorErrCls
import Derived.Test.YtjcpmdbgjjmcdaaDoorMem
namespace Go.Proofs.YtjcpmdbgjjmcdaaDoor
open Go.RowKit

theorem do_k1 : doR 14 2 (-7) ⟨#[]⟩ 2 2 ⟨#[]⟩ = (2, -3, ⟨#[]⟩, 0) := by
  have h1 : mayB 2 (-7) ⟨#[]⟩ = true := by simp [mayB]
  have h2 : mayB 2 2 ⟨#[]⟩ = true := by simp [mayB]
  have h3 : reckonR 14 (-7) 2 = (-3, 0) := by decide
  unfold doR; rw [h1, h2, h3]; simp
theorem do_k2 : doR 15 2 1 ⟨#[]⟩ 2 0 ⟨#[]⟩ = (0, 0, ⟨#[]⟩, 7) := by
  have h1 : mayB 2 1 ⟨#[]⟩ = true := by simp [mayB]
  have h2 : mayB 2 0 ⟨#[]⟩ = true := by simp [mayB]
  have h3 : reckonR 15 1 0 = (0, 7) := by decide
  unfold doR; rw [h1, h2, h3]; simp
theorem test_k1 : testR 5 0 0 ⟨#[]⟩ 2 1 ⟨#[]⟩ = (2, 0) := by
  have h1 : mayB 0 0 ⟨#[]⟩ = true := by simp [mayB]
  have h2 : mayB 2 1 ⟨#[]⟩ = true := by simp [mayB]
  unfold testR; rw [h1, h2]; simp

set_option maxRecDepth 100000 in
set_option maxHeartbeats 1000000 in
theorem known6 (w : World) (hg : OkW w) : Calls Tryd.prog 4 #[] w fun e w' => e = .returned (.bool true) ∧ Below w.heap.size w w' := by
  have HBW := hide (Below.refl w.heap.size w)
  have HD1 := fun w => hide (value_Do 14 2 (-7) ⟨#[]⟩ 2 2 ⟨#[]⟩ w (by decide) (by decide) (by constructor <;> decide) (by constructor <;> decide))
  have HD2 := fun w => hide (value_Do 15 2 1 ⟨#[]⟩ 2 0 ⟨#[]⟩ w (by decide) (by decide) (by constructor <;> decide) (by constructor <;> decide))
  have HT := fun w => hide (value_Test 5 0 0 ⟨#[]⟩ 2 1 ⟨#[]⟩ w (by decide) (by decide))
  rw [do_k1] at HD1
  rw [do_k2] at HD2
  rw [test_k1] at HT
  go_enter Tryd.func4, Tryd.ntmps4
  go_wp2_with fail
  refine (ref6_Num _ _).mono ?_
  rintro e w1 ⟨rfl, hb1⟩
  go_wp2_with fail
  refine (ref6_Num _ _).mono ?_
  rintro e w2 ⟨rfl, hb2⟩
  go_wp2_with fail
  refine (unhide (HD1 _)).mono ?_
  rintro e w3 ⟨v3, rfl, he3, hb3⟩
  obtain rfl := he3.nil
  have BK := Blk3.new w3 23 (.int .i64 2) (.int .i64 (-3)) (.string ⟨#[]⟩)
  replace HBW := hide ((Below.andThen (Below.andThen (Below.andThen (unhide HBW) hb1) hb2) hb3).alloc (by have := hb1.size; have := hb2.size; have := hb3.size; omega) (.cells #[.int .i64 2, .int .i64 (-3), .string ⟨#[]⟩] 23))
  clear hb1 hb2 hb3 he3
  go_wp2_with fail
  refine (ref6_Num _ _).mono ?_
  rintro e w4 ⟨rfl, hb4⟩
  replace BK := BK.below hb4
  replace HBW := hide (Below.andThen (unhide HBW) hb4)
  clear hb4
  go_wp2_with fail
  refine (unhide (HT _)).mono ?_
  rintro e w5 ⟨v5, rfl, he5, hb5⟩
  obtain rfl := he5.nil
  replace BK := BK.below hb5
  replace HBW := hide (Below.andThen (unhide HBW) hb5)
  clear hb5 he5
  go_wp2_with fail
  refine (ref6_Num _ _).mono ?_
  rintro e w6 ⟨rfl, hb6⟩
  replace BK := BK.below hb6
  replace HBW := hide (Below.andThen (unhide HBW) hb6)
  clear hb6
  go_wp2_with fail
  refine (ref6_Num _ _).mono ?_
  rintro e w7 ⟨rfl, hb7⟩
  replace BK := BK.below hb7
  replace HBW := hide (Below.andThen (unhide HBW) hb7)
  clear hb7
  go_wp2_with fail
  refine (unhide (HD2 _)).mono ?_
  rintro e w8 ⟨v8, rfl, he8, hb8⟩
  replace BK := BK.below hb8
  replace HBW := hide (Below.andThen (unhide HBW) hb8)
  clear hb8
  replace BK := BK.alloc (.cells #[.int .i64 0, .int .i64 0, .string ⟨#[]⟩] 23)
  obtain ⟨c0, c1, c2, fC⟩ := BK.cells
  obtain ⟨d, hE⟩ : ∃ d, ErrV w8 d v8 7 := he8.resolve_left (fun h => absurd h.1 (by decide)) |>.2
  have hal : Below w8.heap.size w8 (w8.alloc (.cells #[.int .i64 0, .int .i64 0, .string ⟨#[]⟩] 23)) := (Below.refl _ _).alloc (Nat.le_refl _) _
  have HC := hide (Class_err d v8 7 _ ((hg.below (unhide HBW)).alloc (.cells #[.int .i64 0, .int .i64 0, .string ⟨#[]⟩] 23)) (hE.below hal))
  replace HBW := hide (Below.andThen (unhide HBW) hal)
  clear hal he8 hE
  go_wp2_with fail
  refine (unhide HC).mono ?_
  rintro e w9 ⟨rfl, hb9⟩
  replace HBW := hide (Below.andThen (unhide HBW) hb9)
  go_wp2
  go_ret
  exact ⟨rfl, unhide HBW⟩

/-- consistoryhelp.Few: whether the texts are short, and the values few. -/
def fewB (l : List V) (many : Int) : Bool := (l.all fun v => decide (v.t.size ≤ 100)) && decide ((l.length : Int) ≤ many)

theorem fewB_long {l : List V} {i : Nat} {v : V} {many : Int} (h : l[i]? = some v) (hv : 100 < v.t.size) : fewB l many = false := by
  have : (l.all fun v => decide (v.t.size ≤ 100)) = false := by
    rw [List.all_eq_false]
    exact ⟨v, List.mem_of_getElem? h, by simp; omega⟩
  rw [fewB, this]; rfl
theorem fewB_short {l : List V} {many : Int} (h : ∀ (i : Nat) (v : V), l[i]? = some v → v.t.size ≤ 100) : fewB l many = decide ((l.length : Int) ≤ many) := by
  have : (l.all fun v => decide (v.t.size ≤ 100)) = true := by
    rw [List.all_eq_true]
    intro v hv
    obtain ⟨i, hi⟩ := List.getElem?_of_mem hv
    simpa using h i v hi
  rw [fewB, this]; rfl

set_option maxRecDepth 100000 in
theorem help_Few (A : Option Addr) (n c : Nat) (l : List V) (many : Int) (w : World) (hn : n ≤ 9223372036854775807) (hl : Reads w 3 A n (vcells l)) (ht : ∀ (i : Nat) (v : V), l[i]? = some v → v.t.size ≤ 9223372036854775807) :
    Calls Tryd.prog 5 #[.slice A n c, .int .i64 many] w fun e w' => e = .returned (.bool (fewB l many)) ∧ w = w' := by
  have HL := hide hl
  have HN := hide hl.vlen
  have HT := hide ht
  clear hl ht
  go_enter Tryd.func5, Tryd.ntmps5
  go_wp2
  go_loop [5] (fun i => ∃ k : Nat, k ≤ n ∧ i = .int .i64 k ∧ ∀ (j : Nat) (v : V), j < k → l[j]? = some v → v.t.size ≤ 100) (fun i => n - (intOf i).toNat)
  case atStart => exact ⟨0, Nat.zero_le _, rfl, fun j v hj => absurd hj (by omega)⟩
  case round =>
    obtain ⟨k, hk, rfl, hall⟩ := hrel
    have HA := hide hall
    clear hall
    by_cases hlt : k < n
    · obtain ⟨b, o, v, rfl, hv, c0, c1, c2⟩ := (unhide HL).val hlt
      have htv := (unhide HT) k v hv
      have HV := hide hv
      clear hv
      go_wp2
      · go_ret
        refine ⟨ret_bool ?_, rfl⟩
        rw [fewB_long (unhide HV) (by omega)]
      · go_round
        case rel =>
          refine ⟨k + 1, by omega, by go_num, fun j v' hj hv' => ?_⟩
          by_cases hjk : j < k
          · exact (unhide HA) j v' hjk hv'
          · have hje : j = k := by omega
            subst hje
            rw [unhide HV] at hv'
            injection hv' with hv'
            subst hv'
            omega
        case measure => simp [intOf]; omega
    · go_wp2
      go_ret
      refine ⟨ret_bool ?_, rfl⟩
      have hkn : k = n := by omega
      subst hkn
      rw [fewB_short (fun i v h => (unhide HA) i v (by have := (List.getElem?_eq_some_iff.1 h).1; rw [unhide HN] at this; exact this) h), unhide HN]
end Go.Proofs.YtjcpmdbgjjmcdaaDoor

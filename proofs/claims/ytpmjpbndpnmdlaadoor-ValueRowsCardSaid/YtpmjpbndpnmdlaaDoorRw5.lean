/- consistoryref6.Rows: contract. -/
import Derived.Test.YtpmjpbndpnmdlaaDoorRw2
import Derived.Test.YtpmjpbndpnmdlaaDoorRw4
import Derived.BigQuiet
import Derived.Deep.RegionHeld3
set_option linter.all false
namespace Go.Proofs.YtpmjpbndpnmdlaaDoor
open Go.RowKit

set_option maxRecDepth 100000 in
theorem ref6_Rows (A : Option Addr) (n c : Nat) (A' : Option Addr) (n' c' : Nat) (l l' : List V) (w : World) (hn : n ≤ 9223372036854775807) (hn' : n' ≤ 9223372036854775807)
    (ht : ∀ v, v ∈ l → v.t.size ≤ 9223372036854775807) (ht' : ∀ v, v ∈ l' → v.t.size ≤ 9223372036854775807)
    (h : Reads w 3 A n (vcells l)) (h' : Reads w 3 A' n' (vcells l')) :
    Calls Tryd.prog 27 #[.slice A n c, .slice A' n' c'] w fun e w' => e = .returned (.int .i64 (rowsV l l')) ∧ Below w.heap.size w w' := by
  have HL := hide h
  have HL' := hide h'
  have HN := hide h.vlen
  have HN' := hide h'.vlen
  have HT := hide ht
  have HT' := hide ht'
  have hO := fun a b w => hide (ref6_order a b w)
  clear h h' ht ht'
  go_enter Tryd.func27, Tryd.ntmps27
  go_wp2
  go_loopw [5] (fun i wr => ∃ k : Nat, k ≤ n ∧ k ≤ n' ∧ i = .int .i64 k ∧ Hid (∀ (j : Nat) (v v' : V), j < k → l[j]? = some v → l'[j]? = some v' → compareV v.k v.n v.t v'.k v'.n v'.t = 0) ∧ Hid (Below w.heap.size w wr)) (fun i _ => n - (intOf i).toNat)
  case atStart => exact ⟨0, Nat.zero_le _, Nat.zero_le _, rfl, hide (fun j v v' hj => absurd hj (by omega)), hide (Below.refl _ _)⟩
  case round =>
    obtain ⟨k, hk, hk', rfl, HA, HBW⟩ := hrel
    by_cases hlt : k < n
    · obtain ⟨b, o, v, rfl, hv, c0, c1, c2⟩ := ((unhide HL).below (unhide HBW)).val hlt
      by_cases hlt' : k < n'
      · obtain ⟨b', o', v', rfl, hv', d0, d1, d2⟩ := ((unhide HL').below (unhide HBW)).val hlt'
        have HC := fun w => hide (ref6_Compare v.k v.n v.t v'.k v'.n v'.t w ((unhide HT) v (List.mem_of_getElem? hv)) ((unhide HT') v' (List.mem_of_getElem? hv')))
        have HV := hide hv
        have HV' := hide hv'
        clear hv hv'
        generalize hcv : compareV v.k v.n v.t v'.k v'.n v'.t = cv at HC
        have HCV := hide hcv
        clear hcv
        have e0 : b < wr.drew.heap.size := lt_of_cell c0
        have e1 : b' < wr.drew.heap.size := lt_of_cell d0
        have KS : ∀ W4, Below wr.drew.heap.size wr.drew W4 → (W4.cell? ⟨b, o + k * 3, none⟩ = some (.int .i64 v.k) ∧ W4.cell? ⟨b, o + k * 3 + 1, none⟩ = some (.int .i64 v.n) ∧ W4.cell? ⟨b, o + k * 3 + 2, none⟩ = some (.string v.t) ∧ W4.cell? ⟨b', o' + k * 3, none⟩ = some (.int .i64 v'.k) ∧ W4.cell? ⟨b', o' + k * 3 + 1, none⟩ = some (.int .i64 v'.n) ∧ W4.cell? ⟨b', o' + k * 3 + 2, none⟩ = some (.string v'.t)) := fun W4 hb =>
          ⟨(hb.cell (p := ⟨_, _, none⟩) e0).trans c0, (hb.cell (p := ⟨_, _, none⟩) e0).trans c1, (hb.cell (p := ⟨_, _, none⟩) e0).trans c2, (hb.cell (p := ⟨_, _, none⟩) e1).trans d0, (hb.cell (p := ⟨_, _, none⟩) e1).trans d1, (hb.cell (p := ⟨_, _, none⟩) e1).trans d2⟩
        replace KS := hide KS
        clear e0 e1
        by_cases hc0 : cv = 0
        · subst hc0
          go_wp2_with fail
          go_region_held3 (fun w' => w'.cell? ⟨b, o + k * 3, none⟩ = some (.int .i64 v.k) ∧ w'.cell? ⟨b, o + k * 3 + 1, none⟩ = some (.int .i64 v.n) ∧ w'.cell? ⟨b, o + k * 3 + 2, none⟩ = some (.string v.t) ∧ w'.cell? ⟨b', o' + k * 3, none⟩ = some (.int .i64 v'.k) ∧ w'.cell? ⟨b', o' + k * 3 + 1, none⟩ = some (.int .i64 v'.n) ∧ w'.cell? ⟨b', o' + k * 3 + 2, none⟩ = some (.string v'.t))
            (first | exact ⟨c0, c1, c2, d0, d1, d2⟩ | exact (unhide KS) _ hb2)
            (first | (go_at_call 47; refine (unhide (HC _)).mono ?_; rintro e w2 ⟨rfl, hb2⟩))
          clear KS
          have hb2' : Below wr.heap.size wr w2 := (Below.refl _ _).drew.trans hb2
          replace HBW := hide (Below.andThen (unhide HBW) hb2')
          clear hb2 hb2' c0 c1 c2 d0 d1 d2
          go_wp2
          go_roundw
          case rel =>
            refine ⟨k + 1, by omega, by omega, by go_num, hide (fun j v₁ v₂ hj h₁ h₂ => ?_), HBW⟩
            by_cases hjk : j < k
            · exact (unhide HA) j v₁ v₂ hjk h₁ h₂
            · have hje : j = k := by omega
              subst hje
              rw [unhide HV] at h₁
              rw [unhide HV'] at h₂
              injection h₁ with h₁
              injection h₂ with h₂
              subst h₁ h₂
              exact unhide HCV
          case measure => simp [intOf]; omega
        · have hcb : (cv == 0) = false := by simpa using hc0
          have HC0 := hide hc0
          clear hc0
          go_wp2_with fail
          go_region_held3 (fun w' => w'.cell? ⟨b, o + k * 3, none⟩ = some (.int .i64 v.k) ∧ w'.cell? ⟨b, o + k * 3 + 1, none⟩ = some (.int .i64 v.n) ∧ w'.cell? ⟨b, o + k * 3 + 2, none⟩ = some (.string v.t) ∧ w'.cell? ⟨b', o' + k * 3, none⟩ = some (.int .i64 v'.k) ∧ w'.cell? ⟨b', o' + k * 3 + 1, none⟩ = some (.int .i64 v'.n) ∧ w'.cell? ⟨b', o' + k * 3 + 2, none⟩ = some (.string v'.t))
            (first | exact ⟨c0, c1, c2, d0, d1, d2⟩ | exact (unhide KS) _ hb2)
            (first | (go_at_call 47; refine (unhide (HC _)).mono ?_; rintro e w2 ⟨rfl, hb2⟩))
          clear KS
          have hb2' : Below wr.heap.size wr w2 := (Below.refl _ _).drew.trans hb2
          replace HBW := hide (Below.andThen (unhide HBW) hb2')
          clear hb2 hb2' c0 c1 c2 d0 d1 d2
          go_wp2
          go_ret
          refine ⟨ret_int ?_, unhide HBW⟩
          rw [rowsV_both (unhide HA) (by rw [unhide HN]; omega) (by rw [unhide HN']; omega) (unhide HV) (unhide HV') (by rw [unhide HCV]; exact unhide HC0)]
          exact (unhide HCV).symm
      · go_wp2_with (go_at_call 48; refine (unhide (hO _ _ _)).mono ?_; rintro e w' ⟨rfl, rfl⟩)
        go_ret
        refine ⟨ret_int ?_, unhide HBW⟩
        rw [rowsV_more (unhide HA) (by rw [unhide HN]; exact hlt) (by rw [unhide HN']; omega)]
        try simp [show ¬ (n : Int) < (n' : Int) by omega, show (n' : Int) < (n : Int) by omega]
    · by_cases hlt' : n < n'
      · go_wp2_with (go_at_call 48; refine (unhide (hO _ _ _)).mono ?_; rintro e w' ⟨rfl, rfl⟩)
        go_ret
        refine ⟨ret_int ?_, unhide HBW⟩
        rw [rowsV_less (unhide HA) (by rw [unhide HN]; omega) (by rw [unhide HN']; omega)]
        try simp [show (n : Int) < (n' : Int) by omega]
      · go_wp2_with (go_at_call 48; refine (unhide (hO _ _ _)).mono ?_; rintro e w' ⟨rfl, rfl⟩)
        go_ret
        refine ⟨ret_int ?_, unhide HBW⟩
        rw [rowsV_end (unhide HA) (by rw [unhide HN]; omega) (by rw [unhide HN']; omega)]
        try simp [show ¬ (n : Int) < (n' : Int) by omega, show ¬ (n' : Int) < (n : Int) by omega]
end Go.Proofs.YtpmjpbndpnmdlaaDoor

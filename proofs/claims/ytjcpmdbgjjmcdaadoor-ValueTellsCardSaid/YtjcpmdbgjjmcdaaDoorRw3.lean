/- The document's side: consistoryref1.plain, Is; consistoryref6.Compare, Rows: contracts. -/
import Derived.Test.YtjcpmdbgjjmcdaaDoorRw1
import Derived.Laws.Runes
set_option linter.all false
namespace Go.Proofs.YtjcpmdbgjjmcdaaDoor
open Go.RowKit

def plainB (s : ByteArray) : Bool := s.data.toList.all fun b => !(b == 0)

theorem plainB_mayB (s : ByteArray) : decide (firstIdx s 0 < 0) = plainB s := by
  have := firstIdx_nonneg s 0
  unfold plainB
  rw [show (fun b : UInt8 => !(b == 0)) = (fun b : UInt8 => !((fun b : UInt8 => b == 0) b)) from rfl]
  rw [← List.not_any_eq_all_not, ← this]
  by_cases h : 0 ≤ firstIdx s 0
  · simp [h] <;> omega
  · simp [h] <;> omega

set_option maxRecDepth 100000 in
theorem ref1_plain (s : ByteArray) (w : World) (hs : s.size ≤ 9223372036854775807) : Calls Tryd.prog 19 #[.string s] w fun e w' => e = .returned (.bool (plainB s)) ∧ w = w' := by
  go_enter Tryd.func19, Tryd.ntmps19
  go_wp2
  go_loop [3] (fun i => ∃ k : Nat, k ≤ s.size ∧ i = .int .i64 k ∧ ∀ (j : Nat) (b : UInt8), j < k → s.data.toList[j]? = some b → b ≠ 0) (fun i => s.size - (intOf i).toNat)
  case atStart => exact ⟨0, Nat.zero_le _, rfl, fun j v hj => absurd hj (by omega)⟩
  case round =>
    obtain ⟨k, hk, rfl, hall⟩ := hrel
    have HA := hide hall
    clear hall
    by_cases hlt : k < s.size
    · have hget : s.data.toList[k]? = some s[k] := by
        rw [List.getElem?_eq_getElem (by simpa using hlt)]; rfl
      have HG := hide hget
      clear hget
      go_wp2
      · have hz : ((s[k].toNat : Int) == 0) = true := by assumption
        go_ret
        refine ⟨ret_bool ?_, rfl⟩
        unfold plainB
        symm
        rw [List.all_eq_false]
        refine ⟨s[k], List.mem_of_getElem? (unhide HG), ?_⟩
        have : s[k].toNat = 0 := by simpa using hz
        have : s[k] = 0 := UInt8.toNat_inj.1 (by simpa using this)
        simp [this]
      · have hz : ((s[k].toNat : Int) == 0) = false := by assumption
        go_round
        case rel =>
          refine ⟨k + 1, by omega, by go_num, fun j b hj hb => ?_⟩
          by_cases hjk : j < k
          · exact (unhide HA) j b hjk hb
          · have hje : j = k := by omega
            subst hje
            rw [unhide HG] at hb
            injection hb with hb
            subst hb
            intro h0
            rw [h0] at hz
            simp at hz
        case measure => simp [intOf]; omega
    · go_wp2
      go_ret
      refine ⟨ret_bool ?_, rfl⟩
      unfold plainB
      symm
      rw [List.all_eq_true]
      intro b hb
      obtain ⟨j, hj⟩ := List.getElem?_of_mem hb
      have hl := (List.getElem?_eq_some_iff.1 hj).1
      have := (unhide HA) j b (by simp at hl; have : s.data.size = s.size := rfl; omega) hj
      simpa using this

theorem ref1_Is (k n : Int) (s : ByteArray) (w : World) (hs : s.size ≤ 9223372036854775807) :
    Calls Tryd.prog 7 #[.agg #[.int .i64 k, .int .i64 n, .string s]] w fun e w' => e = .returned (.bool (mayB k n s)) ∧ Below w.heap.size w w' := by
  have hB : ∀ o, Below w.heap.size w (w.alloc o) := fun o => (Below.refl _ _).alloc (Nat.le_refl _) o
  have HB := Lib.hid hB
  clear hB
  have HP := fun w => hide (ref1_plain s w hs)
  go_enter Tryd.func7, Tryd.ntmps7
  go_wp2_with (go_at_call 19; refine (unhide (HP _)).mono ?_; rintro e w' ⟨rfl, rfl⟩)
  all_goals (go_ret; refine ⟨?_, HB.out _⟩)
  all_goals simp_all [mayB, plainB_mayB]
  all_goals (intros; omega)

end Go.Proofs.YtjcpmdbgjjmcdaaDoor

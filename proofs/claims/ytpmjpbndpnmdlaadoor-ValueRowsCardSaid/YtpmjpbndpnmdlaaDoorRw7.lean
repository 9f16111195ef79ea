/- value.big: contract. -/
import Derived.Test.YtpmjpbndpnmdlaaDoorRw6
set_option linter.all false
namespace Go.Proofs.YtpmjpbndpnmdlaaDoor
open Go.RowKit

/-- A number's eight bytes, the highest first. -/
def bigI (n : Int) (j : Nat) : Int := n / 2 ^ (56 - 8 * j) % 256
def cells8 (f : Nat → Int) : Array Value := ((List.range 8).map fun j => Value.int .u8 (f j)).toArray
theorem set8 {W : World} {g k : Nat} {t : TypeId} {f : Nat → Int} (x : Int) (h : W.heap[g]? = some (.cells (cells8 f) t (0, 0))) (hk : k < 8) :
    (W.setCell ⟨g, k, none⟩ (.int .u8 x)).heap[g]? = some (.cells (cells8 fun j => if j = k then x else f j) t (0, 0)) := by
  have hk' : k = 0 ∨ k = 1 ∨ k = 2 ∨ k = 3 ∨ k = 4 ∨ k = 5 ∨ k = 6 ∨ k = 7 := by omega
  simp only [World.setCell, Array.getElem?_modify, if_true, h, Option.map_some]
  rcases hk' with rfl | rfl | rfl | rfl | rfl | rfl | rfl | rfl <;> rfl
theorem make8 (w : World) : (Instr.makeSlice 49 (.int .i64 8) (.int .i64 8)).run Tryd.prog w = .ok (.slice (some ⟨w.heap.size, 0, none⟩) 8 8) (w.alloc (.cells #[.int .u8 0, .int .u8 0, .int .u8 0, .int .u8 0, .int .u8 0, .int .u8 0, .int .u8 0, .int .u8 0] 5)) := by kernel_rfl
theorem step8 {n : Int} {f : Nat → Int} {k : Nat} (hf : ∀ j, j < k → f j = bigI n j) : ∀ j, j < k + 1 → (if j = k then bigI n k else f j) = bigI n j := fun j hj => by
  by_cases h : j = k
  · subst h; simp
  · rw [if_neg h]; exact hf j (by omega)
theorem big_step {n : Int} {w wr W : World} {f : Nat → Int} {k : Nat} {x : Int} (hk : k < 8) (hf : wr.heap[w.heap.size]? = some (.cells (cells8 f) 5 (0, 0))) (hv : ∀ j, j < k → f j = bigI n j) (hb : Below w.heap.size w wr) (hx : x = bigI n k)
    (hW : W = wr.setCell ⟨w.heap.size, k, none⟩ (.int .u8 x)) : ∃ f : Nat → Int, W.heap[w.heap.size]? = some (.cells (cells8 f) 5 (0, 0)) ∧ (∀ j, j < k + 1 → f j = bigI n j) ∧ Below w.heap.size w W := by
  subst hW hx
  exact ⟨_, set8 (bigI n k) hf hk, step8 hv, hb.setCell (p := ⟨w.heap.size, k, none⟩) (Nat.le_refl _) _⟩
set_option maxRecDepth 100000 in
set_option maxHeartbeats 1000000 in
theorem value_big (n : Int) (w : World) (h0 : 0 ≤ n) (h1 : n < 18446744073709551616) :
    Calls Tryd.prog 43 #[.int .u64 n] w fun e w' => e = .returned (.slice (some ⟨w.heap.size, 0, none⟩) 8 8) ∧ w'.heap[w.heap.size]? = some (.cells (cells8 (bigI n)) 5 (0, 0)) ∧ Below w.heap.size w w' := by
  have hm := make8
  have hal : ∀ o, Below w.heap.size w (w.alloc o) := fun o => (Below.refl _ _).alloc (Nat.le_refl _) o
  have HAL := hide hal
  clear hal
  go_enter Tryd.func43, Tryd.ntmps43
  go_wp2
  go_loopw [6] (fun i wr => ∃ k : Nat, k ≤ 8 ∧ i = .int .i64 k ∧ ∃ f : Nat → Int, wr.heap[w.heap.size]? = some (.cells (cells8 f) 5 (0, 0)) ∧ (∀ j, j < k → f j = bigI n j) ∧ Below w.heap.size w wr) (fun i _ => 8 - (intOf i).toNat)
  case atStart => exact ⟨0, by omega, rfl, fun _ => 0, by (show (w.heap.push _)[w.heap.size]? = _); rw [Array.getElem?_push_size]; rfl, fun j hj => absurd hj (by omega), unhide HAL _⟩
  case round =>
    obtain ⟨k, hk, rfl, f, hf, hv, hb⟩ := hrel
    have hc : ∀ j, j < 8 → wr.cell? ⟨w.heap.size, j, none⟩ = some (.int .u8 (f j)) ∧ wr.frozen? ⟨w.heap.size, j, none⟩ = false := fun j hj => by
      simp [World.cell?, World.frozen?, hf, hj, cells8]
    have HF := hide hf
    have HV := hide hv
    have HB := hide hb
    clear hf hv hb
    have hk' : k = 0 ∨ k = 1 ∨ k = 2 ∨ k = 3 ∨ k = 4 ∨ k = 5 ∨ k = 6 ∨ k = 7 ∨ k = 8 := by omega
    rcases hk' with rfl | rfl | rfl | rfl | rfl | rfl | rfl | rfl | rfl
    · obtain ⟨c0, f0⟩ := hc 0 (by decide)
      clear hc
      go_wp2
      refine ⟨⟨0 + 1, by omega, rfl, big_step (k := 0) (by decide) (unhide HF) (unhide HV) (unhide HB) (by unfold bigI; simp; try omega) rfl⟩, by simp [intOf]⟩
    · obtain ⟨c0, f0⟩ := hc 1 (by decide)
      clear hc
      go_wp2
      refine ⟨⟨1 + 1, by omega, rfl, big_step (k := 1) (by decide) (unhide HF) (unhide HV) (unhide HB) (by unfold bigI; simp; try omega) rfl⟩, by simp [intOf]⟩
    · obtain ⟨c0, f0⟩ := hc 2 (by decide)
      clear hc
      go_wp2
      refine ⟨⟨2 + 1, by omega, rfl, big_step (k := 2) (by decide) (unhide HF) (unhide HV) (unhide HB) (by unfold bigI; simp; try omega) rfl⟩, by simp [intOf]⟩
    · obtain ⟨c0, f0⟩ := hc 3 (by decide)
      clear hc
      go_wp2
      refine ⟨⟨3 + 1, by omega, rfl, big_step (k := 3) (by decide) (unhide HF) (unhide HV) (unhide HB) (by unfold bigI; simp; try omega) rfl⟩, by simp [intOf]⟩
    · obtain ⟨c0, f0⟩ := hc 4 (by decide)
      clear hc
      go_wp2
      refine ⟨⟨4 + 1, by omega, rfl, big_step (k := 4) (by decide) (unhide HF) (unhide HV) (unhide HB) (by unfold bigI; simp; try omega) rfl⟩, by simp [intOf]⟩
    · obtain ⟨c0, f0⟩ := hc 5 (by decide)
      clear hc
      go_wp2
      refine ⟨⟨5 + 1, by omega, rfl, big_step (k := 5) (by decide) (unhide HF) (unhide HV) (unhide HB) (by unfold bigI; simp; try omega) rfl⟩, by simp [intOf]⟩
    · obtain ⟨c0, f0⟩ := hc 6 (by decide)
      clear hc
      go_wp2
      refine ⟨⟨6 + 1, by omega, rfl, big_step (k := 6) (by decide) (unhide HF) (unhide HV) (unhide HB) (by unfold bigI; simp; try omega) rfl⟩, by simp [intOf]⟩
    · obtain ⟨c0, f0⟩ := hc 7 (by decide)
      clear hc
      go_wp2
      refine ⟨⟨7 + 1, by omega, rfl, big_step (k := 7) (by decide) (unhide HF) (unhide HV) (unhide HB) (by unfold bigI; simp; try omega) rfl⟩, by simp [intOf]⟩
    · clear hc
      go_wp2
      go_ret
      refine ⟨rfl, ?_, unhide HB⟩
      have e : cells8 f = cells8 (bigI n) := by
        unfold cells8
        congr 1
        exact List.map_congr_left fun j hj => by rw [(unhide HV) j (by simpa using hj)]
      rw [← e]
      exact unhide HF
end Go.Proofs.YtpmjpbndpnmdlaaDoor

/- consistorylaw6.ValueNumbers: the plain law joined to the walks. -/
import Derived.Test.YtpmjpbndpnmdlaaDoorLNumbers
import Derived.Test.YtpmjpbndpnmdlaaDoorLNumbers2
import Derived.Test.YtpmjpbndpnmdlaaDoorLNumbers3
import Derived.Test.YtpmjpbndpnmdlaaDoorLNumbers4
import Derived.Test.YtpmjpbndpnmdlaaDoorLNumbers5
namespace Go.Proofs.YtpmjpbndpnmdlaaDoor
open Go.RowKit

theorem do_fits (op a b n : Int) (h : 11 ≤ op ∧ op ≤ 15) (ha : In64 a) (hb : In64 b) (hr : reckonR op a b = (n, 0)) (w : World) :
    Calls Tryd.prog 17 #[.int .i64 op, .agg #[.int .i64 2, .int .i64 a, .string ⟨#[]⟩], .agg #[.int .i64 2, .int .i64 b, .string ⟨#[]⟩]] w (DPost w (2, n, ⟨#[]⟩, 0)) := by
  have := do_nums a b h ha hb hr w
  rwa [if_pos rfl] at this
theorem do_fails (op a b n c : Int) (h : 11 ≤ op ∧ op ≤ 15) (ha : In64 a) (hb : In64 b) (hr : reckonR op a b = (n, c)) (hc : c ≠ 0) (w : World) :
    Calls Tryd.prog 17 #[.int .i64 op, .agg #[.int .i64 2, .int .i64 a, .string ⟨#[]⟩], .agg #[.int .i64 2, .int .i64 b, .string ⟨#[]⟩]] w (DPost w (0, 0, ⟨#[]⟩, c)) := by
  have := do_nums a b h ha hb hr w
  rwa [if_neg hc] at this

theorem quot_in {a b : Int} (ha : In64 a) (hz : b ≠ 0) (ho : ¬ (a = -9223372036854775808 ∧ b = -1)) : In64 (a.tdiv b) := by
  have hq : (a.tdiv b).natAbs = a.natAbs / b.natAbs := Int.natAbs_tdiv a b
  have hn : b.natAbs ≠ 0 := by omega
  have hle : a.natAbs / b.natAbs ≤ a.natAbs := Nat.div_le_self _ _
  unfold In64 at *
  by_cases h1 : b = -1
  · subst h1
    have : a.tdiv (-1) = -a := by rw [Int.tdiv_neg, Int.tdiv_one]
    rw [this]; omega
  · by_cases h2 : b = 1
    · subst h2; rw [Int.tdiv_one]; exact ha
    · have : a.natAbs / b.natAbs ≤ a.natAbs / 2 := Nat.div_le_div_left (by omega) (by decide)
      omega
theorem rest_sign {a b : Int} : (0 ≤ a → 0 ≤ a.tmod b ∧ a.tmod b ≤ a) ∧ (a < 0 → a ≤ a.tmod b ∧ a.tmod b ≤ 0) := by
  have hm := Int.natAbs_tmod a b
  have hle : a.natAbs % b.natAbs ≤ a.natAbs := Nat.mod_le _ _
  refine ⟨fun h => ?_, fun h => ?_⟩
  · have h1 := Int.tmod_nonneg b h
    omega
  · have h1 := Int.tmod_nonneg b (show 0 ≤ -a by omega)
    rw [Int.neg_tmod] at h1
    omega

theorem numbers_walk (a b : Int) (w : World) (hg : OkW w) (ha : In64 a) (hb : In64 b) :
    Calls Tryd.prog 4 #[.int .i64 a, .int .i64 b] w fun e w' => e = .returned (.bool true) ∧ Below w.heap.size w w' := by
  by_cases hz : b = 0
  · subst hz
    have h1 : In64 (a + 0) := by rw [Int.add_zero]; exact ha
    exact numbers_z a 0 (a * 0) w hg h1.1 h1.2 rfl
      (fun w => do_fits 11 a 0 _ (by decide) ha hb (fit_in h1) w)
      (fun w => do_fits 12 _ 0 _ (by decide) h1 hb (by show fit (a + 0 - 0) = _; rw [show a + 0 - 0 = a by omega]; exact fit_in ha) w)
      (fun w => do_fits 13 a 0 _ (by decide) ha hb (fit_in (by rw [Int.mul_zero]; constructor <;> decide)) w)
      (fun w => do_fails 14 a 0 0 7 (by decide) ha hb rfl (by decide) w)
      (fun w => do_fails 15 a 0 0 7 (by decide) ha hb rfl (by decide) w)
  have fz : (b == 0) = false := by simpa using hz
  by_cases ho : a = -9223372036854775808 ∧ b = -1
  · obtain ⟨rfl, rfl⟩ := ho
    exact numbers_over _ _ 0 w hg rfl rfl rfl
      (fun w => do_fails 11 _ _ 0 6 (by decide) ha hb rfl (by decide) w)
      (fun w => do_fails 13 _ _ 0 6 (by decide) ha hb rfl (by decide) w)
      (fun w => do_fails 14 _ _ 0 6 (by decide) ha hb rfl (by decide) w)
      (fun w => do_fits 15 _ _ 0 (by decide) ha hb rfl w)
  have hq := quot_in ha hz ho
  obtain ⟨r1, r2⟩ := @rest_sign a b
  have he : a.tdiv b * b + a.tmod b = a := by rw [Int.mul_comm]; exact Int.mul_tdiv_add_tmod a b
  have D14 := fun w => do_fits 14 a b (a.tdiv b) (by decide) ha hb (by show (if b = 0 then (0, 7) else fit (a.tdiv b)) = _; rw [if_neg hz]; exact fit_in hq) w
  have D15 := fun w => do_fits 15 a b (a.tmod b) (by decide) ha hb (by show (if b = 0 then ((0 : Int), (7 : Int)) else (a.tmod b, 0)) = _; rw [if_neg hz]) w
  generalize a.tdiv b = q at *
  generalize a.tmod b = m at *
  have ha1 := ha.1
  have ha2 := ha.2
  have q1 : -9223372036854775808 ≤ q * b := by omega
  have q2 : q * b ≤ 9223372036854775807 := by omega
  have q3 : -9223372036854775808 ≤ q * b + m := by omega
  have q4 : q * b + m ≤ 9223372036854775807 := by omega
  have fq : (q * b + m == a) = true := by simpa using he
  have fs : ¬ m = 0 → ((decide (m < 0)) == (decide (a < 0))) = true := fun h => by
    by_cases h0 : a < 0
    · simp [h0, show m < 0 by omega]
    · simp [h0, show ¬ m < 0 by omega]
  have D11 : In64 (a + b) → ∀ w, _ := fun h w => do_fits 11 a b _ (by decide) ha hb (fit_in h) w
  have D12 : In64 (a + b) → ∀ w, _ := fun h w => do_fits 12 (a + b) b a (by decide) h hb (by show fit (a + b - b) = _; rw [show a + b - b = a by omega]; exact fit_in ha) w
  have D11n : ¬ In64 (a + b) → ∀ w, _ := fun h w => do_fails 11 a b _ _ (by decide) ha hb (fit_out h) (by decide) w
  have D13 : In64 (a * b) → ∀ w, _ := fun h w => do_fits 13 a b _ (by decide) ha hb (fit_in h) w
  have D14p : In64 (a * b) → ∀ w, _ := fun h w => do_fits 14 (a * b) b a (by decide) h hb (by show (if b = 0 then (0, 7) else fit ((a * b).tdiv b)) = _; rw [if_neg hz, Int.mul_tdiv_cancel a hz]; exact fit_in ha) w
  have D13n : ¬ In64 (a * b) → ∀ w, _ := fun h w => do_fails 13 a b _ _ (by decide) ha hb (fit_out h) (by decide) w
  have fb : a = -9223372036854775808 → (b == -1) = false := fun h => by simpa using fun hb => ho ⟨h, hb⟩
  by_cases hs : In64 (a + b) <;> by_cases hp : In64 (a * b) <;> by_cases hm : a = -9223372036854775808 <;> by_cases h0 : m = 0
  · exact numbers_ff10 a b (a * b) q m w hg hs.1 hs.2 fz (by simpa using hm) (fb hm) q1 q2 q3 q4 fq (by simpa using h0) (D11 hs) (D12 hs) (D13 hp) (D14p hp) D14 D15
  · exact numbers_ff11 a b (a * b) q m w hg hs.1 hs.2 fz (by simpa using hm) (fb hm) q1 q2 q3 q4 fq (by simpa using h0) (fs h0) (D11 hs) (D12 hs) (D13 hp) (D14p hp) D14 D15
  · exact numbers_ff00 a b (a * b) q m w hg hs.1 hs.2 fz (by simpa using hm) q1 q2 q3 q4 fq (by simpa using h0) (D11 hs) (D12 hs) (D13 hp) (D14p hp) D14 D15
  · exact numbers_ff01 a b (a * b) q m w hg hs.1 hs.2 fz (by simpa using hm) q1 q2 q3 q4 fq (by simpa using h0) (fs h0) (D11 hs) (D12 hs) (D13 hp) (D14p hp) D14 D15
  · exact numbers_fn10 a b q m w hg hs.1 hs.2 fz (by simpa using hm) (fb hm) q1 q2 q3 q4 fq (by simpa using h0) (D11 hs) (D12 hs) (D13n hp) D14 D15
  · exact numbers_fn11 a b q m w hg hs.1 hs.2 fz (by simpa using hm) (fb hm) q1 q2 q3 q4 fq (by simpa using h0) (fs h0) (D11 hs) (D12 hs) (D13n hp) D14 D15
  · exact numbers_fn00 a b q m w hg hs.1 hs.2 fz (by simpa using hm) q1 q2 q3 q4 fq (by simpa using h0) (D11 hs) (D12 hs) (D13n hp) D14 D15
  · exact numbers_fn01 a b q m w hg hs.1 hs.2 fz (by simpa using hm) q1 q2 q3 q4 fq (by simpa using h0) (fs h0) (D11 hs) (D12 hs) (D13n hp) D14 D15
  · exact numbers_nf10 a b (a * b) q m w hg fz (by simpa using hm) (fb hm) q1 q2 q3 q4 fq (by simpa using h0) (D11n hs) (D13 hp) (D14p hp) D14 D15
  · exact numbers_nf11 a b (a * b) q m w hg fz (by simpa using hm) (fb hm) q1 q2 q3 q4 fq (by simpa using h0) (fs h0) (D11n hs) (D13 hp) (D14p hp) D14 D15
  · exact numbers_nf00 a b (a * b) q m w hg fz (by simpa using hm) q1 q2 q3 q4 fq (by simpa using h0) (D11n hs) (D13 hp) (D14p hp) D14 D15
  · exact numbers_nf01 a b (a * b) q m w hg fz (by simpa using hm) q1 q2 q3 q4 fq (by simpa using h0) (fs h0) (D11n hs) (D13 hp) (D14p hp) D14 D15
  · exact numbers_nn10 a b q m w hg fz (by simpa using hm) (fb hm) q1 q2 q3 q4 fq (by simpa using h0) (D11n hs) (D13n hp) D14 D15
  · exact numbers_nn11 a b q m w hg fz (by simpa using hm) (fb hm) q1 q2 q3 q4 fq (by simpa using h0) (fs h0) (D11n hs) (D13n hp) D14 D15
  · exact numbers_nn00 a b q m w hg fz (by simpa using hm) q1 q2 q3 q4 fq (by simpa using h0) (D11n hs) (D13n hp) D14 D15
  · exact numbers_nn01 a b q m w hg fz (by simpa using hm) q1 q2 q3 q4 fq (by simpa using h0) (fs h0) (D11n hs) (D13n hp) D14 D15
end Go.Proofs.YtpmjpbndpnmdlaaDoor

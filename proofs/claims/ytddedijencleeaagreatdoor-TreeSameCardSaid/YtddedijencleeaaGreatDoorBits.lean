/- Signs of bits of 64-bit integers; sums, differences and products that fit (plain laws, no program). -/
import Derived.WalkKit
namespace Go.Proofs.YtddedijencleeaaGreatDoor
open Go.RowKit

def In64 (n : Int) : Prop := -9223372036854775808 ≤ n ∧ n ≤ 9223372036854775807

theorem toInt_ofInt {x : Int} (h : In64 x) : (BitVec.ofInt 64 x).toInt = x := by
  obtain ⟨h1, h2⟩ := h
  rw [BitVec.toInt_ofInt]
  simp [Int.bmod]
  omega
theorem msb_ofInt {x : Int} (h : In64 x) : (BitVec.ofInt 64 x).msb = decide (x < 0) := by
  rw [BitVec.msb_eq_toInt, toInt_ofInt h]
theorem wrap_toNat (b : BitVec 64) : IntKind.i64.wrap (b.toNat : Int) = b.toInt := by
  rw [IntKind.wrap_i64, BitVec.toInt_eq_toNat_cond]
  have := b.isLt
  split <;> omega
theorem bits_and_i64 (x y : Int) : bits .and .i64 x y = (BitVec.ofInt 64 x &&& BitVec.ofInt 64 y).toInt := by
  rw [← wrap_toNat]; rfl
theorem bits_xor_i64 (x y : Int) : bits .xor .i64 x y = (BitVec.ofInt 64 x ^^^ BitVec.ofInt 64 y).toInt := by
  rw [← wrap_toNat]; rfl
theorem in64_toInt (b : BitVec 64) : In64 b.toInt := by
  have h1 := BitVec.le_toInt b
  have h2 := BitVec.toInt_lt (x := b)
  constructor <;> simp at h1 h2 <;> omega
theorem neg_iff_msb (b : BitVec 64) : b.toInt < 0 ↔ b.msb = true := by
  rw [BitVec.msb_eq_toInt]; simp
theorem xor_neg {x y : Int} (hx : In64 x) (hy : In64 y) : bits .xor .i64 x y < 0 ↔ ¬ (x < 0 ↔ y < 0) := by
  rw [bits_xor_i64, neg_iff_msb, BitVec.msb_xor, msb_ofInt hx, msb_ofInt hy]
  by_cases h1 : x < 0 <;> by_cases h2 : y < 0 <;> simp [h1, h2]
theorem xor_in (x y : Int) : In64 (bits .xor .i64 x y) := by rw [bits_xor_i64]; exact in64_toInt _
theorem and_neg {x y : Int} (hx : In64 x) (hy : In64 y) : bits .and .i64 x y < 0 ↔ (x < 0 ∧ y < 0) := by
  rw [bits_and_i64, neg_iff_msb, BitVec.msb_and, msb_ofInt hx, msb_ofInt hy]
  simp
theorem wrap64_cases (n : Int) : wrap64 n = (n + 9223372036854775808) % 18446744073709551616 - 9223372036854775808 := by unfold wrap64; omega
theorem wrap64_in64 (n : Int) : In64 (wrap64 n) := by
  unfold In64; rw [wrap64_cases]; constructor <;> omega

/-- a - b passes no bound just where the signs say so. -/
theorem sub_fits {a b : Int} (ha : In64 a) (hb : In64 b) : 0 ≤ bits .and .i64 (bits .xor .i64 a b) (bits .xor .i64 a (wrap64 (a - b))) ↔ In64 (a - b) := by
  rw [← Int.not_lt, and_neg (xor_in _ _) (xor_in _ _), xor_neg ha hb, xor_neg ha (wrap64_in64 _)]
  have hw := wrap64_cases (a - b)
  unfold In64 at *
  omega
theorem add_fits {a b : Int} (ha : In64 a) (hb : In64 b) : 0 ≤ bits .and .i64 (bits .xor .i64 a (wrap64 (a + b))) (bits .xor .i64 b (wrap64 (a + b))) ↔ In64 (a + b) := by
  rw [← Int.not_lt, and_neg (xor_in _ _) (xor_in _ _), xor_neg ha (wrap64_in64 _), xor_neg hb (wrap64_in64 _)]
  have hw := wrap64_cases (a + b)
  unfold In64 at *
  omega
theorem wrap64_fits {n : Int} (h : In64 n) : wrap64 n = n := by
  rw [wrap64_cases]; unfold In64 at h; omega
end Go.Proofs.YtddedijencleeaaGreatDoor

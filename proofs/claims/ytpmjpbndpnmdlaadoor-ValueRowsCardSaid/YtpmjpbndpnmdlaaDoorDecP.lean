/- What is, and what is not, a value's bytes: plain law. -/
import Derived.Test.YtpmjpbndpnmdlaaDoorKey5
set_option linter.all false
namespace Go.Proofs.YtpmjpbndpnmdlaaDoor
open Go.RowKit Go.Lib

def Good1 (v : V) : Prop := mayB v.k v.n v.t = true ∧ In64 v.n ∧ v.t.size ≤ 9223372036854775807
def Dec (xs : List Int) : Prop := ∃ v rest, Good1 v ∧ xs = encI v ++ rest
def InB (xs : List Int) : Prop := ∀ x, x ∈ xs → 0 ≤ x ∧ x < 256

theorem good_shape {v : V} (h : Good1 v) : v = ⟨0, 0, ⟨#[]⟩⟩ ∨ v = ⟨1, 0, ⟨#[]⟩⟩ ∨ v = ⟨1, 1, ⟨#[]⟩⟩ ∨ (∃ n, In64 n ∧ v = ⟨2, n, ⟨#[]⟩⟩) ∨ (∃ t, mayB 3 0 t = true ∧ t.size ≤ 40 ∧ v = ⟨3, 0, t⟩) := by
  obtain ⟨k, n, t⟩ := v
  obtain ⟨hv, hn, ht⟩ := h
  simp only at hv hn ht
  have hv0 := hv
  unfold mayB at hv
  by_cases h0 : k = 0
  · subst h0
    simp at hv
    obtain ⟨rfl, h2⟩ := hv
    obtain rfl := empty_of (by simpa using h2)
    exact .inl rfl
  · by_cases h1 : k = 1
    · subst h1
      simp at hv
      obtain ⟨h1, h2⟩ := hv
      obtain rfl := empty_of (by simpa using h2)
      rcases h1 with rfl | rfl
      · exact .inr (.inl rfl)
      · exact .inr (.inr (.inl rfl))
    · by_cases h2 : k = 2
      · subst h2
        rw [if_neg h0, if_neg h1, if_pos rfl] at hv
        obtain rfl := empty_of hv
        exact .inr (.inr (.inr (.inl ⟨n, hn, rfl⟩)))
      · by_cases h3 : k = 3
        · subst h3
          rw [if_neg h0, if_neg h1, if_neg h2, if_pos rfl] at hv
          simp only [Bool.and_eq_true, decide_eq_true_eq] at hv
          obtain ⟨rfl, h4, _⟩ := hv
          exact .inr (.inr (.inr (.inr ⟨t, hv0, by omega, rfl⟩)))
        · rw [if_neg h0, if_neg h1, if_neg h2, if_neg h3] at hv
          cases hv
theorem eight (a0 a1 a2 a3 a4 a5 a6 a7 : Int) (h0 : 0 ≤ a0 ∧ a0 < 256) (h1 : 0 ≤ a1 ∧ a1 < 256) (h2 : 0 ≤ a2 ∧ a2 < 256) (h3 : 0 ≤ a3 ∧ a3 < 256) (h4 : 0 ≤ a4 ∧ a4 < 256) (h5 : 0 ≤ a5 ∧ a5 < 256) (h6 : 0 ≤ a6 ∧ a6 < 256) (h7 : 0 ≤ a7 ∧ a7 < 256) :
    ∃ n, In64 n ∧ bigL (n + 9223372036854775808) = [a0, a1, a2, a3, a4, a5, a6, a7] := by
  obtain ⟨N, hN⟩ : ∃ N : Int, N = a0 * 72057594037927936 + a1 * 281474976710656 + a2 * 1099511627776 + a3 * 4294967296 + a4 * 16777216 + a5 * 65536 + a6 * 256 + a7 := ⟨_, rfl⟩
  refine ⟨N - 9223372036854775808, by unfold In64; omega, ?_⟩
  have e : bigL (N - 9223372036854775808 + 9223372036854775808) = [bigI N 0, bigI N 1, bigI N 2, bigI N 3, bigI N 4, bigI N 5, bigI N 6, bigI N 7] := by
    rw [Int.sub_add_cancel]; rfl
  rw [e]
  have g0 : bigI N 0 = a0 := by unfold bigI; simp only [Nat.reduceMul, Nat.reduceSub, Int.reducePow]; omega
  have g1 : bigI N 1 = a1 := by unfold bigI; simp only [Nat.reduceMul, Nat.reduceSub, Int.reducePow]; omega
  have g2 : bigI N 2 = a2 := by unfold bigI; simp only [Nat.reduceMul, Nat.reduceSub, Int.reducePow]; omega
  have g3 : bigI N 3 = a3 := by unfold bigI; simp only [Nat.reduceMul, Nat.reduceSub, Int.reducePow]; omega
  have g4 : bigI N 4 = a4 := by unfold bigI; simp only [Nat.reduceMul, Nat.reduceSub, Int.reducePow]; omega
  have g5 : bigI N 5 = a5 := by unfold bigI; simp only [Nat.reduceMul, Nat.reduceSub, Int.reducePow]; omega
  have g6 : bigI N 6 = a6 := by unfold bigI; simp only [Nat.reduceMul, Nat.reduceSub, Int.reducePow]; omega
  have g7 : bigI N 7 = a7 := by unfold bigI; simp only [Nat.reduceMul, Nat.reduceSub, Int.reducePow]; omega
  rw [g0, g1, g2, g3, g4, g5, g6, g7]
theorem dec2 {xs : List Int} (hb : InB xs) (h8 : 8 ≤ xs.length) : ∃ n rest, In64 n ∧ xs = bigL (n + 9223372036854775808) ++ rest := by
  rcases xs with _ | ⟨a0, _ | ⟨a1, _ | ⟨a2, _ | ⟨a3, _ | ⟨a4, _ | ⟨a5, _ | ⟨a6, _ | ⟨a7, rest⟩⟩⟩⟩⟩⟩⟩⟩
  case cons.cons.cons.cons.cons.cons.cons.cons =>
    obtain ⟨n, hn, e⟩ := eight a0 a1 a2 a3 a4 a5 a6 a7 (hb _ (by simp)) (hb _ (by simp)) (hb _ (by simp)) (hb _ (by simp)) (hb _ (by simp)) (hb _ (by simp)) (hb _ (by simp)) (hb _ (by simp))
    exact ⟨n, rest, hn, by rw [e]; rfl⟩
  all_goals (simp at h8)
theorem byte_back {x : Int} (h : 0 ≤ x ∧ x < 256) : ((x.toNat.toUInt8).toNat : Int) = x := by
  have e : (x.toNat.toUInt8).toNat = x.toNat := by
    show x.toNat % 256 = x.toNat
    omega
  rw [e]
  omega
theorem dec3 : ∀ {xs : List Int}, InB xs → 0 ∈ xs → ∃ (t : ByteArray) (rest : List Int), xs = txtI t ++ 0 :: rest ∧ ∀ b, b ∈ t.data.toList → b ≠ 0
  | [], _, h => by cases h
  | x :: xs, hb, h => by
    by_cases hx : x = 0
    · subst hx
      exact ⟨⟨#[]⟩, xs, rfl, fun b hb => by cases hb⟩
    · obtain ⟨t, rest, e, ht⟩ := dec3 (xs := xs) (fun y hy => hb y (List.mem_cons_of_mem _ hy)) (by
        cases h with
        | head => exact absurd rfl hx
        | tail _ h => exact h)
      have hxb := hb x (List.mem_cons_self ..)
      refine ⟨⟨(x.toNat.toUInt8 :: t.data.toList).toArray⟩, rest, ?_, ?_⟩
      · rw [e]
        unfold txtI
        simp
        omega
      · intro b hbm e0
        simp only [List.mem_cons] at hbm
        rcases hbm with rfl | hbm
        · have := byte_back hxb
          rw [e0] at this
          exact hx (by simpa using this.symm)
        · exact ht b hbm e0
theorem size0 : (⟨#[]⟩ : ByteArray).size ≤ 9223372036854775807 := by decide
theorem not_dec {x : Int} {xs : List Int} (hb : InB (x :: xs)) (h : ¬ Dec (x :: xs)) (hl : xs.length ≤ 9223372036854775807) : (3 < x ∧ x < 256) ∨ (x = 1 ∧ xs = []) ∨ (x = 1 ∧ ∃ y r, xs = y :: r ∧ 2 ≤ y ∧ y < 256) ∨ (x = 2 ∧ xs.length < 8) ∨ (x = 3 ∧ ¬ 0 ∈ xs) ∨
    (x = 3 ∧ ∃ t r, xs = txtI t ++ 0 :: r ∧ (∀ b, b ∈ t.data.toList → b ≠ 0) ∧ mayB 3 0 t = false) := by
  have hx := hb x (List.mem_cons_self ..)
  have hxs : InB xs := fun y hy => hb y (List.mem_cons_of_mem _ hy)
  have hk : x = 0 ∨ x = 1 ∨ x = 2 ∨ x = 3 ∨ 3 < x := by omega
  rcases hk with rfl | rfl | rfl | rfl | hk
  · exact absurd ⟨⟨0, 0, ⟨#[]⟩⟩, xs, ⟨may0, by unfold In64; exact ⟨by simp, by simp⟩, size0⟩, rfl⟩ h
  · rcases xs with _ | ⟨y, r⟩
    · exact .inr (.inl ⟨rfl, rfl⟩)
    · have hy := hxs y (List.mem_cons_self ..)
      have hy3 : y = 0 ∨ y = 1 ∨ 2 ≤ y := by omega
      rcases hy3 with rfl | rfl | hy3
      · exact absurd ⟨⟨1, 0, ⟨#[]⟩⟩, r, ⟨may1_0, by unfold In64; exact ⟨by simp, by simp⟩, size0⟩, rfl⟩ h
      · exact absurd ⟨⟨1, 1, ⟨#[]⟩⟩, r, ⟨may1_1, by unfold In64; exact ⟨by simp, by simp⟩, size0⟩, rfl⟩ h
      · exact .inr (.inr (.inl ⟨rfl, y, r, rfl, hy3, hy.2⟩))
  · by_cases h8 : xs.length < 8
    · exact .inr (.inr (.inr (.inl ⟨rfl, h8⟩)))
    · obtain ⟨n, r, hn, e⟩ := dec2 hxs (by omega)
      refine absurd ⟨⟨2, n, ⟨#[]⟩⟩, r, ⟨may2 n, hn, size0⟩, ?_⟩ h
      rw [encI2, e]
      rfl
  · by_cases h0 : 0 ∈ xs
    · obtain ⟨t, r, e, ht⟩ := dec3 hxs h0
      refine .inr (.inr (.inr (.inr (.inr ⟨rfl, t, r, e, ht, ?_⟩))))
      cases hm : mayB 3 0 t with
      | false => rfl
      | true =>
        have hts : t.size ≤ xs.length := by rw [e, List.length_append, txt_len]; omega
        refine absurd ⟨⟨3, 0, t⟩, r, ⟨hm, by unfold In64; exact ⟨by simp, by simp⟩, by simp only; omega⟩, ?_⟩ h
        rw [encI3, e]
        simp [txtI]
    · exact .inr (.inr (.inr (.inr (.inl ⟨rfl, h0⟩))))
  · exact .inl ⟨hk, hx.2⟩
theorem indexByte_none : ∀ {l : List UInt8}, ¬ 0 ∈ l → Lib.indexByte l 0 = -1
  | [], _ => rfl
  | b :: l, h => by
    have hb : ¬ b = 0 := fun e => h (by rw [e]; exact List.mem_cons_self ..)
    have ih := indexByte_none (l := l) fun hl => h (List.mem_cons_of_mem _ hl)
    unfold Lib.indexByte
    rw [if_neg (by simpa using hb), ih]
    rfl
theorem bytesOf_no0 {xs : List Int} (hb : InB xs) (h : ¬ 0 ∈ xs) : ¬ (0 : UInt8) ∈ Lib.bytesOf xs := by
  unfold Lib.bytesOf
  intro hm
  simp only [List.mem_map] at hm
  obtain ⟨x, hx, e⟩ := hm
  have := byte_back (hb x hx)
  rw [show x.toNat.toUInt8 = 0 from e] at this
  have hx0 : x = 0 := by simpa using this.symm
  exact h (hx0 ▸ hx)
end Go.Proofs.YtpmjpbndpnmdlaaDoor

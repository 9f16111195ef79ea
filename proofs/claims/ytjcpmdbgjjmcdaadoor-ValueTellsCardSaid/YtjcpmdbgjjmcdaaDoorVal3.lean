/- Package value: fault, truths, reckon: walks. -/
import Derived.Test.YtjcpmdbgjjmcdaaDoorVal1
import Derived.Test.YtjcpmdbgjjmcdaaDoorErrAs
import Derived.Test.YtjcpmdbgjjmcdaaDoorBits
import Derived.Test.YtjcpmdbgjjmcdaaDoorShelf
namespace Go.Proofs.YtjcpmdbgjjmcdaaDoor
open Go.RowKit

/-- What an error is in a world: nil for class 0, else one of that class. -/
def IsErr (W : World) (v : Value) (c : Int) : Prop := (c = 0 ∧ v = .nilIface) ∨ (c ≠ 0 ∧ ∃ d, ErrV W d v c)
theorem IsErr.below {W W' : World} {v : Value} {c : Int} (h : IsErr W v c) (hb : Below W.heap.size W W') : IsErr W' v c := by
  rcases h with h | ⟨h, d, hd⟩
  · exact .inl h
  · exact .inr ⟨h, d, hd.below hb⟩
theorem IsErr.nil {W : World} {v : Value} (h : IsErr W v 0) : v = .nilIface := by
  rcases h with ⟨_, h⟩ | ⟨h, _⟩
  · exact h
  · exact absurd rfl h

theorem fault_at (c : Int) (w : World) :
    Calls Tryd.prog 28 #[.int .i64 c] w fun e w' => e = .returned (.iface 70 (.pointer (some ⟨w.heap.size, 0, none⟩))) ∧ w' = w.alloc (.cells #[.string ⟨#[118, 97, 108, 117, 101]⟩, .iface 54 (.int .i64 c)] 72) := by
  go_enter Tryd.func28, Tryd.ntmps28
  go_wp2
  go_ret
  exact ⟨rfl, rfl⟩
theorem errV_within {W : World} {b : Nat} {s : ByteArray} {e : Value} {d : Nat} {n : Int} (h : W.heap[b]? = some (.cells #[.string s, e] 72 (0, 0))) (he : ErrV W d e n) :
    ErrV W (d + 1) (.iface 70 (.pointer (some ⟨b, 0, none⟩))) n := .inr ⟨e, ⟨b, s, _, h, rfl⟩, he⟩
theorem value_fault (c : Int) (hc : c ≠ 0) (w : World) :
    Calls Tryd.prog 28 #[.int .i64 c] w fun e w' => ∃ v, e = .returned v ∧ IsErr w' v c ∧ Below w.heap.size w w' := by
  refine (fault_at c w).mono ?_
  rintro e w' ⟨rfl, rfl⟩
  refine ⟨_, rfl, .inr ⟨hc, 1, errV_within (s := ⟨#[118, 97, 108, 117, 101]⟩) (e := .iface 54 (.int .i64 c)) ?_ rfl⟩, (Below.refl _ _).alloc (Nat.le_refl _) _⟩
  show (w.heap.push _)[w.heap.size]? = _
  simp

theorem value_size (a : Int) (ha : In64 a) (w : World) : Calls Tryd.prog 47 #[.int .i64 a] w fun e w' => e = .returned (.int .u64 ((a.natAbs : Nat) : Int)) ∧ w = w' := by
  obtain ⟨h1, h2⟩ := ha
  go_enter Tryd.func47, Tryd.ntmps47
  go_wp2
  all_goals (go_ret; refine ⟨ret_int ?_, rfl⟩)
  · simp only [IntKind.wrap, IntKind.bits, IntKind.signed]; simp; omega
  · omega

/-- What reckon answers: the number, the class of the error (0: none). -/
def fit (n : Int) : Int × Int := if -9223372036854775808 ≤ n ∧ n ≤ 9223372036854775807 then (n, 0) else (0, 6)
def reckonR (op a b : Int) : Int × Int :=
  if op = 1 then fit (-a)
  else if op = 12 then fit (a - b)
  else if op = 11 then fit (a + b)
  else if op = 13 then fit (a * b)
  else if op = 14 then (if b = 0 then (0, 7) else fit (a.tdiv b))
  else if op = 15 then (if b = 0 then (0, 7) else (a.tmod b, 0))
  else (0, 6)

def RPost (w : World) (r : Int × Int) (e : Ending) (w' : World) : Prop := ∃ v, e = .returned (.tuple #[.int .i64 r.1, v]) ∧ IsErr w' v r.2 ∧ Below w.heap.size w w'
theorem RPost.ok {w : World} {n : Int} {r : Int × Int} (h : r = (n, 0)) : RPost w r (.returned (.tuple #[.int .i64 n, .nilIface])) w := by
  subst h; exact ⟨_, rfl, .inl ⟨rfl, rfl⟩, Below.refl _ _⟩
theorem RPost.err {w w' : World} {c : Int} {v : Value} {r : Int × Int} (h : r = (0, c)) (he : IsErr w' v c) (hb : Below w.heap.size w w') : RPost w r (.returned (.tuple #[.int .i64 0, v])) w' := by
  subst h; exact ⟨_, rfl, he, hb⟩

set_option maxRecDepth 100000 in
theorem reckon_sub (a b : Int) (ha : In64 a) (hb : In64 b) (w : World) : Calls Tryd.prog 32 #[.int .i64 12, .int .i64 a, .int .i64 b] w (RPost w (fit (a - b))) := by
  have H := hide (sub_fits ha hb)
  have HF := fun c hc w => hide (value_fault c hc w)
  obtain ⟨h1, h2⟩ := ha
  obtain ⟨h3, h4⟩ := hb
  go_enter Tryd.func32, Tryd.ntmps32
  go_wp2_with (go_at_call 28; refine (unhide (HF _ (by decide) _)).mono ?_; rintro e w' ⟨v, rfl, he, hb⟩)
  · go_ret2
    have h := (unhide H).1 (by assumption)
    unfold In64 at h
    try simp only [Int.zero_sub] at h
    exact .ok (by simp only [fit, if_pos h]; rw [wrap64_fits h])
  · go_ret2
    have h : ¬ In64 (a - b) := fun hn => by have := (unhide H).2 hn; omega
    unfold In64 at h
    exact .err (by simp only [fit, if_neg h]) he hb
set_option maxRecDepth 100000 in
theorem reckon_add (a b : Int) (ha : In64 a) (hb : In64 b) (w : World) : Calls Tryd.prog 32 #[.int .i64 11, .int .i64 a, .int .i64 b] w (RPost w (fit (a + b))) := by
  have H := hide (add_fits ha hb)
  have HF := fun c hc w => hide (value_fault c hc w)
  obtain ⟨h1, h2⟩ := ha
  obtain ⟨h3, h4⟩ := hb
  go_enter Tryd.func32, Tryd.ntmps32
  go_wp2_with (go_at_call 28; refine (unhide (HF _ (by decide) _)).mono ?_; rintro e w' ⟨v, rfl, he, hb⟩)
  · go_ret2
    have h := (unhide H).1 (by assumption)
    unfold In64 at h
    try simp only [Int.zero_sub] at h
    exact .ok (by simp only [fit, if_pos h]; rw [wrap64_fits h])
  · go_ret2
    have h : ¬ In64 (a + b) := fun hn => by have := (unhide H).2 hn; omega
    unfold In64 at h
    exact .err (by simp only [fit, if_neg h]) he hb
set_option maxRecDepth 100000 in
theorem reckon_neg (a b : Int) (ha : In64 a) (hb : In64 b) (w : World) : Calls Tryd.prog 32 #[.int .i64 1, .int .i64 a, .int .i64 b] w (RPost w (fit (-a))) := by
  have H := hide (sub_fits (a := 0) (by constructor <;> omega) ha)
  have HF := fun c hc w => hide (value_fault c hc w)
  obtain ⟨h1, h2⟩ := ha
  obtain ⟨h3, h4⟩ := hb
  go_enter Tryd.func32, Tryd.ntmps32
  go_wp2_with (go_at_call 28; refine (unhide (HF _ (by decide) _)).mono ?_; rintro e w' ⟨v, rfl, he, hb⟩)
  · go_ret2
    have h := (unhide H).1 (by rw [Int.zero_sub]; assumption)
    unfold In64 at h
    try simp only [Int.zero_sub] at h
    exact .ok (by simp only [fit, if_pos h]; rw [wrap64_fits h])
  · go_ret2
    have h : ¬ In64 (-a) := fun hn => by have := (unhide H).2 (by rw [Int.zero_sub]; exact hn); rw [Int.zero_sub] at this;omega
    unfold In64 at h
    exact .err (by simp only [fit, if_neg h]) he hb

theorem natAbs_mul_in {a b : Int} (ha : In64 a) (hb : In64 b) : a.natAbs < 18446744073709551616 ∧ b.natAbs < 18446744073709551616 := by
  unfold In64 at *; omega

/-- The product fits just where the sizes say so. -/
theorem mul_fits (a b : Int) : In64 (a * b) ↔ (a.natAbs * b.natAbs < 9223372036854775808 ∨ (a.natAbs * b.natAbs = 9223372036854775808 ∧ ¬ (a < 0 ↔ b < 0))) := by
  have hm : (a * b).natAbs = a.natAbs * b.natAbs := Int.natAbs_mul a b
  have hs : a.natAbs * b.natAbs ≠ 0 → ((a * b < 0) ↔ ¬ (a < 0 ↔ b < 0)) := by
    intro h
    have ha : a ≠ 0 := by rintro rfl; simp at h
    have hb : b ≠ 0 := by rintro rfl; simp at h
    rcases Int.lt_or_gt_of_ne ha with h1 | h1 <;> rcases Int.lt_or_gt_of_ne hb with h2 | h2
    · have := Int.mul_pos_of_neg_of_neg h1 h2; omega
    · have := Int.mul_neg_of_neg_of_pos h1 h2; omega
    · have := Int.mul_neg_of_pos_of_neg h1 h2; omega
    · have := Int.mul_pos h1 h2; omega
  unfold In64
  generalize a * b = p at *
  generalize a.natAbs * b.natAbs = q at *
  by_cases hq : q = 0
  · omega
  · have := hs hq
    by_cases hp : p < 0
    · have h2 := this.1 hp
      simp only [h2, not_false_eq_true, and_true]; omega
    · have h2 : (a < 0 ↔ b < 0) := Classical.byContradiction fun h => hp (this.2 h)
      simp only [h2, not_true_eq_false, and_false, or_false]; omega

set_option maxRecDepth 1000000 in
theorem reckon_mul (a b : Int) (ha : In64 a) (hb : In64 b) (w : World) : Calls Tryd.prog 32 #[.int .i64 13, .int .i64 a, .int .i64 b] w (RPost w (fit (a * b))) := by
  have hab := natAbs_mul_in ha hb
  have hsz : a.natAbs ≤ 9223372036854775808 ∧ b.natAbs ≤ 9223372036854775808 := by unfold In64 at ha hb; omega
  have hq : a.natAbs * b.natAbs ≤ 9223372036854775808 * 9223372036854775808 := Nat.mul_le_mul hsz.1 hsz.2
  have H := hide (mul_fits a b)
  obtain ⟨hi, lo, HL, HM⟩ : ∃ hi lo : Nat, Hid (hi = a.natAbs * b.natAbs / 18446744073709551616 ∧ lo = a.natAbs * b.natAbs % 18446744073709551616 ∧ a.natAbs * b.natAbs ≤ 9223372036854775808 * 9223372036854775808) ∧
      ∀ w, Hid (Calls Tryd.prog 46 #[.int .u64 (a.natAbs : Int), .int .u64 (b.natAbs : Int)] w fun e w' => e = .returned (.tuple #[.int .u64 (hi : Int), .int .u64 (lo : Int)]) ∧ w' = w) :=
    ⟨_, _, ⟨rfl, rfl, hq⟩, fun w => Tryd.bits_Mul64 a.natAbs b.natAbs hab.1 hab.2 w⟩
  have HS1 := fun w => hide (value_size a ha w)
  have HS2 := fun w => hide (value_size b hb w)
  clear hab hsz hq
  have HF := fun c hc w => hide (value_fault c hc w)
  obtain ⟨h1, h2⟩ := ha
  obtain ⟨h3, h4⟩ := hb
  go_enter Tryd.func32, Tryd.ntmps32
  go_wp2_with fail
  refine (unhide (HS1 _)).mono ?_
  rintro e w' ⟨rfl, rfl⟩
  go_wp2_with fail
  refine (unhide (HS2 _)).mono ?_
  rintro e w' ⟨rfl, rfl⟩
  go_wp2_with fail
  refine (unhide (HM _)).mono ?_
  rintro e w' ⟨rfl, rfl⟩
  clear HM HS1 HS2
  dsimp only []
  have hc : Hid (hi ≠ 0) ∨ Hid (hi = 0 ∧ lo < 9223372036854775808) ∨ Hid (hi = 0 ∧ lo = 9223372036854775808) ∨ Hid (hi = 0 ∧ 9223372036854775808 < lo) := by unfold Hid; omega
  have hov : ¬ In64 (a * b) → fit (a * b) = (0, 6) := fun h => by unfold In64 at h; simp only [fit, if_neg h]
  have hok : In64 (a * b) → fit (a * b) = (wrap64 (a * b), 0) := fun h => by rw [wrap64_fits h]; unfold In64 at h; simp only [fit, if_pos h]
  have HOV := hide hov
  have HOK := hide hok
  clear hov hok
  rcases hc with hc | hc | hc | hc
  · have k1 : ((hi : Int) == 0) = false := by rw [beq_eq_false_iff_ne]; have := unhide hc; omega
    go_wp2_with (go_at_call 28; refine (unhide (HF _ (by decide) _)).mono ?_; rintro e w' ⟨v, rfl, he, hb⟩)
    go_ret2
    refine .err ((unhide HOV) fun hn => ?_) he hb
    have h := (unhide H).1 hn; have := unhide HL; have := unhide hc; try have := unhide hs
    omega
  · have k1 : ((hi : Int) == 0) = true := by rw [beq_iff_eq]; have := unhide hc; omega
    have k2 : decide ((lo : Int) < 9223372036854775808) = true := by rw [decide_eq_true_iff]; have := unhide hc; omega
    go_wp2_with fail
    go_ret2
    refine .ok ((unhide HOK) ((unhide H).2 (.inl ?_)))
    have := unhide HL; have := unhide hc; omega
  · have k1 : ((hi : Int) == 0) = true := by rw [beq_iff_eq]; have := unhide hc; omega
    have k2 : decide ((lo : Int) < 9223372036854775808) = false := by rw [decide_eq_false_iff_not]; have := unhide hc; omega
    have k3 : ((lo : Int) == 9223372036854775808) = true := by rw [beq_iff_eq]; have := unhide hc; omega
    by_cases hs : a < 0 ↔ b < 0
    · have k4 : (!decide (a < 0) == decide (b < 0)) = false := by simp [hs]
      have hs := hide hs
      go_wp2_with (go_at_call 28; refine (unhide (HF _ (by decide) _)).mono ?_; rintro e w' ⟨v, rfl, he, hb⟩)
      go_ret2
      refine .err ((unhide HOV) fun hn => ?_) he hb
      have h := (unhide H).1 hn; have := unhide HL; have := unhide hc; try have := unhide hs
      omega
    · have k4 : (!decide (a < 0) == decide (b < 0)) = true := by
        by_cases x1 : a < 0 <;> by_cases x2 : b < 0 <;> simp_all
      have hs := hide hs
      go_wp2_with fail
      go_ret2
      refine .ok ((unhide HOK) ((unhide H).2 (.inr ⟨?_, unhide hs⟩)))
      have := unhide HL; have := unhide hc; omega
  · have k1 : ((hi : Int) == 0) = true := by rw [beq_iff_eq]; have := unhide hc; omega
    have k2 : decide ((lo : Int) < 9223372036854775808) = false := by rw [decide_eq_false_iff_not]; have := unhide hc; omega
    have k3 : ((lo : Int) == 9223372036854775808) = false := by rw [beq_eq_false_iff_ne]; have := unhide hc; omega
    go_wp2_with (go_at_call 28; refine (unhide (HF _ (by decide) _)).mono ?_; rintro e w' ⟨v, rfl, he, hb⟩)
    go_ret2
    refine .err ((unhide HOV) fun hn => ?_) he hb
    have h := (unhide H).1 hn; have := unhide HL; have := unhide hc; try have := unhide hs
    omega

set_option maxRecDepth 100000 in
theorem reckon_div0 (a : Int) (w : World) : Calls Tryd.prog 32 #[.int .i64 14, .int .i64 a, .int .i64 0] w (RPost w (0, 7)) := by
  have HF := fun c hc w => hide (value_fault c hc w)
  go_enter Tryd.func32, Tryd.ntmps32
  go_wp2_with (go_at_call 28; refine (unhide (HF _ (by decide) _)).mono ?_; rintro e w' ⟨v, rfl, he, hb⟩)
  go_ret2
  exact .err rfl he hb
set_option maxRecDepth 100000 in
theorem reckon_mod0 (a : Int) (w : World) : Calls Tryd.prog 32 #[.int .i64 15, .int .i64 a, .int .i64 0] w (RPost w (0, 7)) := by
  have HF := fun c hc w => hide (value_fault c hc w)
  go_enter Tryd.func32, Tryd.ntmps32
  go_wp2_with (go_at_call 28; refine (unhide (HF _ (by decide) _)).mono ?_; rintro e w' ⟨v, rfl, he, hb⟩)
  go_ret2
  exact .err rfl he hb
theorem tdiv_in {a b : Int} (ha : In64 a) (hb : b ≠ 0) (hm : ¬ (a = -9223372036854775808 ∧ b = -1)) : In64 (a.tdiv b) := by
  unfold In64 at *
  have h1 : (a.tdiv b).natAbs = a.natAbs / b.natAbs := Int.natAbs_tdiv a b
  by_cases h2 : b = -1
  · subst h2
    rw [show a.tdiv (-1) = -a from by rw [Int.tdiv_neg, Int.tdiv_one]]
    omega
  · by_cases h3 : b = 1
    · subst h3; rw [Int.tdiv_one]; exact ha
    · have h4 : 2 ≤ b.natAbs := by omega
      have h5 : a.natAbs / b.natAbs ≤ a.natAbs / 2 := Nat.div_le_div_left h4 (by decide)
      omega
theorem tmod_in {a b : Int} (ha : In64 a) : In64 (a.tmod b) := by
  unfold In64 at *
  have h1 : (a.tmod b).natAbs = a.natAbs % b.natAbs := Int.natAbs_tmod a b
  have h2 := Nat.mod_le a.natAbs b.natAbs
  have h3 := Int.tmod_nonneg (a := a) b
  have h4 := Int.tmod_nonneg (a := -a) b
  rw [Int.neg_tmod] at h4
  by_cases h : 0 ≤ a
  · have := h3 h; omega
  · have := h4 (by omega); omega

set_option maxRecDepth 100000 in
theorem reckon_div (a b : Int) (ha : In64 a) (hb : In64 b) (hz : b ≠ 0) (w : World) : Calls Tryd.prog 32 #[.int .i64 14, .int .i64 a, .int .i64 b] w (RPost w (fit (a.tdiv b))) := by
  have k1 : (b == 0) = false := by simpa using hz
  have HZ := hide hz
  by_cases hm : a = -9223372036854775808 ∧ b = -1
  · obtain ⟨rfl, rfl⟩ := hm
    clear hz
    have HF := fun c hc w => hide (value_fault c hc w)
    obtain ⟨h1, h2⟩ := ha
    obtain ⟨h3, h4⟩ := hb
    go_enter Tryd.func32, Tryd.ntmps32
    go_wp2_with (go_at_call 28; refine (unhide (HF _ (by decide) _)).mono ?_; rintro e w' ⟨v, rfl, he, hb⟩)
    go_ret2
    exact .err (by decide) he hb
  · have hin := tdiv_in ha hz hm
    have hout : fit (a.tdiv b) = (wrap64 (a.tdiv b), 0) := by rw [wrap64_fits hin]; unfold In64 at hin; simp only [fit, if_pos hin]
    by_cases hx : a = -9223372036854775808
    · have k2 : (b != -1) = true := by rw [bne_iff_ne]; exact fun h => hm ⟨hx, h⟩
      subst hx
      have HOUT := hide hout
      clear hm hin hz hout
      have HF := fun c hc w => hide (value_fault c hc w)
      obtain ⟨h1, h2⟩ := ha
      obtain ⟨h3, h4⟩ := hb
      go_enter Tryd.func32, Tryd.ntmps32
      go_wp2
      go_ret2
      exact .ok (by rw [unhide HOUT, Int.neg_tdiv])
    · have k2 : (a != -9223372036854775808) = true := by rw [bne_iff_ne]; exact hx
      have HOUT := hide hout
      clear hm hin hz hout hx
      have HF := fun c hc w => hide (value_fault c hc w)
      obtain ⟨h1, h2⟩ := ha
      obtain ⟨h3, h4⟩ := hb
      go_enter Tryd.func32, Tryd.ntmps32
      go_wp2
      go_ret2
      exact .ok (unhide HOUT)

set_option maxRecDepth 100000 in
theorem reckon_mod (a b : Int) (ha : In64 a) (hb : In64 b) (hz : b ≠ 0) (w : World) : Calls Tryd.prog 32 #[.int .i64 15, .int .i64 a, .int .i64 b] w (RPost w (a.tmod b, 0)) := by
  have k1 : (b == 0) = false := by simpa using hz
  have HIN := hide (wrap64_fits (tmod_in (b := b) ha))
  have HZ := hide hz
  clear hz
  by_cases hm : b = -1
  · subst hm
    have HM := hide (show a.tmod (-1) = 0 from by rw [Int.tmod_neg, Int.tmod_one])
    clear HZ
    have HF := fun c hc w => hide (value_fault c hc w)
    obtain ⟨h1, h2⟩ := ha
    obtain ⟨h3, h4⟩ := hb
    go_enter Tryd.func32, Tryd.ntmps32
    go_wp2
    go_ret2
    exact .ok (by rw [unhide HM])
  · have k2 : (b == -1) = false := by simpa using hm
    clear hm
    have HF := fun c hc w => hide (value_fault c hc w)
    obtain ⟨h1, h2⟩ := ha
    obtain ⟨h3, h4⟩ := hb
    go_enter Tryd.func32, Tryd.ntmps32
    go_wp2
    go_ret2
    exact .ok (by first | rfl | rw [unhide HIN])

/-- value.reckon, of an operator that it knows. -/
theorem value_reckon (op a b : Int) (ha : In64 a) (hb : In64 b) (h : op = 1 ∨ (11 ≤ op ∧ op ≤ 15)) (w : World) :
    Calls Tryd.prog 32 #[.int .i64 op, .int .i64 a, .int .i64 b] w (RPost w (reckonR op a b)) := by
  have hc : op = 1 ∨ op = 11 ∨ op = 12 ∨ op = 13 ∨ op = 14 ∨ op = 15 := by omega
  rcases hc with rfl | rfl | rfl | rfl | rfl | rfl
  · exact reckon_neg a b ha hb w
  · exact reckon_add a b ha hb w
  · exact reckon_sub a b ha hb w
  · exact reckon_mul a b ha hb w
  · by_cases hz : b = 0
    · subst hz; exact reckon_div0 a w
    · have := reckon_div a b ha hb hz w
      rw [show reckonR 14 a b = fit (a.tdiv b) from by simp [reckonR, hz]]; exact this
  · by_cases hz : b = 0
    · subst hz; exact reckon_mod0 a w
    · have := reckon_mod a b ha hb hz w
      rw [show reckonR 15 a b = (a.tmod b, 0) from by simp [reckonR, hz]]; exact this
end Go.Proofs.YtjcpmdbgjjmcdaaDoor

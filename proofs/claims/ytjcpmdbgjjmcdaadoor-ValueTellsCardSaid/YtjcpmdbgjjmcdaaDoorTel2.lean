/- consistoryref6.reckon: contract. -/
import Derived.Test.YtjcpmdbgjjmcdaaDoorVal4
set_option linter.all false
namespace Go.Proofs.YtjcpmdbgjjmcdaaDoor
open Go.RowKit Go.Lib

def T6w (w : World) (r : Int × Int) (e : Ending) (w' : World) : Prop := e = .returned (.tuple #[.int .i64 r.1, .int .i64 r.2]) ∧ w = w'
theorem wrapU (x : Int) : IntKind.wrap .u64 x = x % 18446744073709551616 := by
  unfold IntKind.wrap
  have e1 : (2 ^ IntKind.u64.bits : Int) = 18446744073709551616 := by decide
  rw [e1]; rfl
theorem wsub (a b : Int) : wrap64 (IntKind.u64.wrap (IntKind.u64.wrap a - IntKind.u64.wrap b)) = wrap64 (a - b) := by
  rw [wrapU, wrapU, wrapU, wrap64_cases, wrap64_cases]; omega
theorem wadd (a b : Int) : wrap64 (IntKind.u64.wrap (IntKind.u64.wrap a + IntKind.u64.wrap b)) = wrap64 (a + b) := by
  rw [wrapU, wrapU, wrapU, wrap64_cases, wrap64_cases]; omega
theorem sub_ok {a b : Int} (ha : In64 a) (hb : In64 b) (h : (a < 0 ↔ b < 0) ∨ (wrap64 (a - b) < 0 ↔ a < 0)) : fit (a - b) = (wrap64 (a - b), 0) := by
  unfold In64 at *
  rw [wrap64_cases] at *
  unfold fit
  rw [if_pos (by omega)]
  congr 1
  omega
theorem sub_no {a b : Int} (ha : In64 a) (hb : In64 b) (h1 : ¬ (a < 0 ↔ b < 0)) (h2 : ¬ (wrap64 (a - b) < 0 ↔ a < 0)) : fit (a - b) = (0, 6) := by
  unfold In64 at *
  rw [wrap64_cases] at *
  unfold fit
  rw [if_neg (by omega)]
theorem add_ok {a b : Int} (ha : In64 a) (hb : In64 b) (h : ¬ (a < 0 ↔ b < 0) ∨ (wrap64 (a + b) < 0 ↔ a < 0)) : fit (a + b) = (wrap64 (a + b), 0) := by
  unfold In64 at *
  rw [wrap64_cases] at *
  unfold fit
  rw [if_pos (by omega)]
  congr 1
  omega
theorem add_no {a b : Int} (ha : In64 a) (hb : In64 b) (h1 : (a < 0 ↔ b < 0)) (h2 : ¬ (wrap64 (a + b) < 0 ↔ a < 0)) : fit (a + b) = (0, 6) := by
  unfold In64 at *
  rw [wrap64_cases] at *
  unfold fit
  rw [if_neg (by omega)]
theorem nd_of {p q : Prop} [Decidable p] [Decidable q] (h : p ↔ q) : (!decide p == decide q) = false := by
  by_cases x : p <;> by_cases y : q <;> simp_all
theorem nd_no {p q : Prop} [Decidable p] [Decidable q] (h : ¬ (p ↔ q)) : (!decide p == decide q) = true := by
  by_cases x : p <;> by_cases y : q <;> simp_all
theorem ed_of {p q : Prop} [Decidable p] [Decidable q] (h : p ↔ q) : (decide p == decide q) = true := by
  by_cases x : p <;> by_cases y : q <;> simp_all
theorem ed_no {p q : Prop} [Decidable p] [Decidable q] (h : ¬ (p ↔ q)) : (decide p == decide q) = false := by
  by_cases x : p <;> by_cases y : q <;> simp_all
set_option maxRecDepth 100000 in
theorem rk6_sub (a b : Int) (ha : In64 a) (hb : In64 b) (w : World) : Calls Tryd.prog 33 #[.int .i64 12, .int .i64 a, .int .i64 b] w (T6w w (fit (a - b))) := by
  have hw := wsub a b
  have R1 := sub_ok ha hb
  have R2 := sub_no ha hb
  generalize wrap64 (a - b) = c at *
  obtain ⟨h1, h2⟩ := ha
  obtain ⟨h3, h4⟩ := hb
  by_cases hs : a < 0 ↔ b < 0
  · have HR := hide (R1 (.inl hs))
    have k1 := nd_of hs
    clear hs R1 R2
    go_enter Tryd.func33, Tryd.ntmps33
    go_wp2
    go_ret2
    exact ⟨by rw [unhide HR]; first | rfl | (rw [← hw]; rfl), rfl⟩
  · by_cases ht : c < 0 ↔ a < 0
    · have HR := hide (R1 (.inr ht))
      have k1 := nd_no hs
      have k2 := nd_of ht
      clear hs ht R1 R2
      go_enter Tryd.func33, Tryd.ntmps33
      go_wp2
      go_ret2
      exact ⟨by rw [unhide HR]; first | rfl | (rw [← hw]; rfl), rfl⟩
    · have HR := hide (R2 hs ht)
      have k1 := nd_no hs
      have k2 := nd_no ht
      clear hs ht R1 R2
      go_enter Tryd.func33, Tryd.ntmps33
      go_wp2
      go_ret2
      exact ⟨by rw [unhide HR]; first | rfl | (rw [← hw]; rfl), rfl⟩
set_option maxRecDepth 100000 in
theorem rk6_add (a b : Int) (ha : In64 a) (hb : In64 b) (w : World) : Calls Tryd.prog 33 #[.int .i64 11, .int .i64 a, .int .i64 b] w (T6w w (fit (a + b))) := by
  have hw := wadd a b
  have R1 := add_ok ha hb
  have R2 := add_no ha hb
  generalize wrap64 (a + b) = c at *
  obtain ⟨h1, h2⟩ := ha
  obtain ⟨h3, h4⟩ := hb
  by_cases hs : a < 0 ↔ b < 0
  · by_cases ht : c < 0 ↔ a < 0
    · have HR := hide (R1 (.inr ht))
      have k1 := ed_of hs
      have k2 := nd_of ht
      clear hs ht R1 R2
      go_enter Tryd.func33, Tryd.ntmps33
      go_wp2
      go_ret2
      exact ⟨by rw [unhide HR]; first | rfl | (rw [← hw]; rfl), rfl⟩
    · have HR := hide (R2 hs ht)
      have k1 := ed_of hs
      have k2 := nd_no ht
      clear hs ht R1 R2
      go_enter Tryd.func33, Tryd.ntmps33
      go_wp2
      go_ret2
      exact ⟨by rw [unhide HR]; first | rfl | (rw [← hw]; rfl), rfl⟩
  · have HR := hide (R1 (.inl hs))
    have k1 := ed_no hs
    clear hs R1 R2
    go_enter Tryd.func33, Tryd.ntmps33
    go_wp2
    go_ret2
    exact ⟨by rw [unhide HR]; first | rfl | (rw [← hw]; rfl), rfl⟩
set_option maxRecDepth 100000 in
theorem rk6_neg (a b : Int) (ha : In64 a) (hb : In64 b) (w : World) : Calls Tryd.prog 33 #[.int .i64 1, .int .i64 a, .int .i64 b] w (T6w w (fit (-a))) := by
  have HS := fun w => hide (rk6_sub 0 a (by unfold In64; constructor <;> decide) ha w)
  rw [Int.zero_sub] at HS
  go_enter Tryd.func33, Tryd.ntmps33
  go_wp2_with fail
  refine (unhide (HS _)).mono ?_
  rintro e w' ⟨rfl, rfl⟩
  go_wp2
  go_ret2
  exact ⟨rfl, rfl⟩
set_option maxRecDepth 100000 in
theorem rk6_div0 (op a : Int) (h : op = 14 ∨ op = 15) (w : World) : Calls Tryd.prog 33 #[.int .i64 op, .int .i64 a, .int .i64 0] w (T6w w (0, 7)) := by
  rcases h with rfl | rfl
  all_goals
    go_enter Tryd.func33, Tryd.ntmps33
    go_wp2
    go_ret2
    exact ⟨rfl, rfl⟩
set_option maxRecDepth 100000 in
theorem rk6_mod (a b : Int) (ha : In64 a) (hb : In64 b) (hz : b ≠ 0) (w : World) : Calls Tryd.prog 33 #[.int .i64 15, .int .i64 a, .int .i64 b] w (T6w w (a.tmod b, 0)) := by
  have k1 : (b == 0) = false := by simpa using hz
  by_cases h1 : b = -1
  · subst h1
    have hm : a.tmod (-1) = 0 := by rw [Int.tmod_neg, Int.tmod_one]
    rw [hm]
    go_enter Tryd.func33, Tryd.ntmps33
    go_wp2
    go_ret2
    exact ⟨rfl, rfl⟩
  · have k2 : (b == -1) = false := by simpa using h1
    have HIN := wrap64_fits (tmod_in (b := b) ha)
    clear h1
    go_enter Tryd.func33, Tryd.ntmps33
    go_wp2
    go_ret2
    exact ⟨rfl, rfl⟩
set_option maxRecDepth 100000 in
theorem rk6_div (a b : Int) (ha : In64 a) (hb : In64 b) (hz : b ≠ 0) (w : World) : Calls Tryd.prog 33 #[.int .i64 14, .int .i64 a, .int .i64 b] w (T6w w (fit (a.tdiv b))) := by
  have k1 : (b == 0) = false := by simpa using hz
  by_cases h1 : b = -1
  · subst h1
    have HS := fun w => hide (rk6_sub 0 a (by unfold In64; constructor <;> decide) ha w)
    rw [Int.zero_sub] at HS
    rw [show a.tdiv (-1) = -a from by rw [Int.tdiv_neg, Int.tdiv_one]]
    go_enter Tryd.func33, Tryd.ntmps33
    go_wp2_with fail
    refine (unhide (HS _)).mono ?_
    rintro e w' ⟨rfl, rfl⟩
    go_wp2
    go_ret2
    exact ⟨rfl, rfl⟩
  · have k2 : (b == -1) = false := by simpa using h1
    have hin := tdiv_in (b := b) ha hz (fun h => h1 h.2)
    have HIN := wrap64_fits hin
    have hf : fit (a.tdiv b) = (a.tdiv b, 0) := by unfold In64 at hin; unfold fit; rw [if_pos hin]
    rw [hf]
    clear h1 hf hin
    go_enter Tryd.func33, Tryd.ntmps33
    go_wp2
    go_ret2
    first | exact ⟨rfl, rfl⟩ | exact ⟨congrArg (fun z => Ending.returned (.tuple #[.int .i64 z, .int .i64 0])) HIN, rfl⟩
theorem uneg {a : Int} (ha : In64 a) (h : a < 0) : IntKind.u64.wrap (-IntKind.u64.wrap a) = (a.natAbs : Int) := by
  unfold In64 at ha
  rw [wrapU, wrapU]; omega
theorem upos {a : Int} (ha : In64 a) (h : ¬ a < 0) : IntKind.u64.wrap a = (a.natAbs : Int) := by
  unfold In64 at ha
  rw [wrapU]; omega
theorem mulS_pos {a b : Int} (h : a < 0 ↔ b < 0) : a * b = ((a.natAbs * b.natAbs : Nat) : Int) := by
  have : 0 ≤ a * b := by
    by_cases ha : a < 0
    · have hb := h.1 ha
      exact Int.mul_nonneg_of_nonpos_of_nonpos (by omega) (by omega)
    · have hb : ¬ b < 0 := fun x => ha (h.2 x)
      exact Int.mul_nonneg (by omega) (by omega)
  have hm : (a * b).natAbs = a.natAbs * b.natAbs := Int.natAbs_mul a b
  rw [← hm]; omega
theorem mulS_neg {a b : Int} (h : ¬ (a < 0 ↔ b < 0)) : a * b = -((a.natAbs * b.natAbs : Nat) : Int) := by
  have : a * b ≤ 0 := by
    by_cases ha : a < 0
    · have hb : ¬ b < 0 := fun x => h ⟨fun _ => x, fun _ => ha⟩
      exact Int.mul_nonpos_of_nonpos_of_nonneg (by omega) (by omega)
    · have hb : b < 0 := Classical.byContradiction fun x => h ⟨fun y => absurd y ha, fun y => absurd y x⟩
      exact Int.mul_nonpos_of_nonneg_of_nonpos (by omega) (by omega)
  have hm : (a * b).natAbs = a.natAbs * b.natAbs := Int.natAbs_mul a b
  rw [← hm]; omega
set_option maxRecDepth 1000000 in
set_option maxHeartbeats 1000000 in
theorem rk6_mul (a b : Int) (ha : In64 a) (hb : In64 b) (w : World) : Calls Tryd.prog 33 #[.int .i64 13, .int .i64 a, .int .i64 b] w (T6w w (fit (a * b))) := by
  have hab := natAbs_mul_in ha hb
  have hsz : a.natAbs ≤ 9223372036854775808 ∧ b.natAbs ≤ 9223372036854775808 := by unfold In64 at ha hb; omega
  have hq : a.natAbs * b.natAbs ≤ 9223372036854775808 * 9223372036854775808 := Nat.mul_le_mul hsz.1 hsz.2
  have HP := fun h => hide (mulS_pos (a := a) (b := b) h)
  have HN := fun h => hide (mulS_neg (a := a) (b := b) h)
  obtain ⟨hi, lo, HL, HM⟩ : ∃ hi lo : Nat, Hid (hi = a.natAbs * b.natAbs / 18446744073709551616 ∧ lo = a.natAbs * b.natAbs % 18446744073709551616 ∧ a.natAbs * b.natAbs ≤ 9223372036854775808 * 9223372036854775808) ∧
      ∀ w, Hid (Calls Tryd.prog 46 #[.int .u64 (a.natAbs : Int), .int .u64 (b.natAbs : Int)] w fun e w' => e = .returned (.tuple #[.int .u64 (hi : Int), .int .u64 (lo : Int)]) ∧ w' = w) :=
    ⟨_, _, ⟨rfl, rfl, hq⟩, fun w => Tryd.bits_Mul64 a.natAbs b.natAbs hab.1 hab.2 w⟩
  clear hab hsz hq
  generalize a.natAbs * b.natAbs = q at *
  generalize a * b = p at *
  by_cases xa : a < 0 <;> by_cases xb : b < 0
  · have ea := uneg ha xa
    have eb := uneg hb xb
    have k1 : decide (a < 0) = true := decide_eq_true xa
    have k2 : decide (b < 0) = true := decide_eq_true xb
    have hs : a < 0 ↔ b < 0 := ⟨fun _ => xb, fun _ => xa⟩
    unfold In64 at ha hb
    have hm := unhide (HP hs)
    have hL := unhide HL
    by_cases c1 : hi = 0
    · have j1 : ((hi : Int) == 0) = true := by rw [beq_iff_eq]; omega
      by_cases c2 : lo ≤ 9223372036854775807
      · have HR : Hid (fit p = ((lo : Int), 0)) := hide (by unfold fit; rw [if_pos (by omega)]; congr 1; omega)
        have j2 : decide (9223372036854775807 < (lo : Int)) = false := decide_eq_false (by omega)
        have j3 : wrap64 (lo : Int) = (lo : Int) := wrap64_fits (by unfold In64; omega)
        clear hm hL hs HP HN HL
        go_enter Tryd.func33, Tryd.ntmps33
        go_wp2_with fail
        refine (unhide (HM _)).mono ?_
        rintro e w' ⟨rfl, rfl⟩
        go_wp2
        go_ret2
        exact ⟨by rw [unhide HR]; first | rfl | (rw [← j3]; rfl) | (simp [j3]; done), rfl⟩
      · have HR : Hid (fit p = (0, 6)) := hide (by unfold fit; rw [if_neg (by omega)])
        have j2 : decide (9223372036854775807 < (lo : Int)) = true := decide_eq_true (by omega)
        have j3 : (0 : Int) = 0 := rfl
        clear hm hL hs HP HN HL
        go_enter Tryd.func33, Tryd.ntmps33
        go_wp2_with fail
        refine (unhide (HM _)).mono ?_
        rintro e w' ⟨rfl, rfl⟩
        go_wp2
        go_ret2
        exact ⟨by rw [unhide HR]; first | rfl | (rw [← j3]; rfl) | (simp [j3]; done), rfl⟩
    · have j1 : ((hi : Int) == 0) = false := by rw [beq_eq_false_iff_ne]; omega
      have HR : Hid (fit p = (0, 6)) := hide (by unfold fit; rw [if_neg (by omega)])
      have j3 : (0 : Int) = 0 := rfl
      clear hm hL hs HP HN HL
      go_enter Tryd.func33, Tryd.ntmps33
      go_wp2_with fail
      refine (unhide (HM _)).mono ?_
      rintro e w' ⟨rfl, rfl⟩
      go_wp2
      go_ret2
      exact ⟨by rw [unhide HR]; first | rfl | (rw [← j3]; rfl) | (simp [j3]; done), rfl⟩
  · have ea := uneg ha xa
    have eb := upos hb xb
    have k1 : decide (a < 0) = true := decide_eq_true xa
    have k2 : decide (b < 0) = false := decide_eq_false xb
    have hs : ¬ (a < 0 ↔ b < 0) := fun h => xb (h.1 xa)
    unfold In64 at ha hb
    have hm := unhide (HN hs)
    have hL := unhide HL
    by_cases c1 : hi = 0
    · have j1 : ((hi : Int) == 0) = true := by rw [beq_iff_eq]; omega
      by_cases c2 : lo ≤ 9223372036854775808
      · have HR : Hid (fit p = (-(lo : Int), 0)) := hide (by unfold fit; rw [if_pos (by omega)]; congr 1; omega)
        have j2 : decide (9223372036854775808 < (lo : Int)) = false := decide_eq_false (by omega)
        have j3 : wrap64 (IntKind.u64.wrap (-(lo : Int))) = -(lo : Int) := by rw [wrapU, wrap64_cases]; omega
        clear hm hL hs HP HN HL
        go_enter Tryd.func33, Tryd.ntmps33
        go_wp2_with fail
        refine (unhide (HM _)).mono ?_
        rintro e w' ⟨rfl, rfl⟩
        go_wp2
        go_ret2
        exact ⟨by rw [unhide HR]; first | rfl | (rw [← j3]; rfl) | (simp [j3]; done), rfl⟩
      · have HR : Hid (fit p = (0, 6)) := hide (by unfold fit; rw [if_neg (by omega)])
        have j2 : decide (9223372036854775808 < (lo : Int)) = true := decide_eq_true (by omega)
        have j3 : (0 : Int) = 0 := rfl
        clear hm hL hs HP HN HL
        go_enter Tryd.func33, Tryd.ntmps33
        go_wp2_with fail
        refine (unhide (HM _)).mono ?_
        rintro e w' ⟨rfl, rfl⟩
        go_wp2
        go_ret2
        exact ⟨by rw [unhide HR]; first | rfl | (rw [← j3]; rfl) | (simp [j3]; done), rfl⟩
    · have j1 : ((hi : Int) == 0) = false := by rw [beq_eq_false_iff_ne]; omega
      have HR : Hid (fit p = (0, 6)) := hide (by unfold fit; rw [if_neg (by omega)])
      have j3 : (0 : Int) = 0 := rfl
      clear hm hL hs HP HN HL
      go_enter Tryd.func33, Tryd.ntmps33
      go_wp2_with fail
      refine (unhide (HM _)).mono ?_
      rintro e w' ⟨rfl, rfl⟩
      go_wp2
      go_ret2
      exact ⟨by rw [unhide HR]; first | rfl | (rw [← j3]; rfl) | (simp [j3]; done), rfl⟩
  · have ea := upos ha xa
    have eb := uneg hb xb
    have k1 : decide (a < 0) = false := decide_eq_false xa
    have k2 : decide (b < 0) = true := decide_eq_true xb
    have hs : ¬ (a < 0 ↔ b < 0) := fun h => xa (h.2 xb)
    unfold In64 at ha hb
    have hm := unhide (HN hs)
    have hL := unhide HL
    by_cases c1 : hi = 0
    · have j1 : ((hi : Int) == 0) = true := by rw [beq_iff_eq]; omega
      by_cases c2 : lo ≤ 9223372036854775808
      · have HR : Hid (fit p = (-(lo : Int), 0)) := hide (by unfold fit; rw [if_pos (by omega)]; congr 1; omega)
        have j2 : decide (9223372036854775808 < (lo : Int)) = false := decide_eq_false (by omega)
        have j3 : wrap64 (IntKind.u64.wrap (-(lo : Int))) = -(lo : Int) := by rw [wrapU, wrap64_cases]; omega
        clear hm hL hs HP HN HL
        go_enter Tryd.func33, Tryd.ntmps33
        go_wp2_with fail
        refine (unhide (HM _)).mono ?_
        rintro e w' ⟨rfl, rfl⟩
        go_wp2
        go_ret2
        exact ⟨by rw [unhide HR]; first | rfl | (rw [← j3]; rfl) | (simp [j3]; done), rfl⟩
      · have HR : Hid (fit p = (0, 6)) := hide (by unfold fit; rw [if_neg (by omega)])
        have j2 : decide (9223372036854775808 < (lo : Int)) = true := decide_eq_true (by omega)
        have j3 : (0 : Int) = 0 := rfl
        clear hm hL hs HP HN HL
        go_enter Tryd.func33, Tryd.ntmps33
        go_wp2_with fail
        refine (unhide (HM _)).mono ?_
        rintro e w' ⟨rfl, rfl⟩
        go_wp2
        go_ret2
        exact ⟨by rw [unhide HR]; first | rfl | (rw [← j3]; rfl) | (simp [j3]; done), rfl⟩
    · have j1 : ((hi : Int) == 0) = false := by rw [beq_eq_false_iff_ne]; omega
      have HR : Hid (fit p = (0, 6)) := hide (by unfold fit; rw [if_neg (by omega)])
      have j3 : (0 : Int) = 0 := rfl
      clear hm hL hs HP HN HL
      go_enter Tryd.func33, Tryd.ntmps33
      go_wp2_with fail
      refine (unhide (HM _)).mono ?_
      rintro e w' ⟨rfl, rfl⟩
      go_wp2
      go_ret2
      exact ⟨by rw [unhide HR]; first | rfl | (rw [← j3]; rfl) | (simp [j3]; done), rfl⟩
  · have ea := upos ha xa
    have eb := upos hb xb
    have k1 : decide (a < 0) = false := decide_eq_false xa
    have k2 : decide (b < 0) = false := decide_eq_false xb
    have hs : a < 0 ↔ b < 0 := ⟨fun h => absurd h xa, fun h => absurd h xb⟩
    unfold In64 at ha hb
    have hm := unhide (HP hs)
    have hL := unhide HL
    by_cases c1 : hi = 0
    · have j1 : ((hi : Int) == 0) = true := by rw [beq_iff_eq]; omega
      by_cases c2 : lo ≤ 9223372036854775807
      · have HR : Hid (fit p = ((lo : Int), 0)) := hide (by unfold fit; rw [if_pos (by omega)]; congr 1; omega)
        have j2 : decide (9223372036854775807 < (lo : Int)) = false := decide_eq_false (by omega)
        have j3 : wrap64 (lo : Int) = (lo : Int) := wrap64_fits (by unfold In64; omega)
        clear hm hL hs HP HN HL
        go_enter Tryd.func33, Tryd.ntmps33
        go_wp2_with fail
        refine (unhide (HM _)).mono ?_
        rintro e w' ⟨rfl, rfl⟩
        go_wp2
        go_ret2
        exact ⟨by rw [unhide HR]; first | rfl | (rw [← j3]; rfl) | (simp [j3]; done), rfl⟩
      · have HR : Hid (fit p = (0, 6)) := hide (by unfold fit; rw [if_neg (by omega)])
        have j2 : decide (9223372036854775807 < (lo : Int)) = true := decide_eq_true (by omega)
        have j3 : (0 : Int) = 0 := rfl
        clear hm hL hs HP HN HL
        go_enter Tryd.func33, Tryd.ntmps33
        go_wp2_with fail
        refine (unhide (HM _)).mono ?_
        rintro e w' ⟨rfl, rfl⟩
        go_wp2
        go_ret2
        exact ⟨by rw [unhide HR]; first | rfl | (rw [← j3]; rfl) | (simp [j3]; done), rfl⟩
    · have j1 : ((hi : Int) == 0) = false := by rw [beq_eq_false_iff_ne]; omega
      have HR : Hid (fit p = (0, 6)) := hide (by unfold fit; rw [if_neg (by omega)])
      have j3 : (0 : Int) = 0 := rfl
      clear hm hL hs HP HN HL
      go_enter Tryd.func33, Tryd.ntmps33
      go_wp2_with fail
      refine (unhide (HM _)).mono ?_
      rintro e w' ⟨rfl, rfl⟩
      go_wp2
      go_ret2
      exact ⟨by rw [unhide HR]; first | rfl | (rw [← j3]; rfl) | (simp [j3]; done), rfl⟩
theorem ref6_reckon (op a b : Int) (ha : In64 a) (hb : In64 b) (h : op = 1 ∨ (11 ≤ op ∧ op ≤ 15)) (w : World) :
    Calls Tryd.prog 33 #[.int .i64 op, .int .i64 a, .int .i64 b] w (T6w w (reckonR op a b)) := by
  have hc : op = 1 ∨ op = 11 ∨ op = 12 ∨ op = 13 ∨ op = 14 ∨ op = 15 := by omega
  rcases hc with rfl | rfl | rfl | rfl | rfl | rfl
  · exact rk6_neg a b ha hb w
  · exact rk6_add a b ha hb w
  · exact rk6_sub a b ha hb w
  · exact rk6_mul a b ha hb w
  · by_cases hz : b = 0
    · subst hz; exact rk6_div0 14 a (.inl rfl) w
    · have e : reckonR 14 a b = fit (a.tdiv b) := by simp [reckonR, hz]
      rw [e]; exact rk6_div a b ha hb hz w
  · by_cases hz : b = 0
    · subst hz; exact rk6_div0 15 a (.inr rfl) w
    · have e : reckonR 15 a b = (a.tmod b, 0) := by simp [reckonR, hz]
      rw [e]; exact rk6_mod a b ha hb hz w
end Go.Proofs.YtjcpmdbgjjmcdaaDoor

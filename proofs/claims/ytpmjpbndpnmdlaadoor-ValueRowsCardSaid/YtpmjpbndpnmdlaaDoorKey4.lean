/- value.unkey of bytes that begin with a number's own: contract. -/
import Derived.Test.YtpmjpbndpnmdlaaDoorKey3
set_option linter.all false
namespace Go.Proofs.YtpmjpbndpnmdlaaDoor
open Go.RowKit Go.Lib

/-- The first k bytes of a number of eight. -/
def prefI (n : Int) (k : Nat) : Int := n / 2 ^ (64 - 8 * k)
def bigL (n : Int) : List Int := (List.range 8).map (bigI n)
theorem bigL_get (n : Int) {j : Nat} (hj : j < 8) (rest : List Int) : (bigL n ++ rest)[j]? = some (bigI n j) := by
  rw [List.getElem?_append_left (by simpa [bigL] using hj)]
  simp [bigL, hj]
theorem wrap_u64 {x : Int} (h0 : 0 ≤ x) (h1 : x < 18446744073709551616) : IntKind.wrap .u64 x = x := by
  unfold IntKind.wrap
  have e1 : (2 ^ IntKind.u64.bits : Int) = 18446744073709551616 := by decide
  rw [e1]
  show x % 18446744073709551616 = x
  omega
theorem or_step {p c : Int} (h0 : 0 ≤ p) (h1 : p < 72057594037927936) (c0 : 0 ≤ c) (c1 : c < 256) : bits .or .u64 (IntKind.wrap .u64 (p * 256)) (IntKind.wrap .u64 c) = p * 256 + c := by
  obtain ⟨P, rfl⟩ := Int.eq_ofNat_of_zero_le h0
  obtain ⟨C, rfl⟩ := Int.eq_ofNat_of_zero_le c0
  rw [wrap_u64 (by omega) (by omega), wrap_u64 (by omega) (by omega)]
  have e : P <<< 8 + C = P <<< 8 ||| C := Nat.shiftLeft_add_eq_or_of_lt (by omega) P
  rw [Nat.shiftLeft_eq] at e
  have eP : ((P : Int) * 256) = ((P * 256 : Nat) : Int) := by omega
  rw [eP]
  show IntKind.wrap .u64 (((BitVec.ofInt 64 ((P * 256 : Nat) : Int) ||| BitVec.ofInt 64 ((C : Nat) : Int)).toNat : Nat) : Int) = _
  rw [BitVec.ofInt_natCast, BitVec.ofInt_natCast, BitVec.toNat_or, BitVec.toNat_ofNat, BitVec.toNat_ofNat, Nat.mod_eq_of_lt (by omega), Nat.mod_eq_of_lt (by omega)]
  have e' : P * 256 ||| C = P * 256 + C := e.symm
  rw [e', wrap_u64 (by omega) (by omega)]
  omega
theorem may2 (n : Int) : mayB 2 n ⟨#[]⟩ = true := by
  unfold mayB
  rw [if_neg (by decide), if_neg (by decide), if_pos rfl]
  kernel_rfl
theorem pref_fin {n : Int} (hn : In64 n) : IntKind.wrap .i64 (IntKind.wrap .u64 (prefI (n + 9223372036854775808) 8 - 9223372036854775808)) = n := by
  unfold In64 at hn
  have e : prefI (n + 9223372036854775808) 8 - 9223372036854775808 = n := by
    unfold prefI
    simp only [Nat.reduceMul, Nat.reduceSub, Int.pow_zero, Int.ediv_one]
    omega
  rw [e]
  have e1 : IntKind.wrap .u64 n = n % 18446744073709551616 := by
    unfold IntKind.wrap
    have e1 : (2 ^ IntKind.u64.bits : Int) = 18446744073709551616 := by decide
    rw [e1]; rfl
  rw [e1]
  unfold IntKind.wrap
  have e2 : (2 ^ IntKind.i64.bits : Int) = 18446744073709551616 := by decide
  have e3 : (2 ^ (IntKind.i64.bits - 1) : Int) = 9223372036854775808 := by decide
  rw [e2, e3]
  have e4 : IntKind.i64.signed = true := rfl
  simp only [e4, Bool.true_and, decide_eq_true_eq]
  split <;> omega
theorem big_in (n : Int) (j : Nat) : 0 ≤ bigI n j ∧ bigI n j < 256 := by
  unfold bigI
  constructor
  · exact Int.emod_nonneg _ (by decide)
  · exact Int.emod_lt_of_pos _ (by decide)
theorem pref_in {n : Int} (hn : In64 n) (k : Nat) (hk : k < 8) : 0 ≤ prefI (n + 9223372036854775808) k ∧ prefI (n + 9223372036854775808) k < 72057594037927936 := by
  unfold In64 at hn
  have hk' : k = 0 ∨ k = 1 ∨ k = 2 ∨ k = 3 ∨ k = 4 ∨ k = 5 ∨ k = 6 ∨ k = 7 := by omega
  unfold prefI
  rcases hk' with rfl | rfl | rfl | rfl | rfl | rfl | rfl | rfl <;> simp only [Nat.reduceMul, Nat.reduceSub, Int.reducePow] <;> omega
theorem pref_step {n : Int} (hn : In64 n) (k : Nat) (hk : k < 8) : prefI (n + 9223372036854775808) k * 256 + bigI (n + 9223372036854775808) k = prefI (n + 9223372036854775808) (k + 1) := by
  unfold In64 at hn
  have hk' : k = 0 ∨ k = 1 ∨ k = 2 ∨ k = 3 ∨ k = 4 ∨ k = 5 ∨ k = 6 ∨ k = 7 := by omega
  unfold prefI bigI
  rcases hk' with rfl | rfl | rfl | rfl | rfl | rfl | rfl | rfl <;> simp only [Nat.reduceMul, Nat.reduceSub, Nat.reduceAdd, Int.reducePow] <;> omega
set_option maxRecDepth 100000 in
set_option maxHeartbeats 1000000 in
theorem unkey_2 (b o m c : Nat) (n : Int) (rest : List Int) (w : World) (hn : In64 n) (hm : m ≤ 9223372036854775807) (hc : m ≤ c) (h : Reads w 1 (some ⟨b, o, none⟩) m (nums ((2 :: bigL (n + 9223372036854775808)) ++ rest))) :
    Calls Tryd.prog 45 #[.slice (some ⟨b, o, none⟩) m c] w (UPost w ⟨2, n, ⟨#[]⟩⟩ rest (some ⟨b, o, none⟩) m (2 :: bigL (n + 9223372036854775808))) := by
  have hl : m = (8 + rest.length) + 1 := by have := h.1; simp [nums, bigL] at this; omega
  subst hl
  have c0 : (w.alloc (.cells #[.int .i64 0, .int .i64 0, .string ⟨#[]⟩] 23)).cell? ⟨b, o, none⟩ = some (.int .u8 2) := (h.alloc _).byte (j := 0) rfl
  have hcells : ∀ j, j < 8 → ((w.alloc (.cells #[.int .i64 0, .int .i64 0, .string ⟨#[]⟩] 23)).alloc (.cells #[.int .i64 2, .int .i64 0, .string ⟨#[]⟩] 23)).cell? ⟨b, o + 1 + j, none⟩ = some (.int .u8 (bigI (n + 9223372036854775808) j)) := fun j hj => by
    have := ((h.alloc (.cells #[.int .i64 0, .int .i64 0, .string ⟨#[]⟩] 23)).alloc (.cells #[.int .i64 2, .int .i64 0, .string ⟨#[]⟩] 23)).byte (j := j + 1) (x := bigI (n + 9223372036854775808) j) (by rw [List.cons_append, List.getElem?_cons_succ]; exact bigL_get _ hj rest)
    rwa [show o + 1 + j = o + (j + 1) by omega]
  have HCELLS := hide hcells
  have H := hide h
  clear h hcells
  have hfin := pref_fin hn
  have BR := (Blk3.new w 23 (.int .i64 0) (.int .i64 0) (.string ⟨#[]⟩)).alloc (.cells #[.int .i64 2, .int .i64 n, .string ⟨#[]⟩] 23)
  have BV := Blk3.new1 w (.cells #[.int .i64 0, .int .i64 0, .string ⟨#[]⟩] 23) 23 (.int .i64 2) (.int .i64 n) (.string ⟨#[]⟩)
  obtain ⟨b0, b1, b2, fB⟩ := BV.cells
  have hI := fun w => value_Is 2 n ⟨#[]⟩ w (by decide)
  rw [may2 n] at hI
  have HI := fun w => hide (hI w)
  clear hI
  have hal : Below w.heap.size w ((w.alloc (.cells #[.int .i64 0, .int .i64 0, .string ⟨#[]⟩] 23)).alloc (.cells #[.int .i64 2, .int .i64 n, .string ⟨#[]⟩] 23)) := ((Below.refl _ _).alloc (Nat.le_refl _) _).alloc (by simp) _
  have HBW := hide hal
  clear hal
  have hc1 : 1 < c := by omega
  go_enter Tryd.func45, Tryd.ntmps45
  go_wp2
  go_loopw [7, 44] (fun u i wr => ∃ k : Nat, k ≤ 8 ∧ i = .int .i64 k ∧ u = .int .u64 (prefI (n + 9223372036854775808) k) ∧ wr = (w.alloc (.cells #[.int .i64 0, .int .i64 0, .string ⟨#[]⟩] 23)).alloc (.cells #[.int .i64 2, .int .i64 0, .string ⟨#[]⟩] 23)) (fun _ i _ => 8 - (RowKit.intOf i).toNat)
  case atStart => exact ⟨0, by omega, rfl, by unfold In64 at hn; unfold prefI; simp; omega, rfl⟩
  case round =>
    obtain ⟨k, hk, rfl, rfl, rfl⟩ := hrel
    have hk' : k = 0 ∨ k = 1 ∨ k = 2 ∨ k = 3 ∨ k = 4 ∨ k = 5 ∨ k = 6 ∨ k = 7 ∨ k = 8 := by omega
    rcases hk' with rfl | rfl | rfl | rfl | rfl | rfl | rfl | rfl | rfl
    · have e0 := (unhide HCELLS) 0 (by decide)
      go_wp2
      refine ⟨⟨0 + 1, by omega, rfl, ?_, trivial⟩, by simp [RowKit.intOf]⟩
      rw [or_step (by have := pref_in hn 0 (by decide); exact this.1) (by have := pref_in hn 0 (by decide); exact this.2) (big_in _ _).1 (big_in _ _).2, pref_step hn 0 (by decide)]
    · have e0 := (unhide HCELLS) 1 (by decide)
      go_wp2
      refine ⟨⟨1 + 1, by omega, rfl, ?_, trivial⟩, by simp [RowKit.intOf]⟩
      rw [or_step (by have := pref_in hn 1 (by decide); exact this.1) (by have := pref_in hn 1 (by decide); exact this.2) (big_in _ _).1 (big_in _ _).2, pref_step hn 1 (by decide)]
    · have e0 := (unhide HCELLS) 2 (by decide)
      go_wp2
      refine ⟨⟨2 + 1, by omega, rfl, ?_, trivial⟩, by simp [RowKit.intOf]⟩
      rw [or_step (by have := pref_in hn 2 (by decide); exact this.1) (by have := pref_in hn 2 (by decide); exact this.2) (big_in _ _).1 (big_in _ _).2, pref_step hn 2 (by decide)]
    · have e0 := (unhide HCELLS) 3 (by decide)
      go_wp2
      refine ⟨⟨3 + 1, by omega, rfl, ?_, trivial⟩, by simp [RowKit.intOf]⟩
      rw [or_step (by have := pref_in hn 3 (by decide); exact this.1) (by have := pref_in hn 3 (by decide); exact this.2) (big_in _ _).1 (big_in _ _).2, pref_step hn 3 (by decide)]
    · have e0 := (unhide HCELLS) 4 (by decide)
      go_wp2
      refine ⟨⟨4 + 1, by omega, rfl, ?_, trivial⟩, by simp [RowKit.intOf]⟩
      rw [or_step (by have := pref_in hn 4 (by decide); exact this.1) (by have := pref_in hn 4 (by decide); exact this.2) (big_in _ _).1 (big_in _ _).2, pref_step hn 4 (by decide)]
    · have e0 := (unhide HCELLS) 5 (by decide)
      go_wp2
      refine ⟨⟨5 + 1, by omega, rfl, ?_, trivial⟩, by simp [RowKit.intOf]⟩
      rw [or_step (by have := pref_in hn 5 (by decide); exact this.1) (by have := pref_in hn 5 (by decide); exact this.2) (big_in _ _).1 (big_in _ _).2, pref_step hn 5 (by decide)]
    · have e0 := (unhide HCELLS) 6 (by decide)
      go_wp2
      refine ⟨⟨6 + 1, by omega, rfl, ?_, trivial⟩, by simp [RowKit.intOf]⟩
      rw [or_step (by have := pref_in hn 6 (by decide); exact this.1) (by have := pref_in hn 6 (by decide); exact this.2) (big_in _ _).1 (big_in _ _).2, pref_step hn 6 (by decide)]
    · have e0 := (unhide HCELLS) 7 (by decide)
      go_wp2
      refine ⟨⟨7 + 1, by omega, rfl, ?_, trivial⟩, by simp [RowKit.intOf]⟩
      rw [or_step (by have := pref_in hn 7 (by decide); exact this.1) (by have := pref_in hn 7 (by decide); exact this.2) (big_in _ _).1 (big_in _ _).2, pref_step hn 7 (by decide)]
    · by_cases hc2 : 9 < c
      · go_wp2_with fail
        refine (unhide (HI _)).mono ?_
        rintro e w2 ⟨rfl, hb2⟩
        replace BR := BR.below hb2
        replace BV := BV.below hb2
        clear b0 b1 b2 fB
        obtain ⟨b0, b1, b2, fB⟩ := BV.cells
        obtain ⟨r0, r1, r2, fR⟩ := BR.cells
        replace HBW := hide (Below.andThen (unhide HBW) hb2)
        clear hb2 c0
        go_wp2
        go_region
        go_wp2
        replace BR := BR.set3 (.int .i64 2) (.int .i64 n) (.string ⟨#[]⟩)
        obtain ⟨z0, z1, z2, _⟩ := BR.cells
        replace HBW := hide (below_set3 (unhide HBW) (Nat.le_refl w.heap.size) (.int .i64 2) (.int .i64 n) (.string ⟨#[]⟩)).drew
        refine bodyPost_ret (v := .tuple #[.agg #[.int .i64 2, .int .i64 n, .string ⟨#[]⟩], .slice (some ⟨b, o + 1 + 8, none⟩) rest.length (c - 1 - 8), .nilIface]) (by simp [results, Tryd.results45, go_sem, z0, z1, z2]) rfl ?_
        have e : (2 :: bigL (n + 9223372036854775808)).length = 1 + 8 := by rw [List.length_cons]; unfold bigL; rw [List.length_map, List.length_range]
        have := upost (v := ⟨2, n, ⟨#[]⟩⟩) (c := c - 1 - 8) (unhide H) (unhide HBW) (by omega)
        rw [e, ← Nat.add_assoc] at this
        exact this
      · have hr0 : rest = [] := List.eq_nil_of_length_eq_zero (by omega)
        subst hr0
        have hce : c = 9 := by simp at hc; omega
        subst hce
        go_wp2_with fail
        refine (unhide (HI _)).mono ?_
        rintro e w2 ⟨rfl, hb2⟩
        replace BR := BR.below hb2
        replace BV := BV.below hb2
        clear b0 b1 b2 fB
        obtain ⟨b0, b1, b2, fB⟩ := BV.cells
        obtain ⟨r0, r1, r2, fR⟩ := BR.cells
        replace HBW := hide (Below.andThen (unhide HBW) hb2)
        clear hb2 c0
        go_wp2
        go_region
        go_wp2
        replace BR := BR.set3 (.int .i64 2) (.int .i64 n) (.string ⟨#[]⟩)
        obtain ⟨z0, z1, z2, _⟩ := BR.cells
        replace HBW := hide (below_set3 (unhide HBW) (Nat.le_refl w.heap.size) (.int .i64 2) (.int .i64 n) (.string ⟨#[]⟩)).drew
        refine bodyPost_ret (v := .tuple #[.agg #[.int .i64 2, .int .i64 n, .string ⟨#[]⟩], .slice (some ⟨b, o + 1, none⟩) 0 0, .nilIface]) (by simp [results, Tryd.results45, go_sem, z0, z1, z2]) rfl ?_
        exact upost_end (unhide HBW)
end Go.Proofs.YtpmjpbndpnmdlaaDoor

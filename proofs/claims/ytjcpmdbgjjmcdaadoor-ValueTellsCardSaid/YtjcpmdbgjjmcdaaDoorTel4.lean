/- A value's print: plain law; value.Print: contract. -/
import Derived.Test.YtjcpmdbgjjmcdaaDoorVal4
import Derived.Test.YtjcpmdbgjjmcdaaDoorShelf
import Derived.Lib.AppendIntMem
import Derived.Lib.ReplaceLaws
set_option linter.all false
namespace Go.Proofs.YtjcpmdbgjjmcdaaDoor
open Go.RowKit Go.Lib

/-- The text between quotes, each quote doubled. -/
def dbl (l : List UInt8) : List UInt8 := l.flatMap fun b => if b = 39 then [39, 39] else [b]
theorem dbl_cons (b : UInt8) (l : List UInt8) : dbl (b :: l) = (if b = 39 then [39, 39] else [b]) ++ dbl l := by
  unfold dbl
  rw [List.flatMap_cons]
theorem replaceK_dbl : ∀ l : List UInt8, Lib.replaceK [39] [39, 39] (Lib.count l [39]) l = dbl l
  | [] => by rw [Lib.count_one]; rfl
  | b :: l => by
    have ih := replaceK_dbl l
    rw [dbl_cons, ← ih]
    by_cases hb : b = 39
    · subst hb
      rw [if_pos rfl, Lib.count_cons_eq, Nat.add_comm 1, Lib.replaceK_hit [39] [39, 39] _ _ 0 (by unfold Lib.index; simp)]
      simp
    · rw [if_neg hb, Lib.count_cons_ne b 39 l hb]
      cases hc : Lib.count l [39] with
      | zero => rfl
      | succ k =>
        obtain ⟨i, hi⟩ := Lib.index_of_count (s := l) (old := [39]) (by omega)
        have hi' : Lib.index (b :: l) [39] = ((i + 1 : Nat) : Int) := by
          have hne : (39 == b) = false := by rw [beq_eq_false_iff_ne]; exact fun h => hb h.symm
          have hq : ((i : Int) == -1) = false := by rw [beq_eq_false_iff_ne]; omega
          unfold Lib.index
          rw [hi]
          simp [List.isPrefixOf, hne, hq]
        rw [Lib.replaceK_hit [39] [39, 39] k (b :: l) (i + 1) hi', Lib.replaceK_hit [39] [39, 39] k l i hi]
        simp
theorem replaceAll_dbl (l : List UInt8) : Lib.replaceAll l [39] [39, 39] = dbl l := by
  unfold Lib.replaceAll Lib.replace
  rw [if_neg (by decide)]
  unfold Lib.replaceNum
  rw [if_pos (.inl (by decide))]
  exact replaceK_dbl l
theorem dbl_len : ∀ l : List UInt8, (dbl l).length ≤ 2 * l.length
  | [] => Nat.le_refl _
  | b :: l => by
    have := dbl_len l
    rw [dbl_cons, List.length_append]
    by_cases hb : b = 39
    · rw [if_pos hb]; simp; omega
    · rw [if_neg hb]; simp; omega
def quotedS (s : ByteArray) : ByteArray := ⟨([39] ++ dbl s.data.toList ++ [39]).toArray⟩
def printS (k n : Int) (s : ByteArray) : ByteArray :=
  if mayB k n s = false then ⟨#[63]⟩
  else if k = 0 then ⟨#[78, 85, 76, 76]⟩
  else if k = 1 then (if n = 1 then ⟨#[84, 82, 85, 69]⟩ else ⟨#[70, 65, 76, 83, 69]⟩)
  else if k = 2 then ⟨(Lib.itoa n).toArray⟩
  else quotedS s
/-- What printing needs of the world: the table of tens, the place of the longest search. -/
def PrW (w : World) : Prop := Lib.TabIs Tryd.prog w "internal/strconv.uint64pow10" .u64 Lib.pow10Tab ∧ ∃ m, w.cell? ⟨2, 0, none⟩ = some (.int .i64 m)
theorem PrW.below {w w' : World} (h : PrW w) (hb : Below w.heap.size w w') : PrW w' :=
  ⟨Lib.tabBelow_of_tabIs h.1 w' hb, by obtain ⟨m, hm⟩ := h.2; exact ⟨m, (hb.cell (p := ⟨2, 0, none⟩) (lt_of_cell hm)).trans hm⟩⟩
theorem mayB_text {k n : Int} {s : ByteArray} (h : mayB k n s = true) (h0 : k ≠ 0) (h1 : k ≠ 1) (h2 : k ≠ 2) : k = 3 ∧ s.size ≤ 40 := by
  unfold mayB at h
  rw [if_neg h0, if_neg h1, if_neg h2] at h
  by_cases h3 : k = 3
  · rw [if_pos h3] at h
    simp only [Bool.and_eq_true, decide_eq_true_eq] at h
    exact ⟨h3, by omega⟩
  · rw [if_neg h3] at h; cases h
set_option maxRecDepth 100000 in
set_option maxHeartbeats 1000000 in
theorem value_Print (k n : Int) (s : ByteArray) (w : World) (hs : s.size ≤ 9223372036854775807) (hn : In64 n) (hp : PrW w) :
    Calls Tryd.prog 10 #[.agg #[.int .i64 k, .int .i64 n, .string s]] w fun e w' => e = .returned (.string (printS k n s)) ∧ Below w.heap.size w w' := by
  have HP := hide hp
  clear hp
  have hB0 : ∀ o, Below w.heap.size w (w.alloc o) := fun o => (Below.refl _ _).alloc (Nat.le_refl _) o
  have HBW := hide (hB0 (.cells #[.int .i64 k, .int .i64 n, .string s] 23))
  clear hB0
  have BA := Blk3.new w 23 (.int .i64 k) (.int .i64 n) (.string s)
  have hI := fun w => hide (value_Is k n s w hs)
  unfold printS
  cases hm : mayB k n s with
  | false =>
    rw [hm] at hI
    rw [if_pos rfl]
    clear hm
    go_enter Tryd.func10, Tryd.ntmps10
    go_wp2_with fail
    refine (unhide (hI _)).mono ?_
    rintro e w1 ⟨rfl, hb1⟩
    replace BA := BA.below hb1
    obtain ⟨a0, a1, a2, fA⟩ := BA.cells
    replace HBW := hide (Below.andThen (unhide HBW) hb1)
    clear hb1
    go_wp2
    go_ret
    exact ⟨rfl, unhide HBW⟩
  | true =>
    rw [hm] at hI
    rw [if_neg (by decide)]
    by_cases h0 : k = 0
    · rw [if_pos h0]
      have q0 : (k == 0) = true := by simpa using h0
      clear hm h0
      go_enter Tryd.func10, Tryd.ntmps10
      go_wp2_with fail
      refine (unhide (hI _)).mono ?_
      rintro e w1 ⟨rfl, hb1⟩
      replace BA := BA.below hb1
      obtain ⟨a0, a1, a2, fA⟩ := BA.cells
      replace HBW := hide (Below.andThen (unhide HBW) hb1)
      clear hb1
      go_wp2
      go_ret
      exact ⟨rfl, unhide HBW⟩
    · rw [if_neg h0]
      have q0 : (k == 0) = false := by simpa using h0
      by_cases h1 : k = 1
      · rw [if_pos h1]
        have q1 : (k == 1) = true := by simpa using h1
        by_cases hn1 : n = 1
        · rw [if_pos hn1]
          have q2 : (n == 1) = true := by simpa using hn1
          clear hm h0 h1 hn1
          go_enter Tryd.func10, Tryd.ntmps10
          go_wp2_with fail
          refine (unhide (hI _)).mono ?_
          rintro e w1 ⟨rfl, hb1⟩
          replace BA := BA.below hb1
          obtain ⟨a0, a1, a2, fA⟩ := BA.cells
          replace HBW := hide (Below.andThen (unhide HBW) hb1)
          clear hb1
          go_wp2
          go_ret
          exact ⟨rfl, unhide HBW⟩
        · rw [if_neg hn1]
          have q2 : (n == 1) = false := by simpa using hn1
          clear hm h0 h1 hn1
          go_enter Tryd.func10, Tryd.ntmps10
          go_wp2_with fail
          refine (unhide (hI _)).mono ?_
          rintro e w1 ⟨rfl, hb1⟩
          replace BA := BA.below hb1
          obtain ⟨a0, a1, a2, fA⟩ := BA.cells
          replace HBW := hide (Below.andThen (unhide HBW) hb1)
          clear hb1
          go_wp2
          go_ret
          exact ⟨rfl, unhide HBW⟩
      · rw [if_neg h1]
        have q1 : (k == 1) = false := by simpa using h1
        by_cases h2 : k = 2
        · rw [if_pos h2]
          have q2 : (k == 2) = true := by simpa using h2
          clear hm h0 h1 h2
          have HT := fun W (h : Below w.heap.size w W) => hide (Tryd.strconv_FormatInt_10 n hn.1 hn.2 W ((unhide HP).below h).1)
          go_enter Tryd.func10, Tryd.ntmps10
          go_wp2_with fail
          refine (unhide (hI _)).mono ?_
          rintro e w1 ⟨rfl, hb1⟩
          replace BA := BA.below hb1
          obtain ⟨a0, a1, a2, fA⟩ := BA.cells
          replace HBW := hide (Below.andThen (unhide HBW) hb1)
          clear hb1
          go_wp2_with fail
          refine (unhide (HT _ (unhide HBW))).mono ?_
          rintro e w2 ⟨rfl, q, os, rfl⟩
          go_wp2
          go_ret
          exact ⟨rfl, Below.andThen (unhide HBW) (below_grow _ _ (Nat.le_refl _) _ _)⟩
        · rw [if_neg h2]
          have q2 : (k == 2) = false := by simpa using h2
          obtain ⟨h3, h40⟩ := mayB_text hm h0 h1 h2
          have HT := fun W (h : Below w.heap.size w W) => hide (by
            obtain ⟨m, hmm⟩ := ((unhide HP).below h).2
            exact Tryd.strings_ReplaceAll s ⟨#[39]⟩ ⟨#[39, 39]⟩ m W (by omega) hmm (by decide) (by have := countB_le ⟨#[39]⟩ (by decide) s.size s (Nat.le_refl _); have e : (⟨#[39, 39]⟩ : ByteArray).size = 2 := rfl; rw [e]; omega))
          obtain ⟨t, ht, ht2, ht3⟩ : ∃ t : ByteArray, (⟨(Lib.replaceAll s.data.toList (⟨#[39]⟩ : ByteArray).data.toList (⟨#[39, 39]⟩ : ByteArray).data.toList).toArray⟩ : ByteArray) = t ∧ t.size ≤ 80 ∧ quotedS s = (⟨#[39]⟩ : ByteArray) ++ t ++ (⟨#[39]⟩ : ByteArray) := by
            refine ⟨_, rfl, ?_, ?_⟩
            · have e : Lib.replaceAll s.data.toList (⟨#[39]⟩ : ByteArray).data.toList (⟨#[39, 39]⟩ : ByteArray).data.toList = dbl s.data.toList := replaceAll_dbl _
              rw [e]
              have := dbl_len s.data.toList
              have e2 : s.data.toList.length = s.size := by rw [Array.length_toList]; rfl
              show (dbl s.data.toList).toArray.size ≤ 80
              rw [List.size_toArray]
              omega
            · have e : Lib.replaceAll s.data.toList (⟨#[39]⟩ : ByteArray).data.toList (⟨#[39, 39]⟩ : ByteArray).data.toList = dbl s.data.toList := replaceAll_dbl _
              rw [e]
              apply ByteArray.ext
              unfold quotedS
              simp
          rw [ht] at HT
          rw [ht3]
          clear hm h0 h1 h2 h3 ht ht3
          go_enter Tryd.func10, Tryd.ntmps10
          go_wp2_with fail
          refine (unhide (hI _)).mono ?_
          rintro e w1 ⟨rfl, hb1⟩
          replace BA := BA.below hb1
          obtain ⟨a0, a1, a2, fA⟩ := BA.cells
          replace HBW := hide (Below.andThen (unhide HBW) hb1)
          clear hb1
          go_wp2_with fail
          refine (unhide (HT _ (unhide HBW))).mono ?_
          rintro e w2 ⟨rfl, hb2⟩
          replace HBW := hide (Below.andThen (unhide HBW) hb2)
          clear hb2
          go_wp2
          go_ret
          exact ⟨rfl, unhide HBW⟩
end Go.Proofs.YtjcpmdbgjjmcdaaDoor

/- The law of names: the shapes follow the law's own tables: plain law. -/
import Derived.Test.YtelopbcbmckbcaaGreatDoorNmC
import Derived.Test.YtelopbcbmckbcaaGreatDoorNmR1
import Derived.Test.YtelopbcbmckbcaaGreatDoorNmR2
import Derived.Test.YtelopbcbmckbcaaGreatDoorNmR3
import Derived.Test.YtelopbcbmckbcaaGreatDoorNmR4
import Derived.Test.YtelopbcbmckbcaaGreatDoorNmR5
import Derived.Test.YtelopbcbmckbcaaGreatDoorNmR6
import Derived.Test.YtelopbcbmckbcaaGreatDoorNmR7
set_option linter.all false
namespace Go.Proofs.YtelopbcbmckbcaaGreatDoor
open Go.RowKit

namespace Ev
noncomputable section
theorem rows_ok (j t : Nat) (hj : j < 41) (ht : t < 18) : chkStep j t = true := by
  have hr : rowOK j = true := by
    have hc : j = 0 ∨ j = 1 ∨ j = 2 ∨ j = 3 ∨ j = 4 ∨ j = 5 ∨ j = 6 ∨ j = 7 ∨ j = 8 ∨ j = 9 ∨ j = 10 ∨ j = 11 ∨ j = 12 ∨ j = 13 ∨ j = 14 ∨ j = 15 ∨ j = 16 ∨ j = 17 ∨ j = 18 ∨ j = 19 ∨ j = 20 ∨ j = 21 ∨ j = 22 ∨ j = 23 ∨ j = 24 ∨ j = 25 ∨ j = 26 ∨ j = 27 ∨ j = 28 ∨ j = 29 ∨ j = 30 ∨ j = 31 ∨ j = 32 ∨ j = 33 ∨ j = 34 ∨ j = 35 ∨ j = 36 ∨ j = 37 ∨ j = 38 ∨ j = 39 ∨ j = 40 := by omega
    rcases hc with rfl | rfl | rfl | rfl | rfl | rfl | rfl | rfl | rfl | rfl | rfl | rfl | rfl | rfl | rfl | rfl | rfl | rfl | rfl | rfl | rfl | rfl | rfl | rfl | rfl | rfl | rfl | rfl | rfl | rfl | rfl | rfl | rfl | rfl | rfl | rfl | rfl | rfl | rfl | rfl | rfl
    · exact row0
    · exact row1
    · exact row2
    · exact row3
    · exact row4
    · exact row5
    · exact row6
    · exact row7
    · exact row8
    · exact row9
    · exact row10
    · exact row11
    · exact row12
    · exact row13
    · exact row14
    · exact row15
    · exact row16
    · exact row17
    · exact row18
    · exact row19
    · exact row20
    · exact row21
    · exact row22
    · exact row23
    · exact row24
    · exact row25
    · exact row26
    · exact row27
    · exact row28
    · exact row29
    · exact row30
    · exact row31
    · exact row32
    · exact row33
    · exact row34
    · exact row35
    · exact row36
    · exact row37
    · exact row38
    · exact row39
    · exact row40
  exact List.all_eq_true.1 hr t (List.mem_range.2 ht)
def goB (j t : Nat) (ok : Bool) (tf : Nat → Bool) (kf : Nat → Nat) : Bool := match kdK j t with
  | .go k _ _ => ok && Nat.blt k 41 && (tabB k 0 == tf 0) && (tabB k 1 == tf 1) && (tabB k 2 == tf 2) && Nat.beq (keyN k 0) (kf 0) && Nat.beq (keyN k 1) (kf 1) && Nat.beq (keyN k 2) (kf 2)
  | .err e _ _ => !ok && Nat.blt e 3
def takenB (j n : Nat) : Bool := tabB j n || Nat.blt 0 (keyN j n)
def lawB (j n on : Nat) : Bool :=
  goB j n (!takenB j n) (fun i => bif Nat.beq i n then true else tabB j i) (keyN j) &&
  goB j (3 + 3 * n + on) (!takenB j n && tabB j on) (tabB j) (fun i => bif Nat.beq i n then on + 1 else keyN j i) &&
  goB j (12 + n) (tabB j n) (fun i => bif Nat.beq i n then false else tabB j i) (fun i => bif Nat.beq (keyN j i) (n + 1) then 0 else keyN j i) &&
  goB j (15 + n) (Nat.blt 0 (keyN j n)) (tabB j) (fun i => bif Nat.beq i n then 0 else keyN j i)
set_option maxRecDepth 1000000 in
theorem law_all : ((List.range 41).all fun j => (List.range 3).all fun n => (List.range 3).all fun o => lawB j n o) = true := by kernel_rfl
theorem law_at (j n o : Nat) (hj : j < 41) (hn : n < 3) (ho : o < 3) : lawB j n o = true :=
  List.all_eq_true.1 (List.all_eq_true.1 (List.all_eq_true.1 law_all j (List.mem_range.2 hj)) n (List.mem_range.2 hn)) o (List.mem_range.2 ho)
/-- What goB says. -/
def Gone (j t : Nat) (ok : Bool) (tf : Nat → Bool) (kf : Nat → Nat) : Prop := match kdK j t with
  | .go k _ _ => ok = true ∧ k < 41 ∧ (∀ i, i < 3 → tf i = tabB k i) ∧ (∀ i, i < 3 → kf i = keyN k i)
  | .err e _ _ => ok = false ∧ e < 3
theorem goB_ok {j t : Nat} {ok : Bool} {tf : Nat → Bool} {kf : Nat → Nat} (h : goB j t ok tf kf = true) : Gone j t ok tf kf := by
  unfold goB at h
  unfold Gone
  cases hk : kdK j t with
  | go k p q =>
    rw [hk] at h
    simp only [Bool.and_eq_true, beq_iff_eq, Nat.blt_eq, Nat.beq_eq] at h
    obtain ⟨⟨⟨⟨⟨⟨⟨h1, h2⟩, h3⟩, h4⟩, h5⟩, h6⟩, h7⟩, h8⟩ := h
    refine ⟨h1, h2, fun i hi => ?_, fun i hi => ?_⟩ <;>
    · have : i = 0 ∨ i = 1 ∨ i = 2 := by omega
      rcases this with rfl | rfl | rfl <;> simp_all
  | err e p q =>
    rw [hk] at h
    simp only [Bool.and_eq_true, Bool.not_eq_true', Nat.blt_eq] at h
    exact h
theorem law_parts (j n o : Nat) (hj : j < 41) (hn : n < 3) (ho : o < 3) :
    Gone j n (!takenB j n) (fun i => bif Nat.beq i n then true else tabB j i) (keyN j) ∧
    Gone j (3 + 3 * n + o) (!takenB j n && tabB j o) (tabB j) (fun i => bif Nat.beq i n then o + 1 else keyN j i) ∧
    Gone j (12 + n) (tabB j n) (fun i => bif Nat.beq i n then false else tabB j i) (fun i => bif Nat.beq (keyN j i) (n + 1) then 0 else keyN j i) ∧
    Gone j (15 + n) (Nat.blt 0 (keyN j n)) (tabB j) (fun i => bif Nat.beq i n then 0 else keyN j i) := by
  have h := law_at j n o hj hn ho
  unfold lawB at h
  simp only [Bool.and_eq_true] at h
  exact ⟨goB_ok h.1.1.1, goB_ok h.1.1.2, goB_ok h.1.2, goB_ok h.2⟩
theorem keyN_small (j n : Nat) : keyN j n < 4 ∨ 41 ≤ j := by
  by_cases h : 41 ≤ j
  · exact .inr h
  · refine .inl ?_
    have hall : ((List.range 41).all fun j => ((nmTab[j]?).getD ([], [])).2.all fun k => Nat.blt k 4) = true := by kernel_rfl
    have := List.all_eq_true.1 hall j (List.mem_range.2 (by omega))
    unfold keyN
    cases hk : (((nmTab[j]?).getD ([], [])).2)[n]? with
    | none => exact Nat.succ_pos _
    | some v =>
      have := List.all_eq_true.1 this v (List.mem_of_getElem? hk)
      simpa using this
theorem txt_eq {a : ByteArray} {l : List UInt8} (h : a.data.toList = l) : a = ⟨l.toArray⟩ := by
  apply ByteArray.ext
  apply Array.ext'
  rw [h]
def nmB (n : Nat) : ByteArray := ⟨(nmL n).toArray⟩
theorem text0 (n : Nat) (hn : n < 3) : (⟨#[67, 82, 69, 65, 84, 69, 32, 84, 65, 66, 76, 69, 32]⟩ : ByteArray) ++ nmB n ++ (⟨#[32, 40, 97, 32, 73, 78, 84, 41]⟩ : ByteArray) = ⟨(txT n).1.toArray⟩ := by
  have : n = 0 ∨ n = 1 ∨ n = 2 := by omega
  rcases this with rfl | rfl | rfl <;> exact txt_eq (by kernel_rfl)
theorem text1 (n o : Nat) (hn : n < 3) (ho : o < 3) : (⟨#[67, 82, 69, 65, 84, 69, 32, 73, 78, 68, 69, 88, 32]⟩ : ByteArray) ++ nmB n ++ (⟨#[32, 79, 78, 32]⟩ : ByteArray) ++ nmB o ++ (⟨#[32, 40, 97, 41]⟩ : ByteArray) = ⟨(txT (3 + 3 * n + o)).1.toArray⟩ := by
  have h1 : n = 0 ∨ n = 1 ∨ n = 2 := by omega
  have h2 : o = 0 ∨ o = 1 ∨ o = 2 := by omega
  rcases h1 with rfl | rfl | rfl <;> rcases h2 with rfl | rfl | rfl <;> exact txt_eq (by kernel_rfl)
theorem text2 (n : Nat) (hn : n < 3) : (⟨#[68, 82, 79, 80, 32, 84, 65, 66, 76, 69, 32]⟩ : ByteArray) ++ nmB n = ⟨(txT (12 + n)).1.toArray⟩ := by
  have : n = 0 ∨ n = 1 ∨ n = 2 := by omega
  rcases this with rfl | rfl | rfl <;> exact txt_eq (by kernel_rfl)
theorem text3 (n : Nat) (hn : n < 3) : (⟨#[68, 82, 79, 80, 32, 73, 78, 68, 69, 88, 32]⟩ : ByteArray) ++ nmB n = ⟨(txT (15 + n)).1.toArray⟩ := by
  have : n = 0 ∨ n = 1 ∨ n = 2 := by omega
  rcases this with rfl | rfl | rfl <;> exact txt_eq (by kernel_rfl)
end
end Ev
end Go.Proofs.YtelopbcbmckbcaaGreatDoor

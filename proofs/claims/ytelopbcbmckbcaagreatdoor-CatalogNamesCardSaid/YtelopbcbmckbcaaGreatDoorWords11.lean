/- What the words' functions yield at the words that these laws use: reckoned. -/
import Derived.Test.YtelopbcbmckbcaaGreatDoorFlat
set_option linter.all false
set_option linter.all false
namespace Go.Proofs.YtelopbcbmckbcaaGreatDoor
open Go.RowKit

namespace Ev
noncomputable section
abbrev cx0 : Ctx := cxS Tryz.prog tab clsSpec 3000
theorem cx0_ok : CallSound Tryz.prog cx0.call := (cxS_sound mixed tab_ok clsSpec_ok 3000).1
set_option maxRecDepth 1000000
def w_consistoryref8_cased : FlatT := [([.str [100], .bool false], .str [100]), ([.str [100], .bool true], .str [68]), ([.str [101], .bool false], .str [101]), ([.str [101], .bool true], .str [69]), ([.str [102], .bool false], .str [102]), ([.str [102], .bool true], .str [70]), ([.str [103], .bool false], .str [103]), ([.str [103], .bool true], .str [71]), ([.str [104], .bool false], .str [104]), ([.str [104], .bool true], .str [72]), ([.str [105], .bool false], .str [105]), ([.str [105], .bool true], .str [73]), ([.str [107, 100], .bool false], .str [107, 100]), ([.str [107, 100], .bool true], .str [75, 68]), ([.str [107, 101], .bool false], .str [107, 101]), ([.str [107, 101], .bool true], .str [75, 69]), ([.str [107, 102], .bool false], .str [107, 102]), ([.str [107, 102], .bool true], .str [75, 70]), ([.str [107, 103], .bool false], .str [107, 103]), ([.str [107, 103], .bool true], .str [75, 71]), ([.str [107, 97], .bool false], .str [107, 97]), ([.str [107, 97], .bool true], .str [75, 65]), ([.str [107, 98], .bool false], .str [107, 98]), ([.str [107, 98], .bool true], .str [75, 66]), ([.str [107, 99], .bool false], .str [107, 99]), ([.str [107, 99], .bool true], .str [75, 67]), ([.str [116, 100], .bool false], .str [116, 100]), ([.str [116, 100], .bool true], .str [84, 68]), ([.str [116, 101], .bool false], .str [116, 101]), ([.str [116, 101], .bool true], .str [84, 69]), ([.str [116, 102], .bool false], .str [116, 102]), ([.str [116, 102], .bool true], .str [84, 70]), ([.str [116, 103], .bool false], .str [116, 103]), ([.str [116, 103], .bool true], .str [84, 71]), ([.str [116, 104], .bool false], .str [116, 104]), ([.str [116, 104], .bool true], .str [84, 72]), ([.str [116, 105], .bool false], .str [116, 105]), ([.str [116, 105], .bool true], .str [84, 73]), ([.str [116, 97], .bool false], .str [116, 97]), ([.str [116, 97], .bool true], .str [84, 65]), ([.str [116, 98], .bool false], .str [116, 98]), ([.str [116, 98], .bool true], .str [84, 66]), ([.str [116, 99], .bool false], .str [116, 99]), ([.str [116, 99], .bool true], .str [84, 67]), ([.str [116], .bool false], .str [116]), ([.str [116], .bool true], .str [84]), ([.str [117], .bool false], .str [117]), ([.str [117], .bool true], .str [85]), ([.str [67, 82, 69, 65, 84, 69], .bool true], .str [67, 82, 69, 65, 84, 69]), ([.str [68, 82, 79, 80], .bool true], .str [68, 82, 79, 80]), ([.str [73, 78, 68, 69, 88], .bool true], .str [73, 78, 68, 69, 88]), ([.str [73, 78, 84], .bool true], .str [73, 78, 84]), ([.str [75, 69, 89], .bool true], .str [75, 69, 89]), ([.str [79, 78], .bool true], .str [79, 78]), ([.str [80, 82, 73, 77, 65, 82, 89], .bool true], .str [80, 82, 73, 77, 65, 82, 89]), ([.str [84, 65, 66, 76, 69], .bool true], .str [84, 65, 66, 76, 69]), ([.str [97], .bool false], .str [97]), ([.str [97], .bool true], .str [65]), ([.str [98], .bool false], .str [98]), ([.str [98], .bool true], .str [66]), ([.str [99], .bool false], .str [99]), ([.str [99], .bool true], .str [67])]
theorem w_consistoryref8_cased_ok : goodW cx0.call 78 w_consistoryref8_cased = true := by kernel_rfl
def w_consistoryref8_digit : FlatT := [([.int .u8 (32)], .bool false), ([.int .u8 (40)], .bool false), ([.int .u8 (41)], .bool false), ([.int .u8 (44)], .bool false)]
theorem w_consistoryref8_digit_ok : goodW cx0.call 76 w_consistoryref8_digit = true := by kernel_rfl
def w_consistoryref8_isWord : FlatT := [([.str [65]], .bool false), ([.str [66]], .bool false), ([.str [67, 82, 69, 65, 84, 69]], .bool true), ([.str [67]], .bool false), ([.str [68, 82, 79, 80]], .bool true), ([.str [68]], .bool false), ([.str [69]], .bool false), ([.str [70]], .bool false), ([.str [71]], .bool false), ([.str [72]], .bool false), ([.str [73, 78, 68, 69, 88]], .bool true), ([.str [73, 78, 84]], .bool true), ([.str [73]], .bool false), ([.str [75, 65]], .bool false), ([.str [75, 66]], .bool false), ([.str [75, 67]], .bool false), ([.str [75, 68]], .bool false), ([.str [75, 69, 89]], .bool true), ([.str [75, 69]], .bool false), ([.str [75, 70]], .bool false), ([.str [75, 71]], .bool false), ([.str [79, 78]], .bool true), ([.str [80, 82, 73, 77, 65, 82, 89]], .bool true), ([.str [84, 65, 66, 76, 69]], .bool true), ([.str [84, 65]], .bool false), ([.str [84, 66]], .bool false), ([.str [84, 67]], .bool false), ([.str [84, 68]], .bool false), ([.str [84, 69]], .bool false), ([.str [84, 70]], .bool false), ([.str [84, 71]], .bool false), ([.str [84, 72]], .bool false), ([.str [84, 73]], .bool false), ([.str [84]], .bool false), ([.str [85]], .bool false)]
theorem w_consistoryref8_isWord_ok : goodW cx0.call 77 w_consistoryref8_isWord = true := by kernel_rfl
def w_consistoryref8_letter : FlatT := [([.int .u8 (100)], .bool true), ([.int .u8 (101)], .bool true), ([.int .u8 (102)], .bool true), ([.int .u8 (103)], .bool true), ([.int .u8 (104)], .bool true), ([.int .u8 (105)], .bool true), ([.int .u8 (107)], .bool true), ([.int .u8 (116)], .bool true), ([.int .u8 (117)], .bool true), ([.int .u8 (32)], .bool false), ([.int .u8 (40)], .bool false), ([.int .u8 (41)], .bool false), ([.int .u8 (44)], .bool false), ([.int .u8 (65)], .bool true), ([.int .u8 (66)], .bool true), ([.int .u8 (67)], .bool true), ([.int .u8 (68)], .bool true), ([.int .u8 (69)], .bool true), ([.int .u8 (73)], .bool true), ([.int .u8 (75)], .bool true), ([.int .u8 (76)], .bool true), ([.int .u8 (77)], .bool true), ([.int .u8 (78)], .bool true), ([.int .u8 (79)], .bool true), ([.int .u8 (80)], .bool true), ([.int .u8 (82)], .bool true), ([.int .u8 (84)], .bool true), ([.int .u8 (88)], .bool true), ([.int .u8 (89)], .bool true), ([.int .u8 (97)], .bool true), ([.int .u8 (98)], .bool true), ([.int .u8 (99)], .bool true)]
theorem w_consistoryref8_letter_ok : goodW cx0.call 82 w_consistoryref8_letter = true := by kernel_rfl
def w_lex_Name : FlatT := [([.str [100]], .bool true), ([.str [101]], .bool true), ([.str [102]], .bool true), ([.str [103]], .bool true), ([.str [104]], .bool true), ([.str [105]], .bool true), ([.str [107, 100]], .bool true), ([.str [107, 101]], .bool true), ([.str [107, 102]], .bool true), ([.str [107, 103]], .bool true), ([.str [107, 97]], .bool true), ([.str [107, 98]], .bool true), ([.str [107, 99]], .bool true), ([.str [116, 100]], .bool true), ([.str [116, 101]], .bool true), ([.str [116, 102]], .bool true), ([.str [116, 103]], .bool true), ([.str [116, 104]], .bool true), ([.str [116, 105]], .bool true), ([.str [116, 97]], .bool true), ([.str [116, 98]], .bool true), ([.str [116, 99]], .bool true), ([.str [116]], .bool true), ([.str [117]], .bool true), ([.str [97]], .bool true), ([.str [98]], .bool true), ([.str [99]], .bool true)]
theorem w_lex_Name_ok : goodW cx0.call 98 w_lex_Name = true := by kernel_rfl
def w_lex_sort : FlatT := [([.int .u8 (100)], .int .i64 (2)), ([.int .u8 (101)], .int .i64 (2)), ([.int .u8 (102)], .int .i64 (2)), ([.int .u8 (103)], .int .i64 (2)), ([.int .u8 (104)], .int .i64 (2)), ([.int .u8 (105)], .int .i64 (2)), ([.int .u8 (107)], .int .i64 (2)), ([.int .u8 (116)], .int .i64 (2)), ([.int .u8 (117)], .int .i64 (2)), ([.int .u8 (97)], .int .i64 (2)), ([.int .u8 (98)], .int .i64 (2)), ([.int .u8 (99)], .int .i64 (2))]
theorem w_lex_sort_ok : goodW cx0.call 139 w_lex_sort = true := by kernel_rfl
def words (g : FuncId) : Option FlatT :=
  bif Nat.beq g 78 then some w_consistoryref8_cased else
  bif Nat.beq g 76 then some w_consistoryref8_digit else
  bif Nat.beq g 77 then some w_consistoryref8_isWord else
  bif Nat.beq g 82 then some w_consistoryref8_letter else
  bif Nat.beq g 98 then some w_lex_Name else
  bif Nat.beq g 139 then some w_lex_sort else
  none
theorem words_ok {g : FuncId} {t : FlatT} (h : words g = some t) : goodW cx0.call g t = true := by
  unfold words at h
  cases hw_consistoryref8_cased : Nat.beq g 78 with
  | true => rw [hw_consistoryref8_cased, cond_true] at h; rw [Nat.beq_eq] at hw_consistoryref8_cased; subst hw_consistoryref8_cased; cases h; exact w_consistoryref8_cased_ok
  | false =>
  rw [hw_consistoryref8_cased, cond_false] at h
  cases hw_consistoryref8_digit : Nat.beq g 76 with
  | true => rw [hw_consistoryref8_digit, cond_true] at h; rw [Nat.beq_eq] at hw_consistoryref8_digit; subst hw_consistoryref8_digit; cases h; exact w_consistoryref8_digit_ok
  | false =>
  rw [hw_consistoryref8_digit, cond_false] at h
  cases hw_consistoryref8_isWord : Nat.beq g 77 with
  | true => rw [hw_consistoryref8_isWord, cond_true] at h; rw [Nat.beq_eq] at hw_consistoryref8_isWord; subst hw_consistoryref8_isWord; cases h; exact w_consistoryref8_isWord_ok
  | false =>
  rw [hw_consistoryref8_isWord, cond_false] at h
  cases hw_consistoryref8_letter : Nat.beq g 82 with
  | true => rw [hw_consistoryref8_letter, cond_true] at h; rw [Nat.beq_eq] at hw_consistoryref8_letter; subst hw_consistoryref8_letter; cases h; exact w_consistoryref8_letter_ok
  | false =>
  rw [hw_consistoryref8_letter, cond_false] at h
  cases hw_lex_Name : Nat.beq g 98 with
  | true => rw [hw_lex_Name, cond_true] at h; rw [Nat.beq_eq] at hw_lex_Name; subst hw_lex_Name; cases h; exact w_lex_Name_ok
  | false =>
  rw [hw_lex_Name, cond_false] at h
  cases hw_lex_sort : Nat.beq g 139 with
  | true => rw [hw_lex_sort, cond_true] at h; rw [Nat.beq_eq] at hw_lex_sort; subst hw_lex_sort; cases h; exact w_lex_sort_ok
  | false =>
  rw [hw_lex_sort, cond_false] at h
  cases h
def specW (g : FuncId) (args : List AV) (m : Mem) : Option (AV × Mem) := match words g with
  | some t => ob (findW t args) fun r => some (r, m)
  | none => clsSpec g args m
theorem specW_ok : CallSound Tryz.prog specW := by
  intro g args m r m' h
  unfold specW at h
  split at h
  · rename_i t ht
    obtain ⟨v, hv, h⟩ := ob_some.1 h
    cases h
    exact flat_ok cx0_ok (words_ok ht) hv m
  · exact clsSpec_ok g args m r m' h
abbrev cxW : Ctx := cxS Tryz.prog tab specW 3000
theorem cxW_ok : CallSound Tryz.prog cxW.call := (cxS_sound mixed tab_ok specW_ok 3000).1
end
end Ev
end Go.Proofs.YtelopbcbmckbcaaGreatDoor

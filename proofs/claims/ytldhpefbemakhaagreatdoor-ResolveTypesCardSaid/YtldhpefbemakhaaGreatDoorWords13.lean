/- What the words' functions yield at the words that these laws use: reckoned. -/
import Derived.Test.YtldhpefbemakhaaGreatDoorFlat
set_option linter.all false
namespace Go.Proofs.YtldhpefbemakhaaGreatDoor
open Go.RowKit

namespace Ev
noncomputable section
abbrev cx0 : Ctx := cxS Tryz.prog tab clsSpec 3000
theorem cx0_ok : CallSound Tryz.prog cx0.call := (cxS_sound mixed tab_ok clsSpec_ok 3000).1
set_option maxRecDepth 1000000
def w_consistoryref8_Name : FlatT := [([.str [116]], .bool true), ([.str [118]], .bool true), ([.str [120]], .bool true), ([.str [97]], .bool true), ([.str [98]], .bool true), ([.str [99]], .bool true), ([.str []], .bool false)]
theorem w_consistoryref8_Name_ok : goodW cx0.call 170 w_consistoryref8_Name = true := by kernel_rfl
def w_consistoryref8_cased : FlatT := [([.str [110], .bool false], .str [110]), ([.str [110], .bool true], .str [78]), ([.str [115], .bool false], .str [115]), ([.str [115], .bool true], .str [83]), ([.str [116], .bool false], .str [116]), ([.str [116], .bool true], .str [84]), ([.str [117], .bool false], .str [117]), ([.str [117], .bool true], .str [85]), ([.str [118], .bool false], .str [118]), ([.str [118], .bool true], .str [86]), ([.str [119], .bool false], .str [119]), ([.str [119], .bool true], .str [87]), ([.str [120], .bool false], .str [120]), ([.str [120], .bool true], .str [88]), ([.str [121], .bool false], .str [121]), ([.str [121], .bool true], .str [89]), ([.str [122, 122], .bool false], .str [122, 122]), ([.str [122, 122], .bool true], .str [90, 90]), ([.str [122], .bool false], .str [122]), ([.str [122], .bool true], .str [90]), ([.str [65, 78, 68], .bool true], .str [65, 78, 68]), ([.str [66, 79, 79, 76], .bool true], .str [66, 79, 79, 76]), ([.str [66, 89], .bool true], .str [66, 89]), ([.str [67, 79, 85, 78, 84], .bool true], .str [67, 79, 85, 78, 84]), ([.str [67, 82, 69, 65, 84, 69], .bool true], .str [67, 82, 69, 65, 84, 69]), ([.str [68, 69, 76, 69, 84, 69], .bool true], .str [68, 69, 76, 69, 84, 69]), ([.str [70, 82, 79, 77], .bool true], .str [70, 82, 79, 77]), ([.str [71, 82, 79, 85, 80], .bool true], .str [71, 82, 79, 85, 80]), ([.str [73, 78, 84], .bool true], .str [73, 78, 84]), ([.str [74, 79, 73, 78], .bool true], .str [74, 79, 73, 78]), ([.str [77, 65, 88], .bool true], .str [77, 65, 88]), ([.str [78, 85, 76, 76], .bool true], .str [78, 85, 76, 76]), ([.str [79, 78], .bool true], .str [79, 78]), ([.str [79, 82], .bool true], .str [79, 82]), ([.str [83, 69, 76, 69, 67, 84], .bool true], .str [83, 69, 76, 69, 67, 84]), ([.str [83, 85, 77], .bool true], .str [83, 85, 77]), ([.str [84, 65, 66, 76, 69], .bool true], .str [84, 65, 66, 76, 69]), ([.str [84, 69, 88, 84], .bool true], .str [84, 69, 88, 84]), ([.str [84, 82, 85, 69], .bool true], .str [84, 82, 85, 69]), ([.str [87, 72, 69, 82, 69], .bool true], .str [87, 72, 69, 82, 69]), ([.str [97], .bool false], .str [97]), ([.str [97], .bool true], .str [65]), ([.str [98], .bool false], .str [98]), ([.str [98], .bool true], .str [66]), ([.str [99], .bool false], .str [99]), ([.str [99], .bool true], .str [67])]
theorem w_consistoryref8_cased_ok : goodW cx0.call 140 w_consistoryref8_cased = true := by kernel_rfl
def w_consistoryref8_digit : FlatT := [([.int .u8 (116)], .bool false), ([.int .u8 (118)], .bool false), ([.int .u8 (120)], .bool false), ([.int .u8 (124)], .bool false), ([.int .u8 (32)], .bool false), ([.int .u8 (37)], .bool false), ([.int .u8 (40)], .bool false), ([.int .u8 (41)], .bool false), ([.int .u8 (42)], .bool false), ([.int .u8 (43)], .bool false), ([.int .u8 (44)], .bool false), ([.int .u8 (45)], .bool false), ([.int .u8 (46)], .bool false), ([.int .u8 (47)], .bool false), ([.int .u8 (60)], .bool false), ([.int .u8 (61)], .bool false), ([.int .u8 (62)], .bool false), ([.int .u8 (97)], .bool false), ([.int .u8 (98)], .bool false), ([.int .u8 (99)], .bool false)]
theorem w_consistoryref8_digit_ok : goodW cx0.call 139 w_consistoryref8_digit = true := by kernel_rfl
def w_consistoryref8_isWord : FlatT := [([.str [65, 78, 68]], .bool true), ([.str [65]], .bool false), ([.str [66, 79, 79, 76]], .bool true), ([.str [66, 89]], .bool true), ([.str [66]], .bool false), ([.str [67, 79, 85, 78, 84]], .bool true), ([.str [67, 82, 69, 65, 84, 69]], .bool true), ([.str [67]], .bool false), ([.str [68, 69, 76, 69, 84, 69]], .bool true), ([.str [70, 82, 79, 77]], .bool true), ([.str [71, 82, 79, 85, 80]], .bool true), ([.str [73, 78, 84]], .bool true), ([.str [74, 79, 73, 78]], .bool true), ([.str [77, 65, 88]], .bool true), ([.str [78, 85, 76, 76]], .bool true), ([.str [78]], .bool false), ([.str [79, 78]], .bool true), ([.str [79, 82]], .bool true), ([.str [83, 69, 76, 69, 67, 84]], .bool true), ([.str [83, 85, 77]], .bool true), ([.str [83]], .bool false), ([.str [84, 65, 66, 76, 69]], .bool true), ([.str [84, 69, 88, 84]], .bool true), ([.str [84, 82, 85, 69]], .bool true), ([.str [84]], .bool false), ([.str [85]], .bool false), ([.str [86]], .bool false), ([.str [87, 72, 69, 82, 69]], .bool true), ([.str [87]], .bool false), ([.str [88]], .bool false), ([.str [89]], .bool false), ([.str [90, 90]], .bool false), ([.str [90]], .bool false)]
theorem w_consistoryref8_isWord_ok : goodW cx0.call 141 w_consistoryref8_isWord = true := by kernel_rfl
def w_consistoryref8_letter : FlatT := [([.int .u8 (110)], .bool true), ([.int .u8 (115)], .bool true), ([.int .u8 (116)], .bool true), ([.int .u8 (117)], .bool true), ([.int .u8 (118)], .bool true), ([.int .u8 (119)], .bool true), ([.int .u8 (120)], .bool true), ([.int .u8 (121)], .bool true), ([.int .u8 (122)], .bool true), ([.int .u8 (124)], .bool false), ([.int .u8 (32)], .bool false), ([.int .u8 (37)], .bool false), ([.int .u8 (40)], .bool false), ([.int .u8 (41)], .bool false), ([.int .u8 (42)], .bool false), ([.int .u8 (43)], .bool false), ([.int .u8 (44)], .bool false), ([.int .u8 (45)], .bool false), ([.int .u8 (46)], .bool false), ([.int .u8 (47)], .bool false), ([.int .u8 (60)], .bool false), ([.int .u8 (61)], .bool false), ([.int .u8 (62)], .bool false), ([.int .u8 (65)], .bool true), ([.int .u8 (66)], .bool true), ([.int .u8 (67)], .bool true), ([.int .u8 (68)], .bool true), ([.int .u8 (69)], .bool true), ([.int .u8 (70)], .bool true), ([.int .u8 (71)], .bool true), ([.int .u8 (72)], .bool true), ([.int .u8 (73)], .bool true), ([.int .u8 (74)], .bool true), ([.int .u8 (76)], .bool true), ([.int .u8 (77)], .bool true), ([.int .u8 (78)], .bool true), ([.int .u8 (79)], .bool true), ([.int .u8 (80)], .bool true), ([.int .u8 (82)], .bool true), ([.int .u8 (83)], .bool true), ([.int .u8 (84)], .bool true), ([.int .u8 (85)], .bool true), ([.int .u8 (87)], .bool true), ([.int .u8 (88)], .bool true), ([.int .u8 (89)], .bool true), ([.int .u8 (97)], .bool true), ([.int .u8 (98)], .bool true), ([.int .u8 (99)], .bool true)]
theorem w_consistoryref8_letter_ok : goodW cx0.call 138 w_consistoryref8_letter = true := by kernel_rfl
def w_lex_Name : FlatT := [([.str [110]], .bool true), ([.str [115]], .bool true), ([.str [116]], .bool true), ([.str [117]], .bool true), ([.str [118]], .bool true), ([.str [119]], .bool true), ([.str [120]], .bool true), ([.str [121]], .bool true), ([.str [122, 122]], .bool true), ([.str [122]], .bool true), ([.str [97]], .bool true), ([.str [98]], .bool true), ([.str [99]], .bool true)]
theorem w_lex_Name_ok : goodW cx0.call 76 w_lex_Name = true := by kernel_rfl
def w_lex_sort : FlatT := [([.int .u8 (110)], .int .i64 (2)), ([.int .u8 (115)], .int .i64 (2)), ([.int .u8 (116)], .int .i64 (2)), ([.int .u8 (117)], .int .i64 (2)), ([.int .u8 (118)], .int .i64 (2)), ([.int .u8 (119)], .int .i64 (2)), ([.int .u8 (120)], .int .i64 (2)), ([.int .u8 (121)], .int .i64 (2)), ([.int .u8 (122)], .int .i64 (2)), ([.int .u8 (97)], .int .i64 (2)), ([.int .u8 (98)], .int .i64 (2)), ([.int .u8 (99)], .int .i64 (2))]
theorem w_lex_sort_ok : goodW cx0.call 159 w_lex_sort = true := by kernel_rfl
def words (g : FuncId) : Option FlatT :=
  bif Nat.beq g 170 then some w_consistoryref8_Name else
  bif Nat.beq g 140 then some w_consistoryref8_cased else
  bif Nat.beq g 139 then some w_consistoryref8_digit else
  bif Nat.beq g 141 then some w_consistoryref8_isWord else
  bif Nat.beq g 138 then some w_consistoryref8_letter else
  bif Nat.beq g 76 then some w_lex_Name else
  bif Nat.beq g 159 then some w_lex_sort else
  none
theorem words_ok {g : FuncId} {t : FlatT} (h : words g = some t) : goodW cx0.call g t = true := by
  unfold words at h
  cases hw_consistoryref8_Name : Nat.beq g 170 with
  | true => rw [hw_consistoryref8_Name, cond_true] at h; rw [Nat.beq_eq] at hw_consistoryref8_Name; subst hw_consistoryref8_Name; cases h; exact w_consistoryref8_Name_ok
  | false =>
  rw [hw_consistoryref8_Name, cond_false] at h
  cases hw_consistoryref8_cased : Nat.beq g 140 with
  | true => rw [hw_consistoryref8_cased, cond_true] at h; rw [Nat.beq_eq] at hw_consistoryref8_cased; subst hw_consistoryref8_cased; cases h; exact w_consistoryref8_cased_ok
  | false =>
  rw [hw_consistoryref8_cased, cond_false] at h
  cases hw_consistoryref8_digit : Nat.beq g 139 with
  | true => rw [hw_consistoryref8_digit, cond_true] at h; rw [Nat.beq_eq] at hw_consistoryref8_digit; subst hw_consistoryref8_digit; cases h; exact w_consistoryref8_digit_ok
  | false =>
  rw [hw_consistoryref8_digit, cond_false] at h
  cases hw_consistoryref8_isWord : Nat.beq g 141 with
  | true => rw [hw_consistoryref8_isWord, cond_true] at h; rw [Nat.beq_eq] at hw_consistoryref8_isWord; subst hw_consistoryref8_isWord; cases h; exact w_consistoryref8_isWord_ok
  | false =>
  rw [hw_consistoryref8_isWord, cond_false] at h
  cases hw_consistoryref8_letter : Nat.beq g 138 with
  | true => rw [hw_consistoryref8_letter, cond_true] at h; rw [Nat.beq_eq] at hw_consistoryref8_letter; subst hw_consistoryref8_letter; cases h; exact w_consistoryref8_letter_ok
  | false =>
  rw [hw_consistoryref8_letter, cond_false] at h
  cases hw_lex_Name : Nat.beq g 76 with
  | true => rw [hw_lex_Name, cond_true] at h; rw [Nat.beq_eq] at hw_lex_Name; subst hw_lex_Name; cases h; exact w_lex_Name_ok
  | false =>
  rw [hw_lex_Name, cond_false] at h
  cases hw_lex_sort : Nat.beq g 159 with
  | true => rw [hw_lex_sort, cond_true] at h; rw [Nat.beq_eq] at hw_lex_sort; subst hw_lex_sort; cases h; exact w_lex_sort_ok
  | false =>
  rw [hw_lex_sort, cond_false] at h
  cases h
def specW (g : FuncId) (args : List AV) (m : Mem) : Option (AV × Mem) := match words g with
  | some t => ob (findW t args) fun r => some (r, m)
  | none => clsSpec g args m
theorem specW_ok : CallSound Tryz.prog specW := by
  intro g args m r m' h
  unfold specW at h
  split at h
  · rename_i t ht
    obtain ⟨v, hv, h⟩ := ob_some.1 h
    cases h
    exact flat_ok cx0_ok (words_ok ht) hv m
  · exact clsSpec_ok g args m r m' h
abbrev cxW : Ctx := cxS Tryz.prog tab specW 3000
theorem cxW_ok : CallSound Tryz.prog cxW.call := (cxS_sound mixed tab_ok specW_ok 3000).1
end
end Ev
end Go.Proofs.YtldhpefbemakhaaGreatDoor

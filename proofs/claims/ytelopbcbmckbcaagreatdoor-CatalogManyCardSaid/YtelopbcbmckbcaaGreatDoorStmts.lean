/- The tables of statements. -/
import Derived.Test.YtelopbcbmckbcaaGreatDoorStmt1
import Derived.Test.YtelopbcbmckbcaaGreatDoorStmt2
import Derived.Test.YtelopbcbmckbcaaGreatDoorStmt3
set_option linter.all false
namespace Go.Proofs.YtelopbcbmckbcaaGreatDoor
open Go.RowKit

namespace Ev
noncomputable section
def tb1 : List StmtE := [st0, st1, st2, st3, st4, st5, st6, st7, st8, st81, st82, st83, st84, st85, st86, st87]
theorem tb1_ok : GoodS tb1 := ⟨st0_ok, st1_ok, st2_ok, st3_ok, st4_ok, st5_ok, st6_ok, st7_ok, st8_ok, st81_ok, st82_ok, st83_ok, st84_ok, st85_ok, st86_ok, st87_ok, trivial⟩
abbrev cs1 : Ctx := cxS Tryz.prog tab (specS tb1) 3000
theorem cs1_ok : CallSound Tryz.prog cs1.call := (cxS_sound mixed tab_ok (specS_ok tb1_ok) 3000).1
def tb2 : List StmtE := [st9, st10, st11, st12, st13, st14, st15, st16, st17, st81, st82, st83, st84, st85, st86, st87]
theorem tb2_ok : GoodS tb2 := ⟨st9_ok, st10_ok, st11_ok, st12_ok, st13_ok, st14_ok, st15_ok, st16_ok, st17_ok, st81_ok, st82_ok, st83_ok, st84_ok, st85_ok, st86_ok, st87_ok, trivial⟩
abbrev cs2 : Ctx := cxS Tryz.prog tab (specS tb2) 3000
theorem cs2_ok : CallSound Tryz.prog cs2.call := (cxS_sound mixed tab_ok (specS_ok tb2_ok) 3000).1
def tb3 : List StmtE := [st18, st19, st20, st21, st22, st23, st24, st25, st26, st81, st82, st83, st84, st85, st86, st87]
theorem tb3_ok : GoodS tb3 := ⟨st18_ok, st19_ok, st20_ok, st21_ok, st22_ok, st23_ok, st24_ok, st25_ok, st26_ok, st81_ok, st82_ok, st83_ok, st84_ok, st85_ok, st86_ok, st87_ok, trivial⟩
abbrev cs3 : Ctx := cxS Tryz.prog tab (specS tb3) 3000
theorem cs3_ok : CallSound Tryz.prog cs3.call := (cxS_sound mixed tab_ok (specS_ok tb3_ok) 3000).1
def tb4 : List StmtE := [st27, st28, st29, st30, st31, st32, st33, st34, st35, st81, st82, st83, st84, st85, st86, st87]
theorem tb4_ok : GoodS tb4 := ⟨st27_ok, st28_ok, st29_ok, st30_ok, st31_ok, st32_ok, st33_ok, st34_ok, st35_ok, st81_ok, st82_ok, st83_ok, st84_ok, st85_ok, st86_ok, st87_ok, trivial⟩
abbrev cs4 : Ctx := cxS Tryz.prog tab (specS tb4) 3000
theorem cs4_ok : CallSound Tryz.prog cs4.call := (cxS_sound mixed tab_ok (specS_ok tb4_ok) 3000).1
def tb5 : List StmtE := [st36, st37, st38, st39, st40, st41, st42, st43, st44, st81, st82, st83, st84, st85, st86, st87]
theorem tb5_ok : GoodS tb5 := ⟨st36_ok, st37_ok, st38_ok, st39_ok, st40_ok, st41_ok, st42_ok, st43_ok, st44_ok, st81_ok, st82_ok, st83_ok, st84_ok, st85_ok, st86_ok, st87_ok, trivial⟩
abbrev cs5 : Ctx := cxS Tryz.prog tab (specS tb5) 3000
theorem cs5_ok : CallSound Tryz.prog cs5.call := (cxS_sound mixed tab_ok (specS_ok tb5_ok) 3000).1
def tb6 : List StmtE := [st45, st46, st47, st48, st49, st50, st51, st52, st53, st81, st82, st83, st84, st85, st86, st87]
theorem tb6_ok : GoodS tb6 := ⟨st45_ok, st46_ok, st47_ok, st48_ok, st49_ok, st50_ok, st51_ok, st52_ok, st53_ok, st81_ok, st82_ok, st83_ok, st84_ok, st85_ok, st86_ok, st87_ok, trivial⟩
abbrev cs6 : Ctx := cxS Tryz.prog tab (specS tb6) 3000
theorem cs6_ok : CallSound Tryz.prog cs6.call := (cxS_sound mixed tab_ok (specS_ok tb6_ok) 3000).1
def tb7 : List StmtE := [st54, st55, st56, st57, st58, st59, st60, st61, st62]
theorem tb7_ok : GoodS tb7 := ⟨st54_ok, st55_ok, st56_ok, st57_ok, st58_ok, st59_ok, st60_ok, st61_ok, st62_ok, trivial⟩
abbrev cs7 : Ctx := cxS Tryz.prog tab (specS tb7) 3000
theorem cs7_ok : CallSound Tryz.prog cs7.call := (cxS_sound mixed tab_ok (specS_ok tb7_ok) 3000).1
def tb8 : List StmtE := [st63, st64, st65, st66, st67, st68, st69, st70, st71]
theorem tb8_ok : GoodS tb8 := ⟨st63_ok, st64_ok, st65_ok, st66_ok, st67_ok, st68_ok, st69_ok, st70_ok, st71_ok, trivial⟩
abbrev cs8 : Ctx := cxS Tryz.prog tab (specS tb8) 3000
theorem cs8_ok : CallSound Tryz.prog cs8.call := (cxS_sound mixed tab_ok (specS_ok tb8_ok) 3000).1
def tb9 : List StmtE := [st72, st73, st74, st75, st76, st77, st78, st79, st80]
theorem tb9_ok : GoodS tb9 := ⟨st72_ok, st73_ok, st74_ok, st75_ok, st76_ok, st77_ok, st78_ok, st79_ok, st80_ok, trivial⟩
abbrev cs9 : Ctx := cxS Tryz.prog tab (specS tb9) 3000
theorem cs9_ok : CallSound Tryz.prog cs9.call := (cxS_sound mixed tab_ok (specS_ok tb9_ok) 3000).1
/-- One case: so many columns and tables, any number of keys. -/
def manyF (cx : Ctx) (c n : Nat) : Bool := runK Tryz.prog cx Tryz.f4 (bodyOf Tryz.f4) [.sym .u8 0 [(.rem, 9)] (n : Int), .sym .u8 10 [(.rem, 9)] (c : Int), .sym .u8 20 [(.rem, 8), (.and, 0)] 7]
end
end Ev
end Go.Proofs.YtelopbcbmckbcaaGreatDoor

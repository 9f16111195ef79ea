/- A statement's cells. -/
import Derived.Test.YtddedijencleeaaGreatDoorChecked
import Derived.Test.YtddedijencleeaaGreatDoorNtE
import Derived.Test.YtddedijencleeaaGreatDoorGm
import Derived.Deep.MidRow
set_option linter.all false
namespace Go.Proofs.YtddedijencleeaaGreatDoor
open Go.RowKit Go.Lib

/-- DELETE FROM t WHERE x; what is left of it to be looked at. -/
def delC (x : X) : List Value := [.int .i64 7, .string ⟨#[]⟩, .slice none 0 0, .slice none 0 0, .slice none 0 0, .string ⟨#[116]⟩, .string ⟨#[]⟩, .bool false, .slice none 0 0, .slice none 0 0, .slice none 0 0, .int .i64 x.k, .int .i64 x.op, .int .i64 x.vk, .int .i64 x.vn, .string ⟨#[]⟩, .string ⟨#[]⟩, .string x.nm, .slice x.A x.n x.c, .int .i64 0, .int .i64 0, .bool false, .slice none 0 0, .slice none 0 0, .slice none 0 0, .int .i64 0, .int .i64 0, .int .i64 0, .int .i64 0, .string ⟨#[]⟩, .string ⟨#[]⟩, .string ⟨#[]⟩, .slice none 0 0, .int .i64 0, .int .i64 0, .slice none 0 0, .int .i64 0]
def delY : List Value := [.int .i64 7, .string ⟨#[]⟩, .slice none 0 0, .slice none 0 0, .slice none 0 0, .string ⟨#[]⟩, .string ⟨#[]⟩, .bool false, .slice none 0 0, .slice none 0 0, .slice none 0 0, .int .i64 0, .int .i64 0, .int .i64 0, .int .i64 0, .string ⟨#[]⟩, .string ⟨#[]⟩, .string ⟨#[]⟩, .slice none 0 0, .int .i64 0, .int .i64 0, .bool false, .slice none 0 0, .slice none 0 0, .slice none 0 0, .int .i64 0, .int .i64 0, .int .i64 0, .int .i64 0, .string ⟨#[]⟩, .string ⟨#[]⟩, .string ⟨#[]⟩, .slice none 0 0, .int .i64 0, .int .i64 0, .slice none 0 0, .int .i64 0]
def delV (x : X) : Value := .agg (delC x).toArray
def zeroS : List Value := [.int .i64 0, .string ⟨#[]⟩, .slice none 0 0, .slice none 0 0, .slice none 0 0, .string ⟨#[]⟩, .string ⟨#[]⟩, .bool false, .slice none 0 0, .slice none 0 0, .slice none 0 0, .int .i64 0, .int .i64 0, .int .i64 0, .int .i64 0, .string ⟨#[]⟩, .string ⟨#[]⟩, .string ⟨#[]⟩, .slice none 0 0, .int .i64 0, .int .i64 0, .bool false, .slice none 0 0, .slice none 0 0, .slice none 0 0, .int .i64 0, .int .i64 0, .int .i64 0, .int .i64 0, .string ⟨#[]⟩, .string ⟨#[]⟩, .string ⟨#[]⟩, .slice none 0 0, .int .i64 0, .int .i64 0, .slice none 0 0, .int .i64 0]
def zeroX : List Value := [.int .i64 0, .int .i64 0, .int .i64 0, .int .i64 0, .string ⟨#[]⟩, .string ⟨#[]⟩, .string ⟨#[]⟩, .slice none 0 0, .int .i64 0, .int .i64 0]
theorem one_del (x : X) : (delC x).toArray.all (·.oneCell') = true := by simp [delC, Value.oneCell']
theorem one_zero : zeroX.toArray.all (·.oneCell') = true := by simp [zeroX, Value.oneCell']
namespace WX
theorem size41 : (Tryz.prog.info? 39).map (·.size) = some 37 := by kernel_rfl
theorem size28 : (Tryz.prog.info? 34).map (·.size) = some 10 := by kernel_rfl
end WX
end Go.Proofs.YtddedijencleeaaGreatDoor

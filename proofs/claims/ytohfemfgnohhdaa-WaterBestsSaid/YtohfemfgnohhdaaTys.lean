/- The table of types of the translation, for the symbolic machine. No condition. -/
import Derived.Test.YtohfemfgnohhdaaProg
import Derived.Test.YtohfemfgnohhdaaVc21
namespace Go.Proofs.Ytohfemfgnohhdaa
open Go Go.Vc
set_option linter.unusedVariables false
def te2 : TE := { kind := .int .i64, size := 1, bytes := 8, zero := .int .i64 0, ty := some (.int .i64) }
theorem te2_ok : te2.ok Try.prog 2 := ⟨by kernel_rfl, by kernel_rfl, fun y h => by cases h; exact ⟨rfl, rfl, rfl, by decide, by decide, rfl⟩⟩
def te3 : TE := { kind := .int .i64, size := 1, bytes := 8, zero := .int .i64 0, ty := some (.int .i64) }
theorem te3_ok : te3.ok Try.prog 3 := ⟨by kernel_rfl, by kernel_rfl, fun y h => by cases h; exact ⟨rfl, rfl, rfl, by decide, by decide, rfl⟩⟩
def te4 : TE := { kind := .bool, size := 1, bytes := 1, zero := .bool false, ty := some .bool }
theorem te4_ok : te4.ok Try.prog 4 := ⟨by kernel_rfl, by kernel_rfl, fun y h => by cases h; exact ⟨rfl, rfl, rfl, by decide, by decide, rfl⟩⟩
def te5 : TE := { kind := .int .u8, size := 1, bytes := 1, zero := .int .u8 0, ty := some (.int .u8) }
theorem te5_ok : te5.ok Try.prog 5 := ⟨by kernel_rfl, by kernel_rfl, fun y h => by cases h; exact ⟨rfl, rfl, rfl, by decide, by decide, rfl⟩⟩
def te9 : TE := { kind := .str, size := 1, bytes := 16, zero := .string ByteArray.empty, ty := some .str }
theorem te9_ok : te9.ok Try.prog 9 := ⟨by kernel_rfl, by kernel_rfl, fun y h => by cases h; exact ⟨rfl, rfl, rfl, by decide, by decide, rfl⟩⟩
def te12 : TE := { kind := .int .u64, size := 1, bytes := 8, zero := .int .u64 0, ty := some (.int .u64) }
theorem te12_ok : te12.ok Try.prog 12 := ⟨by kernel_rfl, by kernel_rfl, fun y h => by cases h; exact ⟨rfl, rfl, rfl, by decide, by decide, rfl⟩⟩
def te17 : TE := { kind := .oth, size := 1, bytes := 8, zero := .pointer none, ty := none }
theorem te17_ok : te17.ok Try.prog 17 := ⟨by kernel_rfl, by kernel_rfl, fun y h => by cases h⟩
def te21 : TE := { kind := .int .i32, size := 1, bytes := 4, zero := .int .i32 0, ty := some (.int .i32) }
theorem te21_ok : te21.ok Try.prog 21 := ⟨by kernel_rfl, by kernel_rfl, fun y h => by cases h; exact ⟨rfl, rfl, rfl, by decide, by decide, rfl⟩⟩
def te22 : TE := { kind := .sl 3, size := 1, bytes := 24, zero := .slice none 0 0, ty := some (.sl (.int .i64)) }
theorem te22_ok : te22.ok Try.prog 22 := ⟨by kernel_rfl, by kernel_rfl, fun y h => by cases h; exact ⟨rfl, rfl, rfl, by decide, by decide, rfl⟩⟩
def te23 : TE := { kind := .sl 22, size := 1, bytes := 24, zero := .slice none 0 0, ty := some (.sl (.sl (.int .i64))) }
theorem te23_ok : te23.ok Try.prog 23 := ⟨by kernel_rfl, by kernel_rfl, fun y h => by cases h; exact ⟨rfl, rfl, rfl, by decide, by decide, rfl⟩⟩
def te24 : TE := { kind := .strct [(0, 22), (1, 23)], size := 2, bytes := 48, zero := .agg #[.slice none 0 0, .slice none 0 0], ty := some (.cons (.sl (.int .i64)) (.cons (.sl (.sl (.int .i64))) .nil)) }
theorem te24_ok : te24.ok Try.prog 24 := ⟨by kernel_rfl, by kernel_rfl, fun y h => by cases h; exact ⟨rfl, rfl, rfl, by decide, by decide, rfl⟩⟩
def te25 : TE := { kind := .strct [(0, 22), (1, 23)], size := 2, bytes := 48, zero := .agg #[.slice none 0 0, .slice none 0 0], ty := some (.cons (.sl (.int .i64)) (.cons (.sl (.sl (.int .i64))) .nil)) }
theorem te25_ok : te25.ok Try.prog 25 := ⟨by kernel_rfl, by kernel_rfl, fun y h => by cases h; exact ⟨rfl, rfl, rfl, by decide, by decide, rfl⟩⟩
def te28 : TE := { kind := .int .i64, size := 1, bytes := 8, zero := .int .i64 0, ty := some (.int .i64) }
theorem te28_ok : te28.ok Try.prog 28 := ⟨by kernel_rfl, by kernel_rfl, fun y h => by cases h; exact ⟨rfl, rfl, rfl, by decide, by decide, rfl⟩⟩
def te42 : TE := { kind := .arr 3 5, size := 3, bytes := 3, zero := .agg #[.int .u8 0, .int .u8 0, .int .u8 0], ty := none }
theorem te42_ok : te42.ok Try.prog 42 := ⟨by kernel_rfl, by kernel_rfl, fun y h => by cases h⟩
def te56 : TE := { kind := .strct [(0, 22), (1, 23)], size := 2, bytes := 48, zero := .agg #[.slice none 0 0, .slice none 0 0], ty := some (.cons (.sl (.int .i64)) (.cons (.sl (.sl (.int .i64))) .nil)) }
theorem te56_ok : te56.ok Try.prog 56 := ⟨by kernel_rfl, by kernel_rfl, fun y h => by cases h; exact ⟨rfl, rfl, rfl, by decide, by decide, rfl⟩⟩
def te57 : TE := { kind := .strct [(0, 22), (1, 23)], size := 2, bytes := 48, zero := .agg #[.slice none 0 0, .slice none 0 0], ty := some (.cons (.sl (.int .i64)) (.cons (.sl (.sl (.int .i64))) .nil)) }
theorem te57_ok : te57.ok Try.prog 57 := ⟨by kernel_rfl, by kernel_rfl, fun y h => by cases h; exact ⟨rfl, rfl, rfl, by decide, by decide, rfl⟩⟩
def te66 : TE := { kind := .sl 4, size := 1, bytes := 24, zero := .slice none 0 0, ty := some (.sl .bool) }
theorem te66_ok : te66.ok Try.prog 66 := ⟨by kernel_rfl, by kernel_rfl, fun y h => by cases h; exact ⟨rfl, rfl, rfl, by decide, by decide, rfl⟩⟩
def te82 : TE := { kind := .int .u32, size := 1, bytes := 4, zero := .int .u32 0, ty := some (.int .u32) }
theorem te82_ok : te82.ok Try.prog 82 := ⟨by kernel_rfl, by kernel_rfl, fun y h => by cases h; exact ⟨rfl, rfl, rfl, by decide, by decide, rfl⟩⟩
def te86 : TE := { kind := .oth, size := 1, bytes := 8, zero := .pointer none, ty := none }
theorem te86_ok : te86.ok Try.prog 86 := ⟨by kernel_rfl, by kernel_rfl, fun y h => by cases h⟩
@[reducible] def tys : List (Nat × TE) := [(2, te2), (3, te3), (4, te4), (5, te5), (9, te9), (12, te12), (17, te17), (21, te21), (22, te22), (23, te23), (24, te24), (25, te25), (28, te28), (42, te42), (56, te56), (57, te57), (66, te66), (82, te82), (86, te86)]
theorem tys_ok : TOk Try.prog tys := TOk.cons te2_ok (TOk.cons te3_ok (TOk.cons te4_ok (TOk.cons te5_ok (TOk.cons te9_ok (TOk.cons te12_ok (TOk.cons te17_ok (TOk.cons te21_ok (TOk.cons te22_ok (TOk.cons te23_ok (TOk.cons te24_ok (TOk.cons te25_ok (TOk.cons te28_ok (TOk.cons te42_ok (TOk.cons te56_ok (TOk.cons te57_ok (TOk.cons te66_ok (TOk.cons te82_ok (TOk.cons te86_ok (TOk.nil _)))))))))))))))))))
theorem mixed : Try.prog.follows .mixedOrders = true := by kernel_rfl
end Go.Proofs.Ytohfemfgnohhdaa

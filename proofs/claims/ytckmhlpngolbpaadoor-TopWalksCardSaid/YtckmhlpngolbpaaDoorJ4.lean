/- Joined of: Tys Vc24 Vc25 Vc26 Vc27 Vc28 Vc29 Vc30 Vc30d Vc31 Vc32 Rg1 Rg2 Rg3. No condition. -/
import Derived.Test.YtckmhlpngolbpaaDoorProg
import Derived.Test.YtckmhlpngolbpaaDoorJ3
set_option linter.unusedVariables false
set_option linter.unusedSimpArgs false
namespace Go.Proofs.YtckmhlpngolbpaaDoor
open Go Go.Vc
def te1 : TE := { kind := .oth, size := 1, bytes := 8, zero := .nilFunc, ty := none }
theorem te1_ok : te1.ok Tryd.prog 1 := ⟨by kernel_rfl, by kernel_rfl, (fun y h => by cases h), by kernel_rfl, (fun h => by cases h)⟩
def te2 : TE := { kind := .int .i64, size := 1, bytes := 8, zero := .int .i64 0, ty := some (.int .i64) }
theorem te2_ok : te2.ok Tryd.prog 2 := ⟨by kernel_rfl, by kernel_rfl, (fun y h => by cases h; exact ⟨rfl, rfl, rfl, by decide, by decide, rfl⟩), by kernel_rfl, (fun _ => by kernel_rfl)⟩
def te3 : TE := { kind := .int .i64, size := 1, bytes := 8, zero := .int .i64 0, ty := some (.int .i64) }
theorem te3_ok : te3.ok Tryd.prog 3 := ⟨by kernel_rfl, by kernel_rfl, (fun y h => by cases h; exact ⟨rfl, rfl, rfl, by decide, by decide, rfl⟩), by kernel_rfl, (fun _ => by kernel_rfl)⟩
def te4 : TE := { kind := .bool, size := 1, bytes := 1, zero := .bool false, ty := some .bool }
theorem te4_ok : te4.ok Tryd.prog 4 := ⟨by kernel_rfl, by kernel_rfl, (fun y h => by cases h; exact ⟨rfl, rfl, rfl, by decide, by decide, rfl⟩), by kernel_rfl, (fun _ => by kernel_rfl)⟩
def te5 : TE := { kind := .int .u8, size := 1, bytes := 1, zero := .int .u8 0, ty := some (.int .u8) }
theorem te5_ok : te5.ok Tryd.prog 5 := ⟨by kernel_rfl, by kernel_rfl, (fun y h => by cases h; exact ⟨rfl, rfl, rfl, by decide, by decide, rfl⟩), by kernel_rfl, (fun _ => by kernel_rfl)⟩
def te9 : TE := { kind := .str, size := 1, bytes := 16, zero := .string ByteArray.empty, ty := some .str }
theorem te9_ok : te9.ok Tryd.prog 9 := ⟨by kernel_rfl, by kernel_rfl, (fun y h => by cases h; exact ⟨rfl, rfl, rfl, by decide, by decide, rfl⟩), by kernel_rfl, (fun _ => by kernel_rfl)⟩
def te12 : TE := { kind := .int .u64, size := 1, bytes := 8, zero := .int .u64 0, ty := some (.int .u64) }
theorem te12_ok : te12.ok Tryd.prog 12 := ⟨by kernel_rfl, by kernel_rfl, (fun y h => by cases h; exact ⟨rfl, rfl, rfl, by decide, by decide, rfl⟩), by kernel_rfl, (fun _ => by kernel_rfl)⟩
def te17 : TE := { kind := .ptr 165, size := 1, bytes := 8, zero := .pointer none, ty := none }
theorem te17_ok : te17.ok Tryd.prog 17 := ⟨by kernel_rfl, by kernel_rfl, (fun y h => by cases h), by kernel_rfl, (fun h => by cases h)⟩
def te20 : TE := { kind := .ifc, size := 1, bytes := 16, zero := .nilIface, ty := none }
theorem te20_ok : te20.ok Tryd.prog 20 := ⟨by kernel_rfl, by kernel_rfl, (fun y h => by cases h), by kernel_rfl, (fun h => by cases h)⟩
def te21 : TE := { kind := .int .i32, size := 1, bytes := 4, zero := .int .i32 0, ty := some (.int .i32) }
theorem te21_ok : te21.ok Tryd.prog 21 := ⟨by kernel_rfl, by kernel_rfl, (fun y h => by cases h; exact ⟨rfl, rfl, rfl, by decide, by decide, rfl⟩), by kernel_rfl, (fun _ => by kernel_rfl)⟩
def te22 : TE := { kind := .arr 3 5, size := 3, bytes := 3, zero := .agg #[.int .u8 0, .int .u8 0, .int .u8 0], ty := some (.cons (.int .u8) (.cons (.int .u8) (.cons (.int .u8) .nil))) }
theorem te22_ok : te22.ok Tryd.prog 22 := ⟨by kernel_rfl, by kernel_rfl, (fun y h => by cases h; exact ⟨rfl, rfl, rfl, by decide, by decide, rfl⟩), by kernel_rfl, (fun _ => by kernel_rfl)⟩
def te23 : TE := { kind := .sl 5, size := 1, bytes := 24, zero := .slice none 0 0, ty := some (.sl (.int .u8)) }
theorem te23_ok : te23.ok Tryd.prog 23 := ⟨by kernel_rfl, by kernel_rfl, (fun y h => by cases h; exact ⟨rfl, rfl, rfl, by decide, by decide, rfl⟩), by kernel_rfl, (fun _ => by kernel_rfl)⟩
def te24 : TE := { kind := .sl 3, size := 1, bytes := 24, zero := .slice none 0 0, ty := some (.sl (.int .i64)) }
theorem te24_ok : te24.ok Tryd.prog 24 := ⟨by kernel_rfl, by kernel_rfl, (fun y h => by cases h; exact ⟨rfl, rfl, rfl, by decide, by decide, rfl⟩), by kernel_rfl, (fun _ => by kernel_rfl)⟩
def te25 : TE := { kind := .int .i64, size := 1, bytes := 8, zero := .int .i64 0, ty := some (.int .i64) }
theorem te25_ok : te25.ok Tryd.prog 25 := ⟨by kernel_rfl, by kernel_rfl, (fun y h => by cases h; exact ⟨rfl, rfl, rfl, by decide, by decide, rfl⟩), by kernel_rfl, (fun _ => by kernel_rfl)⟩
def te27 : TE := { kind := .oth, size := 1, bytes := 8, zero := .nilFunc, ty := none }
theorem te27_ok : te27.ok Tryd.prog 27 := ⟨by kernel_rfl, by kernel_rfl, (fun y h => by cases h), by kernel_rfl, (fun h => by cases h)⟩
def te29 : TE := { kind := .oth, size := 1, bytes := 8, zero := .nilFunc, ty := none }
theorem te29_ok : te29.ok Tryd.prog 29 := ⟨by kernel_rfl, by kernel_rfl, (fun y h => by cases h), by kernel_rfl, (fun h => by cases h)⟩
def te30 : TE := { kind := .sl 4, size := 1, bytes := 24, zero := .slice none 0 0, ty := some (.sl .bool) }
theorem te30_ok : te30.ok Tryd.prog 30 := ⟨by kernel_rfl, by kernel_rfl, (fun y h => by cases h; exact ⟨rfl, rfl, rfl, by decide, by decide, rfl⟩), by kernel_rfl, (fun _ => by kernel_rfl)⟩
def te31 : TE := { kind := .ptr 68, size := 1, bytes := 8, zero := .pointer none, ty := none }
theorem te31_ok : te31.ok Tryd.prog 31 := ⟨by kernel_rfl, by kernel_rfl, (fun y h => by cases h), by kernel_rfl, (fun h => by cases h)⟩
def te33 : TE := { kind := .oth, size := 1, bytes := 8, zero := .nilFunc, ty := none }
theorem te33_ok : te33.ok Tryd.prog 33 := ⟨by kernel_rfl, by kernel_rfl, (fun y h => by cases h), by kernel_rfl, (fun h => by cases h)⟩
def te34 : TE := { kind := .oth, size := 1, bytes := 8, zero := .nilFunc, ty := none }
theorem te34_ok : te34.ok Tryd.prog 34 := ⟨by kernel_rfl, by kernel_rfl, (fun y h => by cases h), by kernel_rfl, (fun h => by cases h)⟩
def te35 : TE := { kind := .oth, size := 1, bytes := 8, zero := .nilFunc, ty := none }
theorem te35_ok : te35.ok Tryd.prog 35 := ⟨by kernel_rfl, by kernel_rfl, (fun y h => by cases h), by kernel_rfl, (fun h => by cases h)⟩
def te36 : TE := { kind := .oth, size := 1, bytes := 8, zero := .nilFunc, ty := none }
theorem te36_ok : te36.ok Tryd.prog 36 := ⟨by kernel_rfl, by kernel_rfl, (fun y h => by cases h), by kernel_rfl, (fun h => by cases h)⟩
def te37 : TE := { kind := .sl 9, size := 1, bytes := 24, zero := .slice none 0 0, ty := some (.sl .str) }
theorem te37_ok : te37.ok Tryd.prog 37 := ⟨by kernel_rfl, by kernel_rfl, (fun y h => by cases h; exact ⟨rfl, rfl, rfl, by decide, by decide, rfl⟩), by kernel_rfl, (fun _ => by kernel_rfl)⟩
def te38 : TE := { kind := .sl 37, size := 1, bytes := 24, zero := .slice none 0 0, ty := some (.sl (.sl .str)) }
theorem te38_ok : te38.ok Tryd.prog 38 := ⟨by kernel_rfl, by kernel_rfl, (fun y h => by cases h; exact ⟨rfl, rfl, rfl, by decide, by decide, rfl⟩), by kernel_rfl, (fun _ => by kernel_rfl)⟩
def te39 : TE := { kind := .strct [(0, 3), (1, 3), (2, 3), (3, 3)], size := 4, bytes := 32, zero := .agg #[.int .i64 0, .int .i64 0, .int .i64 0, .int .i64 0], ty := some (.cons (.int .i64) (.cons (.int .i64) (.cons (.int .i64) (.cons (.int .i64) .nil)))) }
theorem te39_ok : te39.ok Tryd.prog 39 := ⟨by kernel_rfl, by kernel_rfl, (fun y h => by cases h; exact ⟨rfl, rfl, rfl, by decide, by decide, rfl⟩), by kernel_rfl, (fun _ => by kernel_rfl)⟩
def te40 : TE := { kind := .strct [(0, 3), (1, 3), (2, 3), (3, 3)], size := 4, bytes := 32, zero := .agg #[.int .i64 0, .int .i64 0, .int .i64 0, .int .i64 0], ty := some (.cons (.int .i64) (.cons (.int .i64) (.cons (.int .i64) (.cons (.int .i64) .nil)))) }
theorem te40_ok : te40.ok Tryd.prog 40 := ⟨by kernel_rfl, by kernel_rfl, (fun y h => by cases h; exact ⟨rfl, rfl, rfl, by decide, by decide, rfl⟩), by kernel_rfl, (fun _ => by kernel_rfl)⟩
def te41 : TE := { kind := .sl 40, size := 1, bytes := 24, zero := .slice none 0 0, ty := some (.sl (.cons (.int .i64) (.cons (.int .i64) (.cons (.int .i64) (.cons (.int .i64) .nil))))) }
theorem te41_ok : te41.ok Tryd.prog 41 := ⟨by kernel_rfl, by kernel_rfl, (fun y h => by cases h; exact ⟨rfl, rfl, rfl, by decide, by decide, rfl⟩), by kernel_rfl, (fun _ => by kernel_rfl)⟩
def te42 : TE := { kind := .strct [(0, 3), (1, 3)], size := 2, bytes := 16, zero := .agg #[.int .i64 0, .int .i64 0], ty := some (.cons (.int .i64) (.cons (.int .i64) .nil)) }
theorem te42_ok : te42.ok Tryd.prog 42 := ⟨by kernel_rfl, by kernel_rfl, (fun y h => by cases h; exact ⟨rfl, rfl, rfl, by decide, by decide, rfl⟩), by kernel_rfl, (fun _ => by kernel_rfl)⟩
def te43 : TE := { kind := .strct [(0, 3), (1, 3)], size := 2, bytes := 16, zero := .agg #[.int .i64 0, .int .i64 0], ty := some (.cons (.int .i64) (.cons (.int .i64) .nil)) }
theorem te43_ok : te43.ok Tryd.prog 43 := ⟨by kernel_rfl, by kernel_rfl, (fun y h => by cases h; exact ⟨rfl, rfl, rfl, by decide, by decide, rfl⟩), by kernel_rfl, (fun _ => by kernel_rfl)⟩
def te44 : TE := { kind := .sl 43, size := 1, bytes := 24, zero := .slice none 0 0, ty := some (.sl (.cons (.int .i64) (.cons (.int .i64) .nil))) }
theorem te44_ok : te44.ok Tryd.prog 44 := ⟨by kernel_rfl, by kernel_rfl, (fun y h => by cases h; exact ⟨rfl, rfl, rfl, by decide, by decide, rfl⟩), by kernel_rfl, (fun _ => by kernel_rfl)⟩
def te45 : TE := { kind := .strct [(0, 38), (1, 41), (2, 44)], size := 3, bytes := 72, zero := .agg #[.slice none 0 0, .slice none 0 0, .slice none 0 0], ty := some (.cons (.sl (.sl .str)) (.cons (.sl (.cons (.int .i64) (.cons (.int .i64) (.cons (.int .i64) (.cons (.int .i64) .nil))))) (.cons (.sl (.cons (.int .i64) (.cons (.int .i64) .nil))) .nil))) }
theorem te45_ok : te45.ok Tryd.prog 45 := ⟨by kernel_rfl, by kernel_rfl, (fun y h => by cases h; exact ⟨rfl, rfl, rfl, by decide, by decide, rfl⟩), by kernel_rfl, (fun _ => by kernel_rfl)⟩
def te46 : TE := { kind := .strct [(0, 38), (1, 41), (2, 44)], size := 3, bytes := 72, zero := .agg #[.slice none 0 0, .slice none 0 0, .slice none 0 0], ty := some (.cons (.sl (.sl .str)) (.cons (.sl (.cons (.int .i64) (.cons (.int .i64) (.cons (.int .i64) (.cons (.int .i64) .nil))))) (.cons (.sl (.cons (.int .i64) (.cons (.int .i64) .nil))) .nil))) }
theorem te46_ok : te46.ok Tryd.prog 46 := ⟨by kernel_rfl, by kernel_rfl, (fun y h => by cases h; exact ⟨rfl, rfl, rfl, by decide, by decide, rfl⟩), by kernel_rfl, (fun _ => by kernel_rfl)⟩
def te48 : TE := { kind := .oth, size := 1, bytes := 8, zero := .nilFunc, ty := none }
theorem te48_ok : te48.ok Tryd.prog 48 := ⟨by kernel_rfl, by kernel_rfl, (fun y h => by cases h), by kernel_rfl, (fun h => by cases h)⟩
def te49 : TE := { kind := .strct [(0, 3), (1, 3), (2, 3)], size := 3, bytes := 24, zero := .agg #[.int .i64 0, .int .i64 0, .int .i64 0], ty := some (.cons (.int .i64) (.cons (.int .i64) (.cons (.int .i64) .nil))) }
theorem te49_ok : te49.ok Tryd.prog 49 := ⟨by kernel_rfl, by kernel_rfl, (fun y h => by cases h; exact ⟨rfl, rfl, rfl, by decide, by decide, rfl⟩), by kernel_rfl, (fun _ => by kernel_rfl)⟩
def te50 : TE := { kind := .strct [(0, 3), (1, 3), (2, 3)], size := 3, bytes := 24, zero := .agg #[.int .i64 0, .int .i64 0, .int .i64 0], ty := some (.cons (.int .i64) (.cons (.int .i64) (.cons (.int .i64) .nil))) }
theorem te50_ok : te50.ok Tryd.prog 50 := ⟨by kernel_rfl, by kernel_rfl, (fun y h => by cases h; exact ⟨rfl, rfl, rfl, by decide, by decide, rfl⟩), by kernel_rfl, (fun _ => by kernel_rfl)⟩
def te52 : TE := { kind := .oth, size := 1, bytes := 8, zero := .nilFunc, ty := none }
theorem te52_ok : te52.ok Tryd.prog 52 := ⟨by kernel_rfl, by kernel_rfl, (fun y h => by cases h), by kernel_rfl, (fun h => by cases h)⟩
def te53 : TE := { kind := .sl 58, size := 1, bytes := 24, zero := .slice none 0 0, ty := some (.sl (.cons (.int .i64) (.cons (.int .i64) (.cons (.int .i64) (.cons (.int .i64) .nil))))) }
theorem te53_ok : te53.ok Tryd.prog 53 := ⟨by kernel_rfl, by kernel_rfl, (fun y h => by cases h; exact ⟨rfl, rfl, rfl, by decide, by decide, rfl⟩), by kernel_rfl, (fun _ => by kernel_rfl)⟩
def te54 : TE := { kind := .sl 60, size := 1, bytes := 24, zero := .slice none 0 0, ty := some (.sl (.cons (.int .i64) (.cons (.int .i64) .nil))) }
theorem te54_ok : te54.ok Tryd.prog 54 := ⟨by kernel_rfl, by kernel_rfl, (fun y h => by cases h; exact ⟨rfl, rfl, rfl, by decide, by decide, rfl⟩), by kernel_rfl, (fun _ => by kernel_rfl)⟩
def te55 : TE := { kind := .strct [(0, 3), (1, 53), (2, 54)], size := 3, bytes := 56, zero := .agg #[.int .i64 0, .slice none 0 0, .slice none 0 0], ty := some (.cons (.int .i64) (.cons (.sl (.cons (.int .i64) (.cons (.int .i64) (.cons (.int .i64) (.cons (.int .i64) .nil))))) (.cons (.sl (.cons (.int .i64) (.cons (.int .i64) .nil))) .nil))) }
theorem te55_ok : te55.ok Tryd.prog 55 := ⟨by kernel_rfl, by kernel_rfl, (fun y h => by cases h; exact ⟨rfl, rfl, rfl, by decide, by decide, rfl⟩), by kernel_rfl, (fun _ => by kernel_rfl)⟩
def te56 : TE := { kind := .strct [(0, 3), (1, 53), (2, 54)], size := 3, bytes := 56, zero := .agg #[.int .i64 0, .slice none 0 0, .slice none 0 0], ty := some (.cons (.int .i64) (.cons (.sl (.cons (.int .i64) (.cons (.int .i64) (.cons (.int .i64) (.cons (.int .i64) .nil))))) (.cons (.sl (.cons (.int .i64) (.cons (.int .i64) .nil))) .nil))) }
theorem te56_ok : te56.ok Tryd.prog 56 := ⟨by kernel_rfl, by kernel_rfl, (fun y h => by cases h; exact ⟨rfl, rfl, rfl, by decide, by decide, rfl⟩), by kernel_rfl, (fun _ => by kernel_rfl)⟩
def te57 : TE := { kind := .strct [(0, 3), (1, 3), (2, 3), (3, 3)], size := 4, bytes := 32, zero := .agg #[.int .i64 0, .int .i64 0, .int .i64 0, .int .i64 0], ty := some (.cons (.int .i64) (.cons (.int .i64) (.cons (.int .i64) (.cons (.int .i64) .nil)))) }
theorem te57_ok : te57.ok Tryd.prog 57 := ⟨by kernel_rfl, by kernel_rfl, (fun y h => by cases h; exact ⟨rfl, rfl, rfl, by decide, by decide, rfl⟩), by kernel_rfl, (fun _ => by kernel_rfl)⟩
def te58 : TE := { kind := .strct [(0, 3), (1, 3), (2, 3), (3, 3)], size := 4, bytes := 32, zero := .agg #[.int .i64 0, .int .i64 0, .int .i64 0, .int .i64 0], ty := some (.cons (.int .i64) (.cons (.int .i64) (.cons (.int .i64) (.cons (.int .i64) .nil)))) }
theorem te58_ok : te58.ok Tryd.prog 58 := ⟨by kernel_rfl, by kernel_rfl, (fun y h => by cases h; exact ⟨rfl, rfl, rfl, by decide, by decide, rfl⟩), by kernel_rfl, (fun _ => by kernel_rfl)⟩
def te59 : TE := { kind := .strct [(0, 3), (1, 3)], size := 2, bytes := 16, zero := .agg #[.int .i64 0, .int .i64 0], ty := some (.cons (.int .i64) (.cons (.int .i64) .nil)) }
theorem te59_ok : te59.ok Tryd.prog 59 := ⟨by kernel_rfl, by kernel_rfl, (fun y h => by cases h; exact ⟨rfl, rfl, rfl, by decide, by decide, rfl⟩), by kernel_rfl, (fun _ => by kernel_rfl)⟩
def te60 : TE := { kind := .strct [(0, 3), (1, 3)], size := 2, bytes := 16, zero := .agg #[.int .i64 0, .int .i64 0], ty := some (.cons (.int .i64) (.cons (.int .i64) .nil)) }
theorem te60_ok : te60.ok Tryd.prog 60 := ⟨by kernel_rfl, by kernel_rfl, (fun y h => by cases h; exact ⟨rfl, rfl, rfl, by decide, by decide, rfl⟩), by kernel_rfl, (fun _ => by kernel_rfl)⟩
def te62 : TE := { kind := .oth, size := 1, bytes := 8, zero := .nilFunc, ty := none }
theorem te62_ok : te62.ok Tryd.prog 62 := ⟨by kernel_rfl, by kernel_rfl, (fun y h => by cases h), by kernel_rfl, (fun h => by cases h)⟩
def te63 : TE := { kind := .oth, size := 1, bytes := 8, zero := .nilFunc, ty := none }
theorem te63_ok : te63.ok Tryd.prog 63 := ⟨by kernel_rfl, by kernel_rfl, (fun y h => by cases h), by kernel_rfl, (fun h => by cases h)⟩
def te64 : TE := { kind := .oth, size := 1, bytes := 8, zero := .nilFunc, ty := none }
theorem te64_ok : te64.ok Tryd.prog 64 := ⟨by kernel_rfl, by kernel_rfl, (fun y h => by cases h), by kernel_rfl, (fun h => by cases h)⟩
def te65 : TE := { kind := .sl 77, size := 1, bytes := 24, zero := .slice none 0 0, ty := some (.sl (.sl (.cons (.int .i64) (.cons (.int .i64) .nil)))) }
theorem te65_ok : te65.ok Tryd.prog 65 := ⟨by kernel_rfl, by kernel_rfl, (fun y h => by cases h; exact ⟨rfl, rfl, rfl, by decide, by decide, rfl⟩), by kernel_rfl, (fun _ => by kernel_rfl)⟩
def te66 : TE := { kind := .sl 73, size := 1, bytes := 24, zero := .slice none 0 0, ty := some (.sl (.cons (.int .i64) (.cons .bool (.cons (.int .i64) (.cons (.int .i64) (.cons (.int .i64) (.cons .bool (.cons (.int .i64) .nil)))))))) }
theorem te66_ok : te66.ok Tryd.prog 66 := ⟨by kernel_rfl, by kernel_rfl, (fun y h => by cases h; exact ⟨rfl, rfl, rfl, by decide, by decide, rfl⟩), by kernel_rfl, (fun _ => by kernel_rfl)⟩
def te67 : TE := { kind := .strct [(0, 4), (1, 4), (2, 66), (3, 65), (4, 3)], size := 5, bytes := 64, zero := .agg #[.bool false, .bool false, .slice none 0 0, .slice none 0 0, .int .i64 0], ty := some (.cons .bool (.cons .bool (.cons (.sl (.cons (.int .i64) (.cons .bool (.cons (.int .i64) (.cons (.int .i64) (.cons (.int .i64) (.cons .bool (.cons (.int .i64) .nil)))))))) (.cons (.sl (.sl (.cons (.int .i64) (.cons (.int .i64) .nil)))) (.cons (.int .i64) .nil))))) }
theorem te67_ok : te67.ok Tryd.prog 67 := ⟨by kernel_rfl, by kernel_rfl, (fun y h => by cases h; exact ⟨rfl, rfl, rfl, by decide, by decide, rfl⟩), by kernel_rfl, (fun _ => by kernel_rfl)⟩
def te68 : TE := { kind := .strct [(0, 4), (1, 4), (2, 66), (3, 65), (4, 3)], size := 5, bytes := 64, zero := .agg #[.bool false, .bool false, .slice none 0 0, .slice none 0 0, .int .i64 0], ty := some (.cons .bool (.cons .bool (.cons (.sl (.cons (.int .i64) (.cons .bool (.cons (.int .i64) (.cons (.int .i64) (.cons (.int .i64) (.cons .bool (.cons (.int .i64) .nil)))))))) (.cons (.sl (.sl (.cons (.int .i64) (.cons (.int .i64) .nil)))) (.cons (.int .i64) .nil))))) }
theorem te68_ok : te68.ok Tryd.prog 68 := ⟨by kernel_rfl, by kernel_rfl, (fun y h => by cases h; exact ⟨rfl, rfl, rfl, by decide, by decide, rfl⟩), by kernel_rfl, (fun _ => by kernel_rfl)⟩
def te69 : TE := { kind := .oth, size := 1, bytes := 8, zero := .nilFunc, ty := none }
theorem te69_ok : te69.ok Tryd.prog 69 := ⟨by kernel_rfl, by kernel_rfl, (fun y h => by cases h), by kernel_rfl, (fun h => by cases h)⟩
def te70 : TE := { kind := .strct [(0, 3), (1, 4), (2, 3)], size := 3, bytes := 24, zero := .agg #[.int .i64 0, .bool false, .int .i64 0], ty := some (.cons (.int .i64) (.cons .bool (.cons (.int .i64) .nil))) }
theorem te70_ok : te70.ok Tryd.prog 70 := ⟨by kernel_rfl, by kernel_rfl, (fun y h => by cases h; exact ⟨rfl, rfl, rfl, by decide, by decide, rfl⟩), by kernel_rfl, (fun _ => by kernel_rfl)⟩
def te71 : TE := { kind := .strct [(0, 3), (1, 4), (2, 3)], size := 3, bytes := 24, zero := .agg #[.int .i64 0, .bool false, .int .i64 0], ty := some (.cons (.int .i64) (.cons .bool (.cons (.int .i64) .nil))) }
theorem te71_ok : te71.ok Tryd.prog 71 := ⟨by kernel_rfl, by kernel_rfl, (fun y h => by cases h; exact ⟨rfl, rfl, rfl, by decide, by decide, rfl⟩), by kernel_rfl, (fun _ => by kernel_rfl)⟩
def te72 : TE := { kind := .strct [(0, 71), (3, 3), (4, 3), (5, 4), (6, 3)], size := 7, bytes := 56, zero := .agg #[.int .i64 0, .bool false, .int .i64 0, .int .i64 0, .int .i64 0, .bool false, .int .i64 0], ty := some (.cons (.int .i64) (.cons .bool (.cons (.int .i64) (.cons (.int .i64) (.cons (.int .i64) (.cons .bool (.cons (.int .i64) .nil))))))) }
theorem te72_ok : te72.ok Tryd.prog 72 := ⟨by kernel_rfl, by kernel_rfl, (fun y h => by cases h; exact ⟨rfl, rfl, rfl, by decide, by decide, rfl⟩), by kernel_rfl, (fun _ => by kernel_rfl)⟩
def te73 : TE := { kind := .strct [(0, 71), (3, 3), (4, 3), (5, 4), (6, 3)], size := 7, bytes := 56, zero := .agg #[.int .i64 0, .bool false, .int .i64 0, .int .i64 0, .int .i64 0, .bool false, .int .i64 0], ty := some (.cons (.int .i64) (.cons .bool (.cons (.int .i64) (.cons (.int .i64) (.cons (.int .i64) (.cons .bool (.cons (.int .i64) .nil))))))) }
theorem te73_ok : te73.ok Tryd.prog 73 := ⟨by kernel_rfl, by kernel_rfl, (fun y h => by cases h; exact ⟨rfl, rfl, rfl, by decide, by decide, rfl⟩), by kernel_rfl, (fun _ => by kernel_rfl)⟩
def te74 : TE := { kind := .oth, size := 1, bytes := 8, zero := .nilFunc, ty := none }
theorem te74_ok : te74.ok Tryd.prog 74 := ⟨by kernel_rfl, by kernel_rfl, (fun y h => by cases h), by kernel_rfl, (fun h => by cases h)⟩
def te75 : TE := { kind := .oth, size := 1, bytes := 8, zero := .nilFunc, ty := none }
theorem te75_ok : te75.ok Tryd.prog 75 := ⟨by kernel_rfl, by kernel_rfl, (fun y h => by cases h), by kernel_rfl, (fun h => by cases h)⟩
def te76 : TE := { kind := .oth, size := 1, bytes := 8, zero := .nilFunc, ty := none }
theorem te76_ok : te76.ok Tryd.prog 76 := ⟨by kernel_rfl, by kernel_rfl, (fun y h => by cases h), by kernel_rfl, (fun h => by cases h)⟩
def te77 : TE := { kind := .sl 79, size := 1, bytes := 24, zero := .slice none 0 0, ty := some (.sl (.cons (.int .i64) (.cons (.int .i64) .nil))) }
theorem te77_ok : te77.ok Tryd.prog 77 := ⟨by kernel_rfl, by kernel_rfl, (fun y h => by cases h; exact ⟨rfl, rfl, rfl, by decide, by decide, rfl⟩), by kernel_rfl, (fun _ => by kernel_rfl)⟩
def te78 : TE := { kind := .strct [(0, 3), (1, 3)], size := 2, bytes := 16, zero := .agg #[.int .i64 0, .int .i64 0], ty := some (.cons (.int .i64) (.cons (.int .i64) .nil)) }
theorem te78_ok : te78.ok Tryd.prog 78 := ⟨by kernel_rfl, by kernel_rfl, (fun y h => by cases h; exact ⟨rfl, rfl, rfl, by decide, by decide, rfl⟩), by kernel_rfl, (fun _ => by kernel_rfl)⟩
def te79 : TE := { kind := .strct [(0, 3), (1, 3)], size := 2, bytes := 16, zero := .agg #[.int .i64 0, .int .i64 0], ty := some (.cons (.int .i64) (.cons (.int .i64) .nil)) }
theorem te79_ok : te79.ok Tryd.prog 79 := ⟨by kernel_rfl, by kernel_rfl, (fun y h => by cases h; exact ⟨rfl, rfl, rfl, by decide, by decide, rfl⟩), by kernel_rfl, (fun _ => by kernel_rfl)⟩
def te80 : TE := { kind := .oth, size := 1, bytes := 8, zero := .nilFunc, ty := none }
theorem te80_ok : te80.ok Tryd.prog 80 := ⟨by kernel_rfl, by kernel_rfl, (fun y h => by cases h), by kernel_rfl, (fun h => by cases h)⟩
def te81 : TE := { kind := .oth, size := 1, bytes := 8, zero := .nilFunc, ty := none }
theorem te81_ok : te81.ok Tryd.prog 81 := ⟨by kernel_rfl, by kernel_rfl, (fun y h => by cases h), by kernel_rfl, (fun h => by cases h)⟩
def te82 : TE := { kind := .ptr 89, size := 1, bytes := 8, zero := .pointer none, ty := none }
theorem te82_ok : te82.ok Tryd.prog 82 := ⟨by kernel_rfl, by kernel_rfl, (fun y h => by cases h), by kernel_rfl, (fun h => by cases h)⟩
def te83 : TE := { kind := .arr 3 3, size := 3, bytes := 24, zero := .agg #[.int .i64 0, .int .i64 0, .int .i64 0], ty := some (.cons (.int .i64) (.cons (.int .i64) (.cons (.int .i64) .nil))) }
theorem te83_ok : te83.ok Tryd.prog 83 := ⟨by kernel_rfl, by kernel_rfl, (fun y h => by cases h; exact ⟨rfl, rfl, rfl, by decide, by decide, rfl⟩), by kernel_rfl, (fun _ => by kernel_rfl)⟩
def te84 : TE := { kind := .arr 3 3, size := 3, bytes := 24, zero := .agg #[.int .i64 0, .int .i64 0, .int .i64 0], ty := some (.cons (.int .i64) (.cons (.int .i64) (.cons (.int .i64) .nil))) }
theorem te84_ok : te84.ok Tryd.prog 84 := ⟨by kernel_rfl, by kernel_rfl, (fun y h => by cases h; exact ⟨rfl, rfl, rfl, by decide, by decide, rfl⟩), by kernel_rfl, (fun _ => by kernel_rfl)⟩
def te86 : TE := { kind := .oth, size := 1, bytes := 8, zero := .nilFunc, ty := none }
theorem te86_ok : te86.ok Tryd.prog 86 := ⟨by kernel_rfl, by kernel_rfl, (fun y h => by cases h), by kernel_rfl, (fun h => by cases h)⟩
def te87 : TE := { kind := .oth, size := 1, bytes := 8, zero := .nilFunc, ty := none }
theorem te87_ok : te87.ok Tryd.prog 87 := ⟨by kernel_rfl, by kernel_rfl, (fun y h => by cases h), by kernel_rfl, (fun h => by cases h)⟩
def te88 : TE := { kind := .strct [(0, 46), (3, 3), (4, 3)], size := 5, bytes := 88, zero := .agg #[.slice none 0 0, .slice none 0 0, .slice none 0 0, .int .i64 0, .int .i64 0], ty := some (.cons (.sl (.sl .str)) (.cons (.sl (.cons (.int .i64) (.cons (.int .i64) (.cons (.int .i64) (.cons (.int .i64) .nil))))) (.cons (.sl (.cons (.int .i64) (.cons (.int .i64) .nil))) (.cons (.int .i64) (.cons (.int .i64) .nil))))) }
theorem te88_ok : te88.ok Tryd.prog 88 := ⟨by kernel_rfl, by kernel_rfl, (fun y h => by cases h; exact ⟨rfl, rfl, rfl, by decide, by decide, rfl⟩), by kernel_rfl, (fun _ => by kernel_rfl)⟩
def te89 : TE := { kind := .strct [(0, 46), (3, 3), (4, 3)], size := 5, bytes := 88, zero := .agg #[.slice none 0 0, .slice none 0 0, .slice none 0 0, .int .i64 0, .int .i64 0], ty := some (.cons (.sl (.sl .str)) (.cons (.sl (.cons (.int .i64) (.cons (.int .i64) (.cons (.int .i64) (.cons (.int .i64) .nil))))) (.cons (.sl (.cons (.int .i64) (.cons (.int .i64) .nil))) (.cons (.int .i64) (.cons (.int .i64) .nil))))) }
theorem te89_ok : te89.ok Tryd.prog 89 := ⟨by kernel_rfl, by kernel_rfl, (fun y h => by cases h; exact ⟨rfl, rfl, rfl, by decide, by decide, rfl⟩), by kernel_rfl, (fun _ => by kernel_rfl)⟩
def te90 : TE := { kind := .map 84 4, size := 1, bytes := 8, zero := .map none, ty := none }
theorem te90_ok : te90.ok Tryd.prog 90 := ⟨by kernel_rfl, by kernel_rfl, (fun y h => by cases h), by kernel_rfl, (fun h => by cases h)⟩
def te91 : TE := { kind := .oth, size := 1, bytes := 8, zero := .nilFunc, ty := none }
theorem te91_ok : te91.ok Tryd.prog 91 := ⟨by kernel_rfl, by kernel_rfl, (fun y h => by cases h), by kernel_rfl, (fun h => by cases h)⟩
def te92 : TE := { kind := .oth, size := 1, bytes := 8, zero := .nilFunc, ty := none }
theorem te92_ok : te92.ok Tryd.prog 92 := ⟨by kernel_rfl, by kernel_rfl, (fun y h => by cases h), by kernel_rfl, (fun h => by cases h)⟩
def te93 : TE := { kind := .oth, size := 1, bytes := 8, zero := .nilFunc, ty := none }
theorem te93_ok : te93.ok Tryd.prog 93 := ⟨by kernel_rfl, by kernel_rfl, (fun y h => by cases h), by kernel_rfl, (fun h => by cases h)⟩
def te94 : TE := { kind := .sl 84, size := 1, bytes := 24, zero := .slice none 0 0, ty := some (.sl (.cons (.int .i64) (.cons (.int .i64) (.cons (.int .i64) .nil)))) }
theorem te94_ok : te94.ok Tryd.prog 94 := ⟨by kernel_rfl, by kernel_rfl, (fun y h => by cases h; exact ⟨rfl, rfl, rfl, by decide, by decide, rfl⟩), by kernel_rfl, (fun _ => by kernel_rfl)⟩
def te95 : TE := { kind := .oth, size := 1, bytes := 8, zero := .nilFunc, ty := none }
theorem te95_ok : te95.ok Tryd.prog 95 := ⟨by kernel_rfl, by kernel_rfl, (fun y h => by cases h), by kernel_rfl, (fun h => by cases h)⟩
def te96 : TE := { kind := .oth, size := 1, bytes := 8, zero := .nilFunc, ty := none }
theorem te96_ok : te96.ok Tryd.prog 96 := ⟨by kernel_rfl, by kernel_rfl, (fun y h => by cases h), by kernel_rfl, (fun h => by cases h)⟩
def te98 : TE := { kind := .oth, size := 1, bytes := 8, zero := .nilFunc, ty := none }
theorem te98_ok : te98.ok Tryd.prog 98 := ⟨by kernel_rfl, by kernel_rfl, (fun y h => by cases h), by kernel_rfl, (fun h => by cases h)⟩
def te99 : TE := { kind := .map 84 3, size := 1, bytes := 8, zero := .map none, ty := none }
theorem te99_ok : te99.ok Tryd.prog 99 := ⟨by kernel_rfl, by kernel_rfl, (fun y h => by cases h), by kernel_rfl, (fun h => by cases h)⟩
def te101 : TE := { kind := .oth, size := 1, bytes := 8, zero := .nilFunc, ty := none }
theorem te101_ok : te101.ok Tryd.prog 101 := ⟨by kernel_rfl, by kernel_rfl, (fun y h => by cases h), by kernel_rfl, (fun h => by cases h)⟩
def te102 : TE := { kind := .ptr 104, size := 1, bytes := 8, zero := .pointer none, ty := none }
theorem te102_ok : te102.ok Tryd.prog 102 := ⟨by kernel_rfl, by kernel_rfl, (fun y h => by cases h), by kernel_rfl, (fun h => by cases h)⟩
def te103 : TE := { kind := .strct [(0, 102), (1, 23)], size := 2, bytes := 32, zero := .agg #[.pointer none, .slice none 0 0], ty := none }
theorem te103_ok : te103.ok Tryd.prog 103 := ⟨by kernel_rfl, by kernel_rfl, (fun y h => by cases h), by kernel_rfl, (fun h => by cases h)⟩
def te104 : TE := { kind := .strct [(0, 102), (1, 23)], size := 2, bytes := 32, zero := .agg #[.pointer none, .slice none 0 0], ty := none }
theorem te104_ok : te104.ok Tryd.prog 104 := ⟨by kernel_rfl, by kernel_rfl, (fun y h => by cases h), by kernel_rfl, (fun h => by cases h)⟩
def te105 : TE := { kind := .ifc, size := 1, bytes := 16, zero := .nilIface, ty := none }
theorem te105_ok : te105.ok Tryd.prog 105 := ⟨by kernel_rfl, by kernel_rfl, (fun y h => by cases h), by kernel_rfl, (fun h => by cases h)⟩
def te106 : TE := { kind := .ifc, size := 1, bytes := 16, zero := .nilIface, ty := none }
theorem te106_ok : te106.ok Tryd.prog 106 := ⟨by kernel_rfl, by kernel_rfl, (fun y h => by cases h), by kernel_rfl, (fun h => by cases h)⟩
def te107 : TE := { kind := .oth, size := 1, bytes := 8, zero := .nilFunc, ty := none }
theorem te107_ok : te107.ok Tryd.prog 107 := ⟨by kernel_rfl, by kernel_rfl, (fun y h => by cases h), by kernel_rfl, (fun h => by cases h)⟩
def te108 : TE := { kind := .oth, size := 1, bytes := 8, zero := .nilFunc, ty := none }
theorem te108_ok : te108.ok Tryd.prog 108 := ⟨by kernel_rfl, by kernel_rfl, (fun y h => by cases h), by kernel_rfl, (fun h => by cases h)⟩
def te109 : TE := { kind := .oth, size := 1, bytes := 8, zero := .nilFunc, ty := none }
theorem te109_ok : te109.ok Tryd.prog 109 := ⟨by kernel_rfl, by kernel_rfl, (fun y h => by cases h), by kernel_rfl, (fun h => by cases h)⟩
def te110 : TE := { kind := .oth, size := 1, bytes := 8, zero := .nilFunc, ty := none }
theorem te110_ok : te110.ok Tryd.prog 110 := ⟨by kernel_rfl, by kernel_rfl, (fun y h => by cases h), by kernel_rfl, (fun h => by cases h)⟩
def te111 : TE := { kind := .ptr 58, size := 1, bytes := 8, zero := .pointer none, ty := none }
theorem te111_ok : te111.ok Tryd.prog 111 := ⟨by kernel_rfl, by kernel_rfl, (fun y h => by cases h), by kernel_rfl, (fun h => by cases h)⟩
def te112 : TE := { kind := .oth, size := 1, bytes := 8, zero := .nilFunc, ty := none }
theorem te112_ok : te112.ok Tryd.prog 112 := ⟨by kernel_rfl, by kernel_rfl, (fun y h => by cases h), by kernel_rfl, (fun h => by cases h)⟩
def te113 : TE := { kind := .oth, size := 1, bytes := 8, zero := .nilFunc, ty := none }
theorem te113_ok : te113.ok Tryd.prog 113 := ⟨by kernel_rfl, by kernel_rfl, (fun y h => by cases h), by kernel_rfl, (fun h => by cases h)⟩
def te114 : TE := { kind := .oth, size := 1, bytes := 8, zero := .nilFunc, ty := none }
theorem te114_ok : te114.ok Tryd.prog 114 := ⟨by kernel_rfl, by kernel_rfl, (fun y h => by cases h), by kernel_rfl, (fun h => by cases h)⟩
def te115 : TE := { kind := .oth, size := 1, bytes := 8, zero := .nilFunc, ty := none }
theorem te115_ok : te115.ok Tryd.prog 115 := ⟨by kernel_rfl, by kernel_rfl, (fun y h => by cases h), by kernel_rfl, (fun h => by cases h)⟩
def te116 : TE := { kind := .ptr 73, size := 1, bytes := 8, zero := .pointer none, ty := none }
theorem te116_ok : te116.ok Tryd.prog 116 := ⟨by kernel_rfl, by kernel_rfl, (fun y h => by cases h), by kernel_rfl, (fun h => by cases h)⟩
def te117 : TE := { kind := .oth, size := 1, bytes := 8, zero := .nilFunc, ty := none }
theorem te117_ok : te117.ok Tryd.prog 117 := ⟨by kernel_rfl, by kernel_rfl, (fun y h => by cases h), by kernel_rfl, (fun h => by cases h)⟩
def te118 : TE := { kind := .oth, size := 1, bytes := 8, zero := .nilFunc, ty := none }
theorem te118_ok : te118.ok Tryd.prog 118 := ⟨by kernel_rfl, by kernel_rfl, (fun y h => by cases h), by kernel_rfl, (fun h => by cases h)⟩
def te119 : TE := { kind := .ptr 5, size := 1, bytes := 8, zero := .pointer none, ty := none }
theorem te119_ok : te119.ok Tryd.prog 119 := ⟨by kernel_rfl, by kernel_rfl, (fun y h => by cases h), by kernel_rfl, (fun h => by cases h)⟩
def te120 : TE := { kind := .oth, size := 1, bytes := 8, zero := .nilFunc, ty := none }
theorem te120_ok : te120.ok Tryd.prog 120 := ⟨by kernel_rfl, by kernel_rfl, (fun y h => by cases h), by kernel_rfl, (fun h => by cases h)⟩
def te122 : TE := { kind := .oth, size := 1, bytes := 8, zero := .nilFunc, ty := none }
theorem te122_ok : te122.ok Tryd.prog 122 := ⟨by kernel_rfl, by kernel_rfl, (fun y h => by cases h), by kernel_rfl, (fun h => by cases h)⟩
def te123 : TE := { kind := .oth, size := 1, bytes := 8, zero := .nilFunc, ty := none }
theorem te123_ok : te123.ok Tryd.prog 123 := ⟨by kernel_rfl, by kernel_rfl, (fun y h => by cases h), by kernel_rfl, (fun h => by cases h)⟩
def te124 : TE := { kind := .oth, size := 1, bytes := 8, zero := .nilFunc, ty := none }
theorem te124_ok : te124.ok Tryd.prog 124 := ⟨by kernel_rfl, by kernel_rfl, (fun y h => by cases h), by kernel_rfl, (fun h => by cases h)⟩
def te125 : TE := { kind := .oth, size := 1, bytes := 8, zero := .nilFunc, ty := none }
theorem te125_ok : te125.ok Tryd.prog 125 := ⟨by kernel_rfl, by kernel_rfl, (fun y h => by cases h), by kernel_rfl, (fun h => by cases h)⟩
def te126 : TE := { kind := .oth, size := 1, bytes := 8, zero := .nilFunc, ty := none }
theorem te126_ok : te126.ok Tryd.prog 126 := ⟨by kernel_rfl, by kernel_rfl, (fun y h => by cases h), by kernel_rfl, (fun h => by cases h)⟩
def te127 : TE := { kind := .arr 256 4, size := 256, bytes := 256, zero := .agg #[.bool false, .bool false, .bool false, .bool false, .bool false, .bool false, .bool false, .bool false, .bool false, .bool false, .bool false, .bool false, .bool false, .bool false, .bool false, .bool false, .bool false, .bool false, .bool false, .bool false, .bool false, .bool false, .bool false, .bool false, .bool false, .bool false, .bool false, .bool false, .bool false, .bool false, .bool false, .bool false, .bool false, .bool false, .bool false, .bool false, .bool false, .bool false, .bool false, .bool false, .bool false, .bool false, .bool false, .bool false, .bool false, .bool false, .bool false, .bool false, .bool false, .bool false, .bool false, .bool false, .bool false, .bool false, .bool false, .bool false, .bool false, .bool false, .bool false, .bool false, .bool false, .bool false, .bool false, .bool false, .bool false, .bool false, .bool false, .bool false, .bool false, .bool false, .bool false, .bool false, .bool false, .bool false, .bool false, .bool false, .bool false, .bool false, .bool false, .bool false, .bool false, .bool false, .bool false, .bool false, .bool false, .bool false, .bool false, .bool false, .bool false, .bool false, .bool false, .bool false, .bool false, .bool false, .bool false, .bool false, .bool false, .bool false, .bool false, .bool false, .bool false, .bool false, .bool false, .bool false, .bool false, .bool false, .bool false, .bool false, .bool false, .bool false, .bool false, .bool false, .bool false, .bool false, .bool false, .bool false, .bool false, .bool false, .bool false, .bool false, .bool false, .bool false, .bool false, .bool false, .bool false, .bool false, .bool false, .bool false, .bool false, .bool false, .bool false, .bool false, .bool false, .bool false, .bool false, .bool false, .bool false, .bool false, .bool false, .bool false, .bool false, .bool false, .bool false, .bool false, .bool false, .bool false, .bool false, .bool false, .bool false, .bool false, .bool false, .bool false, .bool false, .bool false, .bool false, .bool false, .bool false, .bool false, .bool false, .bool false, .bool false, .bool false, .bool false, .bool false, .bool false, .bool false, .bool false, .bool false, .bool false, .bool false, .bool false, .bool false, .bool false, .bool false, .bool false, .bool false, .bool false, .bool false, .bool false, .bool false, .bool false, .bool false, .bool false, .bool false, .bool false, .bool false, .bool false, .bool false, .bool false, .bool false, .bool false, .bool false, .bool false, .bool false, .bool false, .bool false, .bool false, .bool false, .bool false, .bool false, .bool false, .bool false, .bool false, .bool false, .bool false, .bool false, .bool false, .bool false, .bool false, .bool false, .bool false, .bool false, .bool false, .bool false, .bool false, .bool false, .bool false, .bool false, .bool false, .bool false, .bool false, .bool false, .bool false, .bool false, .bool false, .bool false, .bool false, .bool false, .bool false, .bool false, .bool false, .bool false, .bool false, .bool false, .bool false, .bool false, .bool false, .bool false, .bool false, .bool false, .bool false, .bool false, .bool false, .bool false, .bool false, .bool false, .bool false, .bool false, .bool false, .bool false, .bool false, .bool false, .bool false, .bool false, .bool false, .bool false], ty := none }
theorem te127_ok : te127.ok Tryd.prog 127 := ⟨by kernel_rfl, by kernel_rfl, (fun y h => by cases h), by kernel_rfl, (fun h => by cases h)⟩
def te128 : TE := { kind := .arr 256 4, size := 256, bytes := 256, zero := .agg #[.bool false, .bool false, .bool false, .bool false, .bool false, .bool false, .bool false, .bool false, .bool false, .bool false, .bool false, .bool false, .bool false, .bool false, .bool false, .bool false, .bool false, .bool false, .bool false, .bool false, .bool false, .bool false, .bool false, .bool false, .bool false, .bool false, .bool false, .bool false, .bool false, .bool false, .bool false, .bool false, .bool false, .bool false, .bool false, .bool false, .bool false, .bool false, .bool false, .bool false, .bool false, .bool false, .bool false, .bool false, .bool false, .bool false, .bool false, .bool false, .bool false, .bool false, .bool false, .bool false, .bool false, .bool false, .bool false, .bool false, .bool false, .bool false, .bool false, .bool false, .bool false, .bool false, .bool false, .bool false, .bool false, .bool false, .bool false, .bool false, .bool false, .bool false, .bool false, .bool false, .bool false, .bool false, .bool false, .bool false, .bool false, .bool false, .bool false, .bool false, .bool false, .bool false, .bool false, .bool false, .bool false, .bool false, .bool false, .bool false, .bool false, .bool false, .bool false, .bool false, .bool false, .bool false, .bool false, .bool false, .bool false, .bool false, .bool false, .bool false, .bool false, .bool false, .bool false, .bool false, .bool false, .bool false, .bool false, .bool false, .bool false, .bool false, .bool false, .bool false, .bool false, .bool false, .bool false, .bool false, .bool false, .bool false, .bool false, .bool false, .bool false, .bool false, .bool false, .bool false, .bool false, .bool false, .bool false, .bool false, .bool false, .bool false, .bool false, .bool false, .bool false, .bool false, .bool false, .bool false, .bool false, .bool false, .bool false, .bool false, .bool false, .bool false, .bool false, .bool false, .bool false, .bool false, .bool false, .bool false, .bool false, .bool false, .bool false, .bool false, .bool false, .bool false, .bool false, .bool false, .bool false, .bool false, .bool false, .bool false, .bool false, .bool false, .bool false, .bool false, .bool false, .bool false, .bool false, .bool false, .bool false, .bool false, .bool false, .bool false, .bool false, .bool false, .bool false, .bool false, .bool false, .bool false, .bool false, .bool false, .bool false, .bool false, .bool false, .bool false, .bool false, .bool false, .bool false, .bool false, .bool false, .bool false, .bool false, .bool false, .bool false, .bool false, .bool false, .bool false, .bool false, .bool false, .bool false, .bool false, .bool false, .bool false, .bool false, .bool false, .bool false, .bool false, .bool false, .bool false, .bool false, .bool false, .bool false, .bool false, .bool false, .bool false, .bool false, .bool false, .bool false, .bool false, .bool false, .bool false, .bool false, .bool false, .bool false, .bool false, .bool false, .bool false, .bool false, .bool false, .bool false, .bool false, .bool false, .bool false, .bool false, .bool false, .bool false, .bool false, .bool false, .bool false, .bool false, .bool false, .bool false, .bool false, .bool false, .bool false, .bool false, .bool false, .bool false, .bool false, .bool false, .bool false, .bool false, .bool false, .bool false, .bool false, .bool false, .bool false], ty := none }
theorem te128_ok : te128.ok Tryd.prog 128 := ⟨by kernel_rfl, by kernel_rfl, (fun y h => by cases h), by kernel_rfl, (fun h => by cases h)⟩
def te130 : TE := { kind := .oth, size := 1, bytes := 8, zero := .nilFunc, ty := none }
theorem te130_ok : te130.ok Tryd.prog 130 := ⟨by kernel_rfl, by kernel_rfl, (fun y h => by cases h), by kernel_rfl, (fun h => by cases h)⟩
def te131 : TE := { kind := .oth, size := 1, bytes := 8, zero := .nilFunc, ty := none }
theorem te131_ok : te131.ok Tryd.prog 131 := ⟨by kernel_rfl, by kernel_rfl, (fun y h => by cases h), by kernel_rfl, (fun h => by cases h)⟩
def te132 : TE := { kind := .ptr 128, size := 1, bytes := 8, zero := .pointer none, ty := none }
theorem te132_ok : te132.ok Tryd.prog 132 := ⟨by kernel_rfl, by kernel_rfl, (fun y h => by cases h), by kernel_rfl, (fun h => by cases h)⟩
def te133 : TE := { kind := .oth, size := 1, bytes := 8, zero := .nilFunc, ty := none }
theorem te133_ok : te133.ok Tryd.prog 133 := ⟨by kernel_rfl, by kernel_rfl, (fun y h => by cases h), by kernel_rfl, (fun h => by cases h)⟩
def te136 : TE := { kind := .oth, size := 1, bytes := 8, zero := .nilFunc, ty := none }
theorem te136_ok : te136.ok Tryd.prog 136 := ⟨by kernel_rfl, by kernel_rfl, (fun y h => by cases h), by kernel_rfl, (fun h => by cases h)⟩
def te137 : TE := { kind := .oth, size := 1, bytes := 8, zero := .nilFunc, ty := none }
theorem te137_ok : te137.ok Tryd.prog 137 := ⟨by kernel_rfl, by kernel_rfl, (fun y h => by cases h), by kernel_rfl, (fun h => by cases h)⟩
def te138 : TE := { kind := .oth, size := 1, bytes := 8, zero := .nilFunc, ty := none }
theorem te138_ok : te138.ok Tryd.prog 138 := ⟨by kernel_rfl, by kernel_rfl, (fun y h => by cases h), by kernel_rfl, (fun h => by cases h)⟩
def te140 : TE := { kind := .oth, size := 1, bytes := 8, zero := .nilFunc, ty := none }
theorem te140_ok : te140.ok Tryd.prog 140 := ⟨by kernel_rfl, by kernel_rfl, (fun y h => by cases h), by kernel_rfl, (fun h => by cases h)⟩
def te141 : TE := { kind := .oth, size := 1, bytes := 8, zero := .nilFunc, ty := none }
theorem te141_ok : te141.ok Tryd.prog 141 := ⟨by kernel_rfl, by kernel_rfl, (fun y h => by cases h), by kernel_rfl, (fun h => by cases h)⟩
def te142 : TE := { kind := .oth, size := 1, bytes := 8, zero := .nilFunc, ty := none }
theorem te142_ok : te142.ok Tryd.prog 142 := ⟨by kernel_rfl, by kernel_rfl, (fun y h => by cases h), by kernel_rfl, (fun h => by cases h)⟩
def te143 : TE := { kind := .oth, size := 1, bytes := 8, zero := .nilFunc, ty := none }
theorem te143_ok : te143.ok Tryd.prog 143 := ⟨by kernel_rfl, by kernel_rfl, (fun y h => by cases h), by kernel_rfl, (fun h => by cases h)⟩
def te144 : TE := { kind := .arr 256 5, size := 256, bytes := 256, zero := .agg #[.int .u8 0, .int .u8 0, .int .u8 0, .int .u8 0, .int .u8 0, .int .u8 0, .int .u8 0, .int .u8 0, .int .u8 0, .int .u8 0, .int .u8 0, .int .u8 0, .int .u8 0, .int .u8 0, .int .u8 0, .int .u8 0, .int .u8 0, .int .u8 0, .int .u8 0, .int .u8 0, .int .u8 0, .int .u8 0, .int .u8 0, .int .u8 0, .int .u8 0, .int .u8 0, .int .u8 0, .int .u8 0, .int .u8 0, .int .u8 0, .int .u8 0, .int .u8 0, .int .u8 0, .int .u8 0, .int .u8 0, .int .u8 0, .int .u8 0, .int .u8 0, .int .u8 0, .int .u8 0, .int .u8 0, .int .u8 0, .int .u8 0, .int .u8 0, .int .u8 0, .int .u8 0, .int .u8 0, .int .u8 0, .int .u8 0, .int .u8 0, .int .u8 0, .int .u8 0, .int .u8 0, .int .u8 0, .int .u8 0, .int .u8 0, .int .u8 0, .int .u8 0, .int .u8 0, .int .u8 0, .int .u8 0, .int .u8 0, .int .u8 0, .int .u8 0, .int .u8 0, .int .u8 0, .int .u8 0, .int .u8 0, .int .u8 0, .int .u8 0, .int .u8 0, .int .u8 0, .int .u8 0, .int .u8 0, .int .u8 0, .int .u8 0, .int .u8 0, .int .u8 0, .int .u8 0, .int .u8 0, .int .u8 0, .int .u8 0, .int .u8 0, .int .u8 0, .int .u8 0, .int .u8 0, .int .u8 0, .int .u8 0, .int .u8 0, .int .u8 0, .int .u8 0, .int .u8 0, .int .u8 0, .int .u8 0, .int .u8 0, .int .u8 0, .int .u8 0, .int .u8 0, .int .u8 0, .int .u8 0, .int .u8 0, .int .u8 0, .int .u8 0, .int .u8 0, .int .u8 0, .int .u8 0, .int .u8 0, .int .u8 0, .int .u8 0, .int .u8 0, .int .u8 0, .int .u8 0, .int .u8 0, .int .u8 0, .int .u8 0, .int .u8 0, .int .u8 0, .int .u8 0, .int .u8 0, .int .u8 0, .int .u8 0, .int .u8 0, .int .u8 0, .int .u8 0, .int .u8 0, .int .u8 0, .int .u8 0, .int .u8 0, .int .u8 0, .int .u8 0, .int .u8 0, .int .u8 0, .int .u8 0, .int .u8 0, .int .u8 0, .int .u8 0, .int .u8 0, .int .u8 0, .int .u8 0, .int .u8 0, .int .u8 0, .int .u8 0, .int .u8 0, .int .u8 0, .int .u8 0, .int .u8 0, .int .u8 0, .int .u8 0, .int .u8 0, .int .u8 0, .int .u8 0, .int .u8 0, .int .u8 0, .int .u8 0, .int .u8 0, .int .u8 0, .int .u8 0, .int .u8 0, .int .u8 0, .int .u8 0, .int .u8 0, .int .u8 0, .int .u8 0, .int .u8 0, .int .u8 0, .int .u8 0, .int .u8 0, .int .u8 0, .int .u8 0, .int .u8 0, .int .u8 0, .int .u8 0, .int .u8 0, .int .u8 0, .int .u8 0, .int .u8 0, .int .u8 0, .int .u8 0, .int .u8 0, .int .u8 0, .int .u8 0, .int .u8 0, .int .u8 0, .int .u8 0, .int .u8 0, .int .u8 0, .int .u8 0, .int .u8 0, .int .u8 0, .int .u8 0, .int .u8 0, .int .u8 0, .int .u8 0, .int .u8 0, .int .u8 0, .int .u8 0, .int .u8 0, .int .u8 0, .int .u8 0, .int .u8 0, .int .u8 0, .int .u8 0, .int .u8 0, .int .u8 0, .int .u8 0, .int .u8 0, .int .u8 0, .int .u8 0, .int .u8 0, .int .u8 0, .int .u8 0, .int .u8 0, .int .u8 0, .int .u8 0, .int .u8 0, .int .u8 0, .int .u8 0, .int .u8 0, .int .u8 0, .int .u8 0, .int .u8 0, .int .u8 0, .int .u8 0, .int .u8 0, .int .u8 0, .int .u8 0, .int .u8 0, .int .u8 0, .int .u8 0, .int .u8 0, .int .u8 0, .int .u8 0, .int .u8 0, .int .u8 0, .int .u8 0, .int .u8 0, .int .u8 0, .int .u8 0, .int .u8 0, .int .u8 0, .int .u8 0, .int .u8 0, .int .u8 0, .int .u8 0, .int .u8 0, .int .u8 0, .int .u8 0, .int .u8 0, .int .u8 0, .int .u8 0, .int .u8 0, .int .u8 0, .int .u8 0, .int .u8 0, .int .u8 0, .int .u8 0], ty := none }
theorem te144_ok : te144.ok Tryd.prog 144 := ⟨by kernel_rfl, by kernel_rfl, (fun y h => by cases h), by kernel_rfl, (fun h => by cases h)⟩
def te145 : TE := { kind := .int .u64, size := 1, bytes := 8, zero := .int .u64 0, ty := some (.int .u64) }
theorem te145_ok : te145.ok Tryd.prog 145 := ⟨by kernel_rfl, by kernel_rfl, (fun y h => by cases h; exact ⟨rfl, rfl, rfl, by decide, by decide, rfl⟩), by kernel_rfl, (fun _ => by kernel_rfl)⟩
def te146 : TE := { kind := .strct [(0, 5), (1, 5)], size := 2, bytes := 2, zero := .agg #[.int .u8 0, .int .u8 0], ty := some (.cons (.int .u8) (.cons (.int .u8) .nil)) }
theorem te146_ok : te146.ok Tryd.prog 146 := ⟨by kernel_rfl, by kernel_rfl, (fun y h => by cases h; exact ⟨rfl, rfl, rfl, by decide, by decide, rfl⟩), by kernel_rfl, (fun _ => by kernel_rfl)⟩
def te147 : TE := { kind := .strct [(0, 5), (1, 5)], size := 2, bytes := 2, zero := .agg #[.int .u8 0, .int .u8 0], ty := some (.cons (.int .u8) (.cons (.int .u8) .nil)) }
theorem te147_ok : te147.ok Tryd.prog 147 := ⟨by kernel_rfl, by kernel_rfl, (fun y h => by cases h; exact ⟨rfl, rfl, rfl, by decide, by decide, rfl⟩), by kernel_rfl, (fun _ => by kernel_rfl)⟩
def te148 : TE := { kind := .arr 16 147, size := 32, bytes := 32, zero := .agg #[.int .u8 0, .int .u8 0, .int .u8 0, .int .u8 0, .int .u8 0, .int .u8 0, .int .u8 0, .int .u8 0, .int .u8 0, .int .u8 0, .int .u8 0, .int .u8 0, .int .u8 0, .int .u8 0, .int .u8 0, .int .u8 0, .int .u8 0, .int .u8 0, .int .u8 0, .int .u8 0, .int .u8 0, .int .u8 0, .int .u8 0, .int .u8 0, .int .u8 0, .int .u8 0, .int .u8 0, .int .u8 0, .int .u8 0, .int .u8 0, .int .u8 0, .int .u8 0], ty := none }
theorem te148_ok : te148.ok Tryd.prog 148 := ⟨by kernel_rfl, by kernel_rfl, (fun y h => by cases h), by kernel_rfl, (fun h => by cases h)⟩
def te149 : TE := { kind := .oth, size := 1, bytes := 8, zero := .nilFunc, ty := none }
theorem te149_ok : te149.ok Tryd.prog 149 := ⟨by kernel_rfl, by kernel_rfl, (fun y h => by cases h), by kernel_rfl, (fun h => by cases h)⟩
def te150 : TE := { kind := .oth, size := 1, bytes := 8, zero := .nilFunc, ty := none }
theorem te150_ok : te150.ok Tryd.prog 150 := ⟨by kernel_rfl, by kernel_rfl, (fun y h => by cases h), by kernel_rfl, (fun h => by cases h)⟩
def te151 : TE := { kind := .oth, size := 1, bytes := 8, zero := .nilFunc, ty := none }
theorem te151_ok : te151.ok Tryd.prog 151 := ⟨by kernel_rfl, by kernel_rfl, (fun y h => by cases h), by kernel_rfl, (fun h => by cases h)⟩
def te157 : TE := { kind := .oth, size := 1, bytes := 8, zero := .nilFunc, ty := none }
theorem te157_ok : te157.ok Tryd.prog 157 := ⟨by kernel_rfl, by kernel_rfl, (fun y h => by cases h), by kernel_rfl, (fun h => by cases h)⟩
def te158 : TE := { kind := .int .u32, size := 1, bytes := 4, zero := .int .u32 0, ty := some (.int .u32) }
theorem te158_ok : te158.ok Tryd.prog 158 := ⟨by kernel_rfl, by kernel_rfl, (fun y h => by cases h; exact ⟨rfl, rfl, rfl, by decide, by decide, rfl⟩), by kernel_rfl, (fun _ => by kernel_rfl)⟩
@[reducible] def tys : List (Nat × TE) := [(1, te1), (2, te2), (3, te3), (4, te4), (5, te5), (9, te9), (12, te12), (17, te17), (20, te20), (21, te21), (22, te22), (23, te23), (24, te24), (25, te25), (27, te27), (29, te29), (30, te30), (31, te31), (33, te33), (34, te34), (35, te35), (36, te36), (37, te37), (38, te38), (39, te39), (40, te40), (41, te41), (42, te42), (43, te43), (44, te44), (45, te45), (46, te46), (48, te48), (49, te49), (50, te50), (52, te52), (53, te53), (54, te54), (55, te55), (56, te56), (57, te57), (58, te58), (59, te59), (60, te60), (62, te62), (63, te63), (64, te64), (65, te65), (66, te66), (67, te67), (68, te68), (69, te69), (70, te70), (71, te71), (72, te72), (73, te73), (74, te74), (75, te75), (76, te76), (77, te77), (78, te78), (79, te79), (80, te80), (81, te81), (82, te82), (83, te83), (84, te84), (86, te86), (87, te87), (88, te88), (89, te89), (90, te90), (91, te91), (92, te92), (93, te93), (94, te94), (95, te95), (96, te96), (98, te98), (99, te99), (101, te101), (102, te102), (103, te103), (104, te104), (105, te105), (106, te106), (107, te107), (108, te108), (109, te109), (110, te110), (111, te111), (112, te112), (113, te113), (114, te114), (115, te115), (116, te116), (117, te117), (118, te118), (119, te119), (120, te120), (122, te122), (123, te123), (124, te124), (125, te125), (126, te126), (127, te127), (128, te128), (130, te130), (131, te131), (132, te132), (133, te133), (136, te136), (137, te137), (138, te138), (140, te140), (141, te141), (142, te142), (143, te143), (144, te144), (145, te145), (146, te146), (147, te147), (148, te148), (149, te149), (150, te150), (151, te151), (157, te157), (158, te158)]
theorem tys_ok : TOk Tryd.prog tys := TOk.cons te1_ok (TOk.cons te2_ok (TOk.cons te3_ok (TOk.cons te4_ok (TOk.cons te5_ok (TOk.cons te9_ok (TOk.cons te12_ok (TOk.cons te17_ok (TOk.cons te20_ok (TOk.cons te21_ok (TOk.cons te22_ok (TOk.cons te23_ok (TOk.cons te24_ok (TOk.cons te25_ok (TOk.cons te27_ok (TOk.cons te29_ok (TOk.cons te30_ok (TOk.cons te31_ok (TOk.cons te33_ok (TOk.cons te34_ok (TOk.cons te35_ok (TOk.cons te36_ok (TOk.cons te37_ok (TOk.cons te38_ok (TOk.cons te39_ok (TOk.cons te40_ok (TOk.cons te41_ok (TOk.cons te42_ok (TOk.cons te43_ok (TOk.cons te44_ok (TOk.cons te45_ok (TOk.cons te46_ok (TOk.cons te48_ok (TOk.cons te49_ok (TOk.cons te50_ok (TOk.cons te52_ok (TOk.cons te53_ok (TOk.cons te54_ok (TOk.cons te55_ok (TOk.cons te56_ok (TOk.cons te57_ok (TOk.cons te58_ok (TOk.cons te59_ok (TOk.cons te60_ok (TOk.cons te62_ok (TOk.cons te63_ok (TOk.cons te64_ok (TOk.cons te65_ok (TOk.cons te66_ok (TOk.cons te67_ok (TOk.cons te68_ok (TOk.cons te69_ok (TOk.cons te70_ok (TOk.cons te71_ok (TOk.cons te72_ok (TOk.cons te73_ok (TOk.cons te74_ok (TOk.cons te75_ok (TOk.cons te76_ok (TOk.cons te77_ok (TOk.cons te78_ok (TOk.cons te79_ok (TOk.cons te80_ok (TOk.cons te81_ok (TOk.cons te82_ok (TOk.cons te83_ok (TOk.cons te84_ok (TOk.cons te86_ok (TOk.cons te87_ok (TOk.cons te88_ok (TOk.cons te89_ok (TOk.cons te90_ok (TOk.cons te91_ok (TOk.cons te92_ok (TOk.cons te93_ok (TOk.cons te94_ok (TOk.cons te95_ok (TOk.cons te96_ok (TOk.cons te98_ok (TOk.cons te99_ok (TOk.cons te101_ok (TOk.cons te102_ok (TOk.cons te103_ok (TOk.cons te104_ok (TOk.cons te105_ok (TOk.cons te106_ok (TOk.cons te107_ok (TOk.cons te108_ok (TOk.cons te109_ok (TOk.cons te110_ok (TOk.cons te111_ok (TOk.cons te112_ok (TOk.cons te113_ok (TOk.cons te114_ok (TOk.cons te115_ok (TOk.cons te116_ok (TOk.cons te117_ok (TOk.cons te118_ok (TOk.cons te119_ok (TOk.cons te120_ok (TOk.cons te122_ok (TOk.cons te123_ok (TOk.cons te124_ok (TOk.cons te125_ok (TOk.cons te126_ok (TOk.cons te127_ok (TOk.cons te128_ok (TOk.cons te130_ok (TOk.cons te131_ok (TOk.cons te132_ok (TOk.cons te133_ok (TOk.cons te136_ok (TOk.cons te137_ok (TOk.cons te138_ok (TOk.cons te140_ok (TOk.cons te141_ok (TOk.cons te142_ok (TOk.cons te143_ok (TOk.cons te144_ok (TOk.cons te145_ok (TOk.cons te146_ok (TOk.cons te147_ok (TOk.cons te148_ok (TOk.cons te149_ok (TOk.cons te150_ok (TOk.cons te151_ok (TOk.cons te157_ok (TOk.cons te158_ok (TOk.nil _))))))))))))))))))))))))))))))))))))))))))))))))))))))))))))))))))))))))))))))))))))))))))))))))))))))))))))))))))))))))))))))))
theorem mixed : Tryd.prog.follows .mixedOrders = true := by kernel_rfl
end Go.Proofs.YtckmhlpngolbpaaDoor
namespace Go.Vc
inductive Both (p q : Prop) : Prop
 | mk (hp : p) (hq : q) : Both p q
inductive Leaf (p : Prop) : Prop
 | mk (hp : p) : Leaf p
def dirm : List Edge → Nat → Nat
 | [], s => s
 | e :: r, s => match Region.binds .any e with
  | true => dirm r (s ||| 2 ^ e.on)
  | false => dirm r s
theorem dirm_bit {i : Nat} : ∀ {l : List Edge} {s : Nat}, (dirm l s).testBit i = true → s.testBit i = true ∨ ∃ e ∈ l, Region.binds .any e = true ∧ e.on = i
 | [], s, h => .inl h
 | e :: r, s, h => by
  simp only [dirm] at h
  split at h
  · rename_i hb
    rcases dirm_bit h with h1 | ⟨e', h1, h2, h3⟩
    · simp only [Nat.testBit_or, Bool.or_eq_true] at h1
      rcases h1 with h1 | h1
      · exact .inl h1
      · refine .inr ⟨e, by simp, hb, ?_⟩
        rw [Nat.testBit_two_pow] at h1
        simpa using h1
    · exact .inr ⟨e', by simp [h1], h2, h3⟩
  · rcases dirm_bit h with h1 | ⟨e', h1, h2, h3⟩
    · exact .inl h1
    · exact .inr ⟨e', by simp [h1], h2, h3⟩
def dirms (ops : Array Oper) : List Nat := ops.toList.map fun o => dirm o.after.toList 0
def rdy (done : Nat) : List Nat → Nat → List Nat
 | [], _ => []
 | e :: r, i => match Nat.beq (Nat.land done (2 ^ i)) 0 && Nat.beq (Nat.land done e) e with
  | true => i :: rdy done r (i + 1)
  | false => rdy done r (i + 1)
def eachP : List Nat → (Nat → Prop) → Prop
 | [], _ => True
 | [i], p => p i
 | i :: r, p => Both (p i) (eachP r p)
theorem eachP_mem : ∀ {l : List Nat} {p : Nat → Prop}, eachP l p → ∀ i ∈ l, p i
 | [], p, _, i, hi => by cases hi
 | [j], p, h, i, hi => by
  simp only [List.mem_singleton] at hi
  rw [hi]; exact h
 | j :: k :: r, p, h, i, hi => by
  obtain ⟨h1, h2⟩ : Both (p j) (eachP (k :: r) p) := h
  rcases List.mem_cons.1 hi with rfl | hi
  · exact h1
  · exact eachP_mem h2 i hi
theorem rdy_mem {done i : Nat} : ∀ {E : List Nat} {s e : Nat}, E[i]? = some e → done.testBit (s + i) = false → (∀ j, e.testBit j = true → done.testBit j = true) → (s + i) ∈ rdy done E s := by
 induction i with
 | zero =>
  intro E s e he hd hp
  cases E with
  | nil => cases he
  | cons x r =>
   simp only [List.getElem?_cons_zero, Option.some.injEq] at he
   subst he
   have h1 : Nat.beq (Nat.land done (2 ^ s)) 0 = true := by
    rw [Nat.beq_eq]
    refine Nat.eq_of_testBit_eq fun j => ?_
    show (done &&& 2 ^ s).testBit j = _
    rw [Nat.testBit_and, Nat.zero_testBit, Nat.testBit_two_pow]
    by_cases h : s = j
    · subst h; simp only [Nat.add_zero] at hd; simp [hd]
    · simp [h]
   have h2 : Nat.beq (Nat.land done x) x = true := by
    rw [Nat.beq_eq]
    refine Nat.eq_of_testBit_eq fun j => ?_
    show (done &&& x).testBit j = _
    rw [Nat.testBit_and]
    cases h : x.testBit j with
    | false => simp
    | true => simp [hp j h]
   simp only [rdy, h1, h2, Bool.and_self, Nat.add_zero, List.mem_cons, true_or]
 | succ i ih =>
  intro E s e he hd hp
  cases E with
  | nil => cases he
  | cons x r =>
   have := ih (E := r) (s := s + 1) (by simpa using he) (by rw [show s + 1 + i = s + (i + 1) from by omega]; exact hd) hp
   rw [show s + 1 + i = s + (i + 1) from by omega] at this
   simp only [rdy]
   split
   · exact List.mem_cons_of_mem _ this
   · exact this
theorem one_sound {P : Program} {T : List (Nat × TE)} {F : List Nat} (hT : TOk P T) {c : Cx} {ops : Array Oper} {K : Sy → Prop} {i : Nat} {o : Oper} {Γ : Sy} (hoi : ops[i]? = some o) (h : opsVC P T F c.n (dstsOf ops) [] [o] i 0 Γ K) :
  ∃ Γ', StepOk P c ops i Γ Γ' ∧ K Γ' := by
 simp only [opsVC, memN] at h
 split at h
 · split at h
   · rename_i hgd
     obtain ⟨Γ1, h1, h2⟩ := mutVC.sound hT h
     refine ⟨Γ1, ?_, h2⟩
     intro Q g a w K' hst hK
     unfold wpOp
     rw [hoi]
     dsimp only
     have : Region.wanted o (yielded ops a.tmps) = true := by simp [Region.wanted, hgd]
     rw [if_pos this]
     exact .inl (h1 g a w _ _ hst hK)
   · exact h.elim
 · split at h
   · exact h.elim
   · rename_i G hG
     split at h
     · rename_i hd
       obtain ⟨A, N, h1, h2, h6⟩ := pureVC.sound (c := c) hT h
       split at h6
       rotate_left
       · exact h6.elim
       rename_i h4
       refine ⟨_, ?_, h6⟩
       intro Q g a w K' hst hK
       unfold wpOp
       rw [hoi]
       dsimp only
       rw [if_pos ((guardOf.wanted (ops := ops) hst hG).2 trivial)]
       refine .inl (h1 trivial Γ g a w _ _ (fun _ _ => rfl) (fun _ _ h => h) (freeB_free h4) hst fun g' v w' h6 h7 => ?_)
       rw [hd]
       exact hK g' _ w' h6
     · rename_i t hd
       obtain ⟨A, N, h1, h2, h6⟩ := pureVC.sound (c := c) hT h
       split at h6
       rotate_left
       · exact h6.elim
       rename_i h34
       simp only [Bool.and_eq_true] at h34
       obtain ⟨h3, h4⟩ := h34
       exact ⟨_, add_step hoi hd (Nat.le_of_ble_eq_true h3) hG h1 (fun h => h2 (.inl h)) (fun _ _ => rfl) (fun _ _ h => h) (freeB_free h4), h6⟩
structure NewOk (P : Program) (c : Cx) (ops : Array Oper) (own0 : List (Nat × Ob)) (msk : Nat) (acc : List (Nat × AV × List (Nat × Ob))) (j : Nat) (Γ Γ' : Sy) (av : AV) (N : List (Nat × Ob)) where
 o : Oper
 ho : ops[j]? = some o
 t : Nat
 ht : o.dst = some t
 hn : t < c.n
 G : Path
 A : AV
 own1 : List (Nat × Ob)
 hG : guardOf (dstsOf ops) Γ o.guard = some G
 hA : G.ok → Does P c o ⟨Γ.tmps, own1⟩ A N
 hown : ∀ q b, get? own1 q = some b → get? own0 q = some b ∨ ∃ k A' N', (k, A', N') ∈ acc ∧ msk.testBit k = true ∧ get? N' q = some b
 hN : G ≠ [] → N = []
 hav : av = gd' G A
 hΓ : Γ' = ⟨set Γ.tmps t av, N ++ Γ.own⟩
theorem NewOk.more {P : Program} {c : Cx} {ops : Array Oper} {own0 : List (Nat × Ob)} {msk : Nat} {acc acc' : List (Nat × AV × List (Nat × Ob))} {j : Nat} {Γ Γ' : Sy} {av : AV} {N : List (Nat × Ob)} (h : NewOk P c ops own0 msk acc j Γ Γ' av N) (hs : ∀ x ∈ acc, x ∈ acc') : Nonempty (NewOk P c ops own0 msk acc' j Γ Γ' av N) :=
 ⟨{ h with hown := fun q b hq => (h.hown q b hq).imp id fun ⟨k, A', N', h1, h2⟩ => ⟨k, A', N', hs _ h1, h2⟩ }⟩
theorem call_at {P : Program} {al : Bool} {f : Nat} {S : List SV} {R : AV} {N : List (Nat × Ob)} (h : FnAt P al f S R N) {own : List (Nat × Ob)} {l : List AV} {G : Path} {φ : Bool} {K : Bool → List SV → Bool → AV → List (Nat × Ob) → Prop}
  (h1 : viewAll own al l = some (S, φ)) (h2 : R.okR = true) (h3 : okN N = true) (h4 : R.ownIn2 N = true) (h5 : K al S φ R N) :
  ∃ (al : Bool) (S : List SV) (φ : Bool) (R : AV) (N : List (Nat × Ob)), viewAll own al l = some (S, φ) ∧ G.imp (FnAt P al f S R N) ∧ R.okR = true ∧ okN N = true ∧ R.ownIn2 N = true ∧ K al S φ R N :=
 ⟨al, S, φ, R, N, h1, Path.imp_of h, h2, h3, h4, h5⟩
def fR : Ren → (Ren → Prop) → Prop
 | [], K => K []
 | (k, some j) :: r, K => fR r fun r' => K ((k, some j) :: r')
 | (k, none) :: r, K => fR r fun r' => K ((k, none) :: r')
theorem fR_ok : ∀ {ρ : Ren} {K : Ren → Prop}, fR ρ K → K ρ
 | [], K, h => h
 | (k, some j) :: r, K, h => fR_ok (ρ := r) h
 | (k, none) :: r, K, h => fR_ok (ρ := r) h
def fDup : Ren → (Ren → Prop) → Prop
 | [], K => K []
 | (k, some j) :: r, K => fDup r fun r' => fR (dedupR.dropK k r') fun r2 => K ((k, some j) :: r2)
 | (k, none) :: r, K => fDup r fun r' => fR (dedupR.dropK k r') fun r2 => K ((k, none) :: r2)
theorem fDup_ok : ∀ {ρ : Ren} {K : Ren → Prop}, fDup ρ K → K (dedupR ρ)
 | [], K, h => h
 | (k, some j) :: r, K, h => fR_ok (fDup_ok (ρ := r) h)
 | (k, none) :: r, K, h => fR_ok (fDup_ok (ρ := r) h)
def fBox (own : List (Nat × Ob)) : List (Nat × Ob) → Ren → (Ren → Prop) → Prop
 | [], ρ, K => K ρ
 | (k', o') :: r, ρ, K => match get? ρ k' with
  | some (some k) => match get? own k, o' with
   | some (.box l), .box l' => fDup (mkRenL2 l l' ρ) fun ρ' => fBox own r ρ' K
   | some (.box1 A), .box1 A' => fDup (mkRen2 A A' ρ) fun ρ' => fBox own r ρ' K
   | _, _ => fBox own r ρ K
  | _ => fBox own r ρ K
theorem fBox_ok {own : List (Nat × Ob)} : ∀ {l : List (Nat × Ob)} {ρ : Ren} {K : Ren → Prop}, fBox own l ρ K → K (mkRenO own l ρ)
 | [], ρ, K, h => h
 | (k', o') :: r, ρ, K, h => by
  unfold fBox at h
  unfold mkRenO
  split at h
  · rename_i k hk
    simp only [hk]
    split at h
    · rename_i h1
      simp only [h1]
      exact fBox_ok (l := r) (fDup_ok h)
    · rename_i h1
      simp only [h1]
      exact fBox_ok (l := r) (fDup_ok h)
    · rename_i h1 h2
      split
      · rename_i h3; exact (h1 _ _ h3 rfl).elim
      · rename_i h3; exact (h2 _ _ h3 rfl).elim
      · exact fBox_ok (l := r) h
  · rename_i h1
    split
    · rename_i h2; exact (h1 _ h2).elim
    · exact fBox_ok (l := r) h
def ck (b : Bool) (K : Prop) : Prop := match b with
 | true => K
 | false => False
theorem ck_ok {b : Bool} {K : Prop} (h : ck b K) : b = true ∧ K := by cases b with
 | true => exact ⟨rfl, h⟩
 | false => exact h.elim
def fV (v u : Value) (K : Prop) : Prop := match v, u with
 | .int k n, .int k' m => ck (eqKind k k') (n = m ∧ K)
 | .bool a, .bool b => a = b ∧ K
 | v, u => v = u ∧ K
theorem fV_ok {v u : Value} {K : Prop} (h : fV v u K) : v = u ∧ K := by
 unfold fV at h
 split at h
 · obtain ⟨h1, h2, h3⟩ := ck_ok h
   simp only [eqKind, decide_eq_true_eq] at h1
   exact ⟨by rw [h1, h2], h3⟩
 · exact ⟨by rw [h.1], h.2⟩
 · exact h
def fS (S S' : SV) (K : Prop) : Prop := match S, S' with
 | .narr t xs, .arr t' ys => SV.arr t xs = .arr t' ys ∧ K
 | .arr t xs, .narr t' ys => SV.arr t xs = .arr t' ys ∧ xs ≠ [] ∧ K
 | .lit v, .lit u => fV v u K
 | S, S' => S = S' ∧ K
theorem fS_ok {S S' : SV} {K : Prop} (h : fS S S' K) : (S = S' ∨ match (generalizing := false) S, S' with
      | .narr t xs, .arr t' ys => SV.arr t xs = .arr t' ys
      | .arr t xs, .narr t' ys => SV.arr t xs = .arr t' ys ∧ xs ≠ []
      | _, _ => False) ∧ K := by
  unfold fS at h
  split at h
  · exact ⟨.inr h.1, h.2⟩
  · exact ⟨.inr ⟨h.1, h.2.1⟩, h.2.2⟩
  · obtain ⟨h1, h2⟩ := fV_ok h
    exact ⟨.inl (by rw [h1]), h2⟩
  · exact ⟨.inl h.1, h.2⟩
def fK (ρ : Ren) (k' k : Nat) (K : Prop) : Prop := match get? ρ k' with
 | some (some j) => ck (Nat.beq j k) K
 | _ => False
theorem fK_ok {ρ : Ren} {k' k : Nat} {K : Prop} (h : fK ρ k' k K) : get? ρ k' = some (some k) ∧ K := by
 unfold fK at h
 split at h
 · rename_i j hj
   obtain ⟨h1, h2⟩ := ck_ok h
   exact ⟨by rw [hj, Nat.eq_of_beq_eq_true h1], h2⟩
 · exact h.elim
def fE (own : List (Nat × Ob)) (ρ : Ren) (fr' : Bool) (A : AV) (B : SV) (K : Prop) : Prop := match A with
 | .lit v => match B with
  | .lit u => fV v u K
  | .arr _ ys => v = .slice none 0 0 ∧ ys = [] ∧ K
  | _ => False
 | .st fr S => ck (!fr' || fr) (S = B ∧ K)
 | .own k => match get? own k with
  | some (.row _ t fr xs) => ck (notIn k ρ && (!fr' || (fr || Ty.flat t))) (SV.arr t xs = B ∧ K)
  | _ => False
 | .mown k => match get? own k with
  | some (.mat _ _ t fr xs none) => ck (notIn k ρ && (!fr' || (fr || Ty.flat t))) (SV.arr (.sl t) xs = B ∧ K)
  | _ => False
 | _ => False
def fB (own : List (Nat × Ob)) (ρ : Ren) (fr' : Bool) : List AV → List SV → Prop → Prop
 | [], [], K => K
 | A :: r, B :: m, K => fE own ρ fr' A B (fB own ρ fr' r m K)
 | _, _, _ => False
theorem imp_bool {a b : Bool} (h : (!a || b) = true) : a = true → b = true := by cases a <;> cases b <;> simp_all
theorem fE_ok {own : List (Nat × Ob)} {ρ : Ren} {fr' : Bool} {A : AV} {B : SV} {K : Prop} (h : fE own ρ fr' A B K) : matchE own ρ fr' A B ∧ K := by
 unfold fE at h
 unfold matchE
 split at h
 · split at h
   · exact fV_ok h
   · exact ⟨⟨h.1, h.2.1⟩, h.2.2⟩
   · exact h.elim
 · obtain ⟨h1, h2, h3⟩ := ck_ok h
   exact ⟨⟨imp_bool h1, h2⟩, h3⟩
 · split at h
   · rename_i he
     obtain ⟨h1, h2, h3⟩ := ck_ok h
     rw [Bool.and_eq_true] at h1
     simp only [he]
     exact ⟨⟨h1.1, imp_bool h1.2, h2⟩, h3⟩
   · exact h.elim
 · split at h
   · rename_i he
     obtain ⟨h1, h2, h3⟩ := ck_ok h
     rw [Bool.and_eq_true] at h1
     simp only [he]
     exact ⟨⟨h1.1, imp_bool h1.2, h2⟩, h3⟩
   · exact h.elim
 · exact h.elim
theorem fB_ok {own : List (Nat × Ob)} {ρ : Ren} {fr' : Bool} {K : Prop} : ∀ {l : List AV} {m : List SV}, fB own ρ fr' l m K → matchB own ρ fr' l m ∧ K
 | [], [], h => ⟨trivial, h⟩
 | A :: r, B :: m, h => by
  unfold fB at h
  obtain ⟨h1, h2⟩ := fE_ok h
  obtain ⟨h3, h4⟩ := fB_ok h2
  exact ⟨⟨h1, h3⟩, h4⟩
def f1 (own : List (Nat × Ob)) (ρ : Ren) (A A' : AV) (K : Prop) : Prop := match A' with
 | .any => K
 | .lit u => match A with
  | .lit v => fV v u K
  | _ => False
 | .own k' => match A with
  | .own k => fK ρ k' k K
  | .lit (.slice none 0 0) => match get? ρ k' with
   | some none => K
   | _ => False
  | _ => False
 | .padr k' j' => match A with
  | .padr k j => fK ρ k' k (ck (Nat.beq j j') K)
  | _ => False
 | .oadr k' es' i' j' => match A with
  | .oadr k es i j => fK ρ k' k (es = es' ∧ j = j' ∧ i = i' ∧ K)
  | _ => False
 | .mown k' => match A with
  | .mown k => fK ρ k' k K
  | _ => False
 | .st fr' S' => match A with
  | .st fr S => ck (!fr' || fr) (fS S S' K)
  | .lit (.slice none 0 0) => match S' with
   | .arr _ ys => ys = [] ∧ K
   | .narr _ ys => ys = [] ∧ K
   | _ => False
  | .lit v => S' = .lit v ∧ K
  | .own k => match get? own k with
   | some (.row _ t fr xs) => ck (notIn k ρ && (!fr' || (fr || Ty.flat t))) (match S' with
    | .arr t' ys => SV.arr t xs = .arr t' ys ∧ K
    | .narr t' ys => SV.arr t xs = .arr t' ys ∧ xs ≠ [] ∧ K
    | _ => False)
   | _ => False
  | .mown k => match get? own k with
   | some (.mat _ _ t fr xs none) => ck (notIn k ρ && (!fr' || (fr || Ty.flat t))) (match S' with
    | .arr t' ys => SV.arr (.sl t) xs = .arr t' ys ∧ K
    | _ => False)
   | _ => False
  | .padr k j => match j, S' with
   | 0, .sadr (.agg m) => match get? own k with
    | some (.box l) => ck (notIn k ρ) (fB own ρ fr' l m K)
    | _ => False
   | 0, .sadr B => match get? own k with
    | some (.box1 A) => ck (notIn k ρ && !B.isAgg) (fE own ρ fr' A B K)
    | _ => False
   | _, _ => False
  | _ => False
 | _ => False
theorem f1_ok {own : List (Nat × Ob)} {ρ : Ren} {A A' : AV} {K : Prop} (h : f1 own ρ A A' K) : match1 own ρ A A' ∧ K := by
 unfold f1 at h
 unfold match1
 split at h
 · exact ⟨trivial, h⟩
 · split at h
   · exact fV_ok h
   · exact h.elim
 · split at h
   · exact fK_ok h
   · split at h
     · rename_i he; exact ⟨he, h⟩
     · exact h.elim
   · exact h.elim
 · split at h
   · obtain ⟨h1, h2⟩ := fK_ok h
     obtain ⟨h3, h4⟩ := ck_ok h2
     exact ⟨⟨h1, Nat.eq_of_beq_eq_true h3⟩, h4⟩
   · exact h.elim
 · split at h
   · obtain ⟨h1, h2, h3, h4, h5⟩ := fK_ok h
     exact ⟨⟨h1, h2, h3, h4⟩, h5⟩
   · exact h.elim
 · split at h
   · exact fK_ok h
   · exact h.elim
 · split at h
   · obtain ⟨h1, h2⟩ := ck_ok h
     obtain ⟨h3, h4⟩ := fS_ok h2
     exact ⟨⟨imp_bool h1, h3⟩, h4⟩
   · split at h
     · exact h
     · exact h
     · exact h.elim
   · refine ⟨?_, h.2⟩
     split <;> first
      | exact h.1
      | (simp_all; done)
   · split at h
     · rename_i he
       obtain ⟨h1, h2⟩ := ck_ok h
       rw [Bool.and_eq_true] at h1
       simp only [he]
       split at h2
       · exact ⟨⟨h1.1, imp_bool h1.2, h2.1⟩, h2.2⟩
       · exact ⟨⟨h1.1, imp_bool h1.2, h2.1, h2.2.1⟩, h2.2.2⟩
       · exact h2.elim
     · exact h.elim
   · split at h
     · rename_i he
       obtain ⟨h1, h2⟩ := ck_ok h
       rw [Bool.and_eq_true] at h1
       simp only [he]
       split at h2
       · exact ⟨⟨h1.1, imp_bool h1.2, h2.1⟩, h2.2⟩
       · exact h2.elim
     · exact h.elim
   · split at h
     · split at h
       · rename_i he
         obtain ⟨h1, h2⟩ := ck_ok h
         obtain ⟨h3, h4⟩ := fB_ok h2
         simp only [he]
         exact ⟨⟨h1, h3⟩, h4⟩
       · exact h.elim
     · rename_i hna
       split at h
       · rename_i he
         obtain ⟨h1, h2⟩ := ck_ok h
         obtain ⟨h3, h4⟩ := fE_ok h2
         rw [Bool.and_eq_true, Bool.not_eq_true'] at h1
         simp only [he]
         exact ⟨⟨h1.1, h1.2, h3⟩, h4⟩
       · exact h.elim
     · exact h.elim
   · exact h.elim
 · exact h.elim
def fL (own : List (Nat × Ob)) (ρ : Ren) : List AV → List AV → Prop → Prop
 | [], [], K => K
 | A :: r, A' :: r', K => f1 own ρ A A' (fL own ρ r r' K)
 | _, _, _ => False
theorem fL_ok {own : List (Nat × Ob)} {ρ : Ren} : ∀ {l l' : List AV} {K : Prop}, fL own ρ l l' K → matchL own ρ l l' ∧ K
 | [], [], K, h => ⟨trivial, h⟩
 | A :: r, A' :: r', K, h => by
  obtain ⟨h1, h2⟩ := f1_ok h
  obtain ⟨h3, h4⟩ := fL_ok h2
  exact ⟨⟨h1, h3⟩, h4⟩
 | [], _ :: _, K, h => h.elim
 | _ :: _, [], K, h => h.elim
def fM (own : List (Nat × Ob)) (ρ : Ren) (A A' : AV) (K : Prop) : Prop := match A' with
 | .strct l' => match A with
  | .strct l => fL own ρ l l' K
  | .st fr (.agg l) => fL own ρ (upL fr l) l' K
  | _ => False
 | A' => f1 own ρ A A' K
theorem fM_ok {own : List (Nat × Ob)} {ρ : Ren} {A A' : AV} {K : Prop} (h : fM own ρ A A' K) : matchM own ρ A A' ∧ K := by
 unfold fM at h
 unfold matchM
 split at h
 · split at h
   · exact fL_ok h
   · exact fL_ok h
   · exact h.elim
 · rename_i hne
   obtain ⟨h1, h2⟩ := f1_ok h
   refine ⟨?_, h2⟩
   split
   · exact absurd rfl (hne _)
   · exact h1
def fML (own : List (Nat × Ob)) (ρ : Ren) : List AV → List AV → Prop → Prop
 | [], [], K => K
 | A :: r, A' :: r', K => fM own ρ A A' (fML own ρ r r' K)
 | _, _, _ => False
theorem fML_ok {own : List (Nat × Ob)} {ρ : Ren} : ∀ {l l' : List AV} {K : Prop}, fML own ρ l l' K → matchML own ρ l l' ∧ K
 | [], [], K, h => ⟨trivial, h⟩
 | A :: r, A' :: r', K, h => by
  obtain ⟨h1, h2⟩ := fM_ok h
  obtain ⟨h3, h4⟩ := fML_ok h2
  exact ⟨⟨h1, h3⟩, h4⟩
 | [], _ :: _, K, h => h.elim
 | _ :: _, [], K, h => h.elim
def f2 (own : List (Nat × Ob)) (ρ : Ren) (A A' : AV) (K : Prop) : Prop := match A' with
 | .tup l' => match A with
  | .tup l => fML own ρ l l' K
  | _ => False
 | .fn f' l' => match A with
  | .fn f l => ck (Nat.beq f f') (fL own ρ l l' K)
  | _ => False
 | A' => fM own ρ A A' K
theorem f2_ok {own : List (Nat × Ob)} {ρ : Ren} {A A' : AV} {K : Prop} (h : f2 own ρ A A' K) : match2 own ρ A A' ∧ K := by
 unfold f2 at h
 unfold match2
 split at h
 · split at h
   · exact fML_ok h
   · exact h.elim
 · split at h
   · obtain ⟨h1, h2⟩ := ck_ok h
     obtain ⟨h3, h4⟩ := fL_ok h2
     exact ⟨⟨Nat.eq_of_beq_eq_true h1, h3⟩, h4⟩
   · exact h.elim
 · rename_i hne1 hne2
   obtain ⟨h1, h2⟩ := fM_ok h
   refine ⟨?_, h2⟩
   split
   · exact absurd rfl (hne1 _)
   · exact absurd rfl (hne2 _ _)
   · exact h1
def fL2 (own : List (Nat × Ob)) (ρ : Ren) : List AV → List AV → Prop → Prop
 | [], [], K => K
 | A :: r, A' :: r', K => f2 own ρ A A' (fL2 own ρ r r' K)
 | _, _, _ => False
theorem fL2_ok {own : List (Nat × Ob)} {ρ : Ren} : ∀ {l l' : List AV} {K : Prop}, fL2 own ρ l l' K → matchL2 own ρ l l' ∧ K
 | [], [], K, h => ⟨trivial, h⟩
 | A :: r, A' :: r', K, h => by
  obtain ⟨h1, h2⟩ := f2_ok h
  obtain ⟨h3, h4⟩ := fL2_ok h2
  exact ⟨⟨h1, h3⟩, h4⟩
 | [], _ :: _, K, h => h.elim
 | _ :: _, [], K, h => h.elim
def fOb (own : List (Nat × Ob)) (ρ : Ren) (k' : Nat) (o' : Ob) (K : Prop) : Prop := match get? ρ k' with
 | some (some k) => match get? own k, o' with
  | some (.row e t fr xs), .row e' t' fr' ys => ck (Nat.beq e e' && (!fr' || (fr || Ty.flat t))) (SV.arr t xs = .arr t' ys ∧ K)
  | some (.mat e1 e2 t fr xs st), .mat e1' e2' t' fr' ys st' => ck (Nat.beq e1 e1' && Nat.beq e2 e2' && (!fr' || (fr || Ty.flat t))) (SV.arr (.sl t) xs = .arr (.sl t') ys ∧ st = st' ∧ K)
  | some (.box l), .box l' => fL2 own ρ l l' K
  | some (.box1 A), .box1 A' => f2 own ρ A A' K
  | some (.mp kk t m n), .mp kk' t' m' n' => Ob.mp kk t m n = .mp kk' t' m' n' ∧ K
  | some (.que e kk xs), .que e' kk' ys => ck (Nat.beq e e' && eqKind kk kk') (xs = ys ∧ K)
  | some (.sit s p), .sit s' p' => s = s' ∧ p = p' ∧ K
  | some (.mps l), .mps l' => l = l' ∧ K
  | some (.mit km st), .mit km' st' => get? ρ km' = some (some km) ∧ st = st' ∧ K
  | some (.row e t fr xs), .que e' kk' ys => ck (Nat.beq e e') (xs ≠ [] ∧ SV.arr t xs = .arr (.int kk') ys ∧ K)
  | _, _ => False
 | some none => match o' with
  | .row _ _ _ ys => ys = [] ∧ K
  | _ => False
 | none => False
theorem fOb_ok {own : List (Nat × Ob)} {ρ : Ren} {k' : Nat} {o' : Ob} {K : Prop} (h : fOb own ρ k' o' K) : matchO own ρ k' o' ∧ K := by
 unfold fOb at h
 unfold matchO
 split at h
 · rename_i k hk
   split at h
   · rename_i hg
     obtain ⟨h1, h2, h3⟩ := ck_ok h
     rw [Bool.and_eq_true] at h1
     simp only [hk, hg]
     exact ⟨⟨Nat.eq_of_beq_eq_true h1.1, imp_bool h1.2, h2⟩, h3⟩
   · rename_i hg
     obtain ⟨h1, h2, h3, h4⟩ := ck_ok h
     rw [Bool.and_eq_true, Bool.and_eq_true] at h1
     simp only [hk, hg]
     exact ⟨⟨Nat.eq_of_beq_eq_true h1.1.1, Nat.eq_of_beq_eq_true h1.1.2, imp_bool h1.2, h2, h3⟩, h4⟩
   · rename_i hg
     simp only [hk, hg]
     exact fL2_ok h
   · rename_i hg
     simp only [hk, hg]
     exact f2_ok h
   · rename_i hg
     simp only [hk, hg]
     exact h
   · rename_i hg
     obtain ⟨h1, h2, h3⟩ := ck_ok h
     rw [Bool.and_eq_true] at h1
     simp only [hk, hg]
     exact ⟨⟨Nat.eq_of_beq_eq_true h1.1, of_decide_eq_true h1.2, h2⟩, h3⟩
   · rename_i hg
     obtain ⟨rfl, rfl, h3⟩ := h
     simp only [hk, hg]
     exact ⟨trivial, h3⟩
   · rename_i hg
     simp only [hk, hg]
     exact h
   · rename_i hg
     obtain ⟨h1, h2, h3⟩ := h
     simp only [hk, hg]
     exact ⟨⟨h1, h2⟩, h3⟩
   · rename_i hg
     obtain ⟨h1, h2, h3, h4⟩ := ck_ok h
     simp only [hk, hg]
     exact ⟨⟨Nat.eq_of_beq_eq_true h1, h2, h3⟩, h4⟩
   · exact h.elim
 · rename_i hk
   simp only [hk]
   split at h
   · exact h
   · exact h.elim
 · exact h.elim
def fOs (own : List (Nat × Ob)) (ρ : Ren) : List (Nat × Ob) → Prop → Prop
 | [], K => K
 | (k', o') :: r, K => fOb own ρ k' o' (fOs own ρ r K)
theorem fOs_ok {own : List (Nat × Ob)} {ρ : Ren} : ∀ {l : List (Nat × Ob)} {K : Prop}, fOs own ρ l K → matchOs own ρ l ∧ K
 | [], K, h => ⟨trivial, h⟩
 | (k', o') :: r, K, h => by
  obtain ⟨h1, h2⟩ := fOb_ok h
  obtain ⟨h3, h4⟩ := fOs_ok h2
  exact ⟨⟨h1, h3⟩, h4⟩
def fT (Γ : Sy) (ρ : Ren) : List (Nat × AV) → Prop → Prop
 | [], K => K
 | (t, A') :: r, K => match get? Γ.tmps t with
  | some (.gd _ _) => False
  | some A => f2 Γ.own ρ A A' (fT Γ ρ r K)
  | none => False
theorem fT_ok {Γ : Sy} {ρ : Ren} : ∀ {l : List (Nat × AV)} {K : Prop}, fT Γ ρ l K → subT Γ ρ l ∧ K
 | [], K, h => ⟨trivial, h⟩
 | (t, A') :: r, K, h => by
  unfold fT at h
  split at h
  · exact h.elim
  · rename_i A hne hA
    obtain ⟨h1, h2⟩ := f2_ok h
    obtain ⟨h3, h4⟩ := fT_ok h2
    refine ⟨⟨?_, h3⟩, h4⟩
    rw [hA]
    split
    · rename_i he; cases he; exact absurd rfl (hne _ _)
    · rename_i he; cases he; exact h1
    · rename_i he; cases he
  · exact h.elim
def subF (Γ Γ' : Sy) : Prop := fDup (mkRenT Γ Γ'.tmps) fun ρ0 => fBox Γ.own Γ'.own ρ0 fun ρ => ck (nodupR ρ && pinR ρ) (fT Γ ρ Γ'.tmps (fOs Γ.own ρ Γ'.own True))
theorem subF.ok {Γ Γ' : Sy} (h : subF Γ Γ') : Sub Γ Γ' (mkRen Γ Γ') := by
 obtain ⟨h1, h2⟩ := ck_ok (fBox_ok (fDup_ok h))
 obtain ⟨h3, h4⟩ := fT_ok h2
 exact ⟨h1, h3, (fOs_ok h4).1⟩
theorem subF.side {Γ Γ' : Sy} (h : subF Γ Γ') : Side (Sub Γ Γ' (mkRen Γ Γ')) := h.ok
theorem subF.leaf {Γ Γ' : Sy} (h : subF Γ Γ') : Leaf (Sub Γ Γ' (mkRen Γ Γ')) := .mk h.ok
theorem retF1 {own : List (Nat × Ob)} {A R : AV} {N : List (Nat × Ob)} (h : fR (dedupR (mkRen2 A R [])) fun ρ => ck (nodupR ρ) (f2 own ρ A R (fOs own ρ N True))) :
  ∃ ρ : Ren, ρ = dedupR (mkRen2 A R []) ∧ nodupR ρ = true ∧ match2 own ρ A R ∧ matchOs own ρ N := by
 obtain ⟨h1, h2⟩ := ck_ok (fR_ok h)
 obtain ⟨h3, h4⟩ := f2_ok h2
 exact ⟨_, rfl, h1, h3, (fOs_ok h4).1⟩
theorem retF2 {own : List (Nat × Ob)} {l : List AV} {R : AV} {N : List (Nat × Ob)} (h : fR (dedupR (mkRen2 (.tup l) R [])) fun ρ => ck (nodupR ρ && lvM l) (f2 own ρ (.tup l) R (fOs own ρ N True))) :
  ∃ ρ : Ren, ρ = dedupR (mkRen2 (.tup l) R []) ∧ nodupR ρ = true ∧ (lvM l = true ∧ match2 own ρ (.tup l) R) ∧ matchOs own ρ N := by
 obtain ⟨h1, h2⟩ := ck_ok (fR_ok h)
 rw [Bool.and_eq_true] at h1
 obtain ⟨h3, h4⟩ := f2_ok h2
 exact ⟨_, rfl, h1.1, ⟨h1.2, h3⟩, (fOs_ok h4).1⟩
theorem wf_range {k : IntKind} {n : Int} (h : (Ty.int k).wf n) : k.min ≤ n ∧ n ≤ k.max := by
 have h : (decide (k.min ≤ n) && decide (n ≤ k.max)) = true := h
 rw [Bool.and_eq_true, decide_eq_true_iff, decide_eq_true_iff] at h
 exact h
theorem wf_u8 {n : Int} (h : (Ty.int .u8).wf n) : 0 ≤ n ∧ n ≤ 255 := by
 have := wf_range h
 simp [IntKind.min, IntKind.max, IntKind.signed, IntKind.bits] at this
 exact this
theorem wpAnyH_sub {P : Program} {md : Region.Mode} {ops : Array Oper} {Q : Exit → Act → World → Prop} {S S' : World → Prop} (hS : ∀ w, S' w → S w) :
  ∀ (fuel : Nat) (listed : Array Bool) (a : Act) (w : World), wpAnyH P md ops Q S' fuel listed a w → wpAnyH P md ops Q S fuel listed a w
 | 0, _, _, _, h => h
 | fuel + 1, _, _, _, h => ⟨h.1, fun i hi => wpOp_mono (fun a' w' h' => ⟨hS _ h'.1, wpAnyH_sub hS fuel _ a' w' h'.2⟩) (h.2 i hi)⟩
def tree2 (P : Program) (T : List (Nat × TE)) (F : List Nat) (n : Nat) (ops : Array Oper) (E : List Nat) : Nat → Nat → Sy → (Nat → Sy → Prop) → Prop
 | 0, done, Γ, K => K done Γ
 | k + 1, done, Γ, K => eachP (rdy done E 0) fun i => match ops[i]? with
  | some o => opsVC P T F n (dstsOf ops) [] [o] i 0 Γ fun Γ' => tree2 P T F n ops E k (Nat.lor done (2 ^ i)) Γ' K
  | none => False
theorem tree2_sound {P : Program} {T : List (Nat × TE)} {F : List Nat} (hT : TOk P T) {c : Cx} {ops : Array Oper} {E : List Nat} (hE : dirms ops = E) {K : Nat → Sy → Prop} {Q : Exit → Act → World → Prop} {m : Nat}
  (hQ : ∀ (listed : Array Bool) done Γ' g' a' w', listed.size = ops.size → cnt listed = m → (∀ j, j < ops.size → listed[j]? = some (done.testBit j)) → K done Γ' → St c Γ' g' a' w' → wpAnyH P .any ops Q c.S m listed a' w')
  (hed : ∀ j o, ops[j]? = some o → ∀ e ∈ o.after, Region.binds .any e = true → e.on < j) :
  ∀ (k : Nat) (listed : Array Bool) (done : Nat) (Γ : Sy) (g : Nat → Value) (a : Act) (w : World), listed.size = ops.size → cnt listed = k + m → (∀ j, j < ops.size → listed[j]? = some (done.testBit j)) →
    tree2 P T F c.n ops E k done Γ K → St c Γ g a w → wpAnyH P .any ops Q c.S (k + m) listed a w := by
 intro k
 induction k with
 | zero =>
  intro listed done Γ g a w hsz hc hd h hst
  rw [Nat.zero_add] at hc ⊢
  exact hQ listed done Γ g a w hsz hc hd h hst
 | succ k ih =>
  intro listed done Γ g a w hsz hc hd h hst
  rw [show k + 1 + m = (k + m) + 1 from by omega] at hc ⊢
  refine ⟨fun hrd => ?_, fun i hi => ?_⟩
  · obtain ⟨i, h1, h2⟩ := cnt_pos (listed := listed) (by omega)
    have hi : i < ops.size := by rw [← hsz]; exact (Array.getElem?_eq_some_iff.1 h1).1
    have : i ∈ Region.ready .any ops listed := ready_mem.2 ⟨hi, by simp [Array.getD_eq_getD_getElem?, h1], fun o ho e he hb => by
     have := h2 e.on (hed i o ho e he hb)
     simp [Array.getD_eq_getD_getElem?, this]⟩
    rw [hrd] at this; cases this
  · obtain ⟨h1, h2, h3⟩ := ready_mem.1 hi
    have hoi : ops[i]? = some ops[i] := by simp [h1]
    have hdi : done.testBit i = false := by
     have := hd i h1
     simp only [Array.getD_eq_getD_getElem?, this, Option.getD_some] at h2
     exact h2
    have hEi : E[i]? = some (dirm (ops[i]).after.toList 0) := by
     rw [← hE, dirms, List.getElem?_map]
     simp [h1]
    have hm := rdy_mem (done := done) (i := i) (s := 0) hEi (by rw [Nat.zero_add]; exact hdi) fun j hj => by
     rcases dirm_bit hj with h4 | ⟨e, he, hb, rfl⟩
     · simp at h4
     · have h5 := h3 _ hoi e (by simpa using he) hb
       have h6 := hed i _ hoi e (by simpa using he) hb
       have h7 := hd e.on (by omega)
       simp only [Array.getD_eq_getD_getElem?, h7, Option.getD_some] at h5
       exact h5
    rw [Nat.zero_add] at hm
    have h4 := eachP_mem h i hm
    rw [hoi] at h4
    obtain ⟨Γ', h5, h6⟩ := one_sound hT hoi h4
    have hlf : listed[i]? = some false := by rw [hd i h1, hdi]
    refine h5 Q g a w _ hst fun g' a' w' h7 => ⟨h7.s, ih _ (Nat.lor done (2 ^ i)) Γ' g' a' w' (by simp [hsz]) (by have := cnt_set hlf; omega) (fun j hj => ?_) h6 h7⟩
    show _ = some ((done ||| 2 ^ i).testBit j)
    rw [Nat.testBit_or, Nat.testBit_two_pow]
    by_cases e : i = j
    · subst e
      rw [Array.getElem?_setIfInBounds_self_of_lt (by omega)]
      simp
    · rw [Array.getElem?_setIfInBounds_ne e, hd j hj]
      simp [e]
def arrOf (n done : Nat) : Array Bool := ((List.range n).map fun j => done.testBit j).toArray
theorem arrOf_eq {listed : Array Bool} {n done : Nat} (hsz : listed.size = n) (hd : ∀ j, j < n → listed[j]? = some (done.testBit j)) : listed = arrOf n done := by
 apply Array.ext_getElem?
 intro j
 by_cases h : j < n
 · rw [hd j h, arrOf, List.getElem?_toArray, List.getElem?_map, List.getElem?_range h]; rfl
 · rw [Array.getElem?_eq_none (by omega), arrOf, List.getElem?_toArray, List.getElem?_map, List.getElem?_eq_none (by simp; omega)]; rfl
def addM (done : Nat) : List Nat → Nat
 | [] => done
 | i :: r => addM (Nat.lor done (2 ^ i)) r
theorem addM_bit {j : Nat} : ∀ {L : List Nat} {done : Nat}, (addM done L).testBit j = (memN j L || done.testBit j)
 | [], done => by simp [addM, memN]
 | i :: r, done => by
  have h1 : (Nat.lor done (2 ^ i)).testBit j = (done.testBit j || decide (i = j)) := by
   show (done ||| 2 ^ i).testBit j = _
   rw [Nat.testBit_or, Nat.testBit_two_pow]
  simp only [addM, memN]
  rw [addM_bit, h1]
  have h2 : Nat.beq i j = decide (i = j) := by
   rw [Bool.eq_iff_iff, decide_eq_true_iff]
   exact ⟨Nat.eq_of_beq_eq_true, fun e => by subst e; exact Nat.beq_refl i⟩
  rw [h2]
  cases decide (i = j) <;> cases memN j r <;> cases done.testBit j <;> rfl
def phVC (P : Program) (T : List (Nat × TE)) (F : List Nat) (n : Nat) (ops : Array Oper) (E : List Nat) : List (List Nat × Nat × Nat) → Nat → Sy → (Sy → Prop) → Prop
 | [], _, Γ, K => K Γ
 | (L, k, d) :: r, done, Γ, K => floatVC T n ops L Γ fun Γ1 => tree2 P T F n ops E k (addM done L) Γ1 fun d' Γ' => ck (Nat.beq d' d) (phVC P T F n ops E r d Γ' K)
def phOk (ops : Array Oper) : List (List Nat × Nat × Nat) → Nat → Bool
 | [], done => allBelow ops.size fun j => done.testBit j
 | (L, k, d) :: r, done => floatOk ops L (arrOf ops.size done) && listOnce ops.size L && allBelow ops.size (fun j => !(memN j L && done.testBit j)) && Nat.ble (L.length + k) (cnt (arrOf ops.size done)) && phOk ops r d
theorem listOnce_lt {n : Nat} : ∀ {L : List Nat}, listOnce n L = true → ∀ k, memN k L = true → k < n
 | [], _, k, hk => by cases hk
 | i :: r, h1, k, hk => by
  simp only [listOnce, Bool.and_eq_true] at h1
  simp only [memN, Bool.or_eq_true] at hk
  rcases hk with hk | hk
  · rw [← Nat.eq_of_beq_eq_true hk]; exact Nat.le_of_ble_eq_true h1.1.1
  · exact listOnce_lt h1.2 k hk
theorem ph_sound {P : Program} {T : List (Nat × TE)} {F : List Nat} (hT : TOk P T) {ops : Array Oper} {E : List Nat} (hE : dirms ops = E) {K : Sy → Prop} {Q : Exit → Act → World → Prop} (hs : Region.noSelect ops = true) (hQp : ∀ x a w, ¬ Q (.panic x) a w)
  (hed : ∀ j o, ops[j]? = some o → ∀ e ∈ o.after, Region.binds .any e = true → e.on < j) (c0 : Cx) (hQ : ∀ Γ' g' a' w' K', K Γ' → (∀ b x, c0.K b = some x → K' b = some x) → St { c0 with K := K' } Γ' g' a' w' → Q .normal a' w') :
  ∀ (ph : List (List Nat × Nat × Nat)) (K0 : Nat → Option (Array Value × TypeId × (Nat × Nat))) (listed : Array Bool) (done : Nat) (Γ : Sy) (g : Nat → Value) (a : Act) (w : World), (∀ b x, c0.K b = some x → K0 b = some x) → listed.size = ops.size →
    (∀ j, j < ops.size → listed[j]? = some (done.testBit j)) → phOk ops ph done = true → phVC P T F c0.n ops E ph done Γ K → St { c0 with K := K0 } Γ g a w → wpAnyH P .any ops Q (Cx.S { c0 with K := K0 }) (cnt listed) listed a w
 | [], K0, listed, done, Γ, g, a, w, hK0, hsz, hd, hok, h, hst => by
  have hall : ∀ i, i < listed.size → listed[i]? = some true := fun i hi => by
   have := allBelow_get hok i (by omega)
   rw [hd i (by omega), this]
  have hc : cnt listed = 0 := by
   refine Classical.byContradiction fun hne => ?_
   obtain ⟨i, h1, _⟩ := cnt_pos (listed := listed) (by omega)
   have hi := (Array.getElem?_eq_some_iff.1 h1).1
   rw [hall i hi] at h1
   cases h1
  rw [hc]
  refine ⟨List.eq_nil_iff_forall_not_mem.2 fun i hi => ?_, hQ Γ g a w K0 h hK0 hst⟩
  obtain ⟨h1, h2, _⟩ := ready_mem.1 hi
  have := hall i (by omega)
  simp [Array.getD_eq_getD_getElem?, this] at h2
 | (L, k, d) :: r, K0, listed, done, Γ, g, a, w, hK0, hsz, hd, hok, h, hst => by
  simp only [phOk, Bool.and_eq_true] at hok
  obtain ⟨⟨⟨⟨hf, honce⟩, hnew⟩, hle⟩, hrest⟩ := hok
  have harr := arrOf_eq hsz hd
  rw [← harr] at hf hle
  have hle := Nat.le_of_ble_eq_true hle
  obtain ⟨K1, hK1, hK2⟩ := keepAll w (Oset Γ.own g)
  have hsub : ∀ b x, K0 b = some x → K1 b = some x := fun b x hb => hK2 b _ _ _ (hst.kept b x hb).1 (hst.kept b x hb).2
  have hst1 : St { c0 with K := K1 } Γ g a w := ⟨hst.defers, hst.size, hst.keep, hst.o0, hst.tmps, hK1, hst.hp, hst.low, hst.pin⟩
  refine wpAnyH_sub (S' := Cx.S { c0 with K := K1 }) (fun w' h' b x hb => h' b x (hsub b x hb)) _ _ _ _ ?_
  have hun : ∀ i, memN i L = true → listed[i]? = some false := fun i hi => by
   have hlt := listOnce_lt honce i hi
   have h1 := allBelow_get hnew i hlt
   rw [hd i hlt]
   simp only [hi, Bool.true_and, Bool.not_eq_true'] at h1
   rw [h1]
  have hcn := cnt_listAll (L := L) (l := listed) honce hsz hun
  have hgo := floats (P := P) (c := { c0 with K := K1 }) (w := w) (Q := Q) hT hs hQp hK2 L listed Γ a (cnt (listAll L listed)) rfl hf h hst1
  rw [hcn] at hgo
  refine hgo fun Γ1 a1 h1 hst2 => ?_
  obtain ⟨m, hm⟩ : ∃ m, cnt (listAll L listed) = k + m := ⟨cnt (listAll L listed) - k, by omega⟩
  rw [hm]
  refine tree2_sound (c := { c0 with K := K1 }) hT hE (m := m) (fun listed' done' Γ' g' a' w' hsz' hc' hd' hk' hst' => ?_) hed k _ (addM done L) Γ1 g a1 _ (by rw [listAll_size]; exact hsz) hm (fun j hj => ?_) h1 hst2
  · obtain ⟨h2, h3⟩ := ck_ok hk'
    have h2 := Nat.eq_of_beq_eq_true h2
    rw [h2] at hd'
    have := ph_sound hT hE hs hQp hed c0 hQ r K1 listed' d Γ' g' a' w' (fun b x hb => hsub b x (hK0 b x hb)) hsz' hd' hrest h3 hst'
    rw [hc'] at this
    exact this
  · rw [listAll_get (by omega), addM_bit]
    cases hmm : memN j L with
    | true => simp
    | false => simp [hd j hj]
theorem W.drawPhK {P : Program} {n : Nat} {Q : Exit → Sy → Prop} {Γ : Sy} {T : List (Nat × TE)} (hT : TOk P T) (F : List Nat) (hmx : P.follows .mixedOrders = true) (E : List Nat) (ph : List (List Nat × Nat × Nat)) {id : Nat} {ops : Array Oper} {K : Sy → Prop}
  (hK : ∀ c Γ' g' a' w', K Γ' → St c Γ' g' a' w' → ∃ Γ'' g'', Q .normal Γ'' ∧ St c Γ'' g'' a' w')
  (hd : (allBelow ops.size (fun j => match ops[j]? with
   | none => false
   | some o => edgesLt j o.after.toList) && (dirms ops == E) && phOk ops ph 0 && Region.noSelect ops) = true)
  (h : phVC P T F n ops E ph 0 Γ K) : W P n (.region id ops true) Γ Q := by
 simp only [Bool.and_eq_true] at hd
 obtain ⟨⟨⟨hall, hE⟩, hok⟩, hsel⟩ := hd
 have hE : dirms ops = E := by simpa using hE
 have hed : ∀ j o, ops[j]? = some o → ∀ e ∈ o.after, Region.binds .any e = true → e.on < j := by
  intro j o ho
  have hlt := (Array.getElem?_eq_some_iff.1 ho).1
  have h1 := allBelow_get hall j hlt
  rw [ho] at h1
  exact fun e he hb => edgesLt_get h1 (by simpa using he) hb
 refine ⟨fun c g a w hn hst => ?_⟩
 have key : (Code.region id ops true).wp P (fun e a' w' => match e with | .normal => ∃ Γ' g', K Γ' ∧ St c Γ' g' a' w' | _ => False) a w := by
  refine wp_region_held (S := c.S) hmx ?_
  have hcr : cnt (Array.replicate ops.size false) = ops.size := by simp [cnt, List.filter_replicate]
  have hmain := ph_sound (K := K) (Q := fun e a' w' => match e with | .normal => ∃ Γ' g', K Γ' ∧ St c Γ' g' a' w' | _ => False) hT hE hsel (fun _ _ _ h => h) hed c (fun Γ' g' a' w' K' hq hK' hst' =>
   ⟨Γ', g', hq, hst'.defers, hst'.size, hst'.keep, hst'.o0, hst'.tmps, fun b x hb => hst'.kept b x (hK' b x hb), hst'.hp, hst'.low, hst'.pin⟩) ph c.K (Array.replicate ops.size false) 0 Γ g a { w with drawn := w.drawn + 1 } (fun _ _ h => h) (by simp) (fun j hj => by simp [hj]) hok (by rw [hn]; exact h) (hst.keepW (Keep.drew w))
  rw [hcr] at hmain
  exact hmain
 refine wp_mono key fun e a' w' hq => ?_
 cases e with
 | normal =>
  obtain ⟨Γ', g', h1, h2⟩ := hq
  exact hK c Γ' g' a' w' h1 h2
 | _ => exact hq.elim
theorem W.drawPh {P : Program} {n : Nat} {Q : Exit → Sy → Prop} {Γ : Sy} {T : List (Nat × TE)} (hT : TOk P T) (F : List Nat) (hmx : P.follows .mixedOrders = true) (E : List Nat) (ph : List (List Nat × Nat × Nat)) {id : Nat} {ops : Array Oper}
  (hd : (allBelow ops.size (fun j => match ops[j]? with
   | none => false
   | some o => edgesLt j o.after.toList) && (dirms ops == E) && phOk ops ph 0 && Region.noSelect ops) = true)
  (h : phVC P T F n ops E ph 0 Γ fun Γ' => Q .normal Γ') : W P n (.region id ops true) Γ Q :=
 W.drawPhK hT F hmx E ph (K := fun Γ' => Q .normal Γ') (fun c Γ' g' a' w' h1 h2 => ⟨Γ', g', h1, h2⟩) hd h
theorem W.drawPhTo {P : Program} {n : Nat} {Q : Exit → Sy → Prop} {Γ : Sy} {T : List (Nat × TE)} (hT : TOk P T) (F : List Nat) (hmx : P.follows .mixedOrders = true) (E : List Nat) (ph : List (List Nat × Nat × Nat)) (Γ2 : Sy) {id : Nat} {ops : Array Oper}
  (hd : (allBelow ops.size (fun j => match ops[j]? with
   | none => false
   | some o => edgesLt j o.after.toList) && (dirms ops == E) && phOk ops ph 0 && Region.noSelect ops) = true)
  (h : phVC P T F n ops E ph 0 Γ fun Γ' => Leaf (Sub Γ' Γ2 (mkRen Γ' Γ2))) (hnext : Q .normal Γ2) : W P n (.region id ops true) Γ Q :=
 W.drawPhK hT F hmx E ph (K := fun Γ' => Leaf (Sub Γ' Γ2 (mkRen Γ' Γ2))) (fun c Γ' g' a' w' h1 h2 => by
  obtain ⟨hs⟩ := h1
  exact ⟨Γ2, _, hnext, hs.st h2⟩) hd h
def pinK (k : Nat) : Bool := Nat.ble 1000000000 (k % 2000000000)
theorem pinK_iff {k : Nat} : pinK k = true ↔ PK ≤ k % PK2 := ⟨Nat.le_of_ble_eq_true, fun h => Nat.ble_eq_true_of_le h⟩
def FnM (P : Program) (f : FuncId) (args : List AV) (N0 : List (Nat × Ob)) (R : AV) (N : List (Nat × Ob)) : Prop :=
 (∃ fn, P.funcs[f]? = some fn ∧ (fn.name == "runtime.NumGoroutine") = false ∧ fn.body.isNone = false) ∧
 ∀ (w : World) (O : Nat → Prop) (vals : List Value) (g0 : Nat → Value), (∀ b, O b → b < w.heap.size ∧ ¬ Oset N0 g0 b) → Hp 0 O N0 g0 w → vals.length = args.length →
   (∀ (i : Nat) (v : Value) (A : AV), vals[i]? = some v → args[i]? = some A → Rp2 w (Oset N0 g0) O g0 v A) →
   Calls P f vals.toArray w fun e w' => ∃ r gN, e = .returned r ∧ KeepB (Oset N0 g0) w w' ∧ (∀ k, PK ≤ k % PK2 → gN k = g0 k) ∧ (∀ b, Oset N gN b → Oset N0 g0 b ∨ w.heap.size ≤ b) ∧
    Rp2 w' (Oset N gN) O gN r R ∧ Hp 0 O N gN w'
def argsT : List AV → Nat → List (Nat × AV)
 | [], _ => []
 | A :: r, i => (i, A) :: argsT r (i + 1)
theorem argsT_get : ∀ {l : List AV} {i t : Nat} {A : AV}, get? (argsT l i) t = some A → i ≤ t ∧ l[t - i]? = some A
 | [], i, t, A, h => by cases h
 | B :: r, i, t, A, h => by
  simp only [argsT, get?] at h
  split at h
  · rename_i hb
    cases h
    have := Nat.eq_of_beq_eq_true hb
    subst this
    exact ⟨Nat.le_refl _, by simp⟩
  · obtain ⟨h1, h2⟩ := argsT_get h
    exact ⟨by omega, by rw [show t - i = (t - (i + 1)) + 1 from by omega]; simpa using h2⟩
def seedR : List (Nat × Ob) → Ren
 | [] => []
 | (k, _) :: r => match pinK k with
  | true => (k, some k) :: seedR r
  | false => seedR r
def retM (T : List (Nat × TE)) (rs : List ResultVar) (R : AV) (N : List (Nat × Ob)) (Γ : Sy) : Prop := match resL T Γ rs with
 | some [A] => ∃ ρ : Ren, ρ = mkRenO Γ.own N (dedupR (mkRen2 A R (seedR N))) ∧ (nodupR ρ && pinR ρ) = true ∧ match2 Γ.own ρ A R ∧ matchOs Γ.own ρ N
 | some l => ∃ ρ : Ren, ρ = mkRenO Γ.own N (dedupR (mkRen2 (.tup l) R (seedR N))) ∧ (nodupR ρ && pinR ρ) = true ∧ (lvM l = true ∧ match2 Γ.own ρ (.tup l) R) ∧ matchOs Γ.own ρ N
 | none => False
def bodyM (T : List (Nat × TE)) (rs : List ResultVar) (R : AV) (N : List (Nat × Ob)) : Exit → Sy → Prop
 | .normal, Γ => retM T rs R N Γ
 | .ret, Γ => retM T rs R N Γ
 | _, _ => False
theorem retM1 {own : List (Nat × Ob)} {A R : AV} {N : List (Nat × Ob)} (h : fDup (mkRen2 A R (seedR N)) fun ρ0 => fBox own N ρ0 fun ρ => ck (nodupR ρ && pinR ρ) (f2 own ρ A R (fOs own ρ N True))) :
  ∃ ρ : Ren, ρ = mkRenO own N (dedupR (mkRen2 A R (seedR N))) ∧ (nodupR ρ && pinR ρ) = true ∧ match2 own ρ A R ∧ matchOs own ρ N := by
 obtain ⟨h1, h2⟩ := ck_ok (fBox_ok (fDup_ok h))
 obtain ⟨h3, h4⟩ := f2_ok h2
 exact ⟨_, rfl, h1, h3, (fOs_ok h4).1⟩
theorem retM2 {own : List (Nat × Ob)} {l : List AV} {R : AV} {N : List (Nat × Ob)} (h : fDup (mkRen2 (.tup l) R (seedR N)) fun ρ0 => fBox own N ρ0 fun ρ => ck (nodupR ρ && pinR ρ && lvM l) (f2 own ρ (.tup l) R (fOs own ρ N True))) :
  ∃ ρ : Ren, ρ = mkRenO own N (dedupR (mkRen2 (.tup l) R (seedR N))) ∧ (nodupR ρ && pinR ρ) = true ∧ (lvM l = true ∧ match2 own ρ (.tup l) R) ∧ matchOs own ρ N := by
 obtain ⟨h1, h2⟩ := ck_ok (fBox_ok (fDup_ok h))
 rw [Bool.and_eq_true] at h1
 obtain ⟨h3, h4⟩ := f2_ok h2
 exact ⟨_, rfl, h1.1, ⟨h1.2, h3⟩, (fOs_ok h4).1⟩
theorem FnM.of_body {P : Program} {T : List (Nat × TE)} (hT : TOk P T) {f : FuncId} {fn : Func} {code : Code} {n : Nat} {rs : List ResultVar} {args : List AV} {N0 : List (Nat × Ob)} {R : AV} {N : List (Nat × Ob)} (hf : P.funcs[f]? = some fn)
    (hname : (fn.name == "runtime.NumGoroutine") = false) (hb : fn.body = some code) (hn : fn.ntmps = n) (hrs : fn.results.toList = rs) (hlen : args.length ≤ n)
    (h : W P n code ⟨argsT args 0, N0⟩ (bodyM T rs R N)) : FnM P f args N0 R N := by
  refine ⟨⟨fn, hf, hname, by rw [hb]; rfl⟩, fun w O vals g0 hO hhp hvl hargs => ?_⟩
  let c : Cx := { w0 := w, n := n, O0 := O, B := Oset N0 g0, kv := g0 }
  have hsz : vals.length ≤ n := by rw [hvl]; exact hlen
  have hst : St c ⟨argsT args 0, N0⟩ g0 { tmps := vals.toArray ++ Array.replicate (fn.ntmps - vals.toArray.size) undef, defers := [] } w := by
    refine ⟨rfl, ?_, (Keep.refl w).toB, hO, fun t A hA => ?_, fun b x hb => (by cases hb), hhp, fun b hb => .inr hb, fun _ _ => rfl⟩
    · simp [hn]
      show vals.length + (n - vals.length) = n
      omega
    · obtain ⟨_, h2⟩ := argsT_get hA
      rw [Nat.sub_zero] at h2
      have ht : t < vals.length := by
        rw [hvl]
        exact (List.getElem?_eq_some_iff.1 h2).1
      have hv : vals[t]? = some vals[t] := List.getElem?_eq_getElem ht
      have h3 := hargs t _ A hv h2
      have : (vals.toArray ++ Array.replicate (fn.ntmps - vals.toArray.size) undef).getD t undef = vals[t] := by
        rw [Array.getD_eq_getD_getElem?, Array.getElem?_append_left (by simpa using ht)]
        simp [ht]
      dsimp only
      rw [this]
      exact Rp.of2 h3
  refine calls_of_wp hf hb (wp_mono (h.out c _ _ w rfl hst) fun e a' w' hq => ?_)
  obtain ⟨Γ', g', h1, h2⟩ := hq
  have fin : retM T rs R N Γ' → ∃ v, (results fn a'.tmps).run P w' = .ok v w' ∧ ∃ r gN, Ending.returned v = .returned r ∧ KeepB (Oset N0 g0) w w' ∧ (∀ k, PK ≤ k % PK2 → gN k = g0 k) ∧ (∀ b, Oset N gN b → Oset N0 g0 b ∨ w.heap.size ≤ b) ∧
      Rp2 w' (Oset N gN) O gN r R ∧ Hp 0 O N gN w' := by
    intro hr
    unfold retM at hr
    have conv : ∀ (ρ : Ren) (A : AV) (v : Value), (nodupR ρ && pinR ρ) = true → match2 Γ'.own ρ A R → matchOs Γ'.own ρ N → Rp2 w' (Oset Γ'.own g') c.O0 g' v A →
        (∀ k, PK ≤ k % PK2 → gR ρ g' k = g0 k) ∧ (∀ b, Oset N (gR ρ g') b → Oset N0 g0 b ∨ w.heap.size ≤ b) ∧ Rp2 w' (Oset N (gR ρ g')) O (gR ρ g') v R ∧ Hp 0 O N (gR ρ g') w' := by
      intro ρ A v h3 h4 h5 h6
      rw [Bool.and_eq_true] at h3
      refine ⟨fun k hk => (gR_pin h3.2 k hk).trans (h2.pin k hk), fun b hb => ?_, match2_ok h2.hp (fun _ h => h) h2.apart h5 h4 h6, sub_hp h2.hp (fun _ h => h) h2.apart h5 h3.1 (Nat.le_refl _)⟩
      obtain ⟨k', k, _, ⟨o, ho⟩, h7⟩ := sub_oset h2.hp (fun _ h => h) h2.apart h5 hb
      exact (h2.low b ⟨k, o, ho, h7⟩).symm
    split at hr
    · rename_i A hA
      obtain ⟨ρ, _, h3, h4, h5⟩ := hr
      obtain ⟨vs, h6, h7, h8⟩ := resL_ok hT h2 hA
      have h9 := results_run (fn := fn) (by rw [hrs]; exact h6)
      match vs, h7 with
      | [v], _ => exact ⟨v, h9, v, gR ρ g', rfl, h2.keep, conv ρ A v h3 h4 h5 (h8 0 A v rfl rfl)⟩
    · rename_i l hne hA
      obtain ⟨ρ, _, h3, ⟨h4, h4'⟩, h5⟩ := hr
      obtain ⟨vs, h6, h7, h8⟩ := resL_ok hT h2 hA
      have h9 := results_run (fn := fn) (by rw [hrs]; exact h6)
      have hvs : resV vs = .tuple vs.toArray := by
        match vs, h7 with
        | [], _ => rfl
        | [v], h7 =>
          match l, h7, hne with
          | [A], _, hne => exact (hne A rfl).elim
        | _ :: _ :: _, _ => rfl
      rw [hvs] at h9
      refine ⟨_, h9, _, gR ρ g', rfl, h2.keep, conv ρ (.tup l) _ h3 h4' h5 ⟨fun i => vs.getD i undef, vs.toArray, rfl, by simp [h7], fun i B hB => ?_⟩⟩
      have hi : i < vs.length := by rw [h7]; exact (List.getElem?_eq_some_iff.1 hB).1
      have hv : vs[i]? = some vs[i] := List.getElem?_eq_getElem hi
      have : vs.getD i undef = vs[i] := by simp [List.getD, hi]
      dsimp only
      rw [this]
      exact ⟨by simp [hi], lvM_get h4 hB (h8 i B _ hB hv)⟩
    · exact hr.elim
  cases e with
  | normal => obtain ⟨v, h3, h4⟩ := fin h1; exact ⟨h2.defers, v, h3, h4⟩
  | ret => obtain ⟨v, h3, h4⟩ := fin h1; exact ⟨h2.defers, v, h3, h4⟩
  | exit id => exact h1.elim
  | goto l => exact h1.elim
  | panic ch => exact h1.elim
  | outgrown => exact h1.elim
def AV.ren1 (σ : Nat → Nat) : AV → AV
 | .own k => .own (σ k)
 | .padr k j => .padr (σ k) j
 | .mown k => .mown (σ k)
 | .oadr k es i j => .oadr (σ k) es i j
 | .lit v => .lit v
 | .st fr S => .st fr S
 | _ => .any
def renL1 (σ : Nat → Nat) : List AV → List AV
 | [] => []
 | A :: r => A.ren1 σ :: renL1 σ r
def AV.renM (σ : Nat → Nat) : AV → AV
 | .strct l => .strct (renL1 σ l)
 | A => A.ren1 σ
def renLM (σ : Nat → Nat) : List AV → List AV
 | [] => []
 | A :: r => A.renM σ :: renLM σ r
def AV.ren2 (σ : Nat → Nat) : AV → AV
 | .tup l => .tup (renLM σ l)
 | .fn m l => .fn m (renL1 σ l)
 | A => A.renM σ
def renL2 (σ : Nat → Nat) : List AV → List AV
 | [] => []
 | A :: r => A.ren2 σ :: renL2 σ r
def AV.ok1 (chk : Nat → Bool) : AV → Bool
 | .own k => chk k
 | .padr k _ => chk k
 | .mown k => chk k
 | .oadr k _ _ _ => chk k
 | .lit _ => true
 | .st fr _ => fr
 | .any => true
 | _ => false
def okL1 (chk : Nat → Bool) : List AV → Bool
 | [] => true
 | A :: r => A.ok1 chk && okL1 chk r
def AV.okM (chk : Nat → Bool) : AV → Bool
 | .strct l => okL1 chk l
 | A => A.ok1 chk
def okLM (chk : Nat → Bool) : List AV → Bool
 | [] => true
 | A :: r => A.okM chk && okLM chk r
def AV.ok2 (chk : Nat → Bool) : AV → Bool
 | .tup l => okLM chk l
 | .fn _ l => okL1 chk l
 | A => A.okM chk
def okL2 (chk : Nat → Bool) : List AV → Bool
 | [] => true
 | A :: r => A.ok2 chk && okL2 chk r
theorem renL1_get {σ : Nat → Nat} : ∀ {l : List AV} {i : Nat}, (renL1 σ l)[i]? = (l[i]?).map (AV.ren1 σ)
 | [], i => by simp [renL1]
 | A :: r, 0 => by simp [renL1]
 | A :: r, i + 1 => by simp [renL1, renL1_get (l := r) (i := i)]
theorem renLM_get {σ : Nat → Nat} : ∀ {l : List AV} {i : Nat}, (renLM σ l)[i]? = (l[i]?).map (AV.renM σ)
 | [], i => by simp [renLM]
 | A :: r, 0 => by simp [renLM]
 | A :: r, i + 1 => by simp [renLM, renLM_get (l := r) (i := i)]
theorem renL2_get {σ : Nat → Nat} : ∀ {l : List AV} {i : Nat}, (renL2 σ l)[i]? = (l[i]?).map (AV.ren2 σ)
 | [], i => by simp [renL2]
 | A :: r, 0 => by simp [renL2]
 | A :: r, i + 1 => by simp [renL2, renL2_get (l := r) (i := i)]
theorem renL1_len {σ : Nat → Nat} : ∀ {l : List AV}, (renL1 σ l).length = l.length
 | [] => rfl
 | A :: r => by simp [renL1, renL1_len (l := r)]
theorem renLM_len {σ : Nat → Nat} : ∀ {l : List AV}, (renLM σ l).length = l.length
 | [] => rfl
 | A :: r => by simp [renLM, renLM_len (l := r)]
theorem renL2_len {σ : Nat → Nat} : ∀ {l : List AV}, (renL2 σ l).length = l.length
 | [] => rfl
 | A :: r => by simp [renL2, renL2_len (l := r)]
theorem okL1_get {chk : Nat → Bool} : ∀ {l : List AV} {i : Nat} {A : AV}, okL1 chk l = true → l[i]? = some A → A.ok1 chk = true
 | [], i, A, _, h => by simp at h
 | B :: r, 0, A, hl, h => by simp at h; subst h; simp only [okL1, Bool.and_eq_true] at hl; exact hl.1
 | B :: r, i + 1, A, hl, h => by simp only [okL1, Bool.and_eq_true] at hl; exact okL1_get hl.2 (by simpa using h)
theorem okLM_get {chk : Nat → Bool} : ∀ {l : List AV} {i : Nat} {A : AV}, okLM chk l = true → l[i]? = some A → A.okM chk = true
 | [], i, A, _, h => by simp at h
 | B :: r, 0, A, hl, h => by simp at h; subst h; simp only [okLM, Bool.and_eq_true] at hl; exact hl.1
 | B :: r, i + 1, A, hl, h => by simp only [okLM, Bool.and_eq_true] at hl; exact okLM_get hl.2 (by simpa using h)
theorem okL2_get {chk : Nat → Bool} : ∀ {l : List AV} {i : Nat} {A : AV}, okL2 chk l = true → l[i]? = some A → A.ok2 chk = true
 | [], i, A, _, h => by simp at h
 | B :: r, 0, A, hl, h => by simp at h; subst h; simp only [okL2, Bool.and_eq_true] at hl; exact hl.1
 | B :: r, i + 1, A, hl, h => by simp only [okL2, Bool.and_eq_true] at hl; exact okL2_get hl.2 (by simpa using h)
section ren
variable {w : World} {O O' P P' : Nat → Prop} {g g' : Nat → Value} {σ : Nat → Nat} {chk : Nat → Bool} (hg : ∀ k, chk k = true → g' (σ k) = g k)
 (hS : ∀ v S, RpS w (Av O P true) v S → RpS w (Av O' P' true) v S)
include hg hS
theorem Rp1.ren {v : Value} {A : AV} (hok : A.ok1 chk = true) (h : Rp1 w O P g v A) : Rp1 w O' P' g' v (A.ren1 σ) := by
 cases A with
 | own k => show v = g' (σ k); rw [hg k hok]; exact h
 | padr k j => obtain ⟨b, h1, h2⟩ := h; exact ⟨b, by rw [hg k hok]; exact h1, h2⟩
 | mown k => show v = hd (g' (σ k)); rw [hg k hok]; exact h
 | oadr k es i j => obtain ⟨b, n, c, h1, h2⟩ := h; exact ⟨b, n, c, by rw [hg k hok]; exact h1, h2⟩
 | lit u => exact h
 | st fr S =>
  have hok : fr = true := hok
  subst hok
  exact hS v S h
 | any => trivial
 | _ => cases hok
theorem RpM.ren {v : Value} {A : AV} (hok : A.okM chk = true) (h : RpM w O P g v A) : RpM w O' P' g' v (A.renM σ) := by
 cases A with
 | strct l =>
  obtain ⟨f, vs, h1, h2, h3⟩ := h
  refine ⟨f, vs, h1, by rw [h2]; exact renL1_len.symm, fun i B hB => ?_⟩
  rw [renL1_get] at hB
  obtain ⟨A0, h4, rfl⟩ := Option.map_eq_some_iff.1 hB
  obtain ⟨h5, h6⟩ := h3 i A0 h4
  exact ⟨h5, Rp1.ren hg hS (okL1_get hok h4) h6⟩
 | lit u => exact Rp1.ren (v := v) (A := .lit u) hg hS hok h
 | st fr S => exact Rp1.ren (v := v) (A := .st fr S) hg hS hok h
 | fn f l => exact Rp1.ren (v := v) (A := .fn f l) hg hS hok h
 | own k => exact Rp1.ren (v := v) (A := .own k) hg hS hok h
 | oadr k es i j => exact Rp1.ren (v := v) (A := .oadr k es i j) hg hS hok h
 | padr k j => exact Rp1.ren (v := v) (A := .padr k j) hg hS hok h
 | tup l => exact Rp1.ren (v := v) (A := .tup l) hg hS hok h
 | gd p A => exact Rp1.ren (v := v) (A := .gd p A) hg hS hok h
 | mown k => exact Rp1.ren (v := v) (A := .mown k) hg hS hok h
 | madr k i => exact Rp1.ren (v := v) (A := .madr k i) hg hS hok h
 | inn k i => exact Rp1.ren (v := v) (A := .inn k i) hg hS hok h
 | iadr k i es j l => exact Rp1.ren (v := v) (A := .iadr k i es j l) hg hS hok h
 | qadr k i => exact Rp1.ren (v := v) (A := .qadr k i) hg hS hok h
 | ocut k i j => exact Rp1.ren (v := v) (A := .ocut k i j) hg hS hok h
 | any => exact Rp1.ren (v := v) (A := .any) hg hS hok h
theorem Rp2.ren {v : Value} {A : AV} (hok : A.ok2 chk = true) (h : Rp2 w O P g v A) : Rp2 w O' P' g' v (A.ren2 σ) := by
 cases A with
 | tup l =>
  obtain ⟨f, vs, h1, h2, h3⟩ := h
  refine ⟨f, vs, h1, by rw [h2]; exact renLM_len.symm, fun i B hB => ?_⟩
  rw [renLM_get] at hB
  obtain ⟨A0, h4, rfl⟩ := Option.map_eq_some_iff.1 hB
  obtain ⟨h5, h6⟩ := h3 i A0 h4
  exact ⟨h5, RpM.ren hg hS (okLM_get hok h4) h6⟩
 | fn m caps =>
  obtain ⟨f, vs, h1, h2, h3⟩ := h
  refine ⟨f, vs, h1, by rw [h2]; exact renL1_len.symm, fun i B hB => ?_⟩
  rw [renL1_get] at hB
  obtain ⟨A0, h4, rfl⟩ := Option.map_eq_some_iff.1 hB
  obtain ⟨h5, h6⟩ := h3 i A0 h4
  exact ⟨h5, Rp1.ren hg hS (okL1_get hok h4) h6⟩
 | lit u => exact RpM.ren (v := v) (A := .lit u) hg hS hok h
 | st fr S => exact RpM.ren (v := v) (A := .st fr S) hg hS hok h
 | own k => exact RpM.ren (v := v) (A := .own k) hg hS hok h
 | oadr k es i j => exact RpM.ren (v := v) (A := .oadr k es i j) hg hS hok h
 | padr k j => exact RpM.ren (v := v) (A := .padr k j) hg hS hok h
 | strct l => exact RpM.ren (v := v) (A := .strct l) hg hS hok h
 | gd p A => exact RpM.ren (v := v) (A := .gd p A) hg hS hok h
 | mown k => exact RpM.ren (v := v) (A := .mown k) hg hS hok h
 | madr k i => exact RpM.ren (v := v) (A := .madr k i) hg hS hok h
 | inn k i => exact RpM.ren (v := v) (A := .inn k i) hg hS hok h
 | iadr k i es j l => exact RpM.ren (v := v) (A := .iadr k i es j l) hg hS hok h
 | qadr k i => exact RpM.ren (v := v) (A := .qadr k i) hg hS hok h
 | ocut k i j => exact RpM.ren (v := v) (A := .ocut k i j) hg hS hok h
 | any => exact RpM.ren (v := v) (A := .any) hg hS hok h
end ren
def Ob.ren (σ : Nat → Nat) : Ob → Ob
 | .row e t fr xs => .row e t fr xs
 | .mat e e' t fr xs st => .mat e e' t fr xs st
 | .box l => .box (renL2 σ l)
 | .box1 A => .box1 (A.ren2 σ)
 | .mp kk t m n => .mp kk t m n
 | .que e kk xs => .que e kk xs
 | .sit s p => .sit s p
 | .mps l => .mps l
 | .mit km st => .mit (σ km) st
 | .gone => .gone
def Ob.okR (chk : Nat → Bool) : Ob → Bool
 | .row _ _ fr _ => fr
 | .mat _ _ _ fr _ _ => fr
 | .box l => okL2 chk l
 | .box1 A => A.ok2 chk
 | .mp .. => true
 | .que .. => true
 | .sit .. => true
 | .mps .. => true
 | .mit km _ => chk km
 | .gone => true
theorem OwnOk.ren {w : World} {O O' P P' : Nat → Prop} {g g' : Nat → Value} {σ : Nat → Nat} {chk : Nat → Bool} (hg : ∀ k, chk k = true → g' (σ k) = g k)
  (hS : ∀ v S, RpS w (Av O P true) v S → RpS w (Av O' P' true) v S) {base : Nat} {v : Value} {o : Ob} (hok : o.okR chk = true) (h : OwnOk w base O P g v o) : OwnOk w base O' P' g' v (o.ren σ) := by
 have hrow : ∀ {v : Value} {e : TypeId} {t : Ty} {l : List t.T}, RowOk w base O P v e t true l → RowOk w base O' P' v e t true l := by
  intro v e t l h
  obtain ⟨xs, ho, h1, f, h2, h3⟩ := h
  exact ⟨xs, ho, h1, f, h2, fun i x hx => hS _ _ (h3 i x hx)⟩
 cases o with
 | row e t fr l =>
  have hok : fr = true := hok
  subst hok
  exact hrow h
 | mat e e' t fr xs st =>
  have hok : fr = true := hok
  subst hok
  obtain ⟨h1, h2, h3, h4⟩ := h
  exact ⟨h1, fun i => hrow (h2 i), h3, h4⟩
 | box l =>
  obtain ⟨b, arr, e, h1, h2, h3, h4, h5⟩ := h
  have hmk : mk2 (renL2 σ l) = true → mk2 l = true := mk2_of renL2_len.symm fun A A' hA hA' hm => by
   rw [renL2_get, hA] at hA'
   cases hA'
   cases A <;> first | exact hm | rfl | cases hm
  refine ⟨b, arr, e.of hmk, h1, h2, h3, by rw [h4]; exact renL2_len.symm, fun i B hB => ?_⟩
  rw [renL2_get] at hB
  obtain ⟨A0, h6, rfl⟩ := Option.map_eq_some_iff.1 hB
  obtain ⟨x, h7, h8, h9⟩ := h5 i A0 h6
  exact ⟨x, h7, h8, h9.ren hg hS (okL2_get hok h6)⟩
 | box1 A =>
  obtain ⟨b, x, e, h1, h2, h3, h4, h5⟩ := h
  exact ⟨b, x, e, h1, h2, h3, h4, h5.ren hg hS hok⟩
 | mp kk t m n => exact h
 | que e kk xs => exact h
 | sit s p => exact h
 | mps l => exact h
 | mit km st =>
  obtain ⟨b, mb, h1, h2, h3, h4⟩ := h
  exact ⟨b, mb, h1, h2, h3, (hg km hok).trans h4⟩
 | gone => exact h
def renN (σ : Nat → Nat) : List (Nat × Ob) → List (Nat × Ob)
 | [] => []
 | (k, o) :: r => (σ k, o.ren σ) :: renN σ r
def okNs (chk : Nat → Bool) : List (Nat × Ob) → Bool
 | [] => true
 | (_, o) :: r => o.okR chk && okNs chk r
theorem okNs_get {chk : Nat → Bool} : ∀ {N : List (Nat × Ob)} {k : Nat} {o : Ob}, okNs chk N = true → get? N k = some o → o.okR chk = true
 | [], k, o, _, h => by cases h
 | (k', o') :: r, k, o, hl, h => by
  simp only [okNs, Bool.and_eq_true] at hl
  simp only [get?] at h
  split at h
  · cases h; exact hl.1
  · exact okNs_get hl.2 h
def keyIn (N : List (Nat × Ob)) (k : Nat) : Prop := ∃ o, get? N k = some o
theorem get?_cons {α : Type} {k : Nat} {x : α} {r : List (Nat × α)} {j : Nat} : get? ((k, x) :: r) j = if j = k then some x else get? r j := by
 simp only [get?]
 by_cases h : j = k
 · subst h; simp
 · have : Nat.beq k j = false := by
    cases hb : Nat.beq k j with
    | false => rfl
    | true => exact absurd (Nat.eq_of_beq_eq_true hb).symm h
   simp [h, this]
theorem renN_get {σ : Nat → Nat} : ∀ {N : List (Nat × Ob)}, (∀ k1 k2, keyIn N k1 → keyIn N k2 → σ k1 = σ k2 → k1 = k2) → ∀ {K : Nat} {o' : Ob}, get? (renN σ N) K = some o' → ∃ k o, get? N k = some o ∧ σ k = K ∧ o' = o.ren σ
 | [], _, K, o', h => by cases h
 | (k, o) :: r, hi, K, o', h => by
  simp only [renN] at h
  rw [get?_cons] at h
  split at h
  · rename_i e
    cases h
    exact ⟨k, o, by rw [get?_cons, if_pos rfl], e.symm, rfl⟩
  · rename_i e
    obtain ⟨k1, o1, h1, h2, h3⟩ := renN_get (N := r) (fun k1 k2 ⟨o1, h1⟩ ⟨o2, h2⟩ hs => by
     refine hi k1 k2 ?_ ?_ hs
     · by_cases c : k1 = k
       · exact ⟨o, by rw [get?_cons, if_pos c]⟩
       · exact ⟨o1, by rw [get?_cons, if_neg c]; exact h1⟩
     · by_cases c : k2 = k
       · exact ⟨o, by rw [get?_cons, if_pos c]⟩
       · exact ⟨o2, by rw [get?_cons, if_neg c]; exact h2⟩) h
    refine ⟨k1, o1, ?_, h2, h3⟩
    rw [get?_cons, if_neg (fun c => by subst c; exact e h2.symm)]
    exact h1
theorem renN_of {σ : Nat → Nat} : ∀ {N : List (Nat × Ob)}, (∀ k1 k2, keyIn N k1 → keyIn N k2 → σ k1 = σ k2 → k1 = k2) → ∀ {k : Nat} {o : Ob}, get? N k = some o → get? (renN σ N) (σ k) = some (o.ren σ)
 | [], _, k, o, h => by cases h
 | (k0, o0) :: r, hi, k, o, h => by
  have hh := h
  simp only [renN]
  rw [get?_cons]
  rw [get?_cons] at h
  split at h
  · rename_i e
    cases h
    rw [if_pos (by rw [e])]
  · rename_i e
    have hk0 : keyIn ((k0, o0) :: r) k0 := ⟨o0, by rw [get?_cons, if_pos rfl]⟩
    rw [if_neg (fun c => e (hi k k0 ⟨o, hh⟩ hk0 c))]
    exact renN_of (N := r) (fun k1 k2 ⟨o1, h1⟩ ⟨o2, h2⟩ hs => by
     refine hi k1 k2 ?_ ?_ hs
     · by_cases c : k1 = k0
       · exact ⟨o0, by rw [get?_cons, if_pos c]⟩
       · exact ⟨o1, by rw [get?_cons, if_neg c]; exact h1⟩
     · by_cases c : k2 = k0
       · exact ⟨o0, by rw [get?_cons, if_pos c]⟩
       · exact ⟨o2, by rw [get?_cons, if_neg c]; exact h2⟩) h
def sig (ρ : Ren) (d k : Nat) : Nat := match get? ρ k with
 | some (some K) => K
 | _ => d + k
def chkK (ρ : Ren) (N : List (Nat × Ob)) (k : Nat) : Bool := (get? N k).isSome || (pinK k && (match get? ρ k with
 | some (some _) => true
 | _ => false))
def domOk (Γ : Sy) (ρ : Ren) (N0 : List (Nat × Ob)) (d : Nat) : List (Nat × Ob) → Bool
 | [] => true
 | (k, _) :: r => (match get? ρ k with
  | some (some _) => (get? N0 k).isSome
  | _ => !pinK k && notIn (d + k) ρ && freeB Γ [(d + k, .row 0 .bool true [])]) && domOk Γ ρ N0 d r
theorem domOk_get {Γ : Sy} {ρ : Ren} {N0 : List (Nat × Ob)} {d : Nat} : ∀ {N : List (Nat × Ob)} {k : Nat} {o : Ob}, domOk Γ ρ N0 d N = true → get? N k = some o →
  (∃ K, get? ρ k = some (some K) ∧ keyIn N0 k) ∨ ((∀ K, get? ρ k ≠ some (some K)) ∧ pinK k = false ∧ notIn (d + k) ρ = true ∧ Γ.free (d + k))
 | [], k, o, _, h => by cases h
 | (k', o') :: r, k, o, hl, h => by
  simp only [domOk, Bool.and_eq_true] at hl
  rw [get?_cons] at h
  split at h
  · rename_i e
    subst e
    have h1 := hl.1
    split at h1
    · rename_i K hK
      exact .inl ⟨K, hK, Option.isSome_iff_exists.1 h1⟩
    · rename_i hne
      simp only [Bool.and_eq_true, Bool.not_eq_true'] at h1
      exact .inr ⟨fun K hK => hne K hK, h1.1.1, h1.1.2, freeB_free h1.2 (d + k) _ (by rw [get?_cons, if_pos rfl])⟩
  · exact domOk_get hl.2 h
def pinC : Ren → Bool
 | [] => true
 | (k0, some k) :: r => (!pinK k || pinK k0) && pinC r
 | (_, none) :: r => pinC r
theorem pinC_get : ∀ {ρ : Ren} {k0 k : Nat}, pinC ρ = true → get? ρ k0 = some (some k) → pinK k = true → pinK k0 = true
 | [], k0, k, _, h, _ => by cases h
 | (a, some b) :: r, k0, k, hl, h, hk => by
  simp only [pinC, Bool.and_eq_true] at hl
  rw [get?_cons] at h
  split at h
  · rename_i e
    cases h
    subst e
    have := hl.1
    rw [hk] at this
    simpa using this
  · exact pinC_get hl.2 h hk
 | (a, none) :: r, k0, k, hl, h, hk => by
  simp only [pinC] at hl
  rw [get?_cons] at h
  split at h
  · cases h
  · exact pinC_get hl h hk
def takeO (own : List (Nat × Ob)) (ρ : Ren) : List (Nat × Ob) → List (Nat × Ob)
 | [] => []
 | (k0, _) :: r => match get? ρ k0 with
  | some (some k) => match get? own k with
   | some o => (k, o) :: takeO own ρ r
   | none => takeO own ρ r
  | _ => takeO own ρ r
def handed (ρ : Ren) (N0 : List (Nat × Ob)) (k : Nat) : Prop := ∃ k0, keyIn N0 k0 ∧ get? ρ k0 = some (some k)
theorem handed_cons {ρ : Ren} {k0 : Nat} {o : Ob} {r : List (Nat × Ob)} {k : Nat} : handed ρ ((k0, o) :: r) k ↔ get? ρ k0 = some (some k) ∨ handed ρ r k := by
 constructor
 · rintro ⟨k1, ⟨o1, h1⟩, h2⟩
   rw [get?_cons] at h1
   split at h1
   · rename_i e; subst e; exact .inl h2
   · exact .inr ⟨k1, ⟨o1, h1⟩, h2⟩
 · rintro (h | ⟨k1, ⟨o1, h1⟩, h2⟩)
   · exact ⟨k0, ⟨o, by rw [get?_cons, if_pos rfl]⟩, h⟩
   · by_cases e : k1 = k0
     · exact ⟨k1, ⟨o, by rw [get?_cons, if_pos e]⟩, h2⟩
     · exact ⟨k1, ⟨o1, by rw [get?_cons, if_neg e]; exact h1⟩, h2⟩
theorem takeO_get {own : List (Nat × Ob)} {ρ : Ren} : ∀ {N0 : List (Nat × Ob)} {k : Nat} {o : Ob}, get? (takeO own ρ N0) k = some o → get? own k = some o ∧ handed ρ N0 k
 | [], k, o, h => by cases h
 | (k0, o0) :: r, k, o, h => by
  simp only [takeO] at h
  split at h
  · rename_i K hK
    split at h
    · rename_i o1 ho1
      rw [get?_cons] at h
      split at h
      · rename_i e
        cases h
        subst e
        exact ⟨ho1, handed_cons.2 (.inl hK)⟩
      · obtain ⟨h1, h2⟩ := takeO_get h
        exact ⟨h1, handed_cons.2 (.inr h2)⟩
    · obtain ⟨h1, h2⟩ := takeO_get h
      exact ⟨h1, handed_cons.2 (.inr h2)⟩
  · obtain ⟨h1, h2⟩ := takeO_get h
    exact ⟨h1, handed_cons.2 (.inr h2)⟩
def delN (ρ : Ren) : List (Nat × Ob) → List (Nat × Ob) → List (Nat × Ob)
 | [], own => own
 | (k0, _) :: r, own => match get? ρ k0 with
  | some (some k) => del (delN ρ r own) k
  | _ => delN ρ r own
theorem delN_get {ρ : Ren} : ∀ {N0 own : List (Nat × Ob)} {k : Nat} {o : Ob}, get? (delN ρ N0 own) k = some o → get? own k = some o ∧ ¬ handed ρ N0 k
 | [], own, k, o, h => ⟨h, fun ⟨k0, ⟨o, h⟩, _⟩ => by cases h⟩
 | (k0, o0) :: r, own, k, o, h => by
  simp only [delN] at h
  split at h
  · rename_i K hK
    rw [get?_del] at h
    split at h
    · cases h
    · rename_i hne
      obtain ⟨h1, h2⟩ := delN_get h
      refine ⟨h1, fun hh => ?_⟩
      rcases handed_cons.1 hh with h3 | h3
      · rw [hK] at h3; cases h3; exact hne rfl
      · exact h2 h3
  · rename_i hne
    obtain ⟨h1, h2⟩ := delN_get h
    refine ⟨h1, fun hh => ?_⟩
    rcases handed_cons.1 hh with h3 | h3
    · exact hne _ h3
    · exact h2 h3
def changed (ρ : Ren) (N : List (Nat × Ob)) : List (Nat × Ob) → List Nat
 | [] => []
 | (k0, _) :: r => match get? ρ k0 with
  | some (some k) => match pinK k0 && (get? N k0).isSome with
   | true => changed ρ N r
   | false => k :: changed ρ N r
  | _ => changed ρ N r
theorem changed_mem {ρ : Ren} {N : List (Nat × Ob)} : ∀ {N0 : List (Nat × Ob)} {k0 k : Nat}, keyIn N0 k0 → get? ρ k0 = some (some k) → (pinK k0 && (get? N k0).isSome) = false → k ∈ changed ρ N N0
 | [], k0, k, ⟨o, h⟩, _, _ => by cases h
 | (a, o0) :: r, k0, k, ⟨o, h⟩, hk, hc => by
  rw [get?_cons] at h
  simp only [changed]
  split at h
  · rename_i e
    subst e
    rw [hk]
    dsimp only
    rw [hc]
    exact List.mem_cons_self
  · have ih := changed_mem (N := N) ⟨o, h⟩ hk hc
    split
    · split
      · exact ih
      · exact List.mem_cons_of_mem _ ih
    · exact ih
def Sy.onlyL (Γ : Sy) : List Nat → Sy
 | [] => Γ
 | k :: r => (Γ.onlyL r).only k
theorem St.onlyL {c : Cx} {Γ : Sy} {g : Nat → Value} {a : Act} {w : World} (h : St c Γ g a w) : ∀ X, St c (Γ.onlyL X) g a w
 | [] => h
 | k :: r => (St.onlyL h r).only k
theorem purge_sub {k j : Nat} {A : AV} (h : (A.purge k).hasKey j = true) : A.hasKey j = true := by
 rcases AV.purge_key k A with h' | ⟨h', _⟩
 · rw [h'] at h; cases h
 · rwa [h'] at h
theorem onlyL_tmps {Γ : Sy} : ∀ {X : List Nat} {t : Nat} {A : AV}, get? (Γ.onlyL X).tmps t = some A → (∀ k, k ∈ X → A.hasKey k = false) ∧ ∃ A0, get? Γ.tmps t = some A0 ∧ ∀ j, A.hasKey j = true → A0.hasKey j = true
 | [], t, A, h => ⟨fun k hk => (by cases hk), A, h, fun _ h => h⟩
 | x :: r, t, A, h => by
  simp only [Sy.onlyL, Sy.only, get?_mapv] at h
  obtain ⟨A1, h1, rfl⟩ := Option.map_eq_some_iff.1 h
  obtain ⟨h2, A0, h3, h4⟩ := onlyL_tmps h1
  refine ⟨fun k hk => ?_, A0, h3, fun j hj => h4 j (purge_sub hj)⟩
  rcases List.mem_cons.1 hk with e | hk
  · subst e
    rcases AV.purge_key k A1 with h' | ⟨h', h''⟩
    · rw [h']; rfl
    · rw [h']; exact h''
  · cases hc : (A1.purge x).hasKey k with
    | false => rfl
    | true => have := purge_sub hc; rw [h2 k hk] at this; cases this
theorem purge2_sub {k j : Nat} {A : AV} (h : (A.purge2 k).key2 j = true) : A.key2 j = true := by
 rcases AV.purge2_key k A with h' | ⟨h', _⟩
 · rw [h'] at h; cases h
 · rwa [h'] at h
theorem anyKey2_sub {k j : Nat} : ∀ {l : List AV}, anyKey2 j (purgeL k l) = true → anyKey2 j l = true
 | [], h => h
 | A :: r, h => by
  simp only [purgeL, anyKey2, Bool.or_eq_true] at h ⊢
  exact h.imp purge2_sub anyKey2_sub
theorem Ob.purge_sub {k j : Nat} {o : Ob} (h : (o.purge k).hasKey j = true) : o.hasKey j = true := by
 cases o with
 | row => cases h
 | mat => cases h
 | box l => exact anyKey2_sub h
 | box1 A => exact purge2_sub h
 | mp => cases h
 | que => cases h
 | sit => cases h
 | mps => cases h
 | mit km st =>
  simp only [Ob.purge] at h
  split at h
  · cases h
  · exact h
 | gone => cases h
theorem onlyL_own {Γ : Sy} : ∀ {X : List Nat} {t : Nat} {o : Ob}, get? (Γ.onlyL X).own t = some o → (∀ k, k ∈ X → o.hasKey k = false) ∧ ∃ o0, get? Γ.own t = some o0 ∧ ∀ j, o.hasKey j = true → o0.hasKey j = true
 | [], t, o, h => ⟨fun k hk => (by cases hk), o, h, fun _ h => h⟩
 | x :: r, t, o, h => by
  simp only [Sy.onlyL, Sy.only, get?_mapv] at h
  obtain ⟨o1, h1, rfl⟩ := Option.map_eq_some_iff.1 h
  obtain ⟨h2, o0, h3, h4⟩ := onlyL_own h1
  refine ⟨fun k hk => ?_, o0, h3, fun j hj => h4 j (Ob.purge_sub hj)⟩
  rcases List.mem_cons.1 hk with e | hk
  · subst e; exact Ob.purge_no
  · cases hc : (o1.purge x).hasKey k with
    | false => rfl
    | true => have := Ob.purge_sub hc; rw [h2 k hk] at this; cases this
def afterM (Γ : Sy) (ρ : Ren) (N0 : List (Nat × Ob)) (R : AV) (N : List (Nat × Ob)) (d : Nat) (D : Option Nat) : Sy :=
 ⟨(match D with
   | some D => set (Γ.onlyL (changed ρ N N0)).tmps D (R.ren2 (sig ρ d))
   | none => (Γ.onlyL (changed ρ N N0)).tmps), renN (sig ρ d) N ++ delN ρ N0 (Γ.onlyL (changed ρ N N0)).own⟩
def slotOk (n : Nat) : Option Nat → Bool
 | some D => Nat.blt D n
 | none => true
def callMC (P : Program) (n : Nat) (Γ : Sy) (d : Nat) (f : Nat) (L : List AV) (D : Option Nat) (K : Sy → Prop) : Prop := ∃ (A0 : List AV) (N0 : List (Nat × Ob)) (R : AV) (N : List (Nat × Ob)), FnM P f A0 N0 R N ∧
      fDup (mkRenL2 L A0 []) fun ρ0 => fBox Γ.own N0 ρ0 fun ρ => ck (nodupR ρ && pinC ρ && domOk Γ ρ N0 d N && R.ok2 (chkK ρ N) && okNs (chkK ρ N) N && slotOk n D)
        (fL2 (takeO Γ.own ρ N0) ρ L A0 (fOs (takeO Γ.own ρ N0) ρ N0 (K (afterM Γ ρ N0 R N d D))))
def callM (P : Program) (n : Nat) (Γ : Sy) (d : Nat) (F : AV) (l : List AV) (D : Option Nat) (K : Sy → Prop) : Prop := match F with
 | .fn f caps => match isPl f with
  | true => callMC P n Γ d f (l ++ caps) D K
  | false => callMC P n Γ d (unB f) (caps ++ l) D K
 | _ => False
theorem fnV_on {m : Nat} {vs : Array Value} (h : isPl m = true) : fnV m vs = .func (.func m) #[] vs := by
 unfold fnV
 rw [h]
theorem fnV_off {m : Nat} {vs : Array Value} (h : isPl m = false) : fnV m vs = .func (.func (unB m)) vs #[] := by
 unfold fnV
 rw [h]
theorem callMC.sound {P : Program} {c : Cx} {o : Oper} {Γ : Sy} {d : Nat} {f' : Nat} {L : List AV} {K : Sy → Prop}
  (hV : ∀ (g : Nat → Value) (a : Act) (w : World), St c Γ g a w → ∃ V : List Value, V.length = L.length ∧ (∀ (i : Nat) (v : Value) (A : AV), V[i]? = some v → L[i]? = some A → Rp2 w (Oset Γ.own g) c.O0 g v A) ∧
   ∀ fn, P.funcs[f']? = some fn → (fn.name == "runtime.NumGoroutine") = false → fn.body.isNone = false → (execOp a.eval o).run P w = .ok (.enter f' V.toArray) w) (h : callMC P c.n Γ d f' L o.dst K) : ∃ Γ', Seq P c o Γ Γ' ∧ K Γ' := by
 unfold callMC at h
 obtain ⟨A0, N0, R, N, hfn, h⟩ := h
 have h := fBox_ok (fDup_ok h)
 obtain ⟨ρ, hρ⟩ : ∃ ρ, ρ = mkRenO Γ.own N0 (dedupR (mkRenL2 L A0 [])) := ⟨_, rfl⟩
 rw [← hρ] at h
 clear hρ
 obtain ⟨h1, h⟩ := ck_ok h
 simp only [Bool.and_eq_true] at h1
 obtain ⟨⟨⟨⟨⟨hnd, hpc⟩, hdom⟩, hRok⟩, hNok⟩, hslot⟩ := h1
 obtain ⟨hargs, h⟩ := fL2_ok h
 obtain ⟨hos, hK⟩ := fOs_ok h
 refine ⟨_, ?_, hK⟩
 clear hK h
 intro g a w next Q hst hk
 -- what is handed over, and what is not
 obtain ⟨own1, hown1⟩ : ∃ own1, own1 = takeO Γ.own ρ N0 := ⟨_, rfl⟩
 rw [← hown1] at hargs hos
 have h1get : ∀ k o, get? own1 k = some o → get? Γ.own k = some o ∧ handed ρ N0 k := fun k o h => takeO_get (by rw [← hown1]; exact h)
 have h1o : ∀ b, Oset own1 g b → Oset Γ.own g b := fun b ⟨k, o, h2, h3⟩ => ⟨k, o, (h1get k o h2).1, h3⟩
 let rest : Nat → Prop := fun b => ∃ k o, ¬ handed ρ N0 k ∧ get? Γ.own k = some o ∧ Blk (g k) b
 let O : Nat → Prop := fun b => c.O0 b ∨ rest b
 have hrest : ∀ b, rest b → Oset Γ.own g b := fun b ⟨k, o, _, h2, h3⟩ => ⟨k, o, h2, h3⟩
 have hOapart : ∀ b, O b → ¬ Oset own1 g b := by
  rintro b (h2 | ⟨k, o, h2, h3, h4⟩) h5
  · exact hst.apart b h2 (h1o b h5)
  · obtain ⟨k', o', h6, h7⟩ := h5
    obtain ⟨h8, h9⟩ := h1get k' o' h6
    have := hst.hp.inj k k' o o' b h3 h8 h4 h7
    subst this
    exact h2 h9
 have hmono : ∀ b x e fz, w.heap[b]? = some (.cells x e fz) → ¬ Oset Γ.own g b → w.heap[b]? = some (.cells x e fz) ∧ ¬ Oset own1 g b := fun b x e fz hb hn => ⟨hb, fun h => hn (h1o b h)⟩
 have hmono0 : ∀ b x e fz, w.heap[b]? = some (.cells x e fz) → ¬ Oset Γ.own g b → ¬ c.O0 b → ¬ O b := fun b x e fz _ hn hn0 h => by
  rcases h with h | h
  · exact hn0 h
  · exact hn (hrest b h)
 have hp1 : Hp 0 O own1 g w := ⟨fun k o hk => (hst.hp.ok k o (h1get k o hk).1).mono hmono hmono0 (fun _ _ => rfl) (fun _ _ => rfl), fun k k' o o' b h2 h3 => hst.hp.inj k k' o o' b (h1get k o h2).1 (h1get k' o' h3).1⟩
 obtain ⟨g0, hg0⟩ : ∃ g0, g0 = gR ρ g := ⟨_, rfl⟩
 have hp0 : Hp 0 O N0 g0 w := by rw [hg0]; exact sub_hp hp1 (fun _ h => h) hOapart hos hnd (Nat.le_refl _)
 have h0o : ∀ b, Oset N0 g0 b → ∃ k o, handed ρ N0 k ∧ get? Γ.own k = some o ∧ Blk (g k) b := fun b hb => by
  rw [hg0] at hb
  obtain ⟨k', k, _, ⟨o, h3⟩, h4⟩ := sub_oset hp1 (fun _ h => h) hOapart hos hb
  obtain ⟨h5, h6⟩ := h1get k o h3
  exact ⟨k, o, h6, h5, h4⟩
 have h0own : ∀ b, Oset N0 g0 b → Oset Γ.own g b := fun b hb => let ⟨k, o, _, h2, h3⟩ := h0o b hb; ⟨k, o, h2, h3⟩
 have hOlt : ∀ b, O b → b < w.heap.size ∧ ¬ Oset N0 g0 b := by
  intro b hb
  refine ⟨?_, fun h => ?_⟩
  · rcases hb with hb | hb
    · exact Nat.lt_of_lt_of_le (hst.o0 b hb).1 hst.keep.size
    · exact (hst.hp.lt (hrest b hb)).2
  · rw [hg0] at h
    obtain ⟨k', k, _, ⟨o, h3⟩, h4⟩ := sub_oset hp1 (fun _ h => h) hOapart hos h
    exact hOapart b hb ⟨k, o, h3, h4⟩
 -- the call
 obtain ⟨V, hVl, hvals, hrun⟩ := hV g a w hst
 obtain ⟨hlen, hmatch⟩ := matchL2_get hargs
 obtain ⟨⟨fn, hfn1, hfn2, hfn3⟩, hcall⟩ := hfn
 have hc := hcall w O V g0 hOlt hp0 (by rw [← hlen, hVl]) (fun i v A hv hA => by
  obtain ⟨C, h10, h11⟩ := hmatch i A hA
  have h12 := hvals i v C hv h10
  have h13 : Rp2 w (Oset own1 g) O g v C := h12.mono hmono hmono0 (fun _ _ => rfl)
  rw [hg0]
  exact match2_ok hp1 (fun _ h => h) hOapart hos h11 h13)
 unfold Oper.wp
 rw [hrun fn hfn1 hfn2 hfn3]
 refine hc.mono fun e w' he => ?_
 obtain ⟨r, gN, rfl, hkeep, hpin, hlow, hR, hN⟩ := he
 -- the state behind it
 obtain ⟨X, hX⟩ : ∃ X, X = changed ρ N N0 := ⟨_, rfl⟩
 have hst1 := hst.onlyL X
 have keyN : ∀ k, keyIn N k → (∃ K, get? ρ k = some (some K) ∧ keyIn N0 k) ∨ ((∀ K, get? ρ k ≠ some (some K)) ∧ pinK k = false ∧ notIn (d + k) ρ = true ∧ Γ.free (d + k)) := fun k ⟨o, h⟩ => domOk_get hdom h
 have sigM : ∀ k K, get? ρ k = some (some K) → sig ρ d k = K := fun k K h => by unfold sig; rw [h]
 have sigN : ∀ k, (∀ K, get? ρ k ≠ some (some K)) → sig ρ d k = d + k := fun k h => by
  unfold sig
  split
  · rename_i K hK; exact absurd hK (h K)
  · rfl
 have hinj : ∀ k1 k2, keyIn N k1 → keyIn N k2 → sig ρ d k1 = sig ρ d k2 → k1 = k2 := by
  intro k1 k2 h2 h3 hs
  rcases keyN k1 h2 with ⟨K1, h4, _⟩ | ⟨h4, _, h5, _⟩ <;> rcases keyN k2 h3 with ⟨K2, h6, _⟩ | ⟨h6, _, h7, _⟩
  · rw [sigM _ _ h4, sigM _ _ h6] at hs
    subst hs
    exact nodupR_inj hnd h4 h6
  · rw [sigM _ _ h4, sigN _ h6] at hs
    exact absurd hs (notIn_get h7 h4)
  · rw [sigN _ h4, sigM _ _ h6] at hs
    exact absurd hs.symm (notIn_get h5 h6)
  · rw [sigN _ h4, sigN _ h6] at hs
    omega
 -- the ghost behind it
 obtain ⟨own2, hown2⟩ : ∃ own2, own2 = renN (sig ρ d) N ++ delN ρ N0 (Γ.onlyL X).own := ⟨_, rfl⟩
 have hgex : ∀ K : Nat, ∃ v : Value, (∀ k, keyIn N k → sig ρ d k = K → v = gN k) ∧ ((∀ k, keyIn N k → sig ρ d k ≠ K) → v = g K) := by
  intro K
  by_cases hK : ∃ k, keyIn N k ∧ sig ρ d k = K
  · obtain ⟨k, h2, h3⟩ := hK
    refine ⟨gN k, fun k' h4 h5 => by rw [hinj k' k h4 h2 (by rw [h5, h3])], fun h4 => absurd h3 (h4 k h2)⟩
  · exact ⟨g K, fun k h2 h3 => absurd ⟨k, h2, h3⟩ hK, fun _ => rfl⟩
 obtain ⟨g', hg'⟩ := Classical.axiomOfChoice hgex
 have hgN : ∀ k, keyIn N k → g' (sig ρ d k) = gN k := fun k h => (hg' _).1 k h rfl
 have hgS : ∀ K, (∀ k, keyIn N k → sig ρ d k ≠ K) → g' K = g K := fun K h => (hg' K).2 h
 -- a key whose ghost has not turned
 have hsame : ∀ K, K ∉ X → (∀ k, Γ.free (d + k) → K ≠ d + k) → g' K = g K := by
  intro K hKX hfree
  by_cases hK : ∃ k, keyIn N k ∧ sig ρ d k = K
  · obtain ⟨k, h2, h3⟩ := hK
    rcases keyN k h2 with ⟨K1, h4, h5⟩ | ⟨h4, _, _, h6⟩
    · rw [sigM _ _ h4] at h3
      subst h3
      have hc : (pinK k && (get? N k).isSome) = true := by
       cases hc : (pinK k && (get? N k).isSome) with
       | true => rfl
       | false => exact absurd (by rw [hX]; exact changed_mem h5 h4 hc) hKX
      rw [Bool.and_eq_true] at hc
      have h6 := hgN k h2
      rw [sigM _ _ h4] at h6
      rw [h6, hpin k (pinK_iff.1 hc.1), hg0]
      simp only [gR, h4]
    · rw [sigN _ h4] at h3
      exact absurd h3.symm (hfree k h6)
  · exact hgS K fun k h2 h3 => hK ⟨k, h2, h3⟩
 have own2_of : ∀ K o2, get? own2 K = some o2 → (∃ k o, get? N k = some o ∧ sig ρ d k = K ∧ o2 = o.ren (sig ρ d)) ∨ ((∀ k, keyIn N k → sig ρ d k ≠ K) ∧ get? (Γ.onlyL X).own K = some o2 ∧ ¬ handed ρ N0 K) := by
  intro K o2 h2
  rw [hown2, get?_append] at h2
  cases hN2 : get? (renN (sig ρ d) N) K with
  | some x =>
   rw [hN2] at h2
   cases h2
   exact .inl (renN_get hinj hN2)
  | none =>
   rw [hN2] at h2
   obtain ⟨h3, h4⟩ := delN_get h2
   refine .inr ⟨fun k ⟨o, h5⟩ h6 => ?_, h3, h4⟩
   have := renN_of hinj h5
   rw [h6, hN2] at this
   cases this
 have hrestg : ∀ K o2, get? (Γ.onlyL X).own K = some o2 → ∃ o0, get? Γ.own K = some o0 := fun K o2 h => let ⟨_, o0, h3, _⟩ := onlyL_own h; ⟨o0, h3⟩
 have hO2 : ∀ b, Oset own2 g' b → Oset N gN b ∨ rest b := by
  rintro b ⟨K, o2, h2, h3⟩
  rcases own2_of K o2 h2 with ⟨k, o, h4, h5, _⟩ | ⟨h4, h5, h6⟩
  · subst h5
    rw [hgN k ⟨o, h4⟩] at h3
    exact .inl ⟨k, o, h4, h3⟩
  · rw [hgS K h4] at h3
    obtain ⟨o0, h7⟩ := hrestg K o2 h5
    exact .inr ⟨K, o0, h6, h7, h3⟩
 have hO2old : ∀ b, b < w.heap.size → Oset own2 g' b → Oset Γ.own g b := by
  intro b hlt h2
  rcases hO2 b h2 with h3 | h3
  · rcases hlow b h3 with h4 | h4
    · exact h0own b h4
    · omega
  · exact hrest b h3
 have hmem : ∀ b x e fz, w.heap[b]? = some (.cells x e fz) → ¬ Oset Γ.own g b → w'.heap[b]? = some (.cells x e fz) ∧ ¬ Oset own2 g' b := fun b x e fz hb hn =>
  ⟨(hkeep.b b (heap_lt hb) (fun h => hn (h0own b h))).trans hb, fun h => hn (hO2old b (heap_lt hb) h)⟩
 have hmem1 : ∀ b x e fz, w.heap[b]? = some (.cells x e fz) → ¬ Oset (Γ.onlyL X).own g b → ¬ Oset Γ.own g b := fun b x e fz _ hn h => by
  refine hn ?_
  obtain ⟨k, o, h2, h3⟩ := h
  have : ∀ Y : List Nat, ∃ o', get? (Γ.onlyL Y).own k = some o' := by
   intro Y
   induction Y with
   | nil => exact ⟨o, h2⟩
   | cons y r ih =>
    obtain ⟨o', h4⟩ := ih
    exact ⟨o'.purge y, by simp [Sy.onlyL, Sy.only, get?_mapv, h4]⟩
  obtain ⟨o', h4⟩ := this X
  exact ⟨k, o', h4, h3⟩
 have hmemX : ∀ b x e fz, w.heap[b]? = some (.cells x e fz) → ¬ Oset (Γ.onlyL X).own g b → w'.heap[b]? = some (.cells x e fz) ∧ ¬ Oset own2 g' b := fun b x e fz hb hn => hmem b x e fz hb (hmem1 b x e fz hb hn)
 have hfreeT : ∀ t A, get? (Γ.onlyL X).tmps t = some A → ∀ K, A.hasKey K = true → g' K = g K := by
  intro t A hA K hK
  obtain ⟨h2, A1, h3, h4⟩ := onlyL_tmps hA
  refine hsame K (fun hKX => by rw [h2 K hKX] at hK; cases hK) fun k hfr e => ?_
  have := hfr.1 t A1 h3
  rw [← e, h4 K hK] at this
  cases this
 have hStable : ∀ v S, RpS w' (Av (Oset N gN) O true) v S → RpS w' (Av (Oset own2 g') c.O0 true) v S := fun v S h => h.mono fun b x e fz hb hn => ⟨hb, fun h2 => hn (by
  rcases h2 with h2 | ⟨_, h2⟩
  · rcases hO2 b h2 with h3 | h3
    · exact .inl h3
    · exact .inr ⟨rfl, .inr h3⟩
  · exact .inr ⟨rfl, .inl h2⟩)⟩
 have hgchk : ∀ k, chkK ρ N k = true → g' (sig ρ d k) = gN k := by
  intro k hk
  by_cases hkN : keyIn N k
  · exact hgN k hkN
  · unfold chkK at hk
    rw [Bool.or_eq_true] at hk
    rcases hk with hk | hk
    · exact absurd (Option.isSome_iff_exists.1 hk) hkN
    · rw [Bool.and_eq_true] at hk
      obtain ⟨hk1, hk2⟩ := hk
      split at hk2
      · rename_i K hK
        rw [sigM _ _ hK, hpin k (pinK_iff.1 hk1), hg0]
        have : gR ρ g k = g K := by simp only [gR, hK]
        rw [this]
        refine hgS K fun k' h2 h3 => ?_
        rcases keyN k' h2 with ⟨K1, h4, h5⟩ | ⟨h4, _, h6, _⟩
        · rw [sigM _ _ h4] at h3
          subst h3
          have := nodupR_inj hnd h4 hK
          subst this
          exact hkN h2
        · rw [sigN _ h4] at h3
          exact absurd h3.symm (notIn_get h6 hK)
      · cases hk2
 have final : St c ⟨(Γ.onlyL X).tmps, own2⟩ g' a w' := by
  refine ⟨hst1.defers, hst1.size, ⟨hkeep.os.trans hst.keep.os, hkeep.tape.trans hst.keep.tape, hkeep.output.trans hst.keep.output, Nat.le_trans hst.keep.size hkeep.size, fun b hb hnB => ?_⟩, hst1.o0,
   fun t A hA => (hst1.tmps t A hA).mono hmemX (fun _ _ _ _ _ _ h => h) (hfreeT t A hA), fun b x hb => hmem b _ _ _ (hst.kept b x hb).1 (hst.kept b x hb).2, ⟨fun K o2 hK => ?_, fun K K' o2 o3 b h2 h3 h4 h5 => ?_⟩, fun b hb => ?_, fun K hK => ?_⟩
  · refine (hkeep.b b (Nat.lt_of_lt_of_le hb hst.keep.size) (fun h => ?_)).trans (hst.keep.b b hb hnB)
    rcases hst.low b (h0own b h) with h2 | h2
    · omega
    · exact hnB h2
  · rcases own2_of K o2 hK with ⟨k, o, h4, h5, h6⟩ | ⟨h4, h5, h6⟩
    · subst h5
      subst h6
      rw [hgN k ⟨o, h4⟩]
      exact OwnOk.ren hgchk hStable (okNs_get hNok h4) (hN.ok k o h4)
    · rw [hgS K h4]
      have h7 := hst1.hp.ok K o2 h5
      obtain ⟨o0, h8⟩ := hrestg K o2 h5
      refine h7.mono hmemX (fun _ _ _ _ _ _ h => h) (fun b hb => hkeep.b b (h7.lt hb).2 fun h9 => ?_) (fun j hj => ?_)
      · obtain ⟨k2, o4, h10, h11, h12⟩ := h0o b h9
        have := hst.hp.inj K k2 o0 o4 b h8 h11 hb h12
        subst this
        exact h6 h10
      · obtain ⟨h9, o1, h10, h11⟩ := onlyL_own h5
        refine hsame j (fun hjX => by rw [h9 j hjX] at hj; cases hj) fun k hfr e => ?_
        have := hfr.2.1 K o1 h10
        rw [← e, h11 j hj] at this
        cases this
  · rcases own2_of K o2 h2 with ⟨k, o, h6, h7, _⟩ | ⟨h6, h7, h8⟩ <;> rcases own2_of K' o3 h3 with ⟨k', o', h9, h10, _⟩ | ⟨h9, h10, h11⟩
    · subst h7; subst h10
      rw [hgN k ⟨o, h6⟩] at h4
      rw [hgN k' ⟨o', h9⟩] at h5
      rw [hN.inj k k' o o' b h6 h9 h4 h5]
    · subst h7
      rw [hgN k ⟨o, h6⟩] at h4
      rw [hgS K' h9] at h5
      obtain ⟨o0, h12⟩ := hrestg K' o3 h10
      have hlt := ((hst.hp.ok K' o0 h12).lt h5).2
      rcases hlow b ⟨k, o, h6, h4⟩ with h13 | h13
      · obtain ⟨k2, o4, h14, h15, h16⟩ := h0o b h13
        have := hst.hp.inj K' k2 o0 o4 b h12 h15 h5 h16
        subst this
        exact absurd h14 h11
      · omega
    · subst h10
      rw [hgN k' ⟨o', h9⟩] at h5
      rw [hgS K h6] at h4
      obtain ⟨o0, h12⟩ := hrestg K o2 h7
      have hlt := ((hst.hp.ok K o0 h12).lt h4).2
      rcases hlow b ⟨k', o', h9, h5⟩ with h13 | h13
      · obtain ⟨k2, o4, h14, h15, h16⟩ := h0o b h13
        have := hst.hp.inj K k2 o0 o4 b h12 h15 h4 h16
        subst this
        exact absurd h14 h8
      · omega
    · rw [hgS K h6] at h4
      rw [hgS K' h9] at h5
      obtain ⟨o0, h12⟩ := hrestg K o2 h7
      obtain ⟨o1, h13⟩ := hrestg K' o3 h10
      exact hst.hp.inj K K' o0 o1 b h12 h13 h4 h5
  · by_cases hlt : b < w.heap.size
    · exact hst.low b (hO2old b hlt hb)
    · exact .inl (Nat.le_trans hst.keep.size (by omega))
  · rw [← hst.pin K hK]
    by_cases hKN : ∃ k, keyIn N k ∧ sig ρ d k = K
    · obtain ⟨k, h2, h3⟩ := hKN
      rcases keyN k h2 with ⟨K1, h4, h5⟩ | ⟨h4, _, _, h6⟩
      · rw [sigM _ _ h4] at h3
        subst h3
        have h6 := hgN k h2
        rw [sigM _ _ h4] at h6
        have hp := pinC_get hpc h4 (pinK_iff.2 hK)
        rw [h6, hpin k (pinK_iff.1 hp), hg0]
        simp only [gR, h4]
      · rw [sigN _ h4] at h3
        subst h3
        have := h6.2.2.2
        have hK : PK ≤ (d + k) % PK2 := hK
        omega
    · exact hgS K fun k h2 h3 => hKN ⟨k, h2, h3⟩
 have hRv : Rp2 w' (Oset own2 g') c.O0 g' r (R.ren2 (sig ρ d)) := Rp2.ren hgchk hStable hRok hR
 refine hk g' _ w' ?_
 unfold afterM
 rw [← hX, ← hown2]
 cases hD : o.dst with
 | none => exact final
 | some D =>
  rw [hD] at hslot
  exact final.put (Nat.le_of_ble_eq_true hslot) (Rp.of2 hRv)
theorem callPl {P : Program} {c : Cx} {o : Oper} {Γ : Sy} {d : Nat} {f : Operand} {xs : Array Operand} {ts : Array TypeId} {f' : Nat} {caps l : List AV} {K : Sy → Prop}
  (ho : o.op = .call { callee := .value f, args := xs, argTypes := ts }) (hl : l.length = xs.toList.length)
  (hev : ∀ (g : Nat → Value) (a : Act) (w : World), St c Γ g a w → ∀ (i : Nat) (v : Value) (A : AV), (xs.toList.map a.eval)[i]? = some v → l[i]? = some A → Rp2 w (Oset Γ.own g) c.O0 g v A)
  (key : ∀ (g : Nat → Value) (a : Act) (w : World), St c Γ g a w → ∃ (fc : Nat → Value) (vs : Array Value), a.eval f = .func (.func f') #[] vs ∧ vs.size = caps.length ∧ ∀ i B, caps[i]? = some B → vs[i]? = some (fc i) ∧ Rp1 w (Oset Γ.own g) c.O0 g (fc i) B)
  (h : callMC P c.n Γ d f' (l ++ caps) o.dst K) : ∃ Γ', Seq P c o Γ Γ' ∧ K Γ' := by
 refine callMC.sound (fun g a w hst => ?_) h
 obtain ⟨fc, vs, hf1, hf2, hf3⟩ := key g a w hst
 refine ⟨xs.toList.map a.eval ++ vs.toList, by simp [hl, hf2], fun i v A hv' hA => ?_, fun fn hfn1 hfn2 hfn3 => ?_⟩
 · by_cases hi : i < l.length
   · rw [List.getElem?_append_left (by rw [List.length_map, ← hl]; exact hi)] at hv'
     rw [List.getElem?_append_left hi] at hA
     exact hev g a w hst i v A hv' hA
   · rw [List.getElem?_append_right (by rw [List.length_map, ← hl]; omega)] at hv'
     rw [List.getElem?_append_right (by omega)] at hA
     have h6 := hf3 _ A hA
     rw [show i - (xs.toList.map a.eval).length = i - l.length from by simp [hl]] at hv'
     have : vs[i - l.length]? = some v := by simpa using hv'
     rw [h6.1] at this
     cases this
     exact h6.2.two
 · have h8 : ¬ fn.name = "runtime.NumGoroutine" := by simpa using hfn2
   have h9 : ¬ fn.body = none := fun h => by rw [h] at hfn3; cases hfn3
   have harr : (xs.toList.map a.eval ++ vs.toList).toArray = xs.map a.eval ++ vs := by
    apply Array.ext'
    simp
   rw [harr]
   simp [execOp, ho, resolve, hf1, Deferred.ofValue, invoke, callFunc, hfn1, h8, h9]
theorem callBd {P : Program} {c : Cx} {o : Oper} {Γ : Sy} {d : Nat} {f : Operand} {xs : Array Operand} {ts : Array TypeId} {f2 : Nat} {caps l : List AV} {K : Sy → Prop}
  (ho : o.op = .call { callee := .value f, args := xs, argTypes := ts }) (hl : l.length = xs.toList.length)
  (hev : ∀ (g : Nat → Value) (a : Act) (w : World), St c Γ g a w → ∀ (i : Nat) (v : Value) (A : AV), (xs.toList.map a.eval)[i]? = some v → l[i]? = some A → Rp2 w (Oset Γ.own g) c.O0 g v A)
  (key : ∀ (g : Nat → Value) (a : Act) (w : World), St c Γ g a w → ∃ (fc : Nat → Value) (vs : Array Value), a.eval f = .func (.func f2) vs #[] ∧ vs.size = caps.length ∧ ∀ i B, caps[i]? = some B → vs[i]? = some (fc i) ∧ Rp1 w (Oset Γ.own g) c.O0 g (fc i) B)
  (h : callMC P c.n Γ d f2 (caps ++ l) o.dst K) : ∃ Γ', Seq P c o Γ Γ' ∧ K Γ' := by
 refine callMC.sound (fun g a w hst => ?_) h
 obtain ⟨fc, vs, hf1, hf2, hf3⟩ := key g a w hst
 refine ⟨vs.toList ++ xs.toList.map a.eval, by simp [hl, hf2], fun i v A hv' hA => ?_, fun fn hfn1 hfn2 hfn3 => ?_⟩
 · by_cases hi : i < caps.length
   · rw [List.getElem?_append_left (by simpa [hf2] using hi)] at hv'
     rw [List.getElem?_append_left hi] at hA
     have h6 := hf3 _ A hA
     have : vs[i]? = some v := by simpa using hv'
     rw [h6.1] at this
     cases this
     exact h6.2.two
   · rw [List.getElem?_append_right (by simp [hf2]; omega)] at hv'
     rw [List.getElem?_append_right (by omega)] at hA
     rw [show i - vs.toList.length = i - caps.length from by simp [hf2]] at hv'
     exact hev g a w hst _ v A hv' hA
 · have h8 : ¬ fn.name = "runtime.NumGoroutine" := by simpa using hfn2
   have h9 : ¬ fn.body = none := fun h => by rw [h] at hfn3; cases hfn3
   have harr : (vs.toList ++ xs.toList.map a.eval).toArray = vs ++ xs.map a.eval := by
    apply Array.ext'
    simp
   rw [harr]
   simp [execOp, ho, resolve, hf1, Deferred.ofValue, invoke, callFunc, hfn1, h8, h9]
theorem callM.sound {P : Program} {c : Cx} {o : Oper} {Γ : Sy} {d : Nat} {f : Operand} {xs : Array Operand} {ts : Array TypeId} {F : AV} {l : List AV} {K : Sy → Prop}
  (ho : o.op = .call { callee := .value f, args := xs, argTypes := ts }) (hf : Ev c Γ [] f F) (hl : l.length = xs.toList.length)
  (hx : ∀ (i : Nat) (x : Operand) (A : AV), xs.toList[i]? = some x → l[i]? = some A → Ev c Γ [] x A) (h : callM P c.n Γ d F l o.dst K) : ∃ Γ', Seq P c o Γ Γ' ∧ K Γ' := by
 unfold callM at h
 split at h
 rotate_left
 · exact h.elim
 rename_i f' caps
 have hev : ∀ (g : Nat → Value) (a : Act) (w : World), St c Γ g a w → ∀ (i : Nat) (v : Value) (A : AV), (xs.toList.map a.eval)[i]? = some v → l[i]? = some A → Rp2 w (Oset Γ.own g) c.O0 g v A := by
  intro g a w hst i v A hv hA
  rw [List.getElem?_map] at hv
  obtain ⟨x, hx1, rfl⟩ := Option.map_eq_some_iff.1 hv
  exact hx i x A hx1 hA trivial Γ g a w rfl hst
 split at h
 · rename_i hF
   exact callPl ho hl hev (fun g a w hst => by
    obtain ⟨fc, vs, hf1, hf2, hf3⟩ := hf trivial Γ g a w rfl hst
    exact ⟨fc, vs, hf1.trans (fnV_on hF), hf2, hf3⟩) h
 · rename_i hF
   exact callBd ho hl hev (fun g a w hst => by
    obtain ⟨fc, vs, hf1, hf2, hf3⟩ := hf trivial Γ g a w rfl hst
    exact ⟨fc, vs, hf1.trans (fnV_off hF), hf2, hf3⟩) h
def DelC (P : Program) (f : FuncId) (e : TypeId) (size : Nat) : Prop := (∃ fn, P.funcs[f]? = some fn ∧ (fn.name == "runtime.NumGoroutine") = false ∧ fn.body.isNone = false) ∧
 ∀ (w : World) (base n i j : Nat) (v : Value) (zs : List Value), w.ownsRow base e size v n zs → (∀ x ∈ zs, x.oneCell' = true) → i < j → j ≤ n → n ≤ 4294967296 →
   Calls P f #[v, .int .i64 i, .int .i64 j] w fun x w' => ∃ u, x = .returned u ∧ w'.ownsRow base e size u (n - (j - i)) (zs.take (i * size) ++ zs.drop (j * size)) ∧ w.grownBy w' (blk v) ∧ blk u = blk v
theorem Cells.del {w w' : World} {O O' : Nat → Prop} {t : Ty} {xs : List t.T} {zs : List Value} {i j : Nat} (hz : zs.length = xs.length * t.size) (hij : i ≤ j) (hj : j ≤ xs.length)
  (h : Cells w O (fun p => zs[p]?) t xs) (hm : ∀ v A, RpS w O v A → RpS w' O' v A) : Cells w' O' (fun p => (zs.take (i * t.size) ++ zs.drop (j * t.size))[p]?) t (xs.take i ++ xs.drop j) := by
 obtain ⟨f, hf, hr⟩ := h
 have a1 : i * t.size ≤ j * t.size := Nat.mul_le_mul_right _ hij
 have a2 : j * t.size ≤ xs.length * t.size := Nat.mul_le_mul_right _ hj
 refine ⟨fun p => if p < i then f p else f (p - i + j), fun p hp => ?_, fun p x hx => ?_⟩
 · rw [List.length_append, List.length_take, List.length_drop] at hp
   by_cases h : p < i
   · simp only [h, if_true]
     refine ⟨(hf p (by omega)).1, fun l hl => ?_⟩
     rw [← (hf p (by omega)).2 l hl]
     have : (p + 1) * t.size ≤ i * t.size := Nat.mul_le_mul_right _ h
     rw [Nat.add_mul, Nat.one_mul] at this
     rw [List.getElem?_append_left (by rw [List.length_take]; omega), List.getElem?_take, if_pos (by omega)]
   · simp only [h, if_false]
     refine ⟨(hf (p - i + j) (by omega)).1, fun l hl => ?_⟩
     rw [← (hf (p - i + j) (by omega)).2 l hl]
     have : i * t.size ≤ p * t.size := Nat.mul_le_mul_right _ (by omega)
     have e : (zs.take (i * t.size)).length = i * t.size := by rw [List.length_take]; omega
     rw [List.getElem?_append_right (by omega), e, List.getElem?_drop]
     congr 1
     rw [Nat.add_mul, Nat.sub_mul]
     omega
 · by_cases h : p < i
   · simp only [h, if_true]
     rw [List.getElem?_append_left (by rw [List.length_take]; omega), List.getElem?_take, if_pos h] at hx
     exact hm _ _ (hr p x hx)
   · simp only [h, if_false]
     have e : (xs.take i).length = i := by rw [List.length_take]; omega
     rw [List.getElem?_append_right (by omega), e, List.getElem?_drop] at hx
     exact hm _ _ (hr (p - i + j) x (by rw [Nat.add_comm]; exact hx))
def idelVC (P : Program) (n : Nat) (Γ : Sy) (F : AV) (k i : Nat) (r : List AV) (D : Option Nat) (K : Sy → Prop) : Prop := match F, r, D with
  | .fn f [], [.lit (.int .i64 a), .lit (.int .i64 b)], some D => match isPl f with
   | false => False
   | true => match get? Γ.own k with
    | some (.mat e1 e2 τ fr xs none) => match ownNoI k Γ.own with
      | true => DelC P f e2 τ.size ∧ (D < n ∧ k % 2000000000 < 1000000000) ∧ i < xs.length ∧ (0 ≤ a ∧ a < b ∧ b.toNat ≤ (xs.getD i []).length ∧ (xs.getD i []).length ≤ 4294967296) ∧
          K ⟨set (mapv (AV.purgeI k) Γ.tmps) D (.inn k i), set Γ.own k (.mat e1 e2 τ fr (xs.set i ((xs.getD i []).take a.toNat ++ (xs.getD i []).drop b.toNat)) (some i))⟩
      | false => False
    | _ => False
  | _, _, _ => False
theorem idelVC.sound {P : Program} {c : Cx} {o : Oper} {Γ : Sy} {f : Operand} {ys : Array Operand} {ts : Array TypeId} {F : AV} {k i : Nat} {r : List AV} {K : Sy → Prop}
    (ho : o.op = .call { callee := .value f, args := ys, argTypes := ts }) (hf : Ev c Γ [] f F) (hl : (AV.inn k i :: r).length = ys.toList.length)
    (hx : ∀ (j : Nat) (x : Operand) (A : AV), ys.toList[j]? = some x → (AV.inn k i :: r)[j]? = some A → Ev c Γ [] x A) (h : idelVC P c.n Γ F k i r o.dst K) : ∃ Γ', Seq P c o Γ Γ' ∧ K Γ' := by
  unfold idelVC at h
  split at h
  · rename_i f' a b D hd0
    split at h
    · exact h.elim
    rename_i hF
    split at h
    · rename_i e1 e2 τ fr xs hk
      split at h
      · rename_i hnoI
        obtain ⟨hDel, ⟨hD, hlow⟩, hi, ⟨ha0, hab, hbn, hlen⟩, hK⟩ := h
        refine ⟨_, ?_, hK⟩
        clear hK
        obtain ⟨na, rfl⟩ : ∃ na : Nat, a = na := ⟨a.toNat, by omega⟩
        obtain ⟨nb, rfl⟩ : ∃ nb : Nat, b = nb := ⟨b.toNat, by omega⟩
        rw [Int.toNat_natCast] at hbn ⊢
        rw [Int.toNat_natCast]
        have hab : na < nb := by omega
        intro g a w next Q hst hkk
        match hys : ys.toList, hl with
        | [y0, y1, y2], _ =>
          have hx' := fun j x A h1 h2 => hx j x A (by rw [hys]; exact h1) h2
          have hA : a.eval y0 = sub (g k) i := hx' 0 y0 _ rfl rfl trivial Γ g a w rfl hst
          have hB1 : a.eval y1 = .int .i64 na := (hx' 1 y1 _ rfl rfl trivial Γ g a w rfl hst).1
          have hB2 : a.eval y2 = .int .i64 nb := (hx' 2 y2 _ rfl rfl trivial Γ g a w rfl hst).1
          obtain ⟨fc, vs, hf1, hf2, hf3⟩ := hf trivial Γ g a w rfl hst
          have hvs : vs = #[] := Array.eq_empty_of_size_eq_zero hf2
          subst hvs
          have hf1 : a.eval f = .func (.func f') #[] #[] := by rw [hf1]; unfold fnV; rw [hF]
          obtain ⟨⟨cells, c1, c2, c3⟩, hin, hdist, hdo⟩ := hst.hp.ok k _ hk
          obtain ⟨zs, hown, hone, hcells⟩ := hin i
          obtain ⟨⟨fn, hfn1, hfn2, hfn3⟩, hcall⟩ := hDel
          have hc := hcall w 0 (xs.getD i []).length na nb _ zs hown hone hab hbn hlen
          have hrun : (execOp a.eval o).run P w = .ok (.enter f' #[sub (g k) i, .int .i64 na, .int .i64 nb]) w := by
            have h8 : ¬ fn.name = "runtime.NumGoroutine" := by simpa using hfn2
            have h9 : ¬ fn.body = none := fun h => by rw [h] at hfn3; cases hfn3
            have hya : ys = #[y0, y1, y2] := by apply Array.ext'; simpa using hys
            simp [execOp, ho, resolve, hf1, Deferred.ofValue, invoke, callFunc, hfn1, h8, h9, hya, hA, hB1, hB2]
          unfold Oper.wp
          rw [hrun]
          refine hc.mono fun x w' he => ?_
          obtain ⟨u, rfl, g2, g3, g4'⟩ := he
          have g4 : ∀ b', blk u = some b' → blk (sub (g k) i) = some b' ∨ w.heap.size ≤ b' := fun b' h => .inl (by rw [← g4']; exact h)
          obtain ⟨v', v1, v2, v3⟩ := setSub (g k) i u
          have hub : ∀ b', blk u = some b' → Blk (g k) b' ∨ w.heap.size ≤ b' := fun b' hb' => (g4 b' hb').imp (fun h => .inr ⟨i, h⟩) id
          have hvb : ∀ b', Blk v' b' → Blk (g k) b' ∨ w.heap.size ≤ b' := by
            rintro b' (h1 | ⟨j, h1⟩)
            · rw [v1] at h1; exact .inl (.inl h1)
            · by_cases hj : j = i
              · rw [hj, v2] at h1; exact hub b' h1
              · rw [v3 j hj] at h1; exact .inl (.inr ⟨j, h1⟩)
          have hw : ∀ b', b' < w.heap.size → ¬ Blk (g k) b' → w'.heap[b']? = w.heap[b']? := fun b' hb' hn => g3.block b' hb' (fun h => hn (.inr ⟨i, h.symm⟩))
          have hO : ∀ b', Oset (set Γ.own k (.mat e1 e2 τ fr (xs.set i ((xs.getD i []).take na ++ (xs.getD i []).drop nb)) (some i))) (updg g k v') b' → Oset Γ.own g b' ∨ w.heap.size ≤ b' := by
            rintro b' ⟨j, o', h1, h2⟩
            rw [get?_set] at h1
            by_cases hj : j = k
            · subst hj
              simp only [updg, if_true] at h2
              rcases hvb b' h2 with h3 | h3
              · exact .inl ⟨j, _, hk, h3⟩
              · exact .inr h3
            · rw [if_neg hj] at h1
              simp only [updg, hj, if_false] at h2
              exact .inl ⟨j, o', h1, h2⟩
          have hm : ∀ (φ : Bool), (fr = true → φ = true) → ∀ v A, RpS w (Av (Oset Γ.own g) c.O0 φ) v A →
              RpS w' (Av (Oset (set Γ.own k (.mat e1 e2 τ fr (xs.set i ((xs.getD i []).take na ++ (xs.getD i []).drop nb)) (some i))) (updg g k v')) c.O0 fr) v A := by
            intro φ hφ v A h
            refine h.mono fun b' y e2 fz hb' hn => ⟨?_, fun h' => ?_⟩
            · rw [g3.block b' (heap_lt hb') (fun h' => hn (.inl ⟨k, _, hk, .inr ⟨i, h'.symm⟩⟩))]; exact hb'
            · rcases h' with h' | ⟨h', h''⟩
              · rcases hO b' h' with h' | h'
                · exact hn (.inl h')
                · exact absurd (heap_lt hb') (by omega)
              · exact hn (.inr ⟨hφ h', h''⟩)
          have frl : fr = true → fr = true := fun h => h
          have keepRow : ∀ {base e0 size n : Nat} {v : Value} {xs0 : List Value}, w.ownsRow base e0 size v n xs0 → blk v ≠ blk (sub (g k) i) ∨ blk v = none → w'.ownsRow base e0 size v n xs0 := by
            intro base e0 size n v xs0 h hne
            refine ownsRow_mono (fun b' hb' => ?_) h
            have hlt := (ownsRow_lt h hb').2
            refine g3.block b' hlt (fun e => ?_)
            rcases hne with hne | hne
            · exact hne (hb'.trans e)
            · rw [hne] at hb'; cases hb'
          have key := hst.mwrite (k := k) (o' := .mat e1 e2 τ fr (xs.set i ((xs.getD i []).take na ++ (xs.getD i []).drop nb)) (some i)) (v' := v') (w' := w') hk v1 hnoI g3.os g3.tape g3.output g3.size hw hvb
            ⟨⟨cells, ?_, c2, fun j hj hji => ?_⟩, fun j => ?_, fun j j' b' h1 h2 => ?_, fun j b' h1 h2 => ?_⟩ hlow
          · refine hkk (updg g k v') (a.put o.dst u) w' ?_
            rw [hd0]
            exact key.put (t := D) (A := .inn k i) hD (show u = sub (updg g k v' k) i by simp [updg, v2])
          · rw [List.length_set, v1]
            refine keepRow c1 ?_
            cases hb : blk (hd (g k)) with
            | none => exact .inr rfl
            | some b' => exact .inl fun e => hdo i b' e.symm hb
          · rw [List.length_set] at hj
            have hne : j ≠ i := fun e => hji (by rw [e])
            rw [v3 j hne]
            exact c3 j hj (by simp)
          · show RowOk _ _ _ _ _ _ _ _ ((xs.set i ((xs.getD i []).take na ++ (xs.getD i []).drop nb)).getD j [])
            rw [getD_set hi]
            by_cases hj : j = i
            · subst hj
              rw [if_pos rfl, v2]
              have e : ((xs.getD j []).take na ++ (xs.getD j []).drop nb).length = (xs.getD j []).length - (nb - na) := by rw [List.length_append, List.length_take, List.length_drop]; omega
              refine ⟨zs.take (na * τ.size) ++ zs.drop (nb * τ.size), by rw [e]; exact g2, fun u hu => (List.mem_append.1 hu).elim (fun h => hone u (List.mem_of_mem_take h)) (fun h => hone u (List.mem_of_mem_drop h)), Cells.del hown.1 (Nat.le_of_lt hab) hbn hcells (hm fr frl)⟩
            · rw [if_neg hj, v3 j hj]
              obtain ⟨zs', hown', hone', f, hf1, hf2⟩ := hin j
              refine ⟨zs', keepRow hown' ?_, hone', f, hf1, fun p x hx => hm fr frl _ _ (hf2 p x hx)⟩
              cases hb : blk (sub (g k) j) with
              | none => exact .inr rfl
              | some b' => exact .inl fun e => hj (hdist j i b' hb e.symm)
          · -- the inner rows stay apart
            have old : ∀ p, p ≠ i → blk (sub v' p) = some b' → b' < w.heap.size := fun p hp hb => by
              rw [v3 p hp] at hb
              obtain ⟨zs', hown', _⟩ := hin p
              exact (ownsRow_lt hown' hb).2
            by_cases hj : j = i <;> by_cases hj' : j' = i
            · rw [hj, hj']
            · subst hj
              have hlt := old j' hj' h2
              rw [v2] at h1
              rw [v3 j' hj'] at h2
              rcases g4 b' h1 with h3 | h3
              · exact hdist j j' b' h3 h2
              · omega
            · subst hj'
              have hlt := old j hj h1
              rw [v2] at h2
              rw [v3 j hj] at h1
              rcases g4 b' h2 with h3 | h3
              · exact hdist j j' b' h1 h3
              · omega
            · rw [v3 j hj] at h1
              rw [v3 j' hj'] at h2
              exact hdist j j' b' h1 h2
          · rw [v1] at h2
            have hlt := (ownsRow_lt c1 h2).2
            by_cases hj : j = i
            · subst hj
              rw [v2] at h1
              rcases g4 b' h1 with h3 | h3
              · exact hdo j b' h3 h2
              · omega
            · rw [v3 j hj] at h1
              exact hdo j b' h1 h2
      · exact h.elim
    · exact h.elim
  · exact h.elim
theorem callM_at {P : Program} {f : Nat} {A0 : List AV} {N0 : List (Nat × Ob)} {R : AV} {N : List (Nat × Ob)} (h : FnM P f A0 N0 R N) {K : List AV → List (Nat × Ob) → AV → List (Nat × Ob) → Prop} (h5 : K A0 N0 R N) :
  ∃ (A0 : List AV) (N0 : List (Nat × Ob)) (R : AV) (N : List (Nat × Ob)), FnM P f A0 N0 R N ∧ K A0 N0 R N := ⟨A0, N0, R, N, h, h5⟩
theorem Path.ok_suffix {p G : Path} (hG : G.ok) (h : G.drop (G.length - p.length) = p) : p.ok := by
 rw [← h]
 exact Path.ok_drop _ hG
def stripVC (Γ : Sy) (G : Path) : List Operand → (Sy → Prop) → Prop
 | [], K => K Γ
 | .tmp t :: r, K => match get? Γ.tmps t with
  | some (.gd p A) => G.drop (G.length - p.length) = p ∧ stripVC ⟨set Γ.tmps t A, Γ.own⟩ G r K
  | _ => stripVC Γ G r K
 | _ :: r, K => stripVC Γ G r K
theorem stripVC_st {c : Cx} {G : Path} (hG : G.ok) {K : Sy → Prop} : ∀ {l : List Operand} {Γ : Sy}, stripVC Γ G l K → ∃ Γs, K Γs ∧ ∀ g a w, St c Γ g a w → St c Γs g a w
 | [], Γ, h => ⟨Γ, h, fun _ _ _ h => h⟩
 | .tmp t :: r, Γ, h => by
  simp only [stripVC] at h
  split at h
  · rename_i p A hA
    obtain ⟨h1, h2⟩ := h
    obtain ⟨Γs, h3, h4⟩ := stripVC_st hG h2
    refine ⟨Γs, h3, fun g a w hst => h4 g a w ?_⟩
    refine ⟨hst.defers, hst.size, hst.keep, hst.o0, fun t' A' hA' => ?_, hst.kept, hst.hp, hst.low, hst.pin⟩
    simp only [get?_set] at hA'
    split at hA'
    · rename_i e
      cases hA'
      subst e
      exact Rp.of2 ((hst.tmps _ _ hA).1 (Path.ok_suffix hG h1))
    · exact hst.tmps t' A' hA'
  · exact stripVC_st hG h
 | .const _ :: r, Γ, h => stripVC_st hG (l := r) h
 | .func _ :: r, Γ, h => stripVC_st hG (l := r) h
 | .global _ :: r, Γ, h => stripVC_st hG (l := r) h
def wantVC (P : Program) (T : List (Nat × TE)) (n : Nat) (o : Oper) (Γ : Sy) (K : Sy → Prop) : Prop := match isMut o || isMade [] o with
 | true => mutVC T n Γ (1000 * (o.dst.getD 0 + 1)) o K
 | false => match o.dst with
  | some t => pureVC P T Γ false [] (1000 * (t + 1)) o fun A N => ck (Nat.blt t n && freeB Γ N) (K (Γ.putA t A N))
  | none => False
def oneVC (P : Program) (T : List (Nat × TE)) (F : List Nat) (n : Nat) (dsts : List (Option Nat)) (o : Oper) (Γ : Sy) (K : Sy → Prop) : Prop := match isMut o || isMade F o with
 | true => match o.guard with
  | none => mutVC T n Γ (1000 * (o.dst.getD 0 + 1)) o K
  | some _ => False
 | false => match guardOf dsts Γ o.guard with
  | none => False
  | some G => match o.dst with
   | none => pureVC P T Γ false G 0 o fun A N => match G, freeB Γ N with
    | [], true => K ⟨Γ.tmps, N ++ Γ.own⟩
    | _, _ => False
   | some t => pureVC P T Γ (memN t F) G (1000 * (t + 1)) o fun A N => match Nat.blt t n && freeB Γ N with
    | true => K (Γ.putA t (gd' G A) N)
    | false => False
theorem oneVC_ops {P : Program} {T : List (Nat × TE)} {F : List Nat} {n : Nat} {dsts : List (Option Nat)} {o : Oper} {i : Nat} {Γ : Sy} {K : Sy → Prop} (h : oneVC P T F n dsts o Γ K) : opsVC P T F n dsts [] [o] i 0 Γ K := by
 unfold oneVC at h
 simp only [opsVC, memN]
 split at h
 · rename_i h1
   simp only [h1]
   split at h
   · rename_i h2; simp only [h2]; exact h
   · exact h.elim
 · rename_i h1
   simp only [h1]
   split at h
   · exact h.elim
   · rename_i G h2
     simp only [h2]
     split at h
     · rename_i h3; simp only [h3]; exact h
     · rename_i t h3; simp only [h3]; exact h
def callMI (P : Program) (n : Nat) (Γ : Sy) (d : Nat) (F : AV) (l : List AV) (D : Option Nat) (K : Sy → Prop) : Prop := match l with
 | .inn k i :: r => idelVC P n Γ F k i r D K
 | l => callM P n Γ d F l D K
theorem callMI.sound {P : Program} {c : Cx} {o : Oper} {Γ : Sy} {d : Nat} {f : Operand} {xs : Array Operand} {ts : Array TypeId} {F : AV} {l : List AV} {K : Sy → Prop}
  (ho : o.op = .call { callee := .value f, args := xs, argTypes := ts }) (hf : Ev c Γ [] f F) (hl : l.length = xs.toList.length)
  (hx : ∀ (i : Nat) (x : Operand) (A : AV), xs.toList[i]? = some x → l[i]? = some A → Ev c Γ [] x A) (h : callMI P c.n Γ d F l o.dst K) : ∃ Γ', Seq P c o Γ Γ' ∧ K Γ' := by
 unfold callMI at h
 split at h
 · exact idelVC.sound ho hf hl hx h
 · exact callM.sound ho hf hl hx h
def stepVC (P : Program) (T : List (Nat × TE)) (F Ms : List Nat) (n : Nat) (ops : Array Oper) (i : Nat) (o : Oper) (Γ : Sy) (K : Sy → Prop) : Prop := match memN i Ms with
  | true => match guardOf (dstsOf ops) Γ o.guard with
    | none => False
    | some G => (G.ok ∧ stripVC Γ G o.op.operands.toList fun Γs => match o.op with
        | .call c => match c.callee with
          | .value f => withOp Γs [] f fun Fv => withOps Γs [] c.args.toList fun l => callMI P n Γs (1000 * (o.dst.getD 0 + 1)) Fv l o.dst K
          | _ => wantVC P T n o Γs K
        | _ => wantVC P T n o Γs K) ∨ (¬ G.ok ∧ match o.dst with
        | some t => ck (Nat.blt t n) (K (Γ.putB t (gd' G (.lit (.bool false)))))
        | none => False)
  | false => oneVC P T F n (dstsOf ops) o Γ K
theorem want_sound {P : Program} {T : List (Nat × TE)} (hT : TOk P T) {c : Cx} {K : Sy → Prop} {o : Oper} {Γ : Sy} (h : wantVC P T c.n o Γ K) :
  ∃ Γ', (∀ (g : Nat → Value) (a : Act) (w : World) (K' : Act → World → Prop) (Q : Exit → Act → World → Prop), St c Γ g a w → (∀ g' a' w', St c Γ' g' a' w' → K' a' w') → o.wp P a w K' Q) ∧ K Γ' := by
 unfold wantVC at h
 split at h
 · obtain ⟨Γ1, h1, h2⟩ := mutVC.sound hT h
   exact ⟨Γ1, fun g a w K' Q hst hK => h1 g a w _ _ hst hK, h2⟩
 · split at h
   · rename_i t hd
     obtain ⟨A, N, h1, h2, h6⟩ := pureVC.sound (c := c) hT h
     obtain ⟨h3, h4⟩ := ck_ok h6
     rw [Bool.and_eq_true] at h3
     refine ⟨_, fun g a w K' Q hst hK => ?_, h4⟩
     refine h1 trivial Γ g a w _ _ (fun _ _ => rfl) (fun _ _ h => h) (freeB_free h3.2) hst fun g' v w' h6 h7 => ?_
     rw [hd]
     refine hK g' _ w' ((h6.put (Nat.le_of_ble_eq_true h3.1) (A := A) (Rp.of2 h7)).congr (fun _ => rfl) (fun _ => rfl))
   · exact h.elim
theorem step_sound {P : Program} {T : List (Nat × TE)} {F Ms : List Nat} (hT : TOk P T) {c : Cx} {ops : Array Oper} {K : Sy → Prop} {i : Nat} {o : Oper} {Γ : Sy} (hoi : ops[i]? = some o) (h : stepVC P T F Ms c.n ops i o Γ K) :
  ∃ Γ', StepOk P c ops i Γ Γ' ∧ K Γ' := by
 unfold stepVC at h
 split at h
 · split at h
   · exact h.elim
   rename_i G hG
   rcases h with ⟨hok, h⟩ | ⟨hno, h⟩
   · obtain ⟨Γs, h, hstrip⟩ := stripVC_st (c := c) hok h
     have fin : (∃ Γ', (∀ (g : Nat → Value) (a : Act) (w : World) (K' : Act → World → Prop) (Q : Exit → Act → World → Prop), St c Γs g a w → (∀ g' a' w', St c Γ' g' a' w' → K' a' w') → o.wp P a w K' Q) ∧ K Γ') → ∃ Γ', StepOk P c ops i Γ Γ' ∧ K Γ' := by
      rintro ⟨Γ', h6, h7⟩
      refine ⟨Γ', ?_, h7⟩
      intro Q g a w K' hst hK
      unfold wpOp
      rw [hoi]
      dsimp only
      rw [if_pos ((guardOf.wanted (ops := ops) hst hG).2 hok)]
      exact .inl (h6 g a w _ _ (hstrip _ _ _ hst) hK)
     split at h
     · rename_i cl hop
       split at h
       · rename_i f hcl
         obtain ⟨Fv, h1, h2⟩ := withOp.ev (c := c) h
         obtain ⟨l, h3, h4, h5⟩ := withOps.ev (c := c) h2
         have ho : o.op = .call { callee := .value f, args := cl.args, argTypes := cl.argTypes } := by rw [hop]; cases cl; dsimp only at hcl ⊢; rw [hcl]
         obtain ⟨Γ', h6, h7⟩ := callMI.sound ho h1 h3 h4 h5
         exact fin ⟨Γ', fun g a w K' Q hst hK => h6 g a w _ _ hst hK, h7⟩
       · exact fin (want_sound hT h)
     · exact fin (want_sound hT h)
   · split at h
     · rename_i t ht
       obtain ⟨h1, h2⟩ := ck_ok h
       refine ⟨_, ?_, h2⟩
       intro Q g a w K' hst hK
       unfold wpOp
       rw [hoi]
       dsimp only
       rw [if_neg (fun h => hno ((guardOf.wanted (ops := ops) hst hG).1 h)), ht]
       refine hK g _ w ((hst.put (Nat.le_of_ble_eq_true h1) (A := gd' G (.lit (.bool false))) ?_).congr (fun _ => rfl) (fun _ => rfl))
       cases G with
       | nil => exact absurd trivial hno
       | cons x r => exact ⟨fun h => absurd h hno, fun _ => rfl⟩
     · exact h.elim
 · exact one_sound hT hoi (oneVC_ops h)
noncomputable def seqM (P : Program) (T : List (Nat × TE)) (F Ms : List Nat) (n : Nat) (ops : Array Oper) (l : List Oper) : Nat → Sy → (Sy → Prop) → Prop :=
 List.rec (motive := fun _ => Nat → Sy → (Sy → Prop) → Prop) (fun _ Γ K => K Γ) (fun o _ ih i Γ K => stepVC P T F Ms n ops i o Γ fun Γ' => ih (i + 1) Γ' K) l
theorem seqM_sound {P : Program} {T : List (Nat × TE)} {F Ms : List Nat} (hT : TOk P T) {c : Cx} {ops : Array Oper} {K : Sy → Prop} {Q : Exit → Act → World → Prop} (hQ : ∀ Γ' g' a' w', K Γ' → St c Γ' g' a' w' → Q .normal a' w') :
  ∀ (l : List Oper) (i : Nat) (Γ : Sy) (g : Nat → Value) (a : Act) (w : World), ops.toList.drop i = l → seqM P T F Ms c.n ops l i Γ K → St c Γ g a w → wpOps P ops Q (List.range' i l.length) a w
 | [], i, Γ, g, a, w, _, h, hst => hQ Γ g a w h hst
 | o :: r, i, Γ, g, a, w, hl, h, hst => by
  have hoi : ops[i]? = some o := by
   have : ops.toList[i]? = some o := by
    have := congrArg (fun l => l[0]?) hl
    simpa [List.getElem?_drop] using this
   simpa using this
  have hr : ops.toList.drop (i + 1) = r := by
   have := congrArg List.tail hl
   simpa [List.tail_drop] using this
  obtain ⟨Γ', h1, h2⟩ := step_sound hT hoi h
  rw [List.length_cons, List.range'_succ, wpOps_cons]
  exact h1 Q g a w _ hst fun g' a' w' hs' => seqM_sound hT hQ r (i + 1) Γ' g' a' w' hr h2 hs'
theorem W.regionM {P : Program} {n : Nat} {Q : Exit → Sy → Prop} {Γ : Sy} {T : List (Nat × TE)} (hT : TOk P T) (F Ms : List Nat) {id : Nat} {ops : Array Oper} (h : seqM P T F Ms n ops ops.toList 0 Γ (Q .normal)) : W P n (.region id ops false) Γ Q := by
 refine ⟨fun c g a w hn hst => wp_region ?_⟩
 rw [List.range_eq_range']
 have := seqM_sound (c := c) (ops := ops) (Q := fun e a' w' => ∃ Γ' g', Q e Γ' ∧ St c Γ' g' a' w') hT (fun Γ' g' a' w' h1 h2 => ⟨Γ', g', h1, h2⟩) ops.toList 0 Γ g a w (by simp) (by rw [hn]; exact h) hst
 simpa using this
noncomputable def treeM (P : Program) (T : List (Nat × TE)) (F Ms : List Nat) (n : Nat) (ops : Array Oper) (E : List Nat) (k : Nat) : Nat → Sy → (Nat → Sy → Prop) → Prop :=
 Nat.rec (motive := fun _ => Nat → Sy → (Nat → Sy → Prop) → Prop) (fun done Γ K => K done Γ) (fun _ ih done Γ K => eachP (rdy done E 0) fun i => match ops[i]? with
  | some o => stepVC P T F Ms n ops i o Γ fun Γ' => ih (Nat.lor done (2 ^ i)) Γ' K
  | none => False) k
theorem treeM_sound {P : Program} {T : List (Nat × TE)} {F Ms : List Nat} (hT : TOk P T) {c : Cx} {ops : Array Oper} {E : List Nat} (hE : dirms ops = E) {K : Nat → Sy → Prop} {Q : Exit → Act → World → Prop} {m : Nat}
  (hQ : ∀ (listed : Array Bool) done Γ' g' a' w', listed.size = ops.size → cnt listed = m → (∀ j, j < ops.size → listed[j]? = some (done.testBit j)) → K done Γ' → St c Γ' g' a' w' → wpAnyH P .any ops Q c.S m listed a' w')
  (hed : ∀ j o, ops[j]? = some o → ∀ e ∈ o.after, Region.binds .any e = true → e.on < j) :
  ∀ (k : Nat) (listed : Array Bool) (done : Nat) (Γ : Sy) (g : Nat → Value) (a : Act) (w : World), listed.size = ops.size → cnt listed = k + m → (∀ j, j < ops.size → listed[j]? = some (done.testBit j)) →
    treeM P T F Ms c.n ops E k done Γ K → St c Γ g a w → wpAnyH P .any ops Q c.S (k + m) listed a w := by
 intro k
 induction k with
 | zero =>
  intro listed done Γ g a w hsz hc hd h hst
  rw [Nat.zero_add] at hc ⊢
  exact hQ listed done Γ g a w hsz hc hd h hst
 | succ k ih =>
  intro listed done Γ g a w hsz hc hd h hst
  rw [show k + 1 + m = (k + m) + 1 from by omega] at hc ⊢
  refine ⟨fun hrd => ?_, fun i hi => ?_⟩
  · obtain ⟨i, h1, h2⟩ := cnt_pos (listed := listed) (by omega)
    have hi : i < ops.size := by rw [← hsz]; exact (Array.getElem?_eq_some_iff.1 h1).1
    have : i ∈ Region.ready .any ops listed := ready_mem.2 ⟨hi, by simp [Array.getD_eq_getD_getElem?, h1], fun o ho e he hb => by
     have := h2 e.on (hed i o ho e he hb)
     simp [Array.getD_eq_getD_getElem?, this]⟩
    rw [hrd] at this; cases this
  · obtain ⟨h1, h2, h3⟩ := ready_mem.1 hi
    have hoi : ops[i]? = some ops[i] := by simp [h1]
    have hdi : done.testBit i = false := by
     have := hd i h1
     simp only [Array.getD_eq_getD_getElem?, this, Option.getD_some] at h2
     exact h2
    have hEi : E[i]? = some (dirm (ops[i]).after.toList 0) := by
     rw [← hE, dirms, List.getElem?_map]
     simp [h1]
    have hm := rdy_mem (done := done) (i := i) (s := 0) hEi (by rw [Nat.zero_add]; exact hdi) fun j hj => by
     rcases dirm_bit hj with h4 | ⟨e, he, hb, rfl⟩
     · simp at h4
     · have h5 := h3 _ hoi e (by simpa using he) hb
       have h6 := hed i _ hoi e (by simpa using he) hb
       have h7 := hd e.on (by omega)
       simp only [Array.getD_eq_getD_getElem?, h7, Option.getD_some] at h5
       exact h5
    rw [Nat.zero_add] at hm
    have h4 := eachP_mem h i hm
    rw [hoi] at h4
    obtain ⟨Γ', h5, h6⟩ := step_sound hT hoi h4
    have hlf : listed[i]? = some false := by rw [hd i h1, hdi]
    refine h5 Q g a w _ hst fun g' a' w' h7 => ⟨h7.s, ih _ (Nat.lor done (2 ^ i)) Γ' g' a' w' (by simp [hsz]) (by have := cnt_set hlf; omega) (fun j hj => ?_) h6 h7⟩
    show _ = some ((done ||| 2 ^ i).testBit j)
    rw [Nat.testBit_or, Nat.testBit_two_pow]
    by_cases e : i = j
    · subst e
      rw [Array.getElem?_setIfInBounds_self_of_lt (by omega)]
      simp
    · rw [Array.getElem?_setIfInBounds_ne e, hd j hj]
      simp [e]
noncomputable def phM (P : Program) (T : List (Nat × TE)) (F Ms : List Nat) (n : Nat) (ops : Array Oper) (E : List Nat) (l : List (List Nat × Nat × Nat)) : Nat → Sy → (Sy → Prop) → Prop :=
 List.rec (motive := fun _ => Nat → Sy → (Sy → Prop) → Prop) (fun _ Γ K => K Γ) (fun x _ ih done Γ K => floatVC T n ops x.1 Γ fun Γ1 => treeM P T F Ms n ops E x.2.1 (addM done x.1) Γ1 fun d' Γ' => ck (Nat.beq d' x.2.2) (ih x.2.2 Γ' K)) l
theorem phM_sound {P : Program} {T : List (Nat × TE)} {F Ms : List Nat} (hT : TOk P T) {ops : Array Oper} {E : List Nat} (hE : dirms ops = E) {K : Sy → Prop} {Q : Exit → Act → World → Prop} (hs : Region.noSelect ops = true) (hQp : ∀ x a w, ¬ Q (.panic x) a w)
  (hed : ∀ j o, ops[j]? = some o → ∀ e ∈ o.after, Region.binds .any e = true → e.on < j) (c0 : Cx) (hQ : ∀ Γ' g' a' w' K', K Γ' → (∀ b x, c0.K b = some x → K' b = some x) → St { c0 with K := K' } Γ' g' a' w' → Q .normal a' w') :
  ∀ (ph : List (List Nat × Nat × Nat)) (K0 : Nat → Option (Array Value × TypeId × (Nat × Nat))) (listed : Array Bool) (done : Nat) (Γ : Sy) (g : Nat → Value) (a : Act) (w : World), (∀ b x, c0.K b = some x → K0 b = some x) → listed.size = ops.size →
    (∀ j, j < ops.size → listed[j]? = some (done.testBit j)) → phOk ops ph done = true → phM P T F Ms c0.n ops E ph done Γ K → St { c0 with K := K0 } Γ g a w → wpAnyH P .any ops Q (Cx.S { c0 with K := K0 }) (cnt listed) listed a w
 | [], K0, listed, done, Γ, g, a, w, hK0, hsz, hd, hok, h, hst => by
  have hall : ∀ i, i < listed.size → listed[i]? = some true := fun i hi => by
   have := allBelow_get hok i (by omega)
   rw [hd i (by omega), this]
  have hc : cnt listed = 0 := by
   refine Classical.byContradiction fun hne => ?_
   obtain ⟨i, h1, _⟩ := cnt_pos (listed := listed) (by omega)
   have hi := (Array.getElem?_eq_some_iff.1 h1).1
   rw [hall i hi] at h1
   cases h1
  rw [hc]
  refine ⟨List.eq_nil_iff_forall_not_mem.2 fun i hi => ?_, hQ Γ g a w K0 h hK0 hst⟩
  obtain ⟨h1, h2, _⟩ := ready_mem.1 hi
  have := hall i (by omega)
  simp [Array.getD_eq_getD_getElem?, this] at h2
 | (L, k, d) :: r, K0, listed, done, Γ, g, a, w, hK0, hsz, hd, hok, h, hst => by
  simp only [phOk, Bool.and_eq_true] at hok
  obtain ⟨⟨⟨⟨hf, honce⟩, hnew⟩, hle⟩, hrest⟩ := hok
  have harr := arrOf_eq hsz hd
  rw [← harr] at hf hle
  have hle := Nat.le_of_ble_eq_true hle
  obtain ⟨K1, hK1, hK2⟩ := keepAll w (Oset Γ.own g)
  have hsub : ∀ b x, K0 b = some x → K1 b = some x := fun b x hb => hK2 b _ _ _ (hst.kept b x hb).1 (hst.kept b x hb).2
  have hst1 : St { c0 with K := K1 } Γ g a w := ⟨hst.defers, hst.size, hst.keep, hst.o0, hst.tmps, hK1, hst.hp, hst.low, hst.pin⟩
  refine wpAnyH_sub (S' := Cx.S { c0 with K := K1 }) (fun w' h' b x hb => h' b x (hsub b x hb)) _ _ _ _ ?_
  have hun : ∀ i, memN i L = true → listed[i]? = some false := fun i hi => by
   have hlt := listOnce_lt honce i hi
   have h1 := allBelow_get hnew i hlt
   rw [hd i hlt]
   simp only [hi, Bool.true_and, Bool.not_eq_true'] at h1
   rw [h1]
  have hcn := cnt_listAll (L := L) (l := listed) honce hsz hun
  have hgo := floats (P := P) (c := { c0 with K := K1 }) (w := w) (Q := Q) hT hs hQp hK2 L listed Γ a (cnt (listAll L listed)) rfl hf h hst1
  rw [hcn] at hgo
  refine hgo fun Γ1 a1 h1 hst2 => ?_
  obtain ⟨m, hm⟩ : ∃ m, cnt (listAll L listed) = k + m := ⟨cnt (listAll L listed) - k, by omega⟩
  rw [hm]
  refine treeM_sound (c := { c0 with K := K1 }) hT hE (m := m) (fun listed' done' Γ' g' a' w' hsz' hc' hd' hk' hst' => ?_) hed k _ (addM done L) Γ1 g a1 _ (by rw [listAll_size]; exact hsz) hm (fun j hj => ?_) h1 hst2
  · obtain ⟨h2, h3⟩ := ck_ok hk'
    have h2 := Nat.eq_of_beq_eq_true h2
    rw [h2] at hd'
    have := phM_sound hT hE hs hQp hed c0 hQ r K1 listed' d Γ' g' a' w' (fun b x hb => hsub b x (hK0 b x hb)) hsz' hd' hrest h3 hst'
    rw [hc'] at this
    exact this
  · rw [listAll_get (by omega), addM_bit]
    cases hmm : memN j L with
    | true => simp
    | false => simp [hd j hj]
theorem W.drawMK {P : Program} {n : Nat} {Q : Exit → Sy → Prop} {Γ : Sy} {T : List (Nat × TE)} (hT : TOk P T) (F Ms : List Nat) (hmx : P.follows .mixedOrders = true) (E : List Nat) (ph : List (List Nat × Nat × Nat)) {id : Nat} {ops : Array Oper} {K : Sy → Prop}
  (hK : ∀ c Γ' g' a' w', K Γ' → St c Γ' g' a' w' → ∃ Γ'' g'', Q .normal Γ'' ∧ St c Γ'' g'' a' w')
  (hd : (allBelow ops.size (fun j => match ops[j]? with
   | none => false
   | some o => edgesLt j o.after.toList) && (dirms ops == E) && phOk ops ph 0 && Region.noSelect ops) = true)
  (h : phM P T F Ms n ops E ph 0 Γ K) : W P n (.region id ops true) Γ Q := by
 simp only [Bool.and_eq_true] at hd
 obtain ⟨⟨⟨hall, hE⟩, hok⟩, hsel⟩ := hd
 have hE : dirms ops = E := by simpa using hE
 have hed : ∀ j o, ops[j]? = some o → ∀ e ∈ o.after, Region.binds .any e = true → e.on < j := by
  intro j o ho
  have hlt := (Array.getElem?_eq_some_iff.1 ho).1
  have h1 := allBelow_get hall j hlt
  rw [ho] at h1
  exact fun e he hb => edgesLt_get h1 (by simpa using he) hb
 refine ⟨fun c g a w hn hst => ?_⟩
 have key : (Code.region id ops true).wp P (fun e a' w' => match e with | .normal => ∃ Γ' g', K Γ' ∧ St c Γ' g' a' w' | _ => False) a w := by
  refine wp_region_held (S := c.S) hmx ?_
  have hcr : cnt (Array.replicate ops.size false) = ops.size := by simp [cnt, List.filter_replicate]
  have hmain := phM_sound (K := K) (Q := fun e a' w' => match e with | .normal => ∃ Γ' g', K Γ' ∧ St c Γ' g' a' w' | _ => False) hT hE hsel (fun _ _ _ h => h) hed c (fun Γ' g' a' w' K' hq hK' hst' =>
   ⟨Γ', g', hq, hst'.defers, hst'.size, hst'.keep, hst'.o0, hst'.tmps, fun b x hb => hst'.kept b x (hK' b x hb), hst'.hp, hst'.low, hst'.pin⟩) ph c.K (Array.replicate ops.size false) 0 Γ g a { w with drawn := w.drawn + 1 } (fun _ _ h => h) (by simp) (fun j hj => by simp [hj]) hok (by rw [hn]; exact h) (hst.keepW (Keep.drew w))
  rw [hcr] at hmain
  exact hmain
 refine wp_mono key fun e a' w' hq => ?_
 cases e with
 | normal =>
  obtain ⟨Γ', g', h1, h2⟩ := hq
  exact hK c Γ' g' a' w' h1 h2
 | _ => exact hq.elim
theorem W.drawM {P : Program} {n : Nat} {Q : Exit → Sy → Prop} {Γ : Sy} {T : List (Nat × TE)} (hT : TOk P T) (F Ms : List Nat) (hmx : P.follows .mixedOrders = true) (E : List Nat) (ph : List (List Nat × Nat × Nat)) {id : Nat} {ops : Array Oper}
  (hd : (allBelow ops.size (fun j => match ops[j]? with
   | none => false
   | some o => edgesLt j o.after.toList) && (dirms ops == E) && phOk ops ph 0 && Region.noSelect ops) = true)
  (h : phM P T F Ms n ops E ph 0 Γ fun Γ' => Q .normal Γ') : W P n (.region id ops true) Γ Q :=
 W.drawMK hT F Ms hmx E ph (K := fun Γ' => Q .normal Γ') (fun c Γ' g' a' w' h1 h2 => ⟨Γ', g', h1, h2⟩) hd h
theorem W.drawMTo {P : Program} {n : Nat} {Q : Exit → Sy → Prop} {Γ : Sy} {T : List (Nat × TE)} (hT : TOk P T) (F Ms : List Nat) (hmx : P.follows .mixedOrders = true) (E : List Nat) (ph : List (List Nat × Nat × Nat)) (Γ2 : Sy) {id : Nat} {ops : Array Oper}
  (hd : (allBelow ops.size (fun j => match ops[j]? with
   | none => false
   | some o => edgesLt j o.after.toList) && (dirms ops == E) && phOk ops ph 0 && Region.noSelect ops) = true)
  (h : phM P T F Ms n ops E ph 0 Γ fun Γ' => Leaf (Sub Γ' Γ2 (mkRen Γ' Γ2))) (hnext : Q .normal Γ2) : W P n (.region id ops true) Γ Q :=
 W.drawMK hT F Ms hmx E ph (K := fun Γ' => Leaf (Sub Γ' Γ2 (mkRen Γ' Γ2))) (fun c Γ' g' a' w' h1 h2 => by
  obtain ⟨hs⟩ := h1
  exact ⟨Γ2, _, hnext, hs.st h2⟩) hd h
theorem len_int (k : IntKind) (xs : List Int) : @List.length (Ty.int k).T xs = @List.length Int xs := Eq.trans rfl rfl
theorem len_sl (k : IntKind) (xs : List (List Int)) : @List.length (Ty.sl (Ty.int k)).T xs = @List.length (List Int) xs := Eq.trans rfl rfl
theorem len_bool (xs : List Bool) : @List.length Ty.bool.T xs = @List.length Bool xs := Eq.trans rfl rfl
theorem getD_bool (xs : List Bool) (i : Nat) : @List.getD Ty.bool.T xs i Ty.bool.dflt = @List.getD Bool xs i false := Eq.trans rfl rfl
theorem getD_sl (k : IntKind) (xs : List (List Int)) (i : Nat) : @List.getD (Ty.sl (Ty.int k)).T xs i (Ty.sl (Ty.int k)).dflt = @List.getD (List Int) xs i [] := Eq.trans rfl rfl
theorem getD_int (k : IntKind) (xs : List Int) (i : Nat) : @List.getD (Ty.int k).T xs i (Ty.int k).dflt = @List.getD Int xs i 0 := Eq.trans rfl rfl
theorem zHB : (∀ {α : Type} {x : α} {xs : List α} {d : α}, (x :: xs).getD 0 d = x) ∧ (∀ {α : Type} {x : α} {xs : List α} {n : Nat} {d : α}, (x :: xs).getD (n + 1) d = xs.getD n d) ∧
  (∀ (k : IntKind) (xs : List Int) (i : Nat), @List.getD (Ty.int k).T xs i (Ty.int k).dflt = @List.getD Int xs i 0) ∧ (∀ (k : IntKind) (xs : List (List Int)) (i : Nat), @List.getD (Ty.sl (Ty.int k)).T xs i (Ty.sl (Ty.int k)).dflt = @List.getD (List Int) xs i []) ∧
  (∀ (xs : List Bool) (i : Nat), @List.getD Ty.bool.T xs i Ty.bool.dflt = @List.getD Bool xs i false) ∧ (∀ (k : IntKind) (xs : List Int), @List.length (Ty.int k).T xs = @List.length Int xs) ∧
  (∀ (k : IntKind) (xs : List (List Int)), @List.length (Ty.sl (Ty.int k)).T xs = @List.length (List Int) xs) ∧ (∀ (xs : List Bool), @List.length Ty.bool.T xs = @List.length Bool xs) ∧
  (∀ {p : Prop} [Decidable p], (decide p = true) = p) ∧ (∀ {p : Prop} {x : Decidable p}, decide p = false ↔ ¬p) ∧ (∀ (a b : Bool), ((a && b) = true) = (a = true ∧ b = true)) ∧ (∀ (a b : Bool), ((a || b) = true) = (a = true ∨ b = true)) ∧
  (∀ {x y : Bool}, (x && y) = false ↔ x = false ∨ y = false) ∧ (∀ {x y : Bool}, (x || y) = false ↔ x = false ∧ y = false) ∧ (∀ (b : Bool), ((!b) = true) = (b = false)) ∧ (∀ (b : Bool), ((!b) = false) = (b = true)) ∧
  (true = false) = False ∧ (false = true) = False ∧ (∀ (n : Nat), (n : Int).toNat = n) ∧ (∀ {n m : Nat}, (n : Int) < (m : Int) ↔ n < m) ∧ (∀ {m n : Nat}, (m : Int) ≤ (n : Int) ↔ m ≤ n) ∧
  (¬True) = False ∧ (¬False) = True ∧ (∀ (p : Prop), (p ∨ False) = p) ∧ (∀ (p : Prop), (False ∨ p) = p) ∧ (∀ (p : Prop), (p ∧ True) = p) ∧ (∀ (p : Prop), (True ∧ p) = p) ∧
  (∀ (p : Prop), (p ∨ True) = True) ∧ (∀ (p : Prop), (True ∨ p) = True) ∧ (∀ (p : Prop), (p ∧ False) = False) ∧ ∀ (p : Prop), (False ∧ p) = False :=
 ⟨@List.getD_cons_zero, @List.getD_cons_succ, @getD_int, @getD_sl, @getD_bool, @len_int, @len_sl, @len_bool, @decide_eq_true_eq, @decide_eq_false_iff_not, @Bool.and_eq_true, @Bool.or_eq_true, @Bool.and_eq_false_iff, @Bool.or_eq_false_iff, @Bool.not_eq_true', @Bool.not_eq_false', @Bool.true_eq_false, @Bool.false_eq_true,
  @Int.toNat_natCast, @Int.ofNat_lt, @Int.ofNat_le, @not_true_eq_false, @not_false_eq_true, @or_false, @false_or, @and_true, @true_and, @or_true, @true_or, @and_false, @false_and⟩
theorem seqM_app {P : Program} {T : List (Nat × TE)} {F Ms : List Nat} (hT : TOk P T) {c : Cx} {ops : Array Oper} {K : Sy → Prop} {Q : Exit → Act → World → Prop} {rest : List Nat}
  (hQ : ∀ Γ' g' a' w', K Γ' → St c Γ' g' a' w' → wpOps P ops Q rest a' w') :
  ∀ (l : List Oper) (i : Nat) (Γ : Sy) (g : Nat → Value) (a : Act) (w : World), (∃ z, ops.toList.drop i = l ++ z) → seqM P T F Ms c.n ops l i Γ K → St c Γ g a w → wpOps P ops Q (List.range' i l.length ++ rest) a w
 | [], i, Γ, g, a, w, _, h, hst => hQ Γ g a w h hst
 | o :: r, i, Γ, g, a, w, ⟨z, hl⟩, h, hst => by
  have hoi : ops[i]? = some o := by
   have : ops.toList[i]? = some o := by
    have := congrArg (fun l => l[0]?) hl
    simpa [List.getElem?_drop] using this
   simpa using this
  have hr : ops.toList.drop (i + 1) = r ++ z := by
   have := congrArg List.tail hl
   simpa [List.tail_drop] using this
  obtain ⟨Γ', h1, h2⟩ := step_sound hT hoi h
  rw [List.length_cons, List.range'_succ, List.cons_append, wpOps_cons]
  exact h1 Q g a w _ hst fun g' a' w' hs' => seqM_app hT hQ r (i + 1) Γ' g' a' w' ⟨z, hr⟩ h2 hs'
end Go.Vc
namespace Go.Rg
def prv (n i : Nat) : Nat := if i = 0 then n - 1 else i - 1
def sumR (f : Nat → Int) : Nat → Int
 | 0 => 0
 | k + 1 => sumR f k + f k
def la (act : Nat → Bool) : Nat → Option Nat
 | 0 => none
 | k + 1 => if act k = true then some k else la act k
def pa (n : Nat) (act : Nat → Bool) (i : Nat) : Nat := (la act (i + 1)).getD ((la act n).getD 0)
def Cr (n : Nat) (act : Nat → Bool) (v : Nat → Int) (i : Nat) : Int := v (pa n act i)
def v1 (n : Nat) (act : Nat → Bool) (v : Nat → Int) (i : Nat) : Int := Cr n act v (prv n i)
def cnt (n : Nat) (act : Nat → Bool) : Int := sumR (fun i => if act i = true then 1 else 0) n
def two (n : Nat) (act : Nat → Bool) : Prop := ∃ a b, a < n ∧ b < n ∧ act a = true ∧ act b = true ∧ a ≠ b
abbrev Nt := Int × Int × Unit
structure PW where
 val : Int
 noted : Int
 leader : Int
 psv : Bool
def peS (s : PW) (m : Nt) : PW × List Nt :=
 if m.1 = 3 then (if s.leader = 0 then ({ s with leader := m.2.1 }, [(3, m.2.1, ())]) else (s, []))
 else if s.psv = true then (s, [(m.1, m.2.1, ())])
 else if m.1 = 1 ∧ m.2.1 = s.val then ({ s with leader := m.2.1 }, [(3, m.2.1, ())])
 else if m.1 = 1 then ({ s with noted := m.2.1 }, [(2, m.2.1, ())])
 else if s.val < s.noted ∧ m.2.1 < s.noted then ({ s with val := s.noted }, [(1, s.noted, ())])
 else ({ s with psv := true }, [])
section
variable {n : Nat} {num : Nat → Int} {M : Int}
end
end Go.Rg

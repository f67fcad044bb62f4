/- DERIVED by an AI agent, by a program of its own (mktypes.py). The types of the translation, as the abstract layer reads them. -/
import Derived.Test.YtmpjajhklilleaaDoorRows
import Derived.Test.YtmpjajhklilleaaDoorA14
import Derived.Test.YtmpjajhklilleaaDoorA16
namespace Go.Proofs.YtmpjajhklilleaaDoor
open Go.Abs
set_option linter.unusedVariables false

theorem fits_of {t : TypeId} {d : TD} {z : Value} (h : d.k.fits Tryd.prog t) (hi : (Tryd.prog.info? t).map (fun i => (i.zero, i.size, i.bytes)) = some (some z, d.size, d.bytes)) (hz : z.cells.toList = d.zero) (hl : d.zero.length = d.size) (ho : d.k.agg = false → d.size = 1 ∧ ∀ z, d.zero = [z] → z.oneCell' = true) : d.Fits Tryd.prog t := by
  refine ⟨h, ?_, hl, ho⟩
  cases hq : Tryd.prog.info? t with
  | none => rw [hq] at hi; simp at hi
  | some i =>
    rw [hq] at hi
    simp at hi
    exact ⟨i, z, rfl, hi.2.1, hi.2.2, hi.1, hz⟩

-- func()
def D1 : TD := ⟨.other, 1, 8, [.nilFunc]⟩
theorem F1 : D1.Fits Tryd.prog 1 := fits_of (z := .nilFunc) ⟨_, Tryd.underlying1, trivial⟩ (by kernel_rfl) rfl rfl (fun _ => ⟨rfl, fun z h => by cases h; rfl⟩)
-- int64
def D2 : TD := ⟨.int .i64, 1, 8, [.int .i64 0]⟩
theorem F2 : D2.Fits Tryd.prog 2 := fits_of (z := .int .i64 0) (show Tryd.prog.underlying 2 = some (TypeDesc.int .i64) by kernel_rfl) (by kernel_rfl) rfl rfl (fun _ => ⟨rfl, fun z h => by cases h; rfl⟩)
-- int
def D3 : TD := ⟨.int .i64, 1, 8, [.int .i64 0]⟩
theorem F3 : D3.Fits Tryd.prog 3 := fits_of (z := .int .i64 0) (show Tryd.prog.underlying 3 = some (TypeDesc.int .i64) by kernel_rfl) (by kernel_rfl) rfl rfl (fun _ => ⟨rfl, fun z h => by cases h; rfl⟩)
-- bool
def D4 : TD := ⟨.bool, 1, 1, [.bool false]⟩
theorem F4 : D4.Fits Tryd.prog 4 := fits_of (z := .bool false) (show Tryd.prog.underlying 4 = some (TypeDesc.bool) by kernel_rfl) (by kernel_rfl) rfl rfl (fun _ => ⟨rfl, fun z h => by cases h; rfl⟩)
-- uint8
def D5 : TD := ⟨.int .u8, 1, 1, [.int .u8 0]⟩
theorem F5 : D5.Fits Tryd.prog 5 := fits_of (z := .int .u8 0) (show Tryd.prog.underlying 5 = some (TypeDesc.int .u8) by kernel_rfl) (by kernel_rfl) rfl rfl (fun _ => ⟨rfl, fun z h => by cases h; rfl⟩)
-- string
def D9 : TD := ⟨.str, 1, 16, [.string ⟨#[]⟩]⟩
theorem F9 : D9.Fits Tryd.prog 9 := fits_of (z := .string ⟨#[]⟩) (show Tryd.prog.underlying 9 = some (TypeDesc.string) by kernel_rfl) (by kernel_rfl) rfl rfl (fun _ => ⟨rfl, fun z h => by cases h; rfl⟩)
-- uintptr
def D12 : TD := ⟨.int .u64, 1, 8, [.int .u64 0]⟩
theorem F12 : D12.Fits Tryd.prog 12 := fits_of (z := .int .u64 0) (show Tryd.prog.underlying 12 = some (TypeDesc.int .u64) by kernel_rfl) (by kernel_rfl) rfl rfl (fun _ => ⟨rfl, fun z h => by cases h; rfl⟩)
-- struct { msg string; addr uintptr }
def D13 : TD := ⟨.struct [(0, 9), (1, 12)], 2, 24, [.string ⟨#[]⟩, .int .u64 0]⟩
theorem F13 : D13.Fits Tryd.prog 13 := fits_of (z := .agg #[.string ⟨#[]⟩, .int .u64 0]) ⟨_, Tryd.underlying13, rfl⟩ (by kernel_rfl) rfl rfl (fun h => by cases h)
-- int32
def D21 : TD := ⟨.int .i32, 1, 4, [.int .i32 0]⟩
theorem F21 : D21.Fits Tryd.prog 21 := fits_of (z := .int .i32 0) (show Tryd.prog.underlying 21 = some (TypeDesc.int .i32) by kernel_rfl) (by kernel_rfl) rfl rfl (fun _ => ⟨rfl, fun z h => by cases h; rfl⟩)
-- []int
def D22 : TD := ⟨.sli 3, 1, 24, [.slice none 0 0]⟩
theorem F22 : D22.Fits Tryd.prog 22 := fits_of (z := .slice none 0 0) (show Tryd.prog.underlying 22 = some (TypeDesc.slice 3) by kernel_rfl) (by kernel_rfl) rfl rfl (fun _ => ⟨rfl, fun z h => by cases h; rfl⟩)
-- func([]int) string
def D23 : TD := ⟨.other, 1, 8, [.nilFunc]⟩
theorem F23 : D23.Fits Tryd.prog 23 := fits_of (z := .nilFunc) ⟨_, Tryd.underlying23, trivial⟩ (by kernel_rfl) rfl rfl (fun _ => ⟨rfl, fun z h => by cases h; rfl⟩)
-- func([]int) []int
def D24 : TD := ⟨.other, 1, 8, [.nilFunc]⟩
theorem F24 : D24.Fits Tryd.prog 24 := fits_of (z := .nilFunc) ⟨_, Tryd.underlying24, trivial⟩ (by kernel_rfl) rfl rfl (fun _ => ⟨rfl, fun z h => by cases h; rfl⟩)
-- func([]int, []int) bool
def D25 : TD := ⟨.other, 1, 8, [.nilFunc]⟩
theorem F25 : D25.Fits Tryd.prog 25 := fits_of (z := .nilFunc) ⟨_, Tryd.underlying25, trivial⟩ (by kernel_rfl) rfl rfl (fun _ => ⟨rfl, fun z h => by cases h; rfl⟩)
-- func([]int) bool
def D26 : TD := ⟨.other, 1, 8, [.nilFunc]⟩
theorem F26 : D26.Fits Tryd.prog 26 := fits_of (z := .nilFunc) ⟨_, Tryd.underlying26, trivial⟩ (by kernel_rfl) rfl rfl (fun _ => ⟨rfl, fun z h => by cases h; rfl⟩)
-- struct { Points int; Facets []int }
def D27 : TD := ⟨.struct [(0, 3), (1, 22)], 2, 32, [.int .i64 0, .slice none 0 0]⟩
theorem F27 : D27.Fits Tryd.prog 27 := fits_of (z := .agg #[.int .i64 0, .slice none 0 0]) ⟨_, Tryd.underlying27, rfl⟩ (by kernel_rfl) rfl rfl (fun h => by cases h)
-- laws.Complex
def D28 : TD := ⟨.struct [(0, 3), (1, 22)], 2, 32, [.int .i64 0, .slice none 0 0]⟩
theorem F28 : D28.Fits Tryd.prog 28 := fits_of (z := .agg #[.int .i64 0, .slice none 0 0]) ⟨_, Tryd.underlying28, rfl⟩ (by kernel_rfl) rfl rfl (fun h => by cases h)
-- func(laws.Complex, int) int
def D29 : TD := ⟨.other, 1, 8, [.nilFunc]⟩
theorem F29 : D29.Fits Tryd.prog 29 := fits_of (z := .nilFunc) ⟨_, Tryd.underlying29, trivial⟩ (by kernel_rfl) rfl rfl (fun _ => ⟨rfl, fun z h => by cases h; rfl⟩)
-- func(impl.Complex) string
def D30 : TD := ⟨.other, 1, 8, [.nilFunc]⟩
theorem F30 : D30.Fits Tryd.prog 30 := fits_of (z := .nilFunc) ⟨_, Tryd.underlying30, trivial⟩ (by kernel_rfl) rfl rfl (fun _ => ⟨rfl, fun z h => by cases h; rfl⟩)
-- impl.Complex
def D31 : TD := ⟨.struct [(0, 3), (1, 22)], 2, 32, [.int .i64 0, .slice none 0 0]⟩
theorem F31 : D31.Fits Tryd.prog 31 := fits_of (z := .agg #[.int .i64 0, .slice none 0 0]) ⟨_, Tryd.underlying31, rfl⟩ (by kernel_rfl) rfl rfl (fun h => by cases h)
-- func(laws.Complex) impl.Complex
def D32 : TD := ⟨.other, 1, 8, [.nilFunc]⟩
theorem F32 : D32.Fits Tryd.prog 32 := fits_of (z := .nilFunc) ⟨_, Tryd.underlying32, trivial⟩ (by kernel_rfl) rfl rfl (fun _ => ⟨rfl, fun z h => by cases h; rfl⟩)
-- func(impl.Complex, impl.Complex) bool
def D33 : TD := ⟨.other, 1, 8, [.nilFunc]⟩
theorem F33 : D33.Fits Tryd.prog 33 := fits_of (z := .nilFunc) ⟨_, Tryd.underlying33, trivial⟩ (by kernel_rfl) rfl rfl (fun _ => ⟨rfl, fun z h => by cases h; rfl⟩)
-- func(laws.Complex) bool
def D34 : TD := ⟨.other, 1, 8, [.nilFunc]⟩
theorem F34 : D34.Fits Tryd.prog 34 := fits_of (z := .nilFunc) ⟨_, Tryd.underlying34, trivial⟩ (by kernel_rfl) rfl rfl (fun _ => ⟨rfl, fun z h => by cases h; rfl⟩)
-- func(impl.Complex, int) string
def D35 : TD := ⟨.other, 1, 8, [.nilFunc]⟩
theorem F35 : D35.Fits Tryd.prog 35 := fits_of (z := .nilFunc) ⟨_, Tryd.underlying35, trivial⟩ (by kernel_rfl) rfl rfl (fun _ => ⟨rfl, fun z h => by cases h; rfl⟩)
-- func(laws.Complex, int) bool
def D36 : TD := ⟨.other, 1, 8, [.nilFunc]⟩
theorem F36 : D36.Fits Tryd.prog 36 := fits_of (z := .nilFunc) ⟨_, Tryd.underlying36, trivial⟩ (by kernel_rfl) rfl rfl (fun _ => ⟨rfl, fun z h => by cases h; rfl⟩)
-- []string
def D37 : TD := ⟨.sli 9, 1, 24, [.slice none 0 0]⟩
theorem F37 : D37.Fits Tryd.prog 37 := fits_of (z := .slice none 0 0) (show Tryd.prog.underlying 37 = some (TypeDesc.slice 9) by kernel_rfl) (by kernel_rfl) rfl rfl (fun _ => ⟨rfl, fun z h => by cases h; rfl⟩)
-- func(int) string
def D38 : TD := ⟨.other, 1, 8, [.nilFunc]⟩
theorem F38 : D38.Fits Tryd.prog 38 := fits_of (z := .nilFunc) ⟨_, Tryd.underlying38, trivial⟩ (by kernel_rfl) rfl rfl (fun _ => ⟨rfl, fun z h => by cases h; rfl⟩)
-- func([]string, string) string
def D39 : TD := ⟨.other, 1, 8, [.nilFunc]⟩
theorem F39 : D39.Fits Tryd.prog 39 := fits_of (z := .nilFunc) ⟨_, Tryd.underlying39, trivial⟩ (by kernel_rfl) rfl rfl (fun _ => ⟨rfl, fun z h => by cases h; rfl⟩)
-- func([]int, int) int
def D40 : TD := ⟨.other, 1, 8, [.nilFunc]⟩
theorem F40 : D40.Fits Tryd.prog 40 := fits_of (z := .nilFunc) ⟨_, Tryd.underlying40, trivial⟩ (by kernel_rfl) rfl rfl (fun _ => ⟨rfl, fun z h => by cases h; rfl⟩)
-- func(impl.Complex) (impl.Complex, []int, bool)
def D42 : TD := ⟨.other, 1, 8, [.nilFunc]⟩
theorem F42 : D42.Fits Tryd.prog 42 := fits_of (z := .nilFunc) ⟨_, Tryd.underlying42, trivial⟩ (by kernel_rfl) rfl rfl (fun _ => ⟨rfl, fun z h => by cases h; rfl⟩)
-- [][]int
def D43 : TD := ⟨.sli 22, 1, 24, [.slice none 0 0]⟩
theorem F43 : D43.Fits Tryd.prog 43 := fits_of (z := .slice none 0 0) (show Tryd.prog.underlying 43 = some (TypeDesc.slice 22) by kernel_rfl) (by kernel_rfl) rfl rfl (fun _ => ⟨rfl, fun z h => by cases h; rfl⟩)
-- func(impl.Complex, int) [][]int
def D44 : TD := ⟨.other, 1, 8, [.nilFunc]⟩
theorem F44 : D44.Fits Tryd.prog 44 := fits_of (z := .nilFunc) ⟨_, Tryd.underlying44, trivial⟩ (by kernel_rfl) rfl rfl (fun _ => ⟨rfl, fun z h => by cases h; rfl⟩)
-- []uint8
def D45 : TD := ⟨.sli 5, 1, 24, [.slice none 0 0]⟩
theorem F45 : D45.Fits Tryd.prog 45 := fits_of (z := .slice none 0 0) (show Tryd.prog.underlying 45 = some (TypeDesc.slice 5) by kernel_rfl) (by kernel_rfl) rfl rfl (fun _ => ⟨rfl, fun z h => by cases h; rfl⟩)
-- *strings.Builder
def D46 : TD := ⟨.other, 1, 8, [.pointer none]⟩
theorem F46 : D46.Fits Tryd.prog 46 := fits_of (z := .pointer none) ⟨_, Tryd.underlying46, trivial⟩ (by kernel_rfl) rfl rfl (fun _ => ⟨rfl, fun z h => by cases h; rfl⟩)
-- struct { addr *strings.Builder; buf []uint8 }
def D47 : TD := ⟨.struct [(0, 46), (1, 45)], 2, 32, [.pointer none, .slice none 0 0]⟩
theorem F47 : D47.Fits Tryd.prog 47 := fits_of (z := .agg #[.pointer none, .slice none 0 0]) ⟨_, Tryd.underlying47, rfl⟩ (by kernel_rfl) rfl rfl (fun h => by cases h)
-- strings.Builder
def D48 : TD := ⟨.struct [(0, 46), (1, 45)], 2, 32, [.pointer none, .slice none 0 0]⟩
theorem F48 : D48.Fits Tryd.prog 48 := fits_of (z := .agg #[.pointer none, .slice none 0 0]) ⟨_, Tryd.underlying48, rfl⟩ (by kernel_rfl) rfl rfl (fun h => by cases h)
-- func(int)
def D49 : TD := ⟨.other, 1, 8, [.nilFunc]⟩
theorem F49 : D49.Fits Tryd.prog 49 := fits_of (z := .nilFunc) ⟨_, Tryd.underlying49, trivial⟩ (by kernel_rfl) rfl rfl (fun _ => ⟨rfl, fun z h => by cases h; rfl⟩)
-- func(string) (int, error)
def D53 : TD := ⟨.other, 1, 8, [.nilFunc]⟩
theorem F53 : D53.Fits Tryd.prog 53 := fits_of (z := .nilFunc) ⟨_, Tryd.underlying53, trivial⟩ (by kernel_rfl) rfl rfl (fun _ => ⟨rfl, fun z h => by cases h; rfl⟩)
-- func() string
def D54 : TD := ⟨.other, 1, 8, [.nilFunc]⟩
theorem F54 : D54.Fits Tryd.prog 54 := fits_of (z := .nilFunc) ⟨_, Tryd.underlying54, trivial⟩ (by kernel_rfl) rfl rfl (fun _ => ⟨rfl, fun z h => by cases h; rfl⟩)
-- func(impl.Complex) bool
def D55 : TD := ⟨.other, 1, 8, [.nilFunc]⟩
theorem F55 : D55.Fits Tryd.prog 55 := fits_of (z := .nilFunc) ⟨_, Tryd.underlying55, trivial⟩ (by kernel_rfl) rfl rfl (fun _ => ⟨rfl, fun z h => by cases h; rfl⟩)
-- func(impl.Complex) impl.Complex
def D56 : TD := ⟨.other, 1, 8, [.nilFunc]⟩
theorem F56 : D56.Fits Tryd.prog 56 := fits_of (z := .nilFunc) ⟨_, Tryd.underlying56, trivial⟩ (by kernel_rfl) rfl rfl (fun _ => ⟨rfl, fun z h => by cases h; rfl⟩)
-- func(impl.Complex) []int
def D57 : TD := ⟨.other, 1, 8, [.nilFunc]⟩
theorem F57 : D57.Fits Tryd.prog 57 := fits_of (z := .nilFunc) ⟨_, Tryd.underlying57, trivial⟩ (by kernel_rfl) rfl rfl (fun _ => ⟨rfl, fun z h => by cases h; rfl⟩)
-- func(impl.Complex, int) impl.Complex
def D58 : TD := ⟨.other, 1, 8, [.nilFunc]⟩
theorem F58 : D58.Fits Tryd.prog 58 := fits_of (z := .nilFunc) ⟨_, Tryd.underlying58, trivial⟩ (by kernel_rfl) rfl rfl (fun _ => ⟨rfl, fun z h => by cases h; rfl⟩)
-- uint64
def D59 : TD := ⟨.int .u64, 1, 8, [.int .u64 0]⟩
theorem F59 : D59.Fits Tryd.prog 59 := fits_of (z := .int .u64 0) (show Tryd.prog.underlying 59 = some (TypeDesc.int .u64) by kernel_rfl) (by kernel_rfl) rfl rfl (fun _ => ⟨rfl, fun z h => by cases h; rfl⟩)
-- func(impl.Complex) uint64
def D60 : TD := ⟨.other, 1, 8, [.nilFunc]⟩
theorem F60 : D60.Fits Tryd.prog 60 := fits_of (z := .nilFunc) ⟨_, Tryd.underlying60, trivial⟩ (by kernel_rfl) rfl rfl (fun _ => ⟨rfl, fun z h => by cases h; rfl⟩)
-- func(uint64) []int
def D61 : TD := ⟨.other, 1, 8, [.nilFunc]⟩
theorem F61 : D61.Fits Tryd.prog 61 := fits_of (z := .nilFunc) ⟨_, Tryd.underlying61, trivial⟩ (by kernel_rfl) rfl rfl (fun _ => ⟨rfl, fun z h => by cases h; rfl⟩)
-- func(int, uint64) impl.Complex
def D62 : TD := ⟨.other, 1, 8, [.nilFunc]⟩
theorem F62 : D62.Fits Tryd.prog 62 := fits_of (z := .nilFunc) ⟨_, Tryd.underlying62, trivial⟩ (by kernel_rfl) rfl rfl (fun _ => ⟨rfl, fun z h => by cases h; rfl⟩)
-- func(uint64, int) (int, bool)
def D64 : TD := ⟨.other, 1, 8, [.nilFunc]⟩
theorem F64 : D64.Fits Tryd.prog 64 := fits_of (z := .nilFunc) ⟨_, Tryd.underlying64, trivial⟩ (by kernel_rfl) rfl rfl (fun _ => ⟨rfl, fun z h => by cases h; rfl⟩)
-- uint
def D65 : TD := ⟨.int .u64, 1, 8, [.int .u64 0]⟩
theorem F65 : D65.Fits Tryd.prog 65 := fits_of (z := .int .u64 0) (show Tryd.prog.underlying 65 = some (TypeDesc.int .u64) by kernel_rfl) (by kernel_rfl) rfl rfl (fun _ => ⟨rfl, fun z h => by cases h; rfl⟩)
-- func(impl.Complex) int
def D66 : TD := ⟨.other, 1, 8, [.nilFunc]⟩
theorem F66 : D66.Fits Tryd.prog 66 := fits_of (z := .nilFunc) ⟨_, Tryd.underlying66, trivial⟩ (by kernel_rfl) rfl rfl (fun _ => ⟨rfl, fun z h => by cases h; rfl⟩)
-- func(int) bool
def D67 : TD := ⟨.other, 1, 8, [.nilFunc]⟩
theorem F67 : D67.Fits Tryd.prog 67 := fits_of (z := .nilFunc) ⟨_, Tryd.underlying67, trivial⟩ (by kernel_rfl) rfl rfl (fun _ => ⟨rfl, fun z h => by cases h; rfl⟩)
-- func(int) int
def D68 : TD := ⟨.other, 1, 8, [.nilFunc]⟩
theorem F68 : D68.Fits Tryd.prog 68 := fits_of (z := .nilFunc) ⟨_, Tryd.underlying68, trivial⟩ (by kernel_rfl) rfl rfl (fun _ => ⟨rfl, fun z h => by cases h; rfl⟩)
-- func(impl.Complex, int) []int
def D69 : TD := ⟨.other, 1, 8, [.nilFunc]⟩
theorem F69 : D69.Fits Tryd.prog 69 := fits_of (z := .nilFunc) ⟨_, Tryd.underlying69, trivial⟩ (by kernel_rfl) rfl rfl (fun _ => ⟨rfl, fun z h => by cases h; rfl⟩)
-- func(int) [][]int
def D70 : TD := ⟨.other, 1, 8, [.nilFunc]⟩
theorem F70 : D70.Fits Tryd.prog 70 := fits_of (z := .nilFunc) ⟨_, Tryd.underlying70, trivial⟩ (by kernel_rfl) rfl rfl (fun _ => ⟨rfl, fun z h => by cases h; rfl⟩)
-- func(uint64, int) []int
def D71 : TD := ⟨.other, 1, 8, [.nilFunc]⟩
theorem F71 : D71.Fits Tryd.prog 71 := fits_of (z := .nilFunc) ⟨_, Tryd.underlying71, trivial⟩ (by kernel_rfl) rfl rfl (fun _ => ⟨rfl, fun z h => by cases h; rfl⟩)
-- func(uint64, int) uint64
def D72 : TD := ⟨.other, 1, 8, [.nilFunc]⟩
theorem F72 : D72.Fits Tryd.prog 72 := fits_of (z := .nilFunc) ⟨_, Tryd.underlying72, trivial⟩ (by kernel_rfl) rfl rfl (fun _ => ⟨rfl, fun z h => by cases h; rfl⟩)
-- *uint8
def D73 : TD := ⟨.other, 1, 8, [.pointer none]⟩
theorem F73 : D73.Fits Tryd.prog 73 := fits_of (z := .pointer none) ⟨_, Tryd.underlying73, trivial⟩ (by kernel_rfl) rfl rfl (fun _ => ⟨rfl, fun z h => by cases h; rfl⟩)
-- func(int, int) bool
def D74 : TD := ⟨.other, 1, 8, [.nilFunc]⟩
theorem F74 : D74.Fits Tryd.prog 74 := fits_of (z := .nilFunc) ⟨_, Tryd.underlying74, trivial⟩ (by kernel_rfl) rfl rfl (fun _ => ⟨rfl, fun z h => by cases h; rfl⟩)
-- func(int, int, int) bool
def D75 : TD := ⟨.other, 1, 8, [.nilFunc]⟩
theorem F75 : D75.Fits Tryd.prog 75 := fits_of (z := .nilFunc) ⟨_, Tryd.underlying75, trivial⟩ (by kernel_rfl) rfl rfl (fun _ => ⟨rfl, fun z h => by cases h; rfl⟩)
-- func([]int, int) []int
def D76 : TD := ⟨.other, 1, 8, [.nilFunc]⟩
theorem F76 : D76.Fits Tryd.prog 76 := fits_of (z := .nilFunc) ⟨_, Tryd.underlying76, trivial⟩ (by kernel_rfl) rfl rfl (fun _ => ⟨rfl, fun z h => by cases h; rfl⟩)
-- func(int, []int) impl.Complex
def D77 : TD := ⟨.other, 1, 8, [.nilFunc]⟩
theorem F77 : D77.Fits Tryd.prog 77 := fits_of (z := .nilFunc) ⟨_, Tryd.underlying77, trivial⟩ (by kernel_rfl) rfl rfl (fun _ => ⟨rfl, fun z h => by cases h; rfl⟩)
-- func(int, []int) bool
def D78 : TD := ⟨.other, 1, 8, [.nilFunc]⟩
theorem F78 : D78.Fits Tryd.prog 78 := fits_of (z := .nilFunc) ⟨_, Tryd.underlying78, trivial⟩ (by kernel_rfl) rfl rfl (fun _ => ⟨rfl, fun z h => by cases h; rfl⟩)
-- func(int) uint64
def D79 : TD := ⟨.other, 1, 8, [.nilFunc]⟩
theorem F79 : D79.Fits Tryd.prog 79 := fits_of (z := .nilFunc) ⟨_, Tryd.underlying79, trivial⟩ (by kernel_rfl) rfl rfl (fun _ => ⟨rfl, fun z h => by cases h; rfl⟩)
-- func(uint64, int) bool
def D80 : TD := ⟨.other, 1, 8, [.nilFunc]⟩
theorem F80 : D80.Fits Tryd.prog 80 := fits_of (z := .nilFunc) ⟨_, Tryd.underlying80, trivial⟩ (by kernel_rfl) rfl rfl (fun _ => ⟨rfl, fun z h => by cases h; rfl⟩)
-- func([][]int, int) int
def D81 : TD := ⟨.other, 1, 8, [.nilFunc]⟩
theorem F81 : D81.Fits Tryd.prog 81 := fits_of (z := .nilFunc) ⟨_, Tryd.underlying81, trivial⟩ (by kernel_rfl) rfl rfl (fun _ => ⟨rfl, fun z h => by cases h; rfl⟩)
-- func(uint) int
def D82 : TD := ⟨.other, 1, 8, [.nilFunc]⟩
theorem F82 : D82.Fits Tryd.prog 82 := fits_of (z := .nilFunc) ⟨_, Tryd.underlying82, trivial⟩ (by kernel_rfl) rfl rfl (fun _ => ⟨rfl, fun z h => by cases h; rfl⟩)
-- func(uint64) [][]int
def D83 : TD := ⟨.other, 1, 8, [.nilFunc]⟩
theorem F83 : D83.Fits Tryd.prog 83 := fits_of (z := .nilFunc) ⟨_, Tryd.underlying83, trivial⟩ (by kernel_rfl) rfl rfl (fun _ => ⟨rfl, fun z h => by cases h; rfl⟩)
-- func([]int, []int) [][]int
def D84 : TD := ⟨.other, 1, 8, [.nilFunc]⟩
theorem F84 : D84.Fits Tryd.prog 84 := fits_of (z := .nilFunc) ⟨_, Tryd.underlying84, trivial⟩ (by kernel_rfl) rfl rfl (fun _ => ⟨rfl, fun z h => by cases h; rfl⟩)
-- func(int64, int) string
def D85 : TD := ⟨.other, 1, 8, [.nilFunc]⟩
theorem F85 : D85.Fits Tryd.prog 85 := fits_of (z := .nilFunc) ⟨_, Tryd.underlying85, trivial⟩ (by kernel_rfl) rfl rfl (fun _ => ⟨rfl, fun z h => by cases h; rfl⟩)
-- func(unsafe.Pointer) unsafe.Pointer
def D87 : TD := ⟨.other, 1, 8, [.nilFunc]⟩
theorem F87 : D87.Fits Tryd.prog 87 := fits_of (z := .nilFunc) ⟨_, Tryd.underlying87, trivial⟩ (by kernel_rfl) rfl rfl (fun _ => ⟨rfl, fun z h => by cases h; rfl⟩)
-- func(int) []uint8
def D88 : TD := ⟨.other, 1, 8, [.nilFunc]⟩
theorem F88 : D88.Fits Tryd.prog 88 := fits_of (z := .nilFunc) ⟨_, Tryd.underlying88, trivial⟩ (by kernel_rfl) rfl rfl (fun _ => ⟨rfl, fun z h => by cases h; rfl⟩)
-- func(impl.Complex, int) bool
def D89 : TD := ⟨.other, 1, 8, [.nilFunc]⟩
theorem F89 : D89.Fits Tryd.prog 89 := fits_of (z := .nilFunc) ⟨_, Tryd.underlying89, trivial⟩ (by kernel_rfl) rfl rfl (fun _ => ⟨rfl, fun z h => by cases h; rfl⟩)
-- func([]int, bool) []int
def D90 : TD := ⟨.other, 1, 8, [.nilFunc]⟩
theorem F90 : D90.Fits Tryd.prog 90 := fits_of (z := .nilFunc) ⟨_, Tryd.underlying90, trivial⟩ (by kernel_rfl) rfl rfl (fun _ => ⟨rfl, fun z h => by cases h; rfl⟩)
-- func(int) []int
def D91 : TD := ⟨.other, 1, 8, [.nilFunc]⟩
theorem F91 : D91.Fits Tryd.prog 91 := fits_of (z := .nilFunc) ⟨_, Tryd.underlying91, trivial⟩ (by kernel_rfl) rfl rfl (fun _ => ⟨rfl, fun z h => by cases h; rfl⟩)
-- func([][]int, int) ([][]int, []int)
def D93 : TD := ⟨.other, 1, 8, [.nilFunc]⟩
theorem F93 : D93.Fits Tryd.prog 93 := fits_of (z := .nilFunc) ⟨_, Tryd.underlying93, trivial⟩ (by kernel_rfl) rfl rfl (fun _ => ⟨rfl, fun z h => by cases h; rfl⟩)
-- func(int, int) int
def D94 : TD := ⟨.other, 1, 8, [.nilFunc]⟩
theorem F94 : D94.Fits Tryd.prog 94 := fits_of (z := .nilFunc) ⟨_, Tryd.underlying94, trivial⟩ (by kernel_rfl) rfl rfl (fun _ => ⟨rfl, fun z h => by cases h; rfl⟩)
-- func(uint32) int
def D95 : TD := ⟨.other, 1, 8, [.nilFunc]⟩
theorem F95 : D95.Fits Tryd.prog 95 := fits_of (z := .nilFunc) ⟨_, Tryd.underlying95, trivial⟩ (by kernel_rfl) rfl rfl (fun _ => ⟨rfl, fun z h => by cases h; rfl⟩)
-- uint32
def D96 : TD := ⟨.int .u32, 1, 4, [.int .u32 0]⟩
theorem F96 : D96.Fits Tryd.prog 96 := fits_of (z := .int .u32 0) (show Tryd.prog.underlying 96 = some (TypeDesc.int .u32) by kernel_rfl) (by kernel_rfl) rfl rfl (fun _ => ⟨rfl, fun z h => by cases h; rfl⟩)
-- func(uint64) int
def D97 : TD := ⟨.other, 1, 8, [.nilFunc]⟩
theorem F97 : D97.Fits Tryd.prog 97 := fits_of (z := .nilFunc) ⟨_, Tryd.underlying97, trivial⟩ (by kernel_rfl) rfl rfl (fun _ => ⟨rfl, fun z h => by cases h; rfl⟩)
-- func([][]int, int, int) []int
def D98 : TD := ⟨.other, 1, 8, [.nilFunc]⟩
theorem F98 : D98.Fits Tryd.prog 98 := fits_of (z := .nilFunc) ⟨_, Tryd.underlying98, trivial⟩ (by kernel_rfl) rfl rfl (fun _ => ⟨rfl, fun z h => by cases h; rfl⟩)
-- func([][]int, int) [][]int
def D99 : TD := ⟨.other, 1, 8, [.nilFunc]⟩
theorem F99 : D99.Fits Tryd.prog 99 := fits_of (z := .nilFunc) ⟨_, Tryd.underlying99, trivial⟩ (by kernel_rfl) rfl rfl (fun _ => ⟨rfl, fun z h => by cases h; rfl⟩)
-- [24]uint8
def D100 : TD := ⟨.arr 24 5, 24, 24, ((List.replicate 24 (.int .u8 0)))⟩
theorem F100 : D100.Fits Tryd.prog 100 := fits_of (z := .agg ⟨((List.replicate 24 (.int .u8 0)))⟩) (show Tryd.prog.underlying 100 = some (TypeDesc.array 24 5) by kernel_rfl) (by kernel_rfl) (by kernel_rfl) (by kernel_rfl) (fun h => by cases h)
-- func([]uint8, uint64)
def D101 : TD := ⟨.other, 1, 8, [.nilFunc]⟩
theorem F101 : D101.Fits Tryd.prog 101 := fits_of (z := .nilFunc) ⟨_, Tryd.underlying101, trivial⟩ (by kernel_rfl) rfl rfl (fun _ => ⟨rfl, fun z h => by cases h; rfl⟩)
-- func([]uint8, uint64, int, bool, bool) ([]uint8, string)
def D103 : TD := ⟨.other, 1, 8, [.nilFunc]⟩
theorem F103 : D103.Fits Tryd.prog 103 := fits_of (z := .nilFunc) ⟨_, Tryd.underlying103, trivial⟩ (by kernel_rfl) rfl rfl (fun _ => ⟨rfl, fun z h => by cases h; rfl⟩)
-- []bool
def D104 : TD := ⟨.sli 4, 1, 24, [.slice none 0 0]⟩
theorem F104 : D104.Fits Tryd.prog 104 := fits_of (z := .slice none 0 0) (show Tryd.prog.underlying 104 = some (TypeDesc.slice 4) by kernel_rfl) (by kernel_rfl) rfl rfl (fun _ => ⟨rfl, fun z h => by cases h; rfl⟩)
-- func([][]int, int, int, int) [][]int
def D105 : TD := ⟨.other, 1, 8, [.nilFunc]⟩
theorem F105 : D105.Fits Tryd.prog 105 := fits_of (z := .nilFunc) ⟨_, Tryd.underlying105, trivial⟩ (by kernel_rfl) rfl rfl (fun _ => ⟨rfl, fun z h => by cases h; rfl⟩)
-- func(bool) int
def D106 : TD := ⟨.other, 1, 8, [.nilFunc]⟩
theorem F106 : D106.Fits Tryd.prog 106 := fits_of (z := .nilFunc) ⟨_, Tryd.underlying106, trivial⟩ (by kernel_rfl) rfl rfl (fun _ => ⟨rfl, fun z h => by cases h; rfl⟩)
-- [20]uint64
def D107 : TD := ⟨.arr 20 59, 20, 160, ((List.replicate 20 (.int .u64 0)))⟩
theorem F107 : D107.Fits Tryd.prog 107 := fits_of (z := .agg ⟨((List.replicate 20 (.int .u64 0)))⟩) (show Tryd.prog.underlying 107 = some (TypeDesc.array 20 59) by kernel_rfl) (by kernel_rfl) (by kernel_rfl) (by kernel_rfl) (fun h => by cases h)
-- [65]uint8
def D108 : TD := ⟨.arr 65 5, 65, 65, ((List.replicate 65 (.int .u8 0)))⟩
theorem F108 : D108.Fits Tryd.prog 108 := fits_of (z := .agg ⟨((List.replicate 65 (.int .u8 0)))⟩) (show Tryd.prog.underlying 108 = some (TypeDesc.array 65 5) by kernel_rfl) (by kernel_rfl) (by kernel_rfl) (by kernel_rfl) (fun h => by cases h)
-- [32]uint8
def D109 : TD := ⟨.arr 32 5, 32, 32, ((List.replicate 32 (.int .u8 0)))⟩
theorem F109 : D109.Fits Tryd.prog 109 := fits_of (z := .agg ⟨((List.replicate 32 (.int .u8 0)))⟩) (show Tryd.prog.underlying 109 = some (TypeDesc.array 32 5) by kernel_rfl) (by kernel_rfl) (by kernel_rfl) (by kernel_rfl) (fun h => by cases h)
-- [64]uint8
def D110 : TD := ⟨.arr 64 5, 64, 64, ((List.replicate 64 (.int .u8 0)))⟩
theorem F110 : D110.Fits Tryd.prog 110 := fits_of (z := .agg ⟨((List.replicate 64 (.int .u8 0)))⟩) (show Tryd.prog.underlying 110 = some (TypeDesc.array 64 5) by kernel_rfl) (by kernel_rfl) (by kernel_rfl) (by kernel_rfl) (fun h => by cases h)
-- func() int
def D116 : TD := ⟨.other, 1, 8, [.nilFunc]⟩
theorem F116 : D116.Fits Tryd.prog 116 := fits_of (z := .nilFunc) ⟨_, Tryd.underlying116, trivial⟩ (by kernel_rfl) rfl rfl (fun _ => ⟨rfl, fun z h => by cases h; rfl⟩)
-- func(unsafe.Pointer, unsafe.Pointer) bool
def D119 : TD := ⟨.other, 1, 8, [.nilFunc]⟩
theorem F119 : D119.Fits Tryd.prog 119 := fits_of (z := .nilFunc) ⟨_, Tryd.underlying119, trivial⟩ (by kernel_rfl) rfl rfl (fun _ => ⟨rfl, fun z h => by cases h; rfl⟩)

def tab0 : List (Nat × TD) := [(1, D1), (2, D2), (3, D3), (4, D4), (5, D5), (9, D9), (12, D12), (13, D13), (21, D21), (22, D22), (23, D23), (24, D24), (25, D25), (26, D26), (27, D27), (28, D28), (29, D29), (30, D30), (31, D31), (32, D32), (33, D33), (34, D34), (35, D35), (36, D36), (37, D37), (38, D38), (39, D39), (40, D40), (42, D42), (43, D43), (44, D44), (45, D45), (46, D46), (47, D47), (48, D48), (49, D49), (53, D53), (54, D54), (55, D55), (56, D56), (57, D57), (58, D58), (59, D59), (60, D60), (61, D61), (62, D62), (64, D64), (65, D65), (66, D66), (67, D67), (68, D68), (69, D69), (70, D70), (71, D71), (72, D72), (73, D73), (74, D74), (75, D75), (76, D76), (77, D77)]
def tab1 : List (Nat × TD) := [(78, D78), (79, D79), (80, D80), (81, D81), (82, D82), (83, D83), (84, D84), (85, D85), (87, D87), (88, D88), (89, D89), (90, D90), (91, D91), (93, D93), (94, D94), (95, D95), (96, D96), (97, D97), (98, D98), (99, D99), (100, D100), (101, D101), (103, D103), (104, D104), (105, D105), (106, D106), (107, D107), (108, D108), (109, D109), (110, D110), (116, D116), (119, D119)]
def tab : List (Nat × TD) := tab0 ++ tab1
def T : Tab := fun t => ((tab.find? fun x => x.1 == t).map (·.2)).getD ⟨.other, 0, 0, []⟩
theorem at_of {a b : TD} (h : a = b) : a.k = b.k ∧ a.size = b.size ∧ a.bytes = b.bytes ∧ a.zero = b.zero := by subst h; exact ⟨rfl, rfl, rfl, rfl⟩
theorem T1k : (T 1).k = .other := (at_of (show T 1 = D1 from rfl)).1
theorem T1s : (T 1).size = 1 := (at_of (show T 1 = D1 from rfl)).2.1
theorem T1b : (T 1).bytes = 8 := (at_of (show T 1 = D1 from rfl)).2.2.1
theorem T1z : (T 1).zero = [.nilFunc] := (at_of (show T 1 = D1 from rfl)).2.2.2
theorem T2k : (T 2).k = .int .i64 := (at_of (show T 2 = D2 from rfl)).1
theorem T2s : (T 2).size = 1 := (at_of (show T 2 = D2 from rfl)).2.1
theorem T2b : (T 2).bytes = 8 := (at_of (show T 2 = D2 from rfl)).2.2.1
theorem T2z : (T 2).zero = [.int .i64 0] := (at_of (show T 2 = D2 from rfl)).2.2.2
theorem T3k : (T 3).k = .int .i64 := (at_of (show T 3 = D3 from rfl)).1
theorem T3s : (T 3).size = 1 := (at_of (show T 3 = D3 from rfl)).2.1
theorem T3b : (T 3).bytes = 8 := (at_of (show T 3 = D3 from rfl)).2.2.1
theorem T3z : (T 3).zero = [.int .i64 0] := (at_of (show T 3 = D3 from rfl)).2.2.2
theorem T4k : (T 4).k = .bool := (at_of (show T 4 = D4 from rfl)).1
theorem T4s : (T 4).size = 1 := (at_of (show T 4 = D4 from rfl)).2.1
theorem T4b : (T 4).bytes = 1 := (at_of (show T 4 = D4 from rfl)).2.2.1
theorem T4z : (T 4).zero = [.bool false] := (at_of (show T 4 = D4 from rfl)).2.2.2
theorem T5k : (T 5).k = .int .u8 := (at_of (show T 5 = D5 from rfl)).1
theorem T5s : (T 5).size = 1 := (at_of (show T 5 = D5 from rfl)).2.1
theorem T5b : (T 5).bytes = 1 := (at_of (show T 5 = D5 from rfl)).2.2.1
theorem T5z : (T 5).zero = [.int .u8 0] := (at_of (show T 5 = D5 from rfl)).2.2.2
theorem T9k : (T 9).k = .str := (at_of (show T 9 = D9 from rfl)).1
theorem T9s : (T 9).size = 1 := (at_of (show T 9 = D9 from rfl)).2.1
theorem T9b : (T 9).bytes = 16 := (at_of (show T 9 = D9 from rfl)).2.2.1
theorem T9z : (T 9).zero = [.string ⟨#[]⟩] := (at_of (show T 9 = D9 from rfl)).2.2.2
theorem T12k : (T 12).k = .int .u64 := (at_of (show T 12 = D12 from rfl)).1
theorem T12s : (T 12).size = 1 := (at_of (show T 12 = D12 from rfl)).2.1
theorem T12b : (T 12).bytes = 8 := (at_of (show T 12 = D12 from rfl)).2.2.1
theorem T12z : (T 12).zero = [.int .u64 0] := (at_of (show T 12 = D12 from rfl)).2.2.2
theorem T13k : (T 13).k = .struct [(0, 9), (1, 12)] := (at_of (show T 13 = D13 from rfl)).1
theorem T13s : (T 13).size = 2 := (at_of (show T 13 = D13 from rfl)).2.1
theorem T13b : (T 13).bytes = 24 := (at_of (show T 13 = D13 from rfl)).2.2.1
theorem T13z : (T 13).zero = [.string ⟨#[]⟩, .int .u64 0] := (at_of (show T 13 = D13 from rfl)).2.2.2
theorem T21k : (T 21).k = .int .i32 := (at_of (show T 21 = D21 from rfl)).1
theorem T21s : (T 21).size = 1 := (at_of (show T 21 = D21 from rfl)).2.1
theorem T21b : (T 21).bytes = 4 := (at_of (show T 21 = D21 from rfl)).2.2.1
theorem T21z : (T 21).zero = [.int .i32 0] := (at_of (show T 21 = D21 from rfl)).2.2.2
theorem T22k : (T 22).k = .sli 3 := (at_of (show T 22 = D22 from rfl)).1
theorem T22s : (T 22).size = 1 := (at_of (show T 22 = D22 from rfl)).2.1
theorem T22b : (T 22).bytes = 24 := (at_of (show T 22 = D22 from rfl)).2.2.1
theorem T22z : (T 22).zero = [.slice none 0 0] := (at_of (show T 22 = D22 from rfl)).2.2.2
theorem T23k : (T 23).k = .other := (at_of (show T 23 = D23 from rfl)).1
theorem T23s : (T 23).size = 1 := (at_of (show T 23 = D23 from rfl)).2.1
theorem T23b : (T 23).bytes = 8 := (at_of (show T 23 = D23 from rfl)).2.2.1
theorem T23z : (T 23).zero = [.nilFunc] := (at_of (show T 23 = D23 from rfl)).2.2.2
theorem T24k : (T 24).k = .other := (at_of (show T 24 = D24 from rfl)).1
theorem T24s : (T 24).size = 1 := (at_of (show T 24 = D24 from rfl)).2.1
theorem T24b : (T 24).bytes = 8 := (at_of (show T 24 = D24 from rfl)).2.2.1
theorem T24z : (T 24).zero = [.nilFunc] := (at_of (show T 24 = D24 from rfl)).2.2.2
theorem T25k : (T 25).k = .other := (at_of (show T 25 = D25 from rfl)).1
theorem T25s : (T 25).size = 1 := (at_of (show T 25 = D25 from rfl)).2.1
theorem T25b : (T 25).bytes = 8 := (at_of (show T 25 = D25 from rfl)).2.2.1
theorem T25z : (T 25).zero = [.nilFunc] := (at_of (show T 25 = D25 from rfl)).2.2.2
theorem T26k : (T 26).k = .other := (at_of (show T 26 = D26 from rfl)).1
theorem T26s : (T 26).size = 1 := (at_of (show T 26 = D26 from rfl)).2.1
theorem T26b : (T 26).bytes = 8 := (at_of (show T 26 = D26 from rfl)).2.2.1
theorem T26z : (T 26).zero = [.nilFunc] := (at_of (show T 26 = D26 from rfl)).2.2.2
theorem T27k : (T 27).k = .struct [(0, 3), (1, 22)] := (at_of (show T 27 = D27 from rfl)).1
theorem T27s : (T 27).size = 2 := (at_of (show T 27 = D27 from rfl)).2.1
theorem T27b : (T 27).bytes = 32 := (at_of (show T 27 = D27 from rfl)).2.2.1
theorem T27z : (T 27).zero = [.int .i64 0, .slice none 0 0] := (at_of (show T 27 = D27 from rfl)).2.2.2
theorem T28k : (T 28).k = .struct [(0, 3), (1, 22)] := (at_of (show T 28 = D28 from rfl)).1
theorem T28s : (T 28).size = 2 := (at_of (show T 28 = D28 from rfl)).2.1
theorem T28b : (T 28).bytes = 32 := (at_of (show T 28 = D28 from rfl)).2.2.1
theorem T28z : (T 28).zero = [.int .i64 0, .slice none 0 0] := (at_of (show T 28 = D28 from rfl)).2.2.2
theorem T29k : (T 29).k = .other := (at_of (show T 29 = D29 from rfl)).1
theorem T29s : (T 29).size = 1 := (at_of (show T 29 = D29 from rfl)).2.1
theorem T29b : (T 29).bytes = 8 := (at_of (show T 29 = D29 from rfl)).2.2.1
theorem T29z : (T 29).zero = [.nilFunc] := (at_of (show T 29 = D29 from rfl)).2.2.2
theorem T30k : (T 30).k = .other := (at_of (show T 30 = D30 from rfl)).1
theorem T30s : (T 30).size = 1 := (at_of (show T 30 = D30 from rfl)).2.1
theorem T30b : (T 30).bytes = 8 := (at_of (show T 30 = D30 from rfl)).2.2.1
theorem T30z : (T 30).zero = [.nilFunc] := (at_of (show T 30 = D30 from rfl)).2.2.2
theorem T31k : (T 31).k = .struct [(0, 3), (1, 22)] := (at_of (show T 31 = D31 from rfl)).1
theorem T31s : (T 31).size = 2 := (at_of (show T 31 = D31 from rfl)).2.1
theorem T31b : (T 31).bytes = 32 := (at_of (show T 31 = D31 from rfl)).2.2.1
theorem T31z : (T 31).zero = [.int .i64 0, .slice none 0 0] := (at_of (show T 31 = D31 from rfl)).2.2.2
theorem T32k : (T 32).k = .other := (at_of (show T 32 = D32 from rfl)).1
theorem T32s : (T 32).size = 1 := (at_of (show T 32 = D32 from rfl)).2.1
theorem T32b : (T 32).bytes = 8 := (at_of (show T 32 = D32 from rfl)).2.2.1
theorem T32z : (T 32).zero = [.nilFunc] := (at_of (show T 32 = D32 from rfl)).2.2.2
theorem T33k : (T 33).k = .other := (at_of (show T 33 = D33 from rfl)).1
theorem T33s : (T 33).size = 1 := (at_of (show T 33 = D33 from rfl)).2.1
theorem T33b : (T 33).bytes = 8 := (at_of (show T 33 = D33 from rfl)).2.2.1
theorem T33z : (T 33).zero = [.nilFunc] := (at_of (show T 33 = D33 from rfl)).2.2.2
theorem T34k : (T 34).k = .other := (at_of (show T 34 = D34 from rfl)).1
theorem T34s : (T 34).size = 1 := (at_of (show T 34 = D34 from rfl)).2.1
theorem T34b : (T 34).bytes = 8 := (at_of (show T 34 = D34 from rfl)).2.2.1
theorem T34z : (T 34).zero = [.nilFunc] := (at_of (show T 34 = D34 from rfl)).2.2.2
theorem T35k : (T 35).k = .other := (at_of (show T 35 = D35 from rfl)).1
theorem T35s : (T 35).size = 1 := (at_of (show T 35 = D35 from rfl)).2.1
theorem T35b : (T 35).bytes = 8 := (at_of (show T 35 = D35 from rfl)).2.2.1
theorem T35z : (T 35).zero = [.nilFunc] := (at_of (show T 35 = D35 from rfl)).2.2.2
theorem T36k : (T 36).k = .other := (at_of (show T 36 = D36 from rfl)).1
theorem T36s : (T 36).size = 1 := (at_of (show T 36 = D36 from rfl)).2.1
theorem T36b : (T 36).bytes = 8 := (at_of (show T 36 = D36 from rfl)).2.2.1
theorem T36z : (T 36).zero = [.nilFunc] := (at_of (show T 36 = D36 from rfl)).2.2.2
theorem T37k : (T 37).k = .sli 9 := (at_of (show T 37 = D37 from rfl)).1
theorem T37s : (T 37).size = 1 := (at_of (show T 37 = D37 from rfl)).2.1
theorem T37b : (T 37).bytes = 24 := (at_of (show T 37 = D37 from rfl)).2.2.1
theorem T37z : (T 37).zero = [.slice none 0 0] := (at_of (show T 37 = D37 from rfl)).2.2.2
theorem T38k : (T 38).k = .other := (at_of (show T 38 = D38 from rfl)).1
theorem T38s : (T 38).size = 1 := (at_of (show T 38 = D38 from rfl)).2.1
theorem T38b : (T 38).bytes = 8 := (at_of (show T 38 = D38 from rfl)).2.2.1
theorem T38z : (T 38).zero = [.nilFunc] := (at_of (show T 38 = D38 from rfl)).2.2.2
theorem T39k : (T 39).k = .other := (at_of (show T 39 = D39 from rfl)).1
theorem T39s : (T 39).size = 1 := (at_of (show T 39 = D39 from rfl)).2.1
theorem T39b : (T 39).bytes = 8 := (at_of (show T 39 = D39 from rfl)).2.2.1
theorem T39z : (T 39).zero = [.nilFunc] := (at_of (show T 39 = D39 from rfl)).2.2.2
theorem T40k : (T 40).k = .other := (at_of (show T 40 = D40 from rfl)).1
theorem T40s : (T 40).size = 1 := (at_of (show T 40 = D40 from rfl)).2.1
theorem T40b : (T 40).bytes = 8 := (at_of (show T 40 = D40 from rfl)).2.2.1
theorem T40z : (T 40).zero = [.nilFunc] := (at_of (show T 40 = D40 from rfl)).2.2.2
theorem T42k : (T 42).k = .other := (at_of (show T 42 = D42 from rfl)).1
theorem T42s : (T 42).size = 1 := (at_of (show T 42 = D42 from rfl)).2.1
theorem T42b : (T 42).bytes = 8 := (at_of (show T 42 = D42 from rfl)).2.2.1
theorem T42z : (T 42).zero = [.nilFunc] := (at_of (show T 42 = D42 from rfl)).2.2.2
theorem T43k : (T 43).k = .sli 22 := (at_of (show T 43 = D43 from rfl)).1
theorem T43s : (T 43).size = 1 := (at_of (show T 43 = D43 from rfl)).2.1
theorem T43b : (T 43).bytes = 24 := (at_of (show T 43 = D43 from rfl)).2.2.1
theorem T43z : (T 43).zero = [.slice none 0 0] := (at_of (show T 43 = D43 from rfl)).2.2.2
theorem T44k : (T 44).k = .other := (at_of (show T 44 = D44 from rfl)).1
theorem T44s : (T 44).size = 1 := (at_of (show T 44 = D44 from rfl)).2.1
theorem T44b : (T 44).bytes = 8 := (at_of (show T 44 = D44 from rfl)).2.2.1
theorem T44z : (T 44).zero = [.nilFunc] := (at_of (show T 44 = D44 from rfl)).2.2.2
theorem T45k : (T 45).k = .sli 5 := (at_of (show T 45 = D45 from rfl)).1
theorem T45s : (T 45).size = 1 := (at_of (show T 45 = D45 from rfl)).2.1
theorem T45b : (T 45).bytes = 24 := (at_of (show T 45 = D45 from rfl)).2.2.1
theorem T45z : (T 45).zero = [.slice none 0 0] := (at_of (show T 45 = D45 from rfl)).2.2.2
theorem T46k : (T 46).k = .other := (at_of (show T 46 = D46 from rfl)).1
theorem T46s : (T 46).size = 1 := (at_of (show T 46 = D46 from rfl)).2.1
theorem T46b : (T 46).bytes = 8 := (at_of (show T 46 = D46 from rfl)).2.2.1
theorem T46z : (T 46).zero = [.pointer none] := (at_of (show T 46 = D46 from rfl)).2.2.2
theorem T47k : (T 47).k = .struct [(0, 46), (1, 45)] := (at_of (show T 47 = D47 from rfl)).1
theorem T47s : (T 47).size = 2 := (at_of (show T 47 = D47 from rfl)).2.1
theorem T47b : (T 47).bytes = 32 := (at_of (show T 47 = D47 from rfl)).2.2.1
theorem T47z : (T 47).zero = [.pointer none, .slice none 0 0] := (at_of (show T 47 = D47 from rfl)).2.2.2
theorem T48k : (T 48).k = .struct [(0, 46), (1, 45)] := (at_of (show T 48 = D48 from rfl)).1
theorem T48s : (T 48).size = 2 := (at_of (show T 48 = D48 from rfl)).2.1
theorem T48b : (T 48).bytes = 32 := (at_of (show T 48 = D48 from rfl)).2.2.1
theorem T48z : (T 48).zero = [.pointer none, .slice none 0 0] := (at_of (show T 48 = D48 from rfl)).2.2.2
theorem T49k : (T 49).k = .other := (at_of (show T 49 = D49 from rfl)).1
theorem T49s : (T 49).size = 1 := (at_of (show T 49 = D49 from rfl)).2.1
theorem T49b : (T 49).bytes = 8 := (at_of (show T 49 = D49 from rfl)).2.2.1
theorem T49z : (T 49).zero = [.nilFunc] := (at_of (show T 49 = D49 from rfl)).2.2.2
theorem T53k : (T 53).k = .other := (at_of (show T 53 = D53 from rfl)).1
theorem T53s : (T 53).size = 1 := (at_of (show T 53 = D53 from rfl)).2.1
theorem T53b : (T 53).bytes = 8 := (at_of (show T 53 = D53 from rfl)).2.2.1
theorem T53z : (T 53).zero = [.nilFunc] := (at_of (show T 53 = D53 from rfl)).2.2.2
theorem T54k : (T 54).k = .other := (at_of (show T 54 = D54 from rfl)).1
theorem T54s : (T 54).size = 1 := (at_of (show T 54 = D54 from rfl)).2.1
theorem T54b : (T 54).bytes = 8 := (at_of (show T 54 = D54 from rfl)).2.2.1
theorem T54z : (T 54).zero = [.nilFunc] := (at_of (show T 54 = D54 from rfl)).2.2.2
theorem T55k : (T 55).k = .other := (at_of (show T 55 = D55 from rfl)).1
theorem T55s : (T 55).size = 1 := (at_of (show T 55 = D55 from rfl)).2.1
theorem T55b : (T 55).bytes = 8 := (at_of (show T 55 = D55 from rfl)).2.2.1
theorem T55z : (T 55).zero = [.nilFunc] := (at_of (show T 55 = D55 from rfl)).2.2.2
theorem T56k : (T 56).k = .other := (at_of (show T 56 = D56 from rfl)).1
theorem T56s : (T 56).size = 1 := (at_of (show T 56 = D56 from rfl)).2.1
theorem T56b : (T 56).bytes = 8 := (at_of (show T 56 = D56 from rfl)).2.2.1
theorem T56z : (T 56).zero = [.nilFunc] := (at_of (show T 56 = D56 from rfl)).2.2.2
theorem T57k : (T 57).k = .other := (at_of (show T 57 = D57 from rfl)).1
theorem T57s : (T 57).size = 1 := (at_of (show T 57 = D57 from rfl)).2.1
theorem T57b : (T 57).bytes = 8 := (at_of (show T 57 = D57 from rfl)).2.2.1
theorem T57z : (T 57).zero = [.nilFunc] := (at_of (show T 57 = D57 from rfl)).2.2.2
theorem T58k : (T 58).k = .other := (at_of (show T 58 = D58 from rfl)).1
theorem T58s : (T 58).size = 1 := (at_of (show T 58 = D58 from rfl)).2.1
theorem T58b : (T 58).bytes = 8 := (at_of (show T 58 = D58 from rfl)).2.2.1
theorem T58z : (T 58).zero = [.nilFunc] := (at_of (show T 58 = D58 from rfl)).2.2.2
theorem T59k : (T 59).k = .int .u64 := (at_of (show T 59 = D59 from rfl)).1
theorem T59s : (T 59).size = 1 := (at_of (show T 59 = D59 from rfl)).2.1
theorem T59b : (T 59).bytes = 8 := (at_of (show T 59 = D59 from rfl)).2.2.1
theorem T59z : (T 59).zero = [.int .u64 0] := (at_of (show T 59 = D59 from rfl)).2.2.2
theorem T60k : (T 60).k = .other := (at_of (show T 60 = D60 from rfl)).1
theorem T60s : (T 60).size = 1 := (at_of (show T 60 = D60 from rfl)).2.1
theorem T60b : (T 60).bytes = 8 := (at_of (show T 60 = D60 from rfl)).2.2.1
theorem T60z : (T 60).zero = [.nilFunc] := (at_of (show T 60 = D60 from rfl)).2.2.2
theorem T61k : (T 61).k = .other := (at_of (show T 61 = D61 from rfl)).1
theorem T61s : (T 61).size = 1 := (at_of (show T 61 = D61 from rfl)).2.1
theorem T61b : (T 61).bytes = 8 := (at_of (show T 61 = D61 from rfl)).2.2.1
theorem T61z : (T 61).zero = [.nilFunc] := (at_of (show T 61 = D61 from rfl)).2.2.2
theorem T62k : (T 62).k = .other := (at_of (show T 62 = D62 from rfl)).1
theorem T62s : (T 62).size = 1 := (at_of (show T 62 = D62 from rfl)).2.1
theorem T62b : (T 62).bytes = 8 := (at_of (show T 62 = D62 from rfl)).2.2.1
theorem T62z : (T 62).zero = [.nilFunc] := (at_of (show T 62 = D62 from rfl)).2.2.2
theorem T64k : (T 64).k = .other := (at_of (show T 64 = D64 from rfl)).1
theorem T64s : (T 64).size = 1 := (at_of (show T 64 = D64 from rfl)).2.1
theorem T64b : (T 64).bytes = 8 := (at_of (show T 64 = D64 from rfl)).2.2.1
theorem T64z : (T 64).zero = [.nilFunc] := (at_of (show T 64 = D64 from rfl)).2.2.2
theorem T65k : (T 65).k = .int .u64 := (at_of (show T 65 = D65 from rfl)).1
theorem T65s : (T 65).size = 1 := (at_of (show T 65 = D65 from rfl)).2.1
theorem T65b : (T 65).bytes = 8 := (at_of (show T 65 = D65 from rfl)).2.2.1
theorem T65z : (T 65).zero = [.int .u64 0] := (at_of (show T 65 = D65 from rfl)).2.2.2
theorem T66k : (T 66).k = .other := (at_of (show T 66 = D66 from rfl)).1
theorem T66s : (T 66).size = 1 := (at_of (show T 66 = D66 from rfl)).2.1
theorem T66b : (T 66).bytes = 8 := (at_of (show T 66 = D66 from rfl)).2.2.1
theorem T66z : (T 66).zero = [.nilFunc] := (at_of (show T 66 = D66 from rfl)).2.2.2
theorem T67k : (T 67).k = .other := (at_of (show T 67 = D67 from rfl)).1
theorem T67s : (T 67).size = 1 := (at_of (show T 67 = D67 from rfl)).2.1
theorem T67b : (T 67).bytes = 8 := (at_of (show T 67 = D67 from rfl)).2.2.1
theorem T67z : (T 67).zero = [.nilFunc] := (at_of (show T 67 = D67 from rfl)).2.2.2
theorem T68k : (T 68).k = .other := (at_of (show T 68 = D68 from rfl)).1
theorem T68s : (T 68).size = 1 := (at_of (show T 68 = D68 from rfl)).2.1
theorem T68b : (T 68).bytes = 8 := (at_of (show T 68 = D68 from rfl)).2.2.1
theorem T68z : (T 68).zero = [.nilFunc] := (at_of (show T 68 = D68 from rfl)).2.2.2
theorem T69k : (T 69).k = .other := (at_of (show T 69 = D69 from rfl)).1
theorem T69s : (T 69).size = 1 := (at_of (show T 69 = D69 from rfl)).2.1
theorem T69b : (T 69).bytes = 8 := (at_of (show T 69 = D69 from rfl)).2.2.1
theorem T69z : (T 69).zero = [.nilFunc] := (at_of (show T 69 = D69 from rfl)).2.2.2
theorem T70k : (T 70).k = .other := (at_of (show T 70 = D70 from rfl)).1
theorem T70s : (T 70).size = 1 := (at_of (show T 70 = D70 from rfl)).2.1
theorem T70b : (T 70).bytes = 8 := (at_of (show T 70 = D70 from rfl)).2.2.1
theorem T70z : (T 70).zero = [.nilFunc] := (at_of (show T 70 = D70 from rfl)).2.2.2
theorem T71k : (T 71).k = .other := (at_of (show T 71 = D71 from rfl)).1
theorem T71s : (T 71).size = 1 := (at_of (show T 71 = D71 from rfl)).2.1
theorem T71b : (T 71).bytes = 8 := (at_of (show T 71 = D71 from rfl)).2.2.1
theorem T71z : (T 71).zero = [.nilFunc] := (at_of (show T 71 = D71 from rfl)).2.2.2
theorem T72k : (T 72).k = .other := (at_of (show T 72 = D72 from rfl)).1
theorem T72s : (T 72).size = 1 := (at_of (show T 72 = D72 from rfl)).2.1
theorem T72b : (T 72).bytes = 8 := (at_of (show T 72 = D72 from rfl)).2.2.1
theorem T72z : (T 72).zero = [.nilFunc] := (at_of (show T 72 = D72 from rfl)).2.2.2
theorem T73k : (T 73).k = .other := (at_of (show T 73 = D73 from rfl)).1
theorem T73s : (T 73).size = 1 := (at_of (show T 73 = D73 from rfl)).2.1
theorem T73b : (T 73).bytes = 8 := (at_of (show T 73 = D73 from rfl)).2.2.1
theorem T73z : (T 73).zero = [.pointer none] := (at_of (show T 73 = D73 from rfl)).2.2.2
theorem T74k : (T 74).k = .other := (at_of (show T 74 = D74 from rfl)).1
theorem T74s : (T 74).size = 1 := (at_of (show T 74 = D74 from rfl)).2.1
theorem T74b : (T 74).bytes = 8 := (at_of (show T 74 = D74 from rfl)).2.2.1
theorem T74z : (T 74).zero = [.nilFunc] := (at_of (show T 74 = D74 from rfl)).2.2.2
theorem T75k : (T 75).k = .other := (at_of (show T 75 = D75 from rfl)).1
theorem T75s : (T 75).size = 1 := (at_of (show T 75 = D75 from rfl)).2.1
theorem T75b : (T 75).bytes = 8 := (at_of (show T 75 = D75 from rfl)).2.2.1
theorem T75z : (T 75).zero = [.nilFunc] := (at_of (show T 75 = D75 from rfl)).2.2.2
theorem T76k : (T 76).k = .other := (at_of (show T 76 = D76 from rfl)).1
theorem T76s : (T 76).size = 1 := (at_of (show T 76 = D76 from rfl)).2.1
theorem T76b : (T 76).bytes = 8 := (at_of (show T 76 = D76 from rfl)).2.2.1
theorem T76z : (T 76).zero = [.nilFunc] := (at_of (show T 76 = D76 from rfl)).2.2.2
theorem T77k : (T 77).k = .other := (at_of (show T 77 = D77 from rfl)).1
theorem T77s : (T 77).size = 1 := (at_of (show T 77 = D77 from rfl)).2.1
theorem T77b : (T 77).bytes = 8 := (at_of (show T 77 = D77 from rfl)).2.2.1
theorem T77z : (T 77).zero = [.nilFunc] := (at_of (show T 77 = D77 from rfl)).2.2.2
theorem T78k : (T 78).k = .other := (at_of (show T 78 = D78 from rfl)).1
theorem T78s : (T 78).size = 1 := (at_of (show T 78 = D78 from rfl)).2.1
theorem T78b : (T 78).bytes = 8 := (at_of (show T 78 = D78 from rfl)).2.2.1
theorem T78z : (T 78).zero = [.nilFunc] := (at_of (show T 78 = D78 from rfl)).2.2.2
theorem T79k : (T 79).k = .other := (at_of (show T 79 = D79 from rfl)).1
theorem T79s : (T 79).size = 1 := (at_of (show T 79 = D79 from rfl)).2.1
theorem T79b : (T 79).bytes = 8 := (at_of (show T 79 = D79 from rfl)).2.2.1
theorem T79z : (T 79).zero = [.nilFunc] := (at_of (show T 79 = D79 from rfl)).2.2.2
theorem T80k : (T 80).k = .other := (at_of (show T 80 = D80 from rfl)).1
theorem T80s : (T 80).size = 1 := (at_of (show T 80 = D80 from rfl)).2.1
theorem T80b : (T 80).bytes = 8 := (at_of (show T 80 = D80 from rfl)).2.2.1
theorem T80z : (T 80).zero = [.nilFunc] := (at_of (show T 80 = D80 from rfl)).2.2.2
theorem T81k : (T 81).k = .other := (at_of (show T 81 = D81 from rfl)).1
theorem T81s : (T 81).size = 1 := (at_of (show T 81 = D81 from rfl)).2.1
theorem T81b : (T 81).bytes = 8 := (at_of (show T 81 = D81 from rfl)).2.2.1
theorem T81z : (T 81).zero = [.nilFunc] := (at_of (show T 81 = D81 from rfl)).2.2.2
theorem T82k : (T 82).k = .other := (at_of (show T 82 = D82 from rfl)).1
theorem T82s : (T 82).size = 1 := (at_of (show T 82 = D82 from rfl)).2.1
theorem T82b : (T 82).bytes = 8 := (at_of (show T 82 = D82 from rfl)).2.2.1
theorem T82z : (T 82).zero = [.nilFunc] := (at_of (show T 82 = D82 from rfl)).2.2.2
theorem T83k : (T 83).k = .other := (at_of (show T 83 = D83 from rfl)).1
theorem T83s : (T 83).size = 1 := (at_of (show T 83 = D83 from rfl)).2.1
theorem T83b : (T 83).bytes = 8 := (at_of (show T 83 = D83 from rfl)).2.2.1
theorem T83z : (T 83).zero = [.nilFunc] := (at_of (show T 83 = D83 from rfl)).2.2.2
theorem T84k : (T 84).k = .other := (at_of (show T 84 = D84 from rfl)).1
theorem T84s : (T 84).size = 1 := (at_of (show T 84 = D84 from rfl)).2.1
theorem T84b : (T 84).bytes = 8 := (at_of (show T 84 = D84 from rfl)).2.2.1
theorem T84z : (T 84).zero = [.nilFunc] := (at_of (show T 84 = D84 from rfl)).2.2.2
theorem T85k : (T 85).k = .other := (at_of (show T 85 = D85 from rfl)).1
theorem T85s : (T 85).size = 1 := (at_of (show T 85 = D85 from rfl)).2.1
theorem T85b : (T 85).bytes = 8 := (at_of (show T 85 = D85 from rfl)).2.2.1
theorem T85z : (T 85).zero = [.nilFunc] := (at_of (show T 85 = D85 from rfl)).2.2.2
theorem T87k : (T 87).k = .other := (at_of (show T 87 = D87 from rfl)).1
theorem T87s : (T 87).size = 1 := (at_of (show T 87 = D87 from rfl)).2.1
theorem T87b : (T 87).bytes = 8 := (at_of (show T 87 = D87 from rfl)).2.2.1
theorem T87z : (T 87).zero = [.nilFunc] := (at_of (show T 87 = D87 from rfl)).2.2.2
theorem T88k : (T 88).k = .other := (at_of (show T 88 = D88 from rfl)).1
theorem T88s : (T 88).size = 1 := (at_of (show T 88 = D88 from rfl)).2.1
theorem T88b : (T 88).bytes = 8 := (at_of (show T 88 = D88 from rfl)).2.2.1
theorem T88z : (T 88).zero = [.nilFunc] := (at_of (show T 88 = D88 from rfl)).2.2.2
theorem T89k : (T 89).k = .other := (at_of (show T 89 = D89 from rfl)).1
theorem T89s : (T 89).size = 1 := (at_of (show T 89 = D89 from rfl)).2.1
theorem T89b : (T 89).bytes = 8 := (at_of (show T 89 = D89 from rfl)).2.2.1
theorem T89z : (T 89).zero = [.nilFunc] := (at_of (show T 89 = D89 from rfl)).2.2.2
theorem T90k : (T 90).k = .other := (at_of (show T 90 = D90 from rfl)).1
theorem T90s : (T 90).size = 1 := (at_of (show T 90 = D90 from rfl)).2.1
theorem T90b : (T 90).bytes = 8 := (at_of (show T 90 = D90 from rfl)).2.2.1
theorem T90z : (T 90).zero = [.nilFunc] := (at_of (show T 90 = D90 from rfl)).2.2.2
theorem T91k : (T 91).k = .other := (at_of (show T 91 = D91 from rfl)).1
theorem T91s : (T 91).size = 1 := (at_of (show T 91 = D91 from rfl)).2.1
theorem T91b : (T 91).bytes = 8 := (at_of (show T 91 = D91 from rfl)).2.2.1
theorem T91z : (T 91).zero = [.nilFunc] := (at_of (show T 91 = D91 from rfl)).2.2.2
theorem T93k : (T 93).k = .other := (at_of (show T 93 = D93 from rfl)).1
theorem T93s : (T 93).size = 1 := (at_of (show T 93 = D93 from rfl)).2.1
theorem T93b : (T 93).bytes = 8 := (at_of (show T 93 = D93 from rfl)).2.2.1
theorem T93z : (T 93).zero = [.nilFunc] := (at_of (show T 93 = D93 from rfl)).2.2.2
theorem T94k : (T 94).k = .other := (at_of (show T 94 = D94 from rfl)).1
theorem T94s : (T 94).size = 1 := (at_of (show T 94 = D94 from rfl)).2.1
theorem T94b : (T 94).bytes = 8 := (at_of (show T 94 = D94 from rfl)).2.2.1
theorem T94z : (T 94).zero = [.nilFunc] := (at_of (show T 94 = D94 from rfl)).2.2.2
theorem T95k : (T 95).k = .other := (at_of (show T 95 = D95 from rfl)).1
theorem T95s : (T 95).size = 1 := (at_of (show T 95 = D95 from rfl)).2.1
theorem T95b : (T 95).bytes = 8 := (at_of (show T 95 = D95 from rfl)).2.2.1
theorem T95z : (T 95).zero = [.nilFunc] := (at_of (show T 95 = D95 from rfl)).2.2.2
theorem T96k : (T 96).k = .int .u32 := (at_of (show T 96 = D96 from rfl)).1
theorem T96s : (T 96).size = 1 := (at_of (show T 96 = D96 from rfl)).2.1
theorem T96b : (T 96).bytes = 4 := (at_of (show T 96 = D96 from rfl)).2.2.1
theorem T96z : (T 96).zero = [.int .u32 0] := (at_of (show T 96 = D96 from rfl)).2.2.2
theorem T97k : (T 97).k = .other := (at_of (show T 97 = D97 from rfl)).1
theorem T97s : (T 97).size = 1 := (at_of (show T 97 = D97 from rfl)).2.1
theorem T97b : (T 97).bytes = 8 := (at_of (show T 97 = D97 from rfl)).2.2.1
theorem T97z : (T 97).zero = [.nilFunc] := (at_of (show T 97 = D97 from rfl)).2.2.2
theorem T98k : (T 98).k = .other := (at_of (show T 98 = D98 from rfl)).1
theorem T98s : (T 98).size = 1 := (at_of (show T 98 = D98 from rfl)).2.1
theorem T98b : (T 98).bytes = 8 := (at_of (show T 98 = D98 from rfl)).2.2.1
theorem T98z : (T 98).zero = [.nilFunc] := (at_of (show T 98 = D98 from rfl)).2.2.2
theorem T99k : (T 99).k = .other := (at_of (show T 99 = D99 from rfl)).1
theorem T99s : (T 99).size = 1 := (at_of (show T 99 = D99 from rfl)).2.1
theorem T99b : (T 99).bytes = 8 := (at_of (show T 99 = D99 from rfl)).2.2.1
theorem T99z : (T 99).zero = [.nilFunc] := (at_of (show T 99 = D99 from rfl)).2.2.2
theorem T100k : (T 100).k = .arr 24 5 := (at_of (show T 100 = D100 from rfl)).1
theorem T100s : (T 100).size = 24 := (at_of (show T 100 = D100 from rfl)).2.1
theorem T100b : (T 100).bytes = 24 := (at_of (show T 100 = D100 from rfl)).2.2.1
theorem T100z : (T 100).zero = ((List.replicate 24 (.int .u8 0))) := (at_of (show T 100 = D100 from rfl)).2.2.2
theorem T101k : (T 101).k = .other := (at_of (show T 101 = D101 from rfl)).1
theorem T101s : (T 101).size = 1 := (at_of (show T 101 = D101 from rfl)).2.1
theorem T101b : (T 101).bytes = 8 := (at_of (show T 101 = D101 from rfl)).2.2.1
theorem T101z : (T 101).zero = [.nilFunc] := (at_of (show T 101 = D101 from rfl)).2.2.2
theorem T103k : (T 103).k = .other := (at_of (show T 103 = D103 from rfl)).1
theorem T103s : (T 103).size = 1 := (at_of (show T 103 = D103 from rfl)).2.1
theorem T103b : (T 103).bytes = 8 := (at_of (show T 103 = D103 from rfl)).2.2.1
theorem T103z : (T 103).zero = [.nilFunc] := (at_of (show T 103 = D103 from rfl)).2.2.2
theorem T104k : (T 104).k = .sli 4 := (at_of (show T 104 = D104 from rfl)).1
theorem T104s : (T 104).size = 1 := (at_of (show T 104 = D104 from rfl)).2.1
theorem T104b : (T 104).bytes = 24 := (at_of (show T 104 = D104 from rfl)).2.2.1
theorem T104z : (T 104).zero = [.slice none 0 0] := (at_of (show T 104 = D104 from rfl)).2.2.2
theorem T105k : (T 105).k = .other := (at_of (show T 105 = D105 from rfl)).1
theorem T105s : (T 105).size = 1 := (at_of (show T 105 = D105 from rfl)).2.1
theorem T105b : (T 105).bytes = 8 := (at_of (show T 105 = D105 from rfl)).2.2.1
theorem T105z : (T 105).zero = [.nilFunc] := (at_of (show T 105 = D105 from rfl)).2.2.2
theorem T106k : (T 106).k = .other := (at_of (show T 106 = D106 from rfl)).1
theorem T106s : (T 106).size = 1 := (at_of (show T 106 = D106 from rfl)).2.1
theorem T106b : (T 106).bytes = 8 := (at_of (show T 106 = D106 from rfl)).2.2.1
theorem T106z : (T 106).zero = [.nilFunc] := (at_of (show T 106 = D106 from rfl)).2.2.2
theorem T107k : (T 107).k = .arr 20 59 := (at_of (show T 107 = D107 from rfl)).1
theorem T107s : (T 107).size = 20 := (at_of (show T 107 = D107 from rfl)).2.1
theorem T107b : (T 107).bytes = 160 := (at_of (show T 107 = D107 from rfl)).2.2.1
theorem T107z : (T 107).zero = ((List.replicate 20 (.int .u64 0))) := (at_of (show T 107 = D107 from rfl)).2.2.2
theorem T108k : (T 108).k = .arr 65 5 := (at_of (show T 108 = D108 from rfl)).1
theorem T108s : (T 108).size = 65 := (at_of (show T 108 = D108 from rfl)).2.1
theorem T108b : (T 108).bytes = 65 := (at_of (show T 108 = D108 from rfl)).2.2.1
theorem T108z : (T 108).zero = ((List.replicate 65 (.int .u8 0))) := (at_of (show T 108 = D108 from rfl)).2.2.2
theorem T109k : (T 109).k = .arr 32 5 := (at_of (show T 109 = D109 from rfl)).1
theorem T109s : (T 109).size = 32 := (at_of (show T 109 = D109 from rfl)).2.1
theorem T109b : (T 109).bytes = 32 := (at_of (show T 109 = D109 from rfl)).2.2.1
theorem T109z : (T 109).zero = ((List.replicate 32 (.int .u8 0))) := (at_of (show T 109 = D109 from rfl)).2.2.2
theorem T110k : (T 110).k = .arr 64 5 := (at_of (show T 110 = D110 from rfl)).1
theorem T110s : (T 110).size = 64 := (at_of (show T 110 = D110 from rfl)).2.1
theorem T110b : (T 110).bytes = 64 := (at_of (show T 110 = D110 from rfl)).2.2.1
theorem T110z : (T 110).zero = ((List.replicate 64 (.int .u8 0))) := (at_of (show T 110 = D110 from rfl)).2.2.2
theorem T116k : (T 116).k = .other := (at_of (show T 116 = D116 from rfl)).1
theorem T116s : (T 116).size = 1 := (at_of (show T 116 = D116 from rfl)).2.1
theorem T116b : (T 116).bytes = 8 := (at_of (show T 116 = D116 from rfl)).2.2.1
theorem T116z : (T 116).zero = [.nilFunc] := (at_of (show T 116 = D116 from rfl)).2.2.2
theorem T119k : (T 119).k = .other := (at_of (show T 119 = D119 from rfl)).1
theorem T119s : (T 119).size = 1 := (at_of (show T 119 = D119 from rfl)).2.1
theorem T119b : (T 119).bytes = 8 := (at_of (show T 119 = D119 from rfl)).2.2.1
theorem T119z : (T 119).zero = [.nilFunc] := (at_of (show T 119 = D119 from rfl)).2.2.2
theorem gT : type_of% (And.intro @T2k <| And.intro @T2s <| And.intro @T2b <| And.intro @T2z <| And.intro @T3k <| And.intro @T3s <| And.intro @T3b <| And.intro @T3z <| And.intro @T4k <| And.intro @T4s <| And.intro @T4b <| And.intro @T4z <| And.intro @T5k <| And.intro @T5s <| And.intro @T5b <| And.intro @T5z <| And.intro @T9k <| And.intro @T9s <| And.intro @T9b <| And.intro @T9z <| And.intro @T12k <| And.intro @T12s <| And.intro @T12b <| And.intro @T12z <| And.intro @T13k <| And.intro @T13s <| And.intro @T13b <| And.intro @T13z <| And.intro @T21k <| And.intro @T21s <| And.intro @T21b <| And.intro @T21z <| And.intro @T22k <| And.intro @T22s <| And.intro @T22b <| And.intro @T22z <| And.intro @T27k <| And.intro @T27s <| And.intro @T27b <| And.intro @T27z <| And.intro @T28k <| And.intro @T28s <| And.intro @T28b <| And.intro @T28z <| And.intro @T31k <| And.intro @T31s <| And.intro @T31b <| And.intro @T31z <| And.intro @T37k <| And.intro @T37s <| And.intro @T37b <| And.intro @T37z <| And.intro @T43k <| And.intro @T43s <| And.intro @T43b <| And.intro @T43z <| And.intro @T45k <| And.intro @T45s <| And.intro @T45b <| And.intro @T45z <| And.intro @T47k <| And.intro @T47s <| And.intro @T47b <| And.intro @T47z <| And.intro @T48k <| And.intro @T48s <| And.intro @T48b <| And.intro @T48z <| And.intro @T59k <| And.intro @T59s <| And.intro @T59b <| And.intro @T59z <| And.intro @T65k <| And.intro @T65s <| And.intro @T65b <| And.intro @T65z <| And.intro @T96k <| And.intro @T96s <| And.intro @T96b <| And.intro @T96z <| And.intro @T100k <| And.intro @T100s <| And.intro @T100b <| And.intro @T100z <| And.intro @T104k <| And.intro @T104s <| And.intro @T104b <| And.intro @T104z <| And.intro @T107k <| And.intro @T107s <| And.intro @T107b <| And.intro @T107z <| And.intro @T108k <| And.intro @T108s <| And.intro @T108b <| And.intro @T108z <| And.intro @T109k <| And.intro @T109s <| And.intro @T109b <| And.intro @T109z <| And.intro @T110k <| And.intro @T110s <| And.intro @T110b <| @T110z) := And.intro @T2k <| And.intro @T2s <| And.intro @T2b <| And.intro @T2z <| And.intro @T3k <| And.intro @T3s <| And.intro @T3b <| And.intro @T3z <| And.intro @T4k <| And.intro @T4s <| And.intro @T4b <| And.intro @T4z <| And.intro @T5k <| And.intro @T5s <| And.intro @T5b <| And.intro @T5z <| And.intro @T9k <| And.intro @T9s <| And.intro @T9b <| And.intro @T9z <| And.intro @T12k <| And.intro @T12s <| And.intro @T12b <| And.intro @T12z <| And.intro @T13k <| And.intro @T13s <| And.intro @T13b <| And.intro @T13z <| And.intro @T21k <| And.intro @T21s <| And.intro @T21b <| And.intro @T21z <| And.intro @T22k <| And.intro @T22s <| And.intro @T22b <| And.intro @T22z <| And.intro @T27k <| And.intro @T27s <| And.intro @T27b <| And.intro @T27z <| And.intro @T28k <| And.intro @T28s <| And.intro @T28b <| And.intro @T28z <| And.intro @T31k <| And.intro @T31s <| And.intro @T31b <| And.intro @T31z <| And.intro @T37k <| And.intro @T37s <| And.intro @T37b <| And.intro @T37z <| And.intro @T43k <| And.intro @T43s <| And.intro @T43b <| And.intro @T43z <| And.intro @T45k <| And.intro @T45s <| And.intro @T45b <| And.intro @T45z <| And.intro @T47k <| And.intro @T47s <| And.intro @T47b <| And.intro @T47z <| And.intro @T48k <| And.intro @T48s <| And.intro @T48b <| And.intro @T48z <| And.intro @T59k <| And.intro @T59s <| And.intro @T59b <| And.intro @T59z <| And.intro @T65k <| And.intro @T65s <| And.intro @T65b <| And.intro @T65z <| And.intro @T96k <| And.intro @T96s <| And.intro @T96b <| And.intro @T96z <| And.intro @T100k <| And.intro @T100s <| And.intro @T100b <| And.intro @T100z <| And.intro @T104k <| And.intro @T104s <| And.intro @T104b <| And.intro @T104z <| And.intro @T107k <| And.intro @T107s <| And.intro @T107b <| And.intro @T107z <| And.intro @T108k <| And.intro @T108s <| And.intro @T108b <| And.intro @T108z <| And.intro @T109k <| And.intro @T109s <| And.intro @T109b <| And.intro @T109z <| And.intro @T110k <| And.intro @T110s <| And.intro @T110b <| @T110z
theorem tab0_fits : ∀ x ∈ tab0, x.2.Fits Tryd.prog x.1 := by
  simp only [tab0, List.forall_mem_cons]
  exact ⟨F1, F2, F3, F4, F5, F9, F12, F13, F21, F22, F23, F24, F25, F26, F27, F28, F29, F30, F31, F32, F33, F34, F35, F36, F37, F38, F39, F40, F42, F43, F44, F45, F46, F47, F48, F49, F53, F54, F55, F56, F57, F58, F59, F60, F61, F62, F64, F65, F66, F67, F68, F69, F70, F71, F72, F73, F74, F75, F76, F77, fun _ h => absurd h (by simp)⟩
theorem tab1_fits : ∀ x ∈ tab1, x.2.Fits Tryd.prog x.1 := by
  simp only [tab1, List.forall_mem_cons]
  exact ⟨F78, F79, F80, F81, F82, F83, F84, F85, F87, F88, F89, F90, F91, F93, F94, F95, F96, F97, F98, F99, F100, F101, F103, F104, F105, F106, F107, F108, F109, F110, F116, F119, fun _ h => absurd h (by simp)⟩
theorem tab_fits : ∀ x ∈ tab, x.2.Fits Tryd.prog x.1 := by
  simp only [tab, List.forall_mem_append]
  exact ⟨tab0_fits, tab1_fits⟩
theorem T_ok : Tab.Ok T Tryd.prog := by
  intro t ht
  unfold T at ht ⊢
  cases h : tab.find? fun x => x.1 == t with
  | none => rw [h] at ht; simp at ht
  | some x =>
    have h1 := List.find?_some h
    have h2 := tab_fits x (List.mem_of_find?_eq_some h)
    simp at h1
    subst h1
    exact h2

theorem mixed : Tryd.prog.follows .mixedOrders = true := by kernel_rfl
theorem powG : Tryd.prog.globalNamed "internal/strconv.uint64pow10" = some 1 := by kernel_rfl
instance held : Held := ⟨{ Φ := powTab Tryd.prog, Gl := fun b => b = 1, keep := fun h hb => powTab_keep powG h hb, low := fun h hb => powTab_low powG h hb }⟩
end Go.Proofs.YtmpjajhklilleaaDoor

/- DERIVED by an AI agent, by a program of its own (mktypes.py). The types of the translation, as the abstract layer reads them. -/
import Derived.Test.YtnkiinneeobmhaaRows
import Derived.Test.YtnkiinneeobmhaaA27
namespace Go.Proofs.Ytnkiinneeobmhaa
open Go.Abs
set_option linter.unusedVariables false

theorem fits_of {t : TypeId} {d : TD} {z : Value} (h : d.k.fits Try.prog t) (hi : (Try.prog.info? t).map (fun i => (i.zero, i.size, i.bytes)) = some (some z, d.size, d.bytes)) (hz : z.cells.toList = d.zero) (hl : d.zero.length = d.size) (ho : d.k.agg = false → d.size = 1 ∧ ∀ z, d.zero = [z] → z.oneCell' = true) : d.Fits Try.prog t := by
  refine ⟨h, ?_, hl, ho⟩
  cases hq : Try.prog.info? t with
  | none => rw [hq] at hi; simp at hi
  | some i =>
    rw [hq] at hi
    simp at hi
    exact ⟨i, z, rfl, hi.2.1, hi.2.2, hi.1, hz⟩

-- func()
def D1 : TD := ⟨.other, 1, 8, [.nilFunc]⟩
theorem F1 : D1.Fits Try.prog 1 := fits_of (z := .nilFunc) ⟨_, Try.underlying1, trivial⟩ (by kernel_rfl) rfl rfl (fun _ => ⟨rfl, fun z h => by cases h; rfl⟩)
-- int64
def D2 : TD := ⟨.int .i64, 1, 8, [.int .i64 0]⟩
theorem F2 : D2.Fits Try.prog 2 := fits_of (z := .int .i64 0) (show Try.prog.underlying 2 = some (TypeDesc.int .i64) by kernel_rfl) (by kernel_rfl) rfl rfl (fun _ => ⟨rfl, fun z h => by cases h; rfl⟩)
-- int
def D3 : TD := ⟨.int .i64, 1, 8, [.int .i64 0]⟩
theorem F3 : D3.Fits Try.prog 3 := fits_of (z := .int .i64 0) (show Try.prog.underlying 3 = some (TypeDesc.int .i64) by kernel_rfl) (by kernel_rfl) rfl rfl (fun _ => ⟨rfl, fun z h => by cases h; rfl⟩)
-- bool
def D4 : TD := ⟨.bool, 1, 1, [.bool false]⟩
theorem F4 : D4.Fits Try.prog 4 := fits_of (z := .bool false) (show Try.prog.underlying 4 = some (TypeDesc.bool) by kernel_rfl) (by kernel_rfl) rfl rfl (fun _ => ⟨rfl, fun z h => by cases h; rfl⟩)
-- uint8
def D5 : TD := ⟨.int .u8, 1, 1, [.int .u8 0]⟩
theorem F5 : D5.Fits Try.prog 5 := fits_of (z := .int .u8 0) (show Try.prog.underlying 5 = some (TypeDesc.int .u8) by kernel_rfl) (by kernel_rfl) rfl rfl (fun _ => ⟨rfl, fun z h => by cases h; rfl⟩)
-- string
def D9 : TD := ⟨.str, 1, 16, [.string ⟨#[]⟩]⟩
theorem F9 : D9.Fits Try.prog 9 := fits_of (z := .string ⟨#[]⟩) (show Try.prog.underlying 9 = some (TypeDesc.string) by kernel_rfl) (by kernel_rfl) rfl rfl (fun _ => ⟨rfl, fun z h => by cases h; rfl⟩)
-- uintptr
def D12 : TD := ⟨.int .u64, 1, 8, [.int .u64 0]⟩
theorem F12 : D12.Fits Try.prog 12 := fits_of (z := .int .u64 0) (show Try.prog.underlying 12 = some (TypeDesc.int .u64) by kernel_rfl) (by kernel_rfl) rfl rfl (fun _ => ⟨rfl, fun z h => by cases h; rfl⟩)
-- struct { msg string; addr uintptr }
def D13 : TD := ⟨.struct [(0, 9), (1, 12)], 2, 24, [.string ⟨#[]⟩, .int .u64 0]⟩
theorem F13 : D13.Fits Try.prog 13 := fits_of (z := .agg #[.string ⟨#[]⟩, .int .u64 0]) ⟨_, Try.underlying13, rfl⟩ (by kernel_rfl) rfl rfl (fun h => by cases h)
-- int32
def D21 : TD := ⟨.int .i32, 1, 4, [.int .i32 0]⟩
theorem F21 : D21.Fits Try.prog 21 := fits_of (z := .int .i32 0) (show Try.prog.underlying 21 = some (TypeDesc.int .i32) by kernel_rfl) (by kernel_rfl) rfl rfl (fun _ => ⟨rfl, fun z h => by cases h; rfl⟩)
-- func() int
def D22 : TD := ⟨.other, 1, 8, [.nilFunc]⟩
theorem F22 : D22.Fits Try.prog 22 := fits_of (z := .nilFunc) ⟨_, Try.underlying22, trivial⟩ (by kernel_rfl) rfl rfl (fun _ => ⟨rfl, fun z h => by cases h; rfl⟩)
-- func() bool
def D23 : TD := ⟨.other, 1, 8, [.nilFunc]⟩
theorem F23 : D23.Fits Try.prog 23 := fits_of (z := .nilFunc) ⟨_, Try.underlying23, trivial⟩ (by kernel_rfl) rfl rfl (fun _ => ⟨rfl, fun z h => by cases h; rfl⟩)
-- func(int) string
def D24 : TD := ⟨.other, 1, 8, [.nilFunc]⟩
theorem F24 : D24.Fits Try.prog 24 := fits_of (z := .nilFunc) ⟨_, Try.underlying24, trivial⟩ (by kernel_rfl) rfl rfl (fun _ => ⟨rfl, fun z h => by cases h; rfl⟩)
-- func(int) bool
def D25 : TD := ⟨.other, 1, 8, [.nilFunc]⟩
theorem F25 : D25.Fits Try.prog 25 := fits_of (z := .nilFunc) ⟨_, Try.underlying25, trivial⟩ (by kernel_rfl) rfl rfl (fun _ => ⟨rfl, fun z h => by cases h; rfl⟩)
-- []int
def D26 : TD := ⟨.sli 3, 1, 24, [.slice none 0 0]⟩
theorem F26 : D26.Fits Try.prog 26 := fits_of (z := .slice none 0 0) (show Try.prog.underlying 26 = some (TypeDesc.slice 3) by kernel_rfl) (by kernel_rfl) rfl rfl (fun _ => ⟨rfl, fun z h => by cases h; rfl⟩)
-- struct { Points int; Facets []int }
def D27 : TD := ⟨.struct [(0, 3), (1, 26)], 2, 32, [.int .i64 0, .slice none 0 0]⟩
theorem F27 : D27.Fits Try.prog 27 := fits_of (z := .agg #[.int .i64 0, .slice none 0 0]) ⟨_, Try.underlying27, rfl⟩ (by kernel_rfl) rfl rfl (fun h => by cases h)
-- laws.Complex
def D28 : TD := ⟨.struct [(0, 3), (1, 26)], 2, 32, [.int .i64 0, .slice none 0 0]⟩
theorem F28 : D28.Fits Try.prog 28 := fits_of (z := .agg #[.int .i64 0, .slice none 0 0]) ⟨_, Try.underlying28, rfl⟩ (by kernel_rfl) rfl rfl (fun h => by cases h)
-- struct { Now laws.Complex; Kept laws.Complex }
def D29 : TD := ⟨.struct [(0, 28), (2, 28)], 4, 64, [.int .i64 0, .slice none 0 0, .int .i64 0, .slice none 0 0]⟩
theorem F29 : D29.Fits Try.prog 29 := fits_of (z := .agg #[.int .i64 0, .slice none 0 0, .int .i64 0, .slice none 0 0]) ⟨_, Try.underlying29, rfl⟩ (by kernel_rfl) rfl rfl (fun h => by cases h)
-- laws.Session
def D30 : TD := ⟨.struct [(0, 28), (2, 28)], 4, 64, [.int .i64 0, .slice none 0 0, .int .i64 0, .slice none 0 0]⟩
theorem F30 : D30.Fits Try.prog 30 := fits_of (z := .agg #[.int .i64 0, .slice none 0 0, .int .i64 0, .slice none 0 0]) ⟨_, Try.underlying30, rfl⟩ (by kernel_rfl) rfl rfl (fun h => by cases h)
-- func(laws.Session, int) int
def D31 : TD := ⟨.other, 1, 8, [.nilFunc]⟩
theorem F31 : D31.Fits Try.prog 31 := fits_of (z := .nilFunc) ⟨_, Try.underlying31, trivial⟩ (by kernel_rfl) rfl rfl (fun _ => ⟨rfl, fun z h => by cases h; rfl⟩)
-- func(impl.Session, impl.Session) bool
def D32 : TD := ⟨.other, 1, 8, [.nilFunc]⟩
theorem F32 : D32.Fits Try.prog 32 := fits_of (z := .nilFunc) ⟨_, Try.underlying32, trivial⟩ (by kernel_rfl) rfl rfl (fun _ => ⟨rfl, fun z h => by cases h; rfl⟩)
-- impl.Complex
def D33 : TD := ⟨.struct [(0, 3), (1, 26)], 2, 32, [.int .i64 0, .slice none 0 0]⟩
theorem F33 : D33.Fits Try.prog 33 := fits_of (z := .agg #[.int .i64 0, .slice none 0 0]) ⟨_, Try.underlying33, rfl⟩ (by kernel_rfl) rfl rfl (fun h => by cases h)
-- struct { Now impl.Complex; Kept impl.Complex }
def D34 : TD := ⟨.struct [(0, 33), (2, 33)], 4, 64, [.int .i64 0, .slice none 0 0, .int .i64 0, .slice none 0 0]⟩
theorem F34 : D34.Fits Try.prog 34 := fits_of (z := .agg #[.int .i64 0, .slice none 0 0, .int .i64 0, .slice none 0 0]) ⟨_, Try.underlying34, rfl⟩ (by kernel_rfl) rfl rfl (fun h => by cases h)
-- impl.Session
def D35 : TD := ⟨.struct [(0, 33), (2, 33)], 4, 64, [.int .i64 0, .slice none 0 0, .int .i64 0, .slice none 0 0]⟩
theorem F35 : D35.Fits Try.prog 35 := fits_of (z := .agg #[.int .i64 0, .slice none 0 0, .int .i64 0, .slice none 0 0]) ⟨_, Try.underlying35, rfl⟩ (by kernel_rfl) rfl rfl (fun h => by cases h)
-- func(laws.Session) impl.Session
def D36 : TD := ⟨.other, 1, 8, [.nilFunc]⟩
theorem F36 : D36.Fits Try.prog 36 := fits_of (z := .nilFunc) ⟨_, Try.underlying36, trivial⟩ (by kernel_rfl) rfl rfl (fun _ => ⟨rfl, fun z h => by cases h; rfl⟩)
-- func(laws.Session, laws.Session) bool
def D37 : TD := ⟨.other, 1, 8, [.nilFunc]⟩
theorem F37 : D37.Fits Try.prog 37 := fits_of (z := .nilFunc) ⟨_, Try.underlying37, trivial⟩ (by kernel_rfl) rfl rfl (fun _ => ⟨rfl, fun z h => by cases h; rfl⟩)
-- [][]int
def D38 : TD := ⟨.sli 26, 1, 24, [.slice none 0 0]⟩
theorem F38 : D38.Fits Try.prog 38 := fits_of (z := .slice none 0 0) (show Try.prog.underlying 38 = some (TypeDesc.slice 26) by kernel_rfl) (by kernel_rfl) rfl rfl (fun _ => ⟨rfl, fun z h => by cases h; rfl⟩)
-- struct { Gens [][]int }
def D39 : TD := ⟨.struct [(0, 38)], 1, 24, [.slice none 0 0]⟩
theorem F39 : D39.Fits Try.prog 39 := fits_of (z := .agg #[.slice none 0 0]) ⟨_, Try.underlying39, rfl⟩ (by kernel_rfl) rfl rfl (fun h => by cases h)
-- laws.Powers
def D40 : TD := ⟨.struct [(0, 38)], 1, 24, [.slice none 0 0]⟩
theorem F40 : D40.Fits Try.prog 40 := fits_of (z := .agg #[.slice none 0 0]) ⟨_, Try.underlying40, rfl⟩ (by kernel_rfl) rfl rfl (fun h => by cases h)
-- func(laws.Powers, int) int
def D41 : TD := ⟨.other, 1, 8, [.nilFunc]⟩
theorem F41 : D41.Fits Try.prog 41 := fits_of (z := .nilFunc) ⟨_, Try.underlying41, trivial⟩ (by kernel_rfl) rfl rfl (fun _ => ⟨rfl, fun z h => by cases h; rfl⟩)
-- func(impl.Powers) bool
def D42 : TD := ⟨.other, 1, 8, [.nilFunc]⟩
theorem F42 : D42.Fits Try.prog 42 := fits_of (z := .nilFunc) ⟨_, Try.underlying42, trivial⟩ (by kernel_rfl) rfl rfl (fun _ => ⟨rfl, fun z h => by cases h; rfl⟩)
-- impl.Powers
def D43 : TD := ⟨.struct [(0, 38)], 1, 24, [.slice none 0 0]⟩
theorem F43 : D43.Fits Try.prog 43 := fits_of (z := .agg #[.slice none 0 0]) ⟨_, Try.underlying43, rfl⟩ (by kernel_rfl) rfl rfl (fun h => by cases h)
-- func(laws.Powers) impl.Powers
def D44 : TD := ⟨.other, 1, 8, [.nilFunc]⟩
theorem F44 : D44.Fits Try.prog 44 := fits_of (z := .nilFunc) ⟨_, Try.underlying44, trivial⟩ (by kernel_rfl) rfl rfl (fun _ => ⟨rfl, fun z h => by cases h; rfl⟩)
-- func(impl.Powers, impl.Powers) bool
def D45 : TD := ⟨.other, 1, 8, [.nilFunc]⟩
theorem F45 : D45.Fits Try.prog 45 := fits_of (z := .nilFunc) ⟨_, Try.underlying45, trivial⟩ (by kernel_rfl) rfl rfl (fun _ => ⟨rfl, fun z h => by cases h; rfl⟩)
-- func(laws.Powers) bool
def D46 : TD := ⟨.other, 1, 8, [.nilFunc]⟩
theorem F46 : D46.Fits Try.prog 46 := fits_of (z := .nilFunc) ⟨_, Try.underlying46, trivial⟩ (by kernel_rfl) rfl rfl (fun _ => ⟨rfl, fun z h => by cases h; rfl⟩)
-- struct { Points int; Edges []int }
def D47 : TD := ⟨.struct [(0, 3), (1, 26)], 2, 32, [.int .i64 0, .slice none 0 0]⟩
theorem F47 : D47.Fits Try.prog 47 := fits_of (z := .agg #[.int .i64 0, .slice none 0 0]) ⟨_, Try.underlying47, rfl⟩ (by kernel_rfl) rfl rfl (fun h => by cases h)
-- laws.Graph
def D48 : TD := ⟨.struct [(0, 3), (1, 26)], 2, 32, [.int .i64 0, .slice none 0 0]⟩
theorem F48 : D48.Fits Try.prog 48 := fits_of (z := .agg #[.int .i64 0, .slice none 0 0]) ⟨_, Try.underlying48, rfl⟩ (by kernel_rfl) rfl rfl (fun h => by cases h)
-- func(laws.Graph, int) int
def D49 : TD := ⟨.other, 1, 8, [.nilFunc]⟩
theorem F49 : D49.Fits Try.prog 49 := fits_of (z := .nilFunc) ⟨_, Try.underlying49, trivial⟩ (by kernel_rfl) rfl rfl (fun _ => ⟨rfl, fun z h => by cases h; rfl⟩)
-- func(impl.Graph) int
def D50 : TD := ⟨.other, 1, 8, [.nilFunc]⟩
theorem F50 : D50.Fits Try.prog 50 := fits_of (z := .nilFunc) ⟨_, Try.underlying50, trivial⟩ (by kernel_rfl) rfl rfl (fun _ => ⟨rfl, fun z h => by cases h; rfl⟩)
-- impl.Graph
def D51 : TD := ⟨.struct [(0, 3), (1, 26)], 2, 32, [.int .i64 0, .slice none 0 0]⟩
theorem F51 : D51.Fits Try.prog 51 := fits_of (z := .agg #[.int .i64 0, .slice none 0 0]) ⟨_, Try.underlying51, rfl⟩ (by kernel_rfl) rfl rfl (fun h => by cases h)
-- func(laws.Graph) impl.Graph
def D52 : TD := ⟨.other, 1, 8, [.nilFunc]⟩
theorem F52 : D52.Fits Try.prog 52 := fits_of (z := .nilFunc) ⟨_, Try.underlying52, trivial⟩ (by kernel_rfl) rfl rfl (fun _ => ⟨rfl, fun z h => by cases h; rfl⟩)
-- func(impl.Graph, impl.Graph) bool
def D53 : TD := ⟨.other, 1, 8, [.nilFunc]⟩
theorem F53 : D53.Fits Try.prog 53 := fits_of (z := .nilFunc) ⟨_, Try.underlying53, trivial⟩ (by kernel_rfl) rfl rfl (fun _ => ⟨rfl, fun z h => by cases h; rfl⟩)
-- func(laws.Graph) bool
def D54 : TD := ⟨.other, 1, 8, [.nilFunc]⟩
theorem F54 : D54.Fits Try.prog 54 := fits_of (z := .nilFunc) ⟨_, Try.underlying54, trivial⟩ (by kernel_rfl) rfl rfl (fun _ => ⟨rfl, fun z h => by cases h; rfl⟩)
-- struct { Points int; Gens []int }
def D55 : TD := ⟨.struct [(0, 3), (1, 26)], 2, 32, [.int .i64 0, .slice none 0 0]⟩
theorem F55 : D55.Fits Try.prog 55 := fits_of (z := .agg #[.int .i64 0, .slice none 0 0]) ⟨_, Try.underlying55, rfl⟩ (by kernel_rfl) rfl rfl (fun h => by cases h)
-- impl.Ideal
def D56 : TD := ⟨.struct [(0, 3), (1, 26)], 2, 32, [.int .i64 0, .slice none 0 0]⟩
theorem F56 : D56.Fits Try.prog 56 := fits_of (z := .agg #[.int .i64 0, .slice none 0 0]) ⟨_, Try.underlying56, rfl⟩ (by kernel_rfl) rfl rfl (fun h => by cases h)
-- func(impl.Graph) (impl.Ideal, bool)
def D58 : TD := ⟨.other, 1, 8, [.nilFunc]⟩
theorem F58 : D58.Fits Try.prog 58 := fits_of (z := .nilFunc) ⟨_, Try.underlying58, trivial⟩ (by kernel_rfl) rfl rfl (fun _ => ⟨rfl, fun z h => by cases h; rfl⟩)
-- func(impl.Ideal, impl.Ideal) bool
def D59 : TD := ⟨.other, 1, 8, [.nilFunc]⟩
theorem F59 : D59.Fits Try.prog 59 := fits_of (z := .nilFunc) ⟨_, Try.underlying59, trivial⟩ (by kernel_rfl) rfl rfl (fun _ => ⟨rfl, fun z h => by cases h; rfl⟩)
-- func(impl.Graph, int) int
def D60 : TD := ⟨.other, 1, 8, [.nilFunc]⟩
theorem F60 : D60.Fits Try.prog 60 := fits_of (z := .nilFunc) ⟨_, Try.underlying60, trivial⟩ (by kernel_rfl) rfl rfl (fun _ => ⟨rfl, fun z h => by cases h; rfl⟩)
-- func(impl.Ideal, int) int
def D61 : TD := ⟨.other, 1, 8, [.nilFunc]⟩
theorem F61 : D61.Fits Try.prog 61 := fits_of (z := .nilFunc) ⟨_, Try.underlying61, trivial⟩ (by kernel_rfl) rfl rfl (fun _ => ⟨rfl, fun z h => by cases h; rfl⟩)
-- func(laws.Complex, int) int
def D62 : TD := ⟨.other, 1, 8, [.nilFunc]⟩
theorem F62 : D62.Fits Try.prog 62 := fits_of (z := .nilFunc) ⟨_, Try.underlying62, trivial⟩ (by kernel_rfl) rfl rfl (fun _ => ⟨rfl, fun z h => by cases h; rfl⟩)
-- func(impl.Complex, impl.Complex) bool
def D63 : TD := ⟨.other, 1, 8, [.nilFunc]⟩
theorem F63 : D63.Fits Try.prog 63 := fits_of (z := .nilFunc) ⟨_, Try.underlying63, trivial⟩ (by kernel_rfl) rfl rfl (fun _ => ⟨rfl, fun z h => by cases h; rfl⟩)
-- func(laws.Complex) impl.Complex
def D64 : TD := ⟨.other, 1, 8, [.nilFunc]⟩
theorem F64 : D64.Fits Try.prog 64 := fits_of (z := .nilFunc) ⟨_, Try.underlying64, trivial⟩ (by kernel_rfl) rfl rfl (fun _ => ⟨rfl, fun z h => by cases h; rfl⟩)
-- func([][]int, int) int
def D65 : TD := ⟨.other, 1, 8, [.nilFunc]⟩
theorem F65 : D65.Fits Try.prog 65 := fits_of (z := .nilFunc) ⟨_, Try.underlying65, trivial⟩ (by kernel_rfl) rfl rfl (fun _ => ⟨rfl, fun z h => by cases h; rfl⟩)
-- func([]int) bool
def D66 : TD := ⟨.other, 1, 8, [.nilFunc]⟩
theorem F66 : D66.Fits Try.prog 66 := fits_of (z := .nilFunc) ⟨_, Try.underlying66, trivial⟩ (by kernel_rfl) rfl rfl (fun _ => ⟨rfl, fun z h => by cases h; rfl⟩)
-- func([]int, []int) bool
def D67 : TD := ⟨.other, 1, 8, [.nilFunc]⟩
theorem F67 : D67.Fits Try.prog 67 := fits_of (z := .nilFunc) ⟨_, Try.underlying67, trivial⟩ (by kernel_rfl) rfl rfl (fun _ => ⟨rfl, fun z h => by cases h; rfl⟩)
-- func([][]int) [][]int
def D68 : TD := ⟨.other, 1, 8, [.nilFunc]⟩
theorem F68 : D68.Fits Try.prog 68 := fits_of (z := .nilFunc) ⟨_, Try.underlying68, trivial⟩ (by kernel_rfl) rfl rfl (fun _ => ⟨rfl, fun z h => by cases h; rfl⟩)
-- func([]int, []int) int
def D69 : TD := ⟨.other, 1, 8, [.nilFunc]⟩
theorem F69 : D69.Fits Try.prog 69 := fits_of (z := .nilFunc) ⟨_, Try.underlying69, trivial⟩ (by kernel_rfl) rfl rfl (fun _ => ⟨rfl, fun z h => by cases h; rfl⟩)
-- func([][]int, [][]int) bool
def D70 : TD := ⟨.other, 1, 8, [.nilFunc]⟩
theorem F70 : D70.Fits Try.prog 70 := fits_of (z := .nilFunc) ⟨_, Try.underlying70, trivial⟩ (by kernel_rfl) rfl rfl (fun _ => ⟨rfl, fun z h => by cases h; rfl⟩)
-- func([]int, int) int
def D71 : TD := ⟨.other, 1, 8, [.nilFunc]⟩
theorem F71 : D71.Fits Try.prog 71 := fits_of (z := .nilFunc) ⟨_, Try.underlying71, trivial⟩ (by kernel_rfl) rfl rfl (fun _ => ⟨rfl, fun z h => by cases h; rfl⟩)
-- func(impl.Graph) bool
def D72 : TD := ⟨.other, 1, 8, [.nilFunc]⟩
theorem F72 : D72.Fits Try.prog 72 := fits_of (z := .nilFunc) ⟨_, Try.underlying72, trivial⟩ (by kernel_rfl) rfl rfl (fun _ => ⟨rfl, fun z h => by cases h; rfl⟩)
-- func(impl.Graph, int, int, bool) int
def D73 : TD := ⟨.other, 1, 8, [.nilFunc]⟩
theorem F73 : D73.Fits Try.prog 73 := fits_of (z := .nilFunc) ⟨_, Try.underlying73, trivial⟩ (by kernel_rfl) rfl rfl (fun _ => ⟨rfl, fun z h => by cases h; rfl⟩)
-- func([]int) []int
def D74 : TD := ⟨.other, 1, 8, [.nilFunc]⟩
theorem F74 : D74.Fits Try.prog 74 := fits_of (z := .nilFunc) ⟨_, Try.underlying74, trivial⟩ (by kernel_rfl) rfl rfl (fun _ => ⟨rfl, fun z h => by cases h; rfl⟩)
-- func([]int, int, func(int) int) int
def D75 : TD := ⟨.other, 1, 8, [.nilFunc]⟩
theorem F75 : D75.Fits Try.prog 75 := fits_of (z := .nilFunc) ⟨_, Try.underlying75, trivial⟩ (by kernel_rfl) rfl rfl (fun _ => ⟨rfl, fun z h => by cases h; rfl⟩)
-- func(int) int
def D76 : TD := ⟨.other, 1, 8, [.nilFunc]⟩
theorem F76 : D76.Fits Try.prog 76 := fits_of (z := .nilFunc) ⟨_, Try.underlying76, trivial⟩ (by kernel_rfl) rfl rfl (fun _ => ⟨rfl, fun z h => by cases h; rfl⟩)
-- func(int, int, int) bool
def D77 : TD := ⟨.other, 1, 8, [.nilFunc]⟩
theorem F77 : D77.Fits Try.prog 77 := fits_of (z := .nilFunc) ⟨_, Try.underlying77, trivial⟩ (by kernel_rfl) rfl rfl (fun _ => ⟨rfl, fun z h => by cases h; rfl⟩)
-- func(int, int) int
def D78 : TD := ⟨.other, 1, 8, [.nilFunc]⟩
theorem F78 : D78.Fits Try.prog 78 := fits_of (z := .nilFunc) ⟨_, Try.underlying78, trivial⟩ (by kernel_rfl) rfl rfl (fun _ => ⟨rfl, fun z h => by cases h; rfl⟩)
-- func(int, int) bool
def D79 : TD := ⟨.other, 1, 8, [.nilFunc]⟩
theorem F79 : D79.Fits Try.prog 79 := fits_of (z := .nilFunc) ⟨_, Try.underlying79, trivial⟩ (by kernel_rfl) rfl rfl (fun _ => ⟨rfl, fun z h => by cases h; rfl⟩)
-- uint
def D80 : TD := ⟨.int .u64, 1, 8, [.int .u64 0]⟩
theorem F80 : D80.Fits Try.prog 80 := fits_of (z := .int .u64 0) (show Try.prog.underlying 80 = some (TypeDesc.int .u64) by kernel_rfl) (by kernel_rfl) rfl rfl (fun _ => ⟨rfl, fun z h => by cases h; rfl⟩)
-- func(uint) int
def D81 : TD := ⟨.other, 1, 8, [.nilFunc]⟩
theorem F81 : D81.Fits Try.prog 81 := fits_of (z := .nilFunc) ⟨_, Try.underlying81, trivial⟩ (by kernel_rfl) rfl rfl (fun _ => ⟨rfl, fun z h => by cases h; rfl⟩)
-- func(uint32) int
def D82 : TD := ⟨.other, 1, 8, [.nilFunc]⟩
theorem F82 : D82.Fits Try.prog 82 := fits_of (z := .nilFunc) ⟨_, Try.underlying82, trivial⟩ (by kernel_rfl) rfl rfl (fun _ => ⟨rfl, fun z h => by cases h; rfl⟩)
-- uint32
def D83 : TD := ⟨.int .u32, 1, 4, [.int .u32 0]⟩
theorem F83 : D83.Fits Try.prog 83 := fits_of (z := .int .u32 0) (show Try.prog.underlying 83 = some (TypeDesc.int .u32) by kernel_rfl) (by kernel_rfl) rfl rfl (fun _ => ⟨rfl, fun z h => by cases h; rfl⟩)
-- func(uint64) int
def D84 : TD := ⟨.other, 1, 8, [.nilFunc]⟩
theorem F84 : D84.Fits Try.prog 84 := fits_of (z := .nilFunc) ⟨_, Try.underlying84, trivial⟩ (by kernel_rfl) rfl rfl (fun _ => ⟨rfl, fun z h => by cases h; rfl⟩)
-- uint64
def D85 : TD := ⟨.int .u64, 1, 8, [.int .u64 0]⟩
theorem F85 : D85.Fits Try.prog 85 := fits_of (z := .int .u64 0) (show Try.prog.underlying 85 = some (TypeDesc.int .u64) by kernel_rfl) (by kernel_rfl) rfl rfl (fun _ => ⟨rfl, fun z h => by cases h; rfl⟩)
-- func() string
def D86 : TD := ⟨.other, 1, 8, [.nilFunc]⟩
theorem F86 : D86.Fits Try.prog 86 := fits_of (z := .nilFunc) ⟨_, Try.underlying86, trivial⟩ (by kernel_rfl) rfl rfl (fun _ => ⟨rfl, fun z h => by cases h; rfl⟩)
-- func(unsafe.Pointer, unsafe.Pointer) bool
def D94 : TD := ⟨.other, 1, 8, [.nilFunc]⟩
theorem F94 : D94.Fits Try.prog 94 := fits_of (z := .nilFunc) ⟨_, Try.underlying94, trivial⟩ (by kernel_rfl) rfl rfl (fun _ => ⟨rfl, fun z h => by cases h; rfl⟩)
-- *uint8
def D95 : TD := ⟨.other, 1, 8, [.pointer none]⟩
theorem F95 : D95.Fits Try.prog 95 := fits_of (z := .pointer none) ⟨_, Try.underlying95, trivial⟩ (by kernel_rfl) rfl rfl (fun _ => ⟨rfl, fun z h => by cases h; rfl⟩)

def tab : List (Nat × TD) := [(1, D1), (2, D2), (3, D3), (4, D4), (5, D5), (9, D9), (12, D12), (13, D13), (21, D21), (22, D22), (23, D23), (24, D24), (25, D25), (26, D26), (27, D27), (28, D28), (29, D29), (30, D30), (31, D31), (32, D32), (33, D33), (34, D34), (35, D35), (36, D36), (37, D37), (38, D38), (39, D39), (40, D40), (41, D41), (42, D42), (43, D43), (44, D44), (45, D45), (46, D46), (47, D47), (48, D48), (49, D49), (50, D50), (51, D51), (52, D52), (53, D53), (54, D54), (55, D55), (56, D56), (58, D58), (59, D59), (60, D60), (61, D61), (62, D62), (63, D63), (64, D64), (65, D65), (66, D66), (67, D67), (68, D68), (69, D69), (70, D70), (71, D71), (72, D72), (73, D73), (74, D74), (75, D75), (76, D76), (77, D77), (78, D78), (79, D79), (80, D80), (81, D81), (82, D82), (83, D83), (84, D84), (85, D85), (86, D86), (94, D94), (95, D95)]
def T : Tab := fun t => ((tab.find? fun x => x.1 == t).map (·.2)).getD ⟨.other, 0, 0, []⟩
theorem at_of {a b : TD} (h : a = b) : a.k = b.k ∧ a.size = b.size ∧ a.bytes = b.bytes ∧ a.zero = b.zero := by subst h; exact ⟨rfl, rfl, rfl, rfl⟩
theorem T1k : (T 1).k = .other := (at_of (show T 1 = D1 from rfl)).1
theorem T1s : (T 1).size = 1 := (at_of (show T 1 = D1 from rfl)).2.1
theorem T1b : (T 1).bytes = 8 := (at_of (show T 1 = D1 from rfl)).2.2.1
theorem T1z : (T 1).zero = [.nilFunc] := (at_of (show T 1 = D1 from rfl)).2.2.2
theorem T2k : (T 2).k = .int .i64 := (at_of (show T 2 = D2 from rfl)).1
theorem T2s : (T 2).size = 1 := (at_of (show T 2 = D2 from rfl)).2.1
theorem T2b : (T 2).bytes = 8 := (at_of (show T 2 = D2 from rfl)).2.2.1
theorem T2z : (T 2).zero = [.int .i64 0] := (at_of (show T 2 = D2 from rfl)).2.2.2
theorem T3k : (T 3).k = .int .i64 := (at_of (show T 3 = D3 from rfl)).1
theorem T3s : (T 3).size = 1 := (at_of (show T 3 = D3 from rfl)).2.1
theorem T3b : (T 3).bytes = 8 := (at_of (show T 3 = D3 from rfl)).2.2.1
theorem T3z : (T 3).zero = [.int .i64 0] := (at_of (show T 3 = D3 from rfl)).2.2.2
theorem T4k : (T 4).k = .bool := (at_of (show T 4 = D4 from rfl)).1
theorem T4s : (T 4).size = 1 := (at_of (show T 4 = D4 from rfl)).2.1
theorem T4b : (T 4).bytes = 1 := (at_of (show T 4 = D4 from rfl)).2.2.1
theorem T4z : (T 4).zero = [.bool false] := (at_of (show T 4 = D4 from rfl)).2.2.2
theorem T5k : (T 5).k = .int .u8 := (at_of (show T 5 = D5 from rfl)).1
theorem T5s : (T 5).size = 1 := (at_of (show T 5 = D5 from rfl)).2.1
theorem T5b : (T 5).bytes = 1 := (at_of (show T 5 = D5 from rfl)).2.2.1
theorem T5z : (T 5).zero = [.int .u8 0] := (at_of (show T 5 = D5 from rfl)).2.2.2
theorem T9k : (T 9).k = .str := (at_of (show T 9 = D9 from rfl)).1
theorem T9s : (T 9).size = 1 := (at_of (show T 9 = D9 from rfl)).2.1
theorem T9b : (T 9).bytes = 16 := (at_of (show T 9 = D9 from rfl)).2.2.1
theorem T9z : (T 9).zero = [.string ⟨#[]⟩] := (at_of (show T 9 = D9 from rfl)).2.2.2
theorem T12k : (T 12).k = .int .u64 := (at_of (show T 12 = D12 from rfl)).1
theorem T12s : (T 12).size = 1 := (at_of (show T 12 = D12 from rfl)).2.1
theorem T12b : (T 12).bytes = 8 := (at_of (show T 12 = D12 from rfl)).2.2.1
theorem T12z : (T 12).zero = [.int .u64 0] := (at_of (show T 12 = D12 from rfl)).2.2.2
theorem T13k : (T 13).k = .struct [(0, 9), (1, 12)] := (at_of (show T 13 = D13 from rfl)).1
theorem T13s : (T 13).size = 2 := (at_of (show T 13 = D13 from rfl)).2.1
theorem T13b : (T 13).bytes = 24 := (at_of (show T 13 = D13 from rfl)).2.2.1
theorem T13z : (T 13).zero = [.string ⟨#[]⟩, .int .u64 0] := (at_of (show T 13 = D13 from rfl)).2.2.2
theorem T21k : (T 21).k = .int .i32 := (at_of (show T 21 = D21 from rfl)).1
theorem T21s : (T 21).size = 1 := (at_of (show T 21 = D21 from rfl)).2.1
theorem T21b : (T 21).bytes = 4 := (at_of (show T 21 = D21 from rfl)).2.2.1
theorem T21z : (T 21).zero = [.int .i32 0] := (at_of (show T 21 = D21 from rfl)).2.2.2
theorem T22k : (T 22).k = .other := (at_of (show T 22 = D22 from rfl)).1
theorem T22s : (T 22).size = 1 := (at_of (show T 22 = D22 from rfl)).2.1
theorem T22b : (T 22).bytes = 8 := (at_of (show T 22 = D22 from rfl)).2.2.1
theorem T22z : (T 22).zero = [.nilFunc] := (at_of (show T 22 = D22 from rfl)).2.2.2
theorem T23k : (T 23).k = .other := (at_of (show T 23 = D23 from rfl)).1
theorem T23s : (T 23).size = 1 := (at_of (show T 23 = D23 from rfl)).2.1
theorem T23b : (T 23).bytes = 8 := (at_of (show T 23 = D23 from rfl)).2.2.1
theorem T23z : (T 23).zero = [.nilFunc] := (at_of (show T 23 = D23 from rfl)).2.2.2
theorem T24k : (T 24).k = .other := (at_of (show T 24 = D24 from rfl)).1
theorem T24s : (T 24).size = 1 := (at_of (show T 24 = D24 from rfl)).2.1
theorem T24b : (T 24).bytes = 8 := (at_of (show T 24 = D24 from rfl)).2.2.1
theorem T24z : (T 24).zero = [.nilFunc] := (at_of (show T 24 = D24 from rfl)).2.2.2
theorem T25k : (T 25).k = .other := (at_of (show T 25 = D25 from rfl)).1
theorem T25s : (T 25).size = 1 := (at_of (show T 25 = D25 from rfl)).2.1
theorem T25b : (T 25).bytes = 8 := (at_of (show T 25 = D25 from rfl)).2.2.1
theorem T25z : (T 25).zero = [.nilFunc] := (at_of (show T 25 = D25 from rfl)).2.2.2
theorem T26k : (T 26).k = .sli 3 := (at_of (show T 26 = D26 from rfl)).1
theorem T26s : (T 26).size = 1 := (at_of (show T 26 = D26 from rfl)).2.1
theorem T26b : (T 26).bytes = 24 := (at_of (show T 26 = D26 from rfl)).2.2.1
theorem T26z : (T 26).zero = [.slice none 0 0] := (at_of (show T 26 = D26 from rfl)).2.2.2
theorem T27k : (T 27).k = .struct [(0, 3), (1, 26)] := (at_of (show T 27 = D27 from rfl)).1
theorem T27s : (T 27).size = 2 := (at_of (show T 27 = D27 from rfl)).2.1
theorem T27b : (T 27).bytes = 32 := (at_of (show T 27 = D27 from rfl)).2.2.1
theorem T27z : (T 27).zero = [.int .i64 0, .slice none 0 0] := (at_of (show T 27 = D27 from rfl)).2.2.2
theorem T28k : (T 28).k = .struct [(0, 3), (1, 26)] := (at_of (show T 28 = D28 from rfl)).1
theorem T28s : (T 28).size = 2 := (at_of (show T 28 = D28 from rfl)).2.1
theorem T28b : (T 28).bytes = 32 := (at_of (show T 28 = D28 from rfl)).2.2.1
theorem T28z : (T 28).zero = [.int .i64 0, .slice none 0 0] := (at_of (show T 28 = D28 from rfl)).2.2.2
theorem T29k : (T 29).k = .struct [(0, 28), (2, 28)] := (at_of (show T 29 = D29 from rfl)).1
theorem T29s : (T 29).size = 4 := (at_of (show T 29 = D29 from rfl)).2.1
theorem T29b : (T 29).bytes = 64 := (at_of (show T 29 = D29 from rfl)).2.2.1
theorem T29z : (T 29).zero = [.int .i64 0, .slice none 0 0, .int .i64 0, .slice none 0 0] := (at_of (show T 29 = D29 from rfl)).2.2.2
theorem T30k : (T 30).k = .struct [(0, 28), (2, 28)] := (at_of (show T 30 = D30 from rfl)).1
theorem T30s : (T 30).size = 4 := (at_of (show T 30 = D30 from rfl)).2.1
theorem T30b : (T 30).bytes = 64 := (at_of (show T 30 = D30 from rfl)).2.2.1
theorem T30z : (T 30).zero = [.int .i64 0, .slice none 0 0, .int .i64 0, .slice none 0 0] := (at_of (show T 30 = D30 from rfl)).2.2.2
theorem T31k : (T 31).k = .other := (at_of (show T 31 = D31 from rfl)).1
theorem T31s : (T 31).size = 1 := (at_of (show T 31 = D31 from rfl)).2.1
theorem T31b : (T 31).bytes = 8 := (at_of (show T 31 = D31 from rfl)).2.2.1
theorem T31z : (T 31).zero = [.nilFunc] := (at_of (show T 31 = D31 from rfl)).2.2.2
theorem T32k : (T 32).k = .other := (at_of (show T 32 = D32 from rfl)).1
theorem T32s : (T 32).size = 1 := (at_of (show T 32 = D32 from rfl)).2.1
theorem T32b : (T 32).bytes = 8 := (at_of (show T 32 = D32 from rfl)).2.2.1
theorem T32z : (T 32).zero = [.nilFunc] := (at_of (show T 32 = D32 from rfl)).2.2.2
theorem T33k : (T 33).k = .struct [(0, 3), (1, 26)] := (at_of (show T 33 = D33 from rfl)).1
theorem T33s : (T 33).size = 2 := (at_of (show T 33 = D33 from rfl)).2.1
theorem T33b : (T 33).bytes = 32 := (at_of (show T 33 = D33 from rfl)).2.2.1
theorem T33z : (T 33).zero = [.int .i64 0, .slice none 0 0] := (at_of (show T 33 = D33 from rfl)).2.2.2
theorem T34k : (T 34).k = .struct [(0, 33), (2, 33)] := (at_of (show T 34 = D34 from rfl)).1
theorem T34s : (T 34).size = 4 := (at_of (show T 34 = D34 from rfl)).2.1
theorem T34b : (T 34).bytes = 64 := (at_of (show T 34 = D34 from rfl)).2.2.1
theorem T34z : (T 34).zero = [.int .i64 0, .slice none 0 0, .int .i64 0, .slice none 0 0] := (at_of (show T 34 = D34 from rfl)).2.2.2
theorem T35k : (T 35).k = .struct [(0, 33), (2, 33)] := (at_of (show T 35 = D35 from rfl)).1
theorem T35s : (T 35).size = 4 := (at_of (show T 35 = D35 from rfl)).2.1
theorem T35b : (T 35).bytes = 64 := (at_of (show T 35 = D35 from rfl)).2.2.1
theorem T35z : (T 35).zero = [.int .i64 0, .slice none 0 0, .int .i64 0, .slice none 0 0] := (at_of (show T 35 = D35 from rfl)).2.2.2
theorem T36k : (T 36).k = .other := (at_of (show T 36 = D36 from rfl)).1
theorem T36s : (T 36).size = 1 := (at_of (show T 36 = D36 from rfl)).2.1
theorem T36b : (T 36).bytes = 8 := (at_of (show T 36 = D36 from rfl)).2.2.1
theorem T36z : (T 36).zero = [.nilFunc] := (at_of (show T 36 = D36 from rfl)).2.2.2
theorem T37k : (T 37).k = .other := (at_of (show T 37 = D37 from rfl)).1
theorem T37s : (T 37).size = 1 := (at_of (show T 37 = D37 from rfl)).2.1
theorem T37b : (T 37).bytes = 8 := (at_of (show T 37 = D37 from rfl)).2.2.1
theorem T37z : (T 37).zero = [.nilFunc] := (at_of (show T 37 = D37 from rfl)).2.2.2
theorem T38k : (T 38).k = .sli 26 := (at_of (show T 38 = D38 from rfl)).1
theorem T38s : (T 38).size = 1 := (at_of (show T 38 = D38 from rfl)).2.1
theorem T38b : (T 38).bytes = 24 := (at_of (show T 38 = D38 from rfl)).2.2.1
theorem T38z : (T 38).zero = [.slice none 0 0] := (at_of (show T 38 = D38 from rfl)).2.2.2
theorem T39k : (T 39).k = .struct [(0, 38)] := (at_of (show T 39 = D39 from rfl)).1
theorem T39s : (T 39).size = 1 := (at_of (show T 39 = D39 from rfl)).2.1
theorem T39b : (T 39).bytes = 24 := (at_of (show T 39 = D39 from rfl)).2.2.1
theorem T39z : (T 39).zero = [.slice none 0 0] := (at_of (show T 39 = D39 from rfl)).2.2.2
theorem T40k : (T 40).k = .struct [(0, 38)] := (at_of (show T 40 = D40 from rfl)).1
theorem T40s : (T 40).size = 1 := (at_of (show T 40 = D40 from rfl)).2.1
theorem T40b : (T 40).bytes = 24 := (at_of (show T 40 = D40 from rfl)).2.2.1
theorem T40z : (T 40).zero = [.slice none 0 0] := (at_of (show T 40 = D40 from rfl)).2.2.2
theorem T41k : (T 41).k = .other := (at_of (show T 41 = D41 from rfl)).1
theorem T41s : (T 41).size = 1 := (at_of (show T 41 = D41 from rfl)).2.1
theorem T41b : (T 41).bytes = 8 := (at_of (show T 41 = D41 from rfl)).2.2.1
theorem T41z : (T 41).zero = [.nilFunc] := (at_of (show T 41 = D41 from rfl)).2.2.2
theorem T42k : (T 42).k = .other := (at_of (show T 42 = D42 from rfl)).1
theorem T42s : (T 42).size = 1 := (at_of (show T 42 = D42 from rfl)).2.1
theorem T42b : (T 42).bytes = 8 := (at_of (show T 42 = D42 from rfl)).2.2.1
theorem T42z : (T 42).zero = [.nilFunc] := (at_of (show T 42 = D42 from rfl)).2.2.2
theorem T43k : (T 43).k = .struct [(0, 38)] := (at_of (show T 43 = D43 from rfl)).1
theorem T43s : (T 43).size = 1 := (at_of (show T 43 = D43 from rfl)).2.1
theorem T43b : (T 43).bytes = 24 := (at_of (show T 43 = D43 from rfl)).2.2.1
theorem T43z : (T 43).zero = [.slice none 0 0] := (at_of (show T 43 = D43 from rfl)).2.2.2
theorem T44k : (T 44).k = .other := (at_of (show T 44 = D44 from rfl)).1
theorem T44s : (T 44).size = 1 := (at_of (show T 44 = D44 from rfl)).2.1
theorem T44b : (T 44).bytes = 8 := (at_of (show T 44 = D44 from rfl)).2.2.1
theorem T44z : (T 44).zero = [.nilFunc] := (at_of (show T 44 = D44 from rfl)).2.2.2
theorem T45k : (T 45).k = .other := (at_of (show T 45 = D45 from rfl)).1
theorem T45s : (T 45).size = 1 := (at_of (show T 45 = D45 from rfl)).2.1
theorem T45b : (T 45).bytes = 8 := (at_of (show T 45 = D45 from rfl)).2.2.1
theorem T45z : (T 45).zero = [.nilFunc] := (at_of (show T 45 = D45 from rfl)).2.2.2
theorem T46k : (T 46).k = .other := (at_of (show T 46 = D46 from rfl)).1
theorem T46s : (T 46).size = 1 := (at_of (show T 46 = D46 from rfl)).2.1
theorem T46b : (T 46).bytes = 8 := (at_of (show T 46 = D46 from rfl)).2.2.1
theorem T46z : (T 46).zero = [.nilFunc] := (at_of (show T 46 = D46 from rfl)).2.2.2
theorem T47k : (T 47).k = .struct [(0, 3), (1, 26)] := (at_of (show T 47 = D47 from rfl)).1
theorem T47s : (T 47).size = 2 := (at_of (show T 47 = D47 from rfl)).2.1
theorem T47b : (T 47).bytes = 32 := (at_of (show T 47 = D47 from rfl)).2.2.1
theorem T47z : (T 47).zero = [.int .i64 0, .slice none 0 0] := (at_of (show T 47 = D47 from rfl)).2.2.2
theorem T48k : (T 48).k = .struct [(0, 3), (1, 26)] := (at_of (show T 48 = D48 from rfl)).1
theorem T48s : (T 48).size = 2 := (at_of (show T 48 = D48 from rfl)).2.1
theorem T48b : (T 48).bytes = 32 := (at_of (show T 48 = D48 from rfl)).2.2.1
theorem T48z : (T 48).zero = [.int .i64 0, .slice none 0 0] := (at_of (show T 48 = D48 from rfl)).2.2.2
theorem T49k : (T 49).k = .other := (at_of (show T 49 = D49 from rfl)).1
theorem T49s : (T 49).size = 1 := (at_of (show T 49 = D49 from rfl)).2.1
theorem T49b : (T 49).bytes = 8 := (at_of (show T 49 = D49 from rfl)).2.2.1
theorem T49z : (T 49).zero = [.nilFunc] := (at_of (show T 49 = D49 from rfl)).2.2.2
theorem T50k : (T 50).k = .other := (at_of (show T 50 = D50 from rfl)).1
theorem T50s : (T 50).size = 1 := (at_of (show T 50 = D50 from rfl)).2.1
theorem T50b : (T 50).bytes = 8 := (at_of (show T 50 = D50 from rfl)).2.2.1
theorem T50z : (T 50).zero = [.nilFunc] := (at_of (show T 50 = D50 from rfl)).2.2.2
theorem T51k : (T 51).k = .struct [(0, 3), (1, 26)] := (at_of (show T 51 = D51 from rfl)).1
theorem T51s : (T 51).size = 2 := (at_of (show T 51 = D51 from rfl)).2.1
theorem T51b : (T 51).bytes = 32 := (at_of (show T 51 = D51 from rfl)).2.2.1
theorem T51z : (T 51).zero = [.int .i64 0, .slice none 0 0] := (at_of (show T 51 = D51 from rfl)).2.2.2
theorem T52k : (T 52).k = .other := (at_of (show T 52 = D52 from rfl)).1
theorem T52s : (T 52).size = 1 := (at_of (show T 52 = D52 from rfl)).2.1
theorem T52b : (T 52).bytes = 8 := (at_of (show T 52 = D52 from rfl)).2.2.1
theorem T52z : (T 52).zero = [.nilFunc] := (at_of (show T 52 = D52 from rfl)).2.2.2
theorem T53k : (T 53).k = .other := (at_of (show T 53 = D53 from rfl)).1
theorem T53s : (T 53).size = 1 := (at_of (show T 53 = D53 from rfl)).2.1
theorem T53b : (T 53).bytes = 8 := (at_of (show T 53 = D53 from rfl)).2.2.1
theorem T53z : (T 53).zero = [.nilFunc] := (at_of (show T 53 = D53 from rfl)).2.2.2
theorem T54k : (T 54).k = .other := (at_of (show T 54 = D54 from rfl)).1
theorem T54s : (T 54).size = 1 := (at_of (show T 54 = D54 from rfl)).2.1
theorem T54b : (T 54).bytes = 8 := (at_of (show T 54 = D54 from rfl)).2.2.1
theorem T54z : (T 54).zero = [.nilFunc] := (at_of (show T 54 = D54 from rfl)).2.2.2
theorem T55k : (T 55).k = .struct [(0, 3), (1, 26)] := (at_of (show T 55 = D55 from rfl)).1
theorem T55s : (T 55).size = 2 := (at_of (show T 55 = D55 from rfl)).2.1
theorem T55b : (T 55).bytes = 32 := (at_of (show T 55 = D55 from rfl)).2.2.1
theorem T55z : (T 55).zero = [.int .i64 0, .slice none 0 0] := (at_of (show T 55 = D55 from rfl)).2.2.2
theorem T56k : (T 56).k = .struct [(0, 3), (1, 26)] := (at_of (show T 56 = D56 from rfl)).1
theorem T56s : (T 56).size = 2 := (at_of (show T 56 = D56 from rfl)).2.1
theorem T56b : (T 56).bytes = 32 := (at_of (show T 56 = D56 from rfl)).2.2.1
theorem T56z : (T 56).zero = [.int .i64 0, .slice none 0 0] := (at_of (show T 56 = D56 from rfl)).2.2.2
theorem T58k : (T 58).k = .other := (at_of (show T 58 = D58 from rfl)).1
theorem T58s : (T 58).size = 1 := (at_of (show T 58 = D58 from rfl)).2.1
theorem T58b : (T 58).bytes = 8 := (at_of (show T 58 = D58 from rfl)).2.2.1
theorem T58z : (T 58).zero = [.nilFunc] := (at_of (show T 58 = D58 from rfl)).2.2.2
theorem T59k : (T 59).k = .other := (at_of (show T 59 = D59 from rfl)).1
theorem T59s : (T 59).size = 1 := (at_of (show T 59 = D59 from rfl)).2.1
theorem T59b : (T 59).bytes = 8 := (at_of (show T 59 = D59 from rfl)).2.2.1
theorem T59z : (T 59).zero = [.nilFunc] := (at_of (show T 59 = D59 from rfl)).2.2.2
theorem T60k : (T 60).k = .other := (at_of (show T 60 = D60 from rfl)).1
theorem T60s : (T 60).size = 1 := (at_of (show T 60 = D60 from rfl)).2.1
theorem T60b : (T 60).bytes = 8 := (at_of (show T 60 = D60 from rfl)).2.2.1
theorem T60z : (T 60).zero = [.nilFunc] := (at_of (show T 60 = D60 from rfl)).2.2.2
theorem T61k : (T 61).k = .other := (at_of (show T 61 = D61 from rfl)).1
theorem T61s : (T 61).size = 1 := (at_of (show T 61 = D61 from rfl)).2.1
theorem T61b : (T 61).bytes = 8 := (at_of (show T 61 = D61 from rfl)).2.2.1
theorem T61z : (T 61).zero = [.nilFunc] := (at_of (show T 61 = D61 from rfl)).2.2.2
theorem T62k : (T 62).k = .other := (at_of (show T 62 = D62 from rfl)).1
theorem T62s : (T 62).size = 1 := (at_of (show T 62 = D62 from rfl)).2.1
theorem T62b : (T 62).bytes = 8 := (at_of (show T 62 = D62 from rfl)).2.2.1
theorem T62z : (T 62).zero = [.nilFunc] := (at_of (show T 62 = D62 from rfl)).2.2.2
theorem T63k : (T 63).k = .other := (at_of (show T 63 = D63 from rfl)).1
theorem T63s : (T 63).size = 1 := (at_of (show T 63 = D63 from rfl)).2.1
theorem T63b : (T 63).bytes = 8 := (at_of (show T 63 = D63 from rfl)).2.2.1
theorem T63z : (T 63).zero = [.nilFunc] := (at_of (show T 63 = D63 from rfl)).2.2.2
theorem T64k : (T 64).k = .other := (at_of (show T 64 = D64 from rfl)).1
theorem T64s : (T 64).size = 1 := (at_of (show T 64 = D64 from rfl)).2.1
theorem T64b : (T 64).bytes = 8 := (at_of (show T 64 = D64 from rfl)).2.2.1
theorem T64z : (T 64).zero = [.nilFunc] := (at_of (show T 64 = D64 from rfl)).2.2.2
theorem T65k : (T 65).k = .other := (at_of (show T 65 = D65 from rfl)).1
theorem T65s : (T 65).size = 1 := (at_of (show T 65 = D65 from rfl)).2.1
theorem T65b : (T 65).bytes = 8 := (at_of (show T 65 = D65 from rfl)).2.2.1
theorem T65z : (T 65).zero = [.nilFunc] := (at_of (show T 65 = D65 from rfl)).2.2.2
theorem T66k : (T 66).k = .other := (at_of (show T 66 = D66 from rfl)).1
theorem T66s : (T 66).size = 1 := (at_of (show T 66 = D66 from rfl)).2.1
theorem T66b : (T 66).bytes = 8 := (at_of (show T 66 = D66 from rfl)).2.2.1
theorem T66z : (T 66).zero = [.nilFunc] := (at_of (show T 66 = D66 from rfl)).2.2.2
theorem T67k : (T 67).k = .other := (at_of (show T 67 = D67 from rfl)).1
theorem T67s : (T 67).size = 1 := (at_of (show T 67 = D67 from rfl)).2.1
theorem T67b : (T 67).bytes = 8 := (at_of (show T 67 = D67 from rfl)).2.2.1
theorem T67z : (T 67).zero = [.nilFunc] := (at_of (show T 67 = D67 from rfl)).2.2.2
theorem T68k : (T 68).k = .other := (at_of (show T 68 = D68 from rfl)).1
theorem T68s : (T 68).size = 1 := (at_of (show T 68 = D68 from rfl)).2.1
theorem T68b : (T 68).bytes = 8 := (at_of (show T 68 = D68 from rfl)).2.2.1
theorem T68z : (T 68).zero = [.nilFunc] := (at_of (show T 68 = D68 from rfl)).2.2.2
theorem T69k : (T 69).k = .other := (at_of (show T 69 = D69 from rfl)).1
theorem T69s : (T 69).size = 1 := (at_of (show T 69 = D69 from rfl)).2.1
theorem T69b : (T 69).bytes = 8 := (at_of (show T 69 = D69 from rfl)).2.2.1
theorem T69z : (T 69).zero = [.nilFunc] := (at_of (show T 69 = D69 from rfl)).2.2.2
theorem T70k : (T 70).k = .other := (at_of (show T 70 = D70 from rfl)).1
theorem T70s : (T 70).size = 1 := (at_of (show T 70 = D70 from rfl)).2.1
theorem T70b : (T 70).bytes = 8 := (at_of (show T 70 = D70 from rfl)).2.2.1
theorem T70z : (T 70).zero = [.nilFunc] := (at_of (show T 70 = D70 from rfl)).2.2.2
theorem T71k : (T 71).k = .other := (at_of (show T 71 = D71 from rfl)).1
theorem T71s : (T 71).size = 1 := (at_of (show T 71 = D71 from rfl)).2.1
theorem T71b : (T 71).bytes = 8 := (at_of (show T 71 = D71 from rfl)).2.2.1
theorem T71z : (T 71).zero = [.nilFunc] := (at_of (show T 71 = D71 from rfl)).2.2.2
theorem T72k : (T 72).k = .other := (at_of (show T 72 = D72 from rfl)).1
theorem T72s : (T 72).size = 1 := (at_of (show T 72 = D72 from rfl)).2.1
theorem T72b : (T 72).bytes = 8 := (at_of (show T 72 = D72 from rfl)).2.2.1
theorem T72z : (T 72).zero = [.nilFunc] := (at_of (show T 72 = D72 from rfl)).2.2.2
theorem T73k : (T 73).k = .other := (at_of (show T 73 = D73 from rfl)).1
theorem T73s : (T 73).size = 1 := (at_of (show T 73 = D73 from rfl)).2.1
theorem T73b : (T 73).bytes = 8 := (at_of (show T 73 = D73 from rfl)).2.2.1
theorem T73z : (T 73).zero = [.nilFunc] := (at_of (show T 73 = D73 from rfl)).2.2.2
theorem T74k : (T 74).k = .other := (at_of (show T 74 = D74 from rfl)).1
theorem T74s : (T 74).size = 1 := (at_of (show T 74 = D74 from rfl)).2.1
theorem T74b : (T 74).bytes = 8 := (at_of (show T 74 = D74 from rfl)).2.2.1
theorem T74z : (T 74).zero = [.nilFunc] := (at_of (show T 74 = D74 from rfl)).2.2.2
theorem T75k : (T 75).k = .other := (at_of (show T 75 = D75 from rfl)).1
theorem T75s : (T 75).size = 1 := (at_of (show T 75 = D75 from rfl)).2.1
theorem T75b : (T 75).bytes = 8 := (at_of (show T 75 = D75 from rfl)).2.2.1
theorem T75z : (T 75).zero = [.nilFunc] := (at_of (show T 75 = D75 from rfl)).2.2.2
theorem T76k : (T 76).k = .other := (at_of (show T 76 = D76 from rfl)).1
theorem T76s : (T 76).size = 1 := (at_of (show T 76 = D76 from rfl)).2.1
theorem T76b : (T 76).bytes = 8 := (at_of (show T 76 = D76 from rfl)).2.2.1
theorem T76z : (T 76).zero = [.nilFunc] := (at_of (show T 76 = D76 from rfl)).2.2.2
theorem T77k : (T 77).k = .other := (at_of (show T 77 = D77 from rfl)).1
theorem T77s : (T 77).size = 1 := (at_of (show T 77 = D77 from rfl)).2.1
theorem T77b : (T 77).bytes = 8 := (at_of (show T 77 = D77 from rfl)).2.2.1
theorem T77z : (T 77).zero = [.nilFunc] := (at_of (show T 77 = D77 from rfl)).2.2.2
theorem T78k : (T 78).k = .other := (at_of (show T 78 = D78 from rfl)).1
theorem T78s : (T 78).size = 1 := (at_of (show T 78 = D78 from rfl)).2.1
theorem T78b : (T 78).bytes = 8 := (at_of (show T 78 = D78 from rfl)).2.2.1
theorem T78z : (T 78).zero = [.nilFunc] := (at_of (show T 78 = D78 from rfl)).2.2.2
theorem T79k : (T 79).k = .other := (at_of (show T 79 = D79 from rfl)).1
theorem T79s : (T 79).size = 1 := (at_of (show T 79 = D79 from rfl)).2.1
theorem T79b : (T 79).bytes = 8 := (at_of (show T 79 = D79 from rfl)).2.2.1
theorem T79z : (T 79).zero = [.nilFunc] := (at_of (show T 79 = D79 from rfl)).2.2.2
theorem T80k : (T 80).k = .int .u64 := (at_of (show T 80 = D80 from rfl)).1
theorem T80s : (T 80).size = 1 := (at_of (show T 80 = D80 from rfl)).2.1
theorem T80b : (T 80).bytes = 8 := (at_of (show T 80 = D80 from rfl)).2.2.1
theorem T80z : (T 80).zero = [.int .u64 0] := (at_of (show T 80 = D80 from rfl)).2.2.2
theorem T81k : (T 81).k = .other := (at_of (show T 81 = D81 from rfl)).1
theorem T81s : (T 81).size = 1 := (at_of (show T 81 = D81 from rfl)).2.1
theorem T81b : (T 81).bytes = 8 := (at_of (show T 81 = D81 from rfl)).2.2.1
theorem T81z : (T 81).zero = [.nilFunc] := (at_of (show T 81 = D81 from rfl)).2.2.2
theorem T82k : (T 82).k = .other := (at_of (show T 82 = D82 from rfl)).1
theorem T82s : (T 82).size = 1 := (at_of (show T 82 = D82 from rfl)).2.1
theorem T82b : (T 82).bytes = 8 := (at_of (show T 82 = D82 from rfl)).2.2.1
theorem T82z : (T 82).zero = [.nilFunc] := (at_of (show T 82 = D82 from rfl)).2.2.2
theorem T83k : (T 83).k = .int .u32 := (at_of (show T 83 = D83 from rfl)).1
theorem T83s : (T 83).size = 1 := (at_of (show T 83 = D83 from rfl)).2.1
theorem T83b : (T 83).bytes = 4 := (at_of (show T 83 = D83 from rfl)).2.2.1
theorem T83z : (T 83).zero = [.int .u32 0] := (at_of (show T 83 = D83 from rfl)).2.2.2
theorem T84k : (T 84).k = .other := (at_of (show T 84 = D84 from rfl)).1
theorem T84s : (T 84).size = 1 := (at_of (show T 84 = D84 from rfl)).2.1
theorem T84b : (T 84).bytes = 8 := (at_of (show T 84 = D84 from rfl)).2.2.1
theorem T84z : (T 84).zero = [.nilFunc] := (at_of (show T 84 = D84 from rfl)).2.2.2
theorem T85k : (T 85).k = .int .u64 := (at_of (show T 85 = D85 from rfl)).1
theorem T85s : (T 85).size = 1 := (at_of (show T 85 = D85 from rfl)).2.1
theorem T85b : (T 85).bytes = 8 := (at_of (show T 85 = D85 from rfl)).2.2.1
theorem T85z : (T 85).zero = [.int .u64 0] := (at_of (show T 85 = D85 from rfl)).2.2.2
theorem T86k : (T 86).k = .other := (at_of (show T 86 = D86 from rfl)).1
theorem T86s : (T 86).size = 1 := (at_of (show T 86 = D86 from rfl)).2.1
theorem T86b : (T 86).bytes = 8 := (at_of (show T 86 = D86 from rfl)).2.2.1
theorem T86z : (T 86).zero = [.nilFunc] := (at_of (show T 86 = D86 from rfl)).2.2.2
theorem T94k : (T 94).k = .other := (at_of (show T 94 = D94 from rfl)).1
theorem T94s : (T 94).size = 1 := (at_of (show T 94 = D94 from rfl)).2.1
theorem T94b : (T 94).bytes = 8 := (at_of (show T 94 = D94 from rfl)).2.2.1
theorem T94z : (T 94).zero = [.nilFunc] := (at_of (show T 94 = D94 from rfl)).2.2.2
theorem T95k : (T 95).k = .other := (at_of (show T 95 = D95 from rfl)).1
theorem T95s : (T 95).size = 1 := (at_of (show T 95 = D95 from rfl)).2.1
theorem T95b : (T 95).bytes = 8 := (at_of (show T 95 = D95 from rfl)).2.2.1
theorem T95z : (T 95).zero = [.pointer none] := (at_of (show T 95 = D95 from rfl)).2.2.2
theorem tab_fits : ∀ x ∈ tab, x.2.Fits Try.prog x.1 := by
  simp only [tab, List.forall_mem_cons]
  exact ⟨F1, F2, F3, F4, F5, F9, F12, F13, F21, F22, F23, F24, F25, F26, F27, F28, F29, F30, F31, F32, F33, F34, F35, F36, F37, F38, F39, F40, F41, F42, F43, F44, F45, F46, F47, F48, F49, F50, F51, F52, F53, F54, F55, F56, F58, F59, F60, F61, F62, F63, F64, F65, F66, F67, F68, F69, F70, F71, F72, F73, F74, F75, F76, F77, F78, F79, F80, F81, F82, F83, F84, F85, F86, F94, F95, fun _ h => absurd h (by simp)⟩
theorem T_ok : Tab.Ok T Try.prog := by
  intro t ht
  unfold T at ht ⊢
  cases h : tab.find? fun x => x.1 == t with
  | none => rw [h] at ht; simp at ht
  | some x =>
    have h1 := List.find?_some h
    have h2 := tab_fits x (List.mem_of_find?_eq_some h)
    simp at h1
    subst h1
    exact h2

theorem mixed : Try.prog.follows .mixedOrders = true := by kernel_rfl
end Go.Proofs.Ytnkiinneeobmhaa

/- DERIVED by an AI agent, by a program of its own (mktypes.py). The types of the translation, as the abstract layer reads them. -/
import Derived.Test.YtpnknaaehcljoaaGreatRows
import Derived.Test.YtpnknaaehcljoaaGreatA14
namespace Go.Proofs.YtpnknaaehcljoaaGreat
open Go.Abs
set_option linter.unusedVariables false
theorem fits_of {t : TypeId} {d : TD} {z : Value} (h : d.k.fits Tryz.prog t) (hi : (Tryz.prog.info? t).map (fun i => (i.zero, i.size, i.bytes)) = some (some z, d.size, d.bytes)) (hz : z.cells.toList = d.zero) (hl : d.zero.length = d.size) (ho : d.k.agg = false → d.size = 1 ∧ ∀ z, d.zero = [z] → z.oneCell' = true) : d.Fits Tryz.prog t := by
  refine ⟨h, ?_, hl, ho⟩
  cases hq : Tryz.prog.info? t with
  | none => rw [hq] at hi; simp at hi
  | some i =>
    rw [hq] at hi
    simp at hi
    exact ⟨i, z, rfl, hi.2.1, hi.2.2, hi.1, hz⟩
def D1 : TD := ⟨.other, 1, 8, [.nilFunc]⟩
theorem F1 : D1.Fits Tryz.prog 1 := fits_of (z := .nilFunc) ⟨_, Tryz.underlying1, trivial⟩ (by kernel_rfl) rfl rfl (fun _ => ⟨rfl, fun z h => by cases h; rfl⟩)
def D2 : TD := ⟨.int .i64, 1, 8, [.int .i64 0]⟩
theorem F2 : D2.Fits Tryz.prog 2 := fits_of (z := .int .i64 0) (show Tryz.prog.underlying 2 = some (TypeDesc.int .i64) by kernel_rfl) (by kernel_rfl) rfl rfl (fun _ => ⟨rfl, fun z h => by cases h; rfl⟩)
def D3 : TD := ⟨.int .i64, 1, 8, [.int .i64 0]⟩
theorem F3 : D3.Fits Tryz.prog 3 := fits_of (z := .int .i64 0) (show Tryz.prog.underlying 3 = some (TypeDesc.int .i64) by kernel_rfl) (by kernel_rfl) rfl rfl (fun _ => ⟨rfl, fun z h => by cases h; rfl⟩)
def D4 : TD := ⟨.bool, 1, 1, [.bool false]⟩
theorem F4 : D4.Fits Tryz.prog 4 := fits_of (z := .bool false) (show Tryz.prog.underlying 4 = some (TypeDesc.bool) by kernel_rfl) (by kernel_rfl) rfl rfl (fun _ => ⟨rfl, fun z h => by cases h; rfl⟩)
def D5 : TD := ⟨.int .u8, 1, 1, [.int .u8 0]⟩
theorem F5 : D5.Fits Tryz.prog 5 := fits_of (z := .int .u8 0) (show Tryz.prog.underlying 5 = some (TypeDesc.int .u8) by kernel_rfl) (by kernel_rfl) rfl rfl (fun _ => ⟨rfl, fun z h => by cases h; rfl⟩)
def D9 : TD := ⟨.str, 1, 16, [.string ⟨#[]⟩]⟩
theorem F9 : D9.Fits Tryz.prog 9 := fits_of (z := .string ⟨#[]⟩) (show Tryz.prog.underlying 9 = some (TypeDesc.string) by kernel_rfl) (by kernel_rfl) rfl rfl (fun _ => ⟨rfl, fun z h => by cases h; rfl⟩)
def D12 : TD := ⟨.int .u64, 1, 8, [.int .u64 0]⟩
theorem F12 : D12.Fits Tryz.prog 12 := fits_of (z := .int .u64 0) (show Tryz.prog.underlying 12 = some (TypeDesc.int .u64) by kernel_rfl) (by kernel_rfl) rfl rfl (fun _ => ⟨rfl, fun z h => by cases h; rfl⟩)
def D13 : TD := ⟨.struct [(0, 9), (1, 12)], 2, 24, [.string ⟨#[]⟩, .int .u64 0]⟩
theorem F13 : D13.Fits Tryz.prog 13 := fits_of (z := .agg #[.string ⟨#[]⟩, .int .u64 0]) ⟨_, Tryz.underlying13, rfl⟩ (by kernel_rfl) rfl rfl (fun h => by cases h)
def D21 : TD := ⟨.int .i32, 1, 4, [.int .i32 0]⟩
theorem F21 : D21.Fits Tryz.prog 21 := fits_of (z := .int .i32 0) (show Tryz.prog.underlying 21 = some (TypeDesc.int .i32) by kernel_rfl) (by kernel_rfl) rfl rfl (fun _ => ⟨rfl, fun z h => by cases h; rfl⟩)
def D22 : TD := ⟨.sli 5, 1, 24, [.slice none 0 0]⟩
theorem F22 : D22.Fits Tryz.prog 22 := fits_of (z := .slice none 0 0) (show Tryz.prog.underlying 22 = some (TypeDesc.slice 5) by kernel_rfl) (by kernel_rfl) rfl rfl (fun _ => ⟨rfl, fun z h => by cases h; rfl⟩)
def D23 : TD := ⟨.other, 1, 8, [.nilFunc]⟩
theorem F23 : D23.Fits Tryz.prog 23 := fits_of (z := .nilFunc) ⟨_, Tryz.underlying23, trivial⟩ (by kernel_rfl) rfl rfl (fun _ => ⟨rfl, fun z h => by cases h; rfl⟩)
def D24 : TD := ⟨.other, 1, 8, [.nilFunc]⟩
theorem F24 : D24.Fits Tryz.prog 24 := fits_of (z := .nilFunc) ⟨_, Tryz.underlying24, trivial⟩ (by kernel_rfl) rfl rfl (fun _ => ⟨rfl, fun z h => by cases h; rfl⟩)
def D25 : TD := ⟨.sli 3, 1, 24, [.slice none 0 0]⟩
theorem F25 : D25.Fits Tryz.prog 25 := fits_of (z := .slice none 0 0) (show Tryz.prog.underlying 25 = some (TypeDesc.slice 3) by kernel_rfl) (by kernel_rfl) rfl rfl (fun _ => ⟨rfl, fun z h => by cases h; rfl⟩)
def D26 : TD := ⟨.struct [(0, 3), (1, 25)], 2, 32, [.int .i64 0, .slice none 0 0]⟩
theorem F26 : D26.Fits Tryz.prog 26 := fits_of (z := .agg #[.int .i64 0, .slice none 0 0]) ⟨_, Tryz.underlying26, rfl⟩ (by kernel_rfl) rfl rfl (fun h => by cases h)
def D27 : TD := ⟨.struct [(0, 3), (1, 25)], 2, 32, [.int .i64 0, .slice none 0 0]⟩
theorem F27 : D27.Fits Tryz.prog 27 := fits_of (z := .agg #[.int .i64 0, .slice none 0 0]) ⟨_, Tryz.underlying27, rfl⟩ (by kernel_rfl) rfl rfl (fun h => by cases h)
def D29 : TD := ⟨.other, 1, 8, [.nilFunc]⟩
theorem F29 : D29.Fits Tryz.prog 29 := fits_of (z := .nilFunc) ⟨_, Tryz.underlying29, trivial⟩ (by kernel_rfl) rfl rfl (fun _ => ⟨rfl, fun z h => by cases h; rfl⟩)
def D30 : TD := ⟨.other, 1, 8, [.nilFunc]⟩
theorem F30 : D30.Fits Tryz.prog 30 := fits_of (z := .nilFunc) ⟨_, Tryz.underlying30, trivial⟩ (by kernel_rfl) rfl rfl (fun _ => ⟨rfl, fun z h => by cases h; rfl⟩)
def D31 : TD := ⟨.other, 1, 8, [.nilFunc]⟩
theorem F31 : D31.Fits Tryz.prog 31 := fits_of (z := .nilFunc) ⟨_, Tryz.underlying31, trivial⟩ (by kernel_rfl) rfl rfl (fun _ => ⟨rfl, fun z h => by cases h; rfl⟩)
def D32 : TD := ⟨.other, 1, 8, [.nilFunc]⟩
theorem F32 : D32.Fits Tryz.prog 32 := fits_of (z := .nilFunc) ⟨_, Tryz.underlying32, trivial⟩ (by kernel_rfl) rfl rfl (fun _ => ⟨rfl, fun z h => by cases h; rfl⟩)
def D33 : TD := ⟨.other, 1, 8, [.nilFunc]⟩
theorem F33 : D33.Fits Tryz.prog 33 := fits_of (z := .nilFunc) ⟨_, Tryz.underlying33, trivial⟩ (by kernel_rfl) rfl rfl (fun _ => ⟨rfl, fun z h => by cases h; rfl⟩)
def D34 : TD := ⟨.other, 1, 8, [.nilFunc]⟩
theorem F34 : D34.Fits Tryz.prog 34 := fits_of (z := .nilFunc) ⟨_, Tryz.underlying34, trivial⟩ (by kernel_rfl) rfl rfl (fun _ => ⟨rfl, fun z h => by cases h; rfl⟩)
def D35 : TD := ⟨.struct [(0, 3), (1, 25)], 2, 32, [.int .i64 0, .slice none 0 0]⟩
theorem F35 : D35.Fits Tryz.prog 35 := fits_of (z := .agg #[.int .i64 0, .slice none 0 0]) ⟨_, Tryz.underlying35, rfl⟩ (by kernel_rfl) rfl rfl (fun h => by cases h)
def D36 : TD := ⟨.struct [(0, 3), (1, 25)], 2, 32, [.int .i64 0, .slice none 0 0]⟩
theorem F36 : D36.Fits Tryz.prog 36 := fits_of (z := .agg #[.int .i64 0, .slice none 0 0]) ⟨_, Tryz.underlying36, rfl⟩ (by kernel_rfl) rfl rfl (fun h => by cases h)
def D37 : TD := ⟨.other, 1, 8, [.nilFunc]⟩
theorem F37 : D37.Fits Tryz.prog 37 := fits_of (z := .nilFunc) ⟨_, Tryz.underlying37, trivial⟩ (by kernel_rfl) rfl rfl (fun _ => ⟨rfl, fun z h => by cases h; rfl⟩)
def D39 : TD := ⟨.other, 1, 8, [.nilFunc]⟩
theorem F39 : D39.Fits Tryz.prog 39 := fits_of (z := .nilFunc) ⟨_, Tryz.underlying39, trivial⟩ (by kernel_rfl) rfl rfl (fun _ => ⟨rfl, fun z h => by cases h; rfl⟩)
def D40 : TD := ⟨.other, 1, 8, [.nilFunc]⟩
theorem F40 : D40.Fits Tryz.prog 40 := fits_of (z := .nilFunc) ⟨_, Tryz.underlying40, trivial⟩ (by kernel_rfl) rfl rfl (fun _ => ⟨rfl, fun z h => by cases h; rfl⟩)
def D41 : TD := ⟨.other, 1, 8, [.nilFunc]⟩
theorem F41 : D41.Fits Tryz.prog 41 := fits_of (z := .nilFunc) ⟨_, Tryz.underlying41, trivial⟩ (by kernel_rfl) rfl rfl (fun _ => ⟨rfl, fun z h => by cases h; rfl⟩)
def D43 : TD := ⟨.other, 1, 8, [.nilFunc]⟩
theorem F43 : D43.Fits Tryz.prog 43 := fits_of (z := .nilFunc) ⟨_, Tryz.underlying43, trivial⟩ (by kernel_rfl) rfl rfl (fun _ => ⟨rfl, fun z h => by cases h; rfl⟩)
def D44 : TD := ⟨.other, 1, 8, [.nilFunc]⟩
theorem F44 : D44.Fits Tryz.prog 44 := fits_of (z := .nilFunc) ⟨_, Tryz.underlying44, trivial⟩ (by kernel_rfl) rfl rfl (fun _ => ⟨rfl, fun z h => by cases h; rfl⟩)
def D45 : TD := ⟨.other, 1, 8, [.nilFunc]⟩
theorem F45 : D45.Fits Tryz.prog 45 := fits_of (z := .nilFunc) ⟨_, Tryz.underlying45, trivial⟩ (by kernel_rfl) rfl rfl (fun _ => ⟨rfl, fun z h => by cases h; rfl⟩)
def D46 : TD := ⟨.other, 1, 8, [.nilFunc]⟩
theorem F46 : D46.Fits Tryz.prog 46 := fits_of (z := .nilFunc) ⟨_, Tryz.underlying46, trivial⟩ (by kernel_rfl) rfl rfl (fun _ => ⟨rfl, fun z h => by cases h; rfl⟩)
def D47 : TD := ⟨.other, 1, 8, [.nilFunc]⟩
theorem F47 : D47.Fits Tryz.prog 47 := fits_of (z := .nilFunc) ⟨_, Tryz.underlying47, trivial⟩ (by kernel_rfl) rfl rfl (fun _ => ⟨rfl, fun z h => by cases h; rfl⟩)
def D48 : TD := ⟨.other, 1, 8, [.nilFunc]⟩
theorem F48 : D48.Fits Tryz.prog 48 := fits_of (z := .nilFunc) ⟨_, Tryz.underlying48, trivial⟩ (by kernel_rfl) rfl rfl (fun _ => ⟨rfl, fun z h => by cases h; rfl⟩)
def D49 : TD := ⟨.other, 1, 8, [.nilFunc]⟩
theorem F49 : D49.Fits Tryz.prog 49 := fits_of (z := .nilFunc) ⟨_, Tryz.underlying49, trivial⟩ (by kernel_rfl) rfl rfl (fun _ => ⟨rfl, fun z h => by cases h; rfl⟩)
def D50 : TD := ⟨.other, 1, 8, [.nilFunc]⟩
theorem F50 : D50.Fits Tryz.prog 50 := fits_of (z := .nilFunc) ⟨_, Tryz.underlying50, trivial⟩ (by kernel_rfl) rfl rfl (fun _ => ⟨rfl, fun z h => by cases h; rfl⟩)
def D51 : TD := ⟨.struct [(0, 3), (1, 25)], 2, 32, [.int .i64 0, .slice none 0 0]⟩
theorem F51 : D51.Fits Tryz.prog 51 := fits_of (z := .agg #[.int .i64 0, .slice none 0 0]) ⟨_, Tryz.underlying51, rfl⟩ (by kernel_rfl) rfl rfl (fun h => by cases h)
def D52 : TD := ⟨.struct [(0, 3), (1, 25)], 2, 32, [.int .i64 0, .slice none 0 0]⟩
theorem F52 : D52.Fits Tryz.prog 52 := fits_of (z := .agg #[.int .i64 0, .slice none 0 0]) ⟨_, Tryz.underlying52, rfl⟩ (by kernel_rfl) rfl rfl (fun h => by cases h)
def D54 : TD := ⟨.other, 1, 8, [.nilFunc]⟩
theorem F54 : D54.Fits Tryz.prog 54 := fits_of (z := .nilFunc) ⟨_, Tryz.underlying54, trivial⟩ (by kernel_rfl) rfl rfl (fun _ => ⟨rfl, fun z h => by cases h; rfl⟩)
def D55 : TD := ⟨.other, 1, 8, [.nilFunc]⟩
theorem F55 : D55.Fits Tryz.prog 55 := fits_of (z := .nilFunc) ⟨_, Tryz.underlying55, trivial⟩ (by kernel_rfl) rfl rfl (fun _ => ⟨rfl, fun z h => by cases h; rfl⟩)
def D56 : TD := ⟨.other, 1, 8, [.nilFunc]⟩
theorem F56 : D56.Fits Tryz.prog 56 := fits_of (z := .nilFunc) ⟨_, Tryz.underlying56, trivial⟩ (by kernel_rfl) rfl rfl (fun _ => ⟨rfl, fun z h => by cases h; rfl⟩)
def D57 : TD := ⟨.other, 1, 8, [.nilFunc]⟩
theorem F57 : D57.Fits Tryz.prog 57 := fits_of (z := .nilFunc) ⟨_, Tryz.underlying57, trivial⟩ (by kernel_rfl) rfl rfl (fun _ => ⟨rfl, fun z h => by cases h; rfl⟩)
def D58 : TD := ⟨.other, 1, 8, [.nilFunc]⟩
theorem F58 : D58.Fits Tryz.prog 58 := fits_of (z := .nilFunc) ⟨_, Tryz.underlying58, trivial⟩ (by kernel_rfl) rfl rfl (fun _ => ⟨rfl, fun z h => by cases h; rfl⟩)
def D59 : TD := ⟨.other, 1, 8, [.nilFunc]⟩
theorem F59 : D59.Fits Tryz.prog 59 := fits_of (z := .nilFunc) ⟨_, Tryz.underlying59, trivial⟩ (by kernel_rfl) rfl rfl (fun _ => ⟨rfl, fun z h => by cases h; rfl⟩)
def D60 : TD := ⟨.other, 1, 8, [.nilFunc]⟩
theorem F60 : D60.Fits Tryz.prog 60 := fits_of (z := .nilFunc) ⟨_, Tryz.underlying60, trivial⟩ (by kernel_rfl) rfl rfl (fun _ => ⟨rfl, fun z h => by cases h; rfl⟩)
def D61 : TD := ⟨.other, 1, 8, [.nilFunc]⟩
theorem F61 : D61.Fits Tryz.prog 61 := fits_of (z := .nilFunc) ⟨_, Tryz.underlying61, trivial⟩ (by kernel_rfl) rfl rfl (fun _ => ⟨rfl, fun z h => by cases h; rfl⟩)
def D63 : TD := ⟨.other, 1, 8, [.nilFunc]⟩
theorem F63 : D63.Fits Tryz.prog 63 := fits_of (z := .nilFunc) ⟨_, Tryz.underlying63, trivial⟩ (by kernel_rfl) rfl rfl (fun _ => ⟨rfl, fun z h => by cases h; rfl⟩)
def D64 : TD := ⟨.other, 1, 8, [.nilFunc]⟩
theorem F64 : D64.Fits Tryz.prog 64 := fits_of (z := .nilFunc) ⟨_, Tryz.underlying64, trivial⟩ (by kernel_rfl) rfl rfl (fun _ => ⟨rfl, fun z h => by cases h; rfl⟩)
def D66 : TD := ⟨.other, 1, 8, [.nilFunc]⟩
theorem F66 : D66.Fits Tryz.prog 66 := fits_of (z := .nilFunc) ⟨_, Tryz.underlying66, trivial⟩ (by kernel_rfl) rfl rfl (fun _ => ⟨rfl, fun z h => by cases h; rfl⟩)
def D67 : TD := ⟨.other, 1, 8, [.nilFunc]⟩
theorem F67 : D67.Fits Tryz.prog 67 := fits_of (z := .nilFunc) ⟨_, Tryz.underlying67, trivial⟩ (by kernel_rfl) rfl rfl (fun _ => ⟨rfl, fun z h => by cases h; rfl⟩)
def D68 : TD := ⟨.other, 1, 8, [.nilFunc]⟩
theorem F68 : D68.Fits Tryz.prog 68 := fits_of (z := .nilFunc) ⟨_, Tryz.underlying68, trivial⟩ (by kernel_rfl) rfl rfl (fun _ => ⟨rfl, fun z h => by cases h; rfl⟩)
def D69 : TD := ⟨.other, 1, 8, [.nilFunc]⟩
theorem F69 : D69.Fits Tryz.prog 69 := fits_of (z := .nilFunc) ⟨_, Tryz.underlying69, trivial⟩ (by kernel_rfl) rfl rfl (fun _ => ⟨rfl, fun z h => by cases h; rfl⟩)
def D70 : TD := ⟨.other, 1, 8, [.nilFunc]⟩
theorem F70 : D70.Fits Tryz.prog 70 := fits_of (z := .nilFunc) ⟨_, Tryz.underlying70, trivial⟩ (by kernel_rfl) rfl rfl (fun _ => ⟨rfl, fun z h => by cases h; rfl⟩)
def D71 : TD := ⟨.other, 1, 8, [.nilFunc]⟩
theorem F71 : D71.Fits Tryz.prog 71 := fits_of (z := .nilFunc) ⟨_, Tryz.underlying71, trivial⟩ (by kernel_rfl) rfl rfl (fun _ => ⟨rfl, fun z h => by cases h; rfl⟩)
def D72 : TD := ⟨.other, 1, 8, [.nilFunc]⟩
theorem F72 : D72.Fits Tryz.prog 72 := fits_of (z := .nilFunc) ⟨_, Tryz.underlying72, trivial⟩ (by kernel_rfl) rfl rfl (fun _ => ⟨rfl, fun z h => by cases h; rfl⟩)
def D73 : TD := ⟨.other, 1, 8, [.nilFunc]⟩
theorem F73 : D73.Fits Tryz.prog 73 := fits_of (z := .nilFunc) ⟨_, Tryz.underlying73, trivial⟩ (by kernel_rfl) rfl rfl (fun _ => ⟨rfl, fun z h => by cases h; rfl⟩)
def D74 : TD := ⟨.other, 1, 8, [.pointer none]⟩
theorem F74 : D74.Fits Tryz.prog 74 := fits_of (z := .pointer none) ⟨_, Tryz.underlying74, trivial⟩ (by kernel_rfl) rfl rfl (fun _ => ⟨rfl, fun z h => by cases h; rfl⟩)
def D75 : TD := ⟨.other, 1, 8, [.nilFunc]⟩
theorem F75 : D75.Fits Tryz.prog 75 := fits_of (z := .nilFunc) ⟨_, Tryz.underlying75, trivial⟩ (by kernel_rfl) rfl rfl (fun _ => ⟨rfl, fun z h => by cases h; rfl⟩)
def D76 : TD := ⟨.other, 1, 8, [.nilFunc]⟩
theorem F76 : D76.Fits Tryz.prog 76 := fits_of (z := .nilFunc) ⟨_, Tryz.underlying76, trivial⟩ (by kernel_rfl) rfl rfl (fun _ => ⟨rfl, fun z h => by cases h; rfl⟩)
def D77 : TD := ⟨.other, 1, 8, [.nilFunc]⟩
theorem F77 : D77.Fits Tryz.prog 77 := fits_of (z := .nilFunc) ⟨_, Tryz.underlying77, trivial⟩ (by kernel_rfl) rfl rfl (fun _ => ⟨rfl, fun z h => by cases h; rfl⟩)
def D78 : TD := ⟨.other, 1, 8, [.nilFunc]⟩
theorem F78 : D78.Fits Tryz.prog 78 := fits_of (z := .nilFunc) ⟨_, Tryz.underlying78, trivial⟩ (by kernel_rfl) rfl rfl (fun _ => ⟨rfl, fun z h => by cases h; rfl⟩)
def D79 : TD := ⟨.other, 1, 8, [.nilFunc]⟩
theorem F79 : D79.Fits Tryz.prog 79 := fits_of (z := .nilFunc) ⟨_, Tryz.underlying79, trivial⟩ (by kernel_rfl) rfl rfl (fun _ => ⟨rfl, fun z h => by cases h; rfl⟩)
def D80 : TD := ⟨.other, 1, 8, [.nilFunc]⟩
theorem F80 : D80.Fits Tryz.prog 80 := fits_of (z := .nilFunc) ⟨_, Tryz.underlying80, trivial⟩ (by kernel_rfl) rfl rfl (fun _ => ⟨rfl, fun z h => by cases h; rfl⟩)
def D81 : TD := ⟨.other, 1, 8, [.nilFunc]⟩
theorem F81 : D81.Fits Tryz.prog 81 := fits_of (z := .nilFunc) ⟨_, Tryz.underlying81, trivial⟩ (by kernel_rfl) rfl rfl (fun _ => ⟨rfl, fun z h => by cases h; rfl⟩)
def D82 : TD := ⟨.int .u64, 1, 8, [.int .u64 0]⟩
theorem F82 : D82.Fits Tryz.prog 82 := fits_of (z := .int .u64 0) (show Tryz.prog.underlying 82 = some (TypeDesc.int .u64) by kernel_rfl) (by kernel_rfl) rfl rfl (fun _ => ⟨rfl, fun z h => by cases h; rfl⟩)
def D84 : TD := ⟨.other, 1, 8, [.nilFunc]⟩
theorem F84 : D84.Fits Tryz.prog 84 := fits_of (z := .nilFunc) ⟨_, Tryz.underlying84, trivial⟩ (by kernel_rfl) rfl rfl (fun _ => ⟨rfl, fun z h => by cases h; rfl⟩)
def D85 : TD := ⟨.other, 1, 8, [.nilFunc]⟩
theorem F85 : D85.Fits Tryz.prog 85 := fits_of (z := .nilFunc) ⟨_, Tryz.underlying85, trivial⟩ (by kernel_rfl) rfl rfl (fun _ => ⟨rfl, fun z h => by cases h; rfl⟩)
def D86 : TD := ⟨.other, 1, 8, [.nilFunc]⟩
theorem F86 : D86.Fits Tryz.prog 86 := fits_of (z := .nilFunc) ⟨_, Tryz.underlying86, trivial⟩ (by kernel_rfl) rfl rfl (fun _ => ⟨rfl, fun z h => by cases h; rfl⟩)
def D87 : TD := ⟨.other, 1, 8, [.nilFunc]⟩
theorem F87 : D87.Fits Tryz.prog 87 := fits_of (z := .nilFunc) ⟨_, Tryz.underlying87, trivial⟩ (by kernel_rfl) rfl rfl (fun _ => ⟨rfl, fun z h => by cases h; rfl⟩)
def D88 : TD := ⟨.int .u64, 1, 8, [.int .u64 0]⟩
theorem F88 : D88.Fits Tryz.prog 88 := fits_of (z := .int .u64 0) (show Tryz.prog.underlying 88 = some (TypeDesc.int .u64) by kernel_rfl) (by kernel_rfl) rfl rfl (fun _ => ⟨rfl, fun z h => by cases h; rfl⟩)
def D89 : TD := ⟨.other, 1, 8, [.nilFunc]⟩
theorem F89 : D89.Fits Tryz.prog 89 := fits_of (z := .nilFunc) ⟨_, Tryz.underlying89, trivial⟩ (by kernel_rfl) rfl rfl (fun _ => ⟨rfl, fun z h => by cases h; rfl⟩)
def D90 : TD := ⟨.other, 1, 8, [.nilFunc]⟩
theorem F90 : D90.Fits Tryz.prog 90 := fits_of (z := .nilFunc) ⟨_, Tryz.underlying90, trivial⟩ (by kernel_rfl) rfl rfl (fun _ => ⟨rfl, fun z h => by cases h; rfl⟩)
def D91 : TD := ⟨.other, 1, 8, [.nilFunc]⟩
theorem F91 : D91.Fits Tryz.prog 91 := fits_of (z := .nilFunc) ⟨_, Tryz.underlying91, trivial⟩ (by kernel_rfl) rfl rfl (fun _ => ⟨rfl, fun z h => by cases h; rfl⟩)
def D92 : TD := ⟨.other, 1, 8, [.nilFunc]⟩
theorem F92 : D92.Fits Tryz.prog 92 := fits_of (z := .nilFunc) ⟨_, Tryz.underlying92, trivial⟩ (by kernel_rfl) rfl rfl (fun _ => ⟨rfl, fun z h => by cases h; rfl⟩)
def D93 : TD := ⟨.other, 1, 8, [.nilFunc]⟩
theorem F93 : D93.Fits Tryz.prog 93 := fits_of (z := .nilFunc) ⟨_, Tryz.underlying93, trivial⟩ (by kernel_rfl) rfl rfl (fun _ => ⟨rfl, fun z h => by cases h; rfl⟩)
def D94 : TD := ⟨.other, 1, 8, [.nilFunc]⟩
theorem F94 : D94.Fits Tryz.prog 94 := fits_of (z := .nilFunc) ⟨_, Tryz.underlying94, trivial⟩ (by kernel_rfl) rfl rfl (fun _ => ⟨rfl, fun z h => by cases h; rfl⟩)
def D95 : TD := ⟨.other, 1, 8, [.nilFunc]⟩
theorem F95 : D95.Fits Tryz.prog 95 := fits_of (z := .nilFunc) ⟨_, Tryz.underlying95, trivial⟩ (by kernel_rfl) rfl rfl (fun _ => ⟨rfl, fun z h => by cases h; rfl⟩)
def D96 : TD := ⟨.other, 1, 8, [.nilFunc]⟩
theorem F96 : D96.Fits Tryz.prog 96 := fits_of (z := .nilFunc) ⟨_, Tryz.underlying96, trivial⟩ (by kernel_rfl) rfl rfl (fun _ => ⟨rfl, fun z h => by cases h; rfl⟩)
def D97 : TD := ⟨.other, 1, 8, [.nilFunc]⟩
theorem F97 : D97.Fits Tryz.prog 97 := fits_of (z := .nilFunc) ⟨_, Tryz.underlying97, trivial⟩ (by kernel_rfl) rfl rfl (fun _ => ⟨rfl, fun z h => by cases h; rfl⟩)
def D98 : TD := ⟨.other, 1, 8, [.nilFunc]⟩
theorem F98 : D98.Fits Tryz.prog 98 := fits_of (z := .nilFunc) ⟨_, Tryz.underlying98, trivial⟩ (by kernel_rfl) rfl rfl (fun _ => ⟨rfl, fun z h => by cases h; rfl⟩)
def D99 : TD := ⟨.sli 25, 1, 24, [.slice none 0 0]⟩
theorem F99 : D99.Fits Tryz.prog 99 := fits_of (z := .slice none 0 0) (show Tryz.prog.underlying 99 = some (TypeDesc.slice 25) by kernel_rfl) (by kernel_rfl) rfl rfl (fun _ => ⟨rfl, fun z h => by cases h; rfl⟩)
def D100 : TD := ⟨.other, 1, 8, [.nilFunc]⟩
theorem F100 : D100.Fits Tryz.prog 100 := fits_of (z := .nilFunc) ⟨_, Tryz.underlying100, trivial⟩ (by kernel_rfl) rfl rfl (fun _ => ⟨rfl, fun z h => by cases h; rfl⟩)
def D101 : TD := ⟨.other, 1, 8, [.nilFunc]⟩
theorem F101 : D101.Fits Tryz.prog 101 := fits_of (z := .nilFunc) ⟨_, Tryz.underlying101, trivial⟩ (by kernel_rfl) rfl rfl (fun _ => ⟨rfl, fun z h => by cases h; rfl⟩)
def D102 : TD := ⟨.other, 1, 8, [.nilFunc]⟩
theorem F102 : D102.Fits Tryz.prog 102 := fits_of (z := .nilFunc) ⟨_, Tryz.underlying102, trivial⟩ (by kernel_rfl) rfl rfl (fun _ => ⟨rfl, fun z h => by cases h; rfl⟩)
def D103 : TD := ⟨.other, 1, 8, [.nilFunc]⟩
theorem F103 : D103.Fits Tryz.prog 103 := fits_of (z := .nilFunc) ⟨_, Tryz.underlying103, trivial⟩ (by kernel_rfl) rfl rfl (fun _ => ⟨rfl, fun z h => by cases h; rfl⟩)
def D104 : TD := ⟨.other, 1, 8, [.nilFunc]⟩
theorem F104 : D104.Fits Tryz.prog 104 := fits_of (z := .nilFunc) ⟨_, Tryz.underlying104, trivial⟩ (by kernel_rfl) rfl rfl (fun _ => ⟨rfl, fun z h => by cases h; rfl⟩)
def D105 : TD := ⟨.other, 1, 8, [.nilFunc]⟩
theorem F105 : D105.Fits Tryz.prog 105 := fits_of (z := .nilFunc) ⟨_, Tryz.underlying105, trivial⟩ (by kernel_rfl) rfl rfl (fun _ => ⟨rfl, fun z h => by cases h; rfl⟩)
def D106 : TD := ⟨.other, 1, 8, [.nilFunc]⟩
theorem F106 : D106.Fits Tryz.prog 106 := fits_of (z := .nilFunc) ⟨_, Tryz.underlying106, trivial⟩ (by kernel_rfl) rfl rfl (fun _ => ⟨rfl, fun z h => by cases h; rfl⟩)
def D107 : TD := ⟨.other, 1, 8, [.nilFunc]⟩
theorem F107 : D107.Fits Tryz.prog 107 := fits_of (z := .nilFunc) ⟨_, Tryz.underlying107, trivial⟩ (by kernel_rfl) rfl rfl (fun _ => ⟨rfl, fun z h => by cases h; rfl⟩)
def D108 : TD := ⟨.other, 1, 8, [.nilFunc]⟩
theorem F108 : D108.Fits Tryz.prog 108 := fits_of (z := .nilFunc) ⟨_, Tryz.underlying108, trivial⟩ (by kernel_rfl) rfl rfl (fun _ => ⟨rfl, fun z h => by cases h; rfl⟩)
def D109 : TD := ⟨.other, 1, 8, [.nilFunc]⟩
theorem F109 : D109.Fits Tryz.prog 109 := fits_of (z := .nilFunc) ⟨_, Tryz.underlying109, trivial⟩ (by kernel_rfl) rfl rfl (fun _ => ⟨rfl, fun z h => by cases h; rfl⟩)
def D110 : TD := ⟨.other, 1, 8, [.nilFunc]⟩
theorem F110 : D110.Fits Tryz.prog 110 := fits_of (z := .nilFunc) ⟨_, Tryz.underlying110, trivial⟩ (by kernel_rfl) rfl rfl (fun _ => ⟨rfl, fun z h => by cases h; rfl⟩)
def D111 : TD := ⟨.other, 1, 8, [.nilFunc]⟩
theorem F111 : D111.Fits Tryz.prog 111 := fits_of (z := .nilFunc) ⟨_, Tryz.underlying111, trivial⟩ (by kernel_rfl) rfl rfl (fun _ => ⟨rfl, fun z h => by cases h; rfl⟩)
def D112 : TD := ⟨.struct [(0, 22), (1, 3), (2, 3)], 3, 40, [.slice none 0 0, .int .i64 0, .int .i64 0]⟩
theorem F112 : D112.Fits Tryz.prog 112 := fits_of (z := .agg #[.slice none 0 0, .int .i64 0, .int .i64 0]) ⟨_, Tryz.underlying112, rfl⟩ (by kernel_rfl) rfl rfl (fun h => by cases h)
def D113 : TD := ⟨.struct [(0, 22), (1, 3), (2, 3)], 3, 40, [.slice none 0 0, .int .i64 0, .int .i64 0]⟩
theorem F113 : D113.Fits Tryz.prog 113 := fits_of (z := .agg #[.slice none 0 0, .int .i64 0, .int .i64 0]) ⟨_, Tryz.underlying113, rfl⟩ (by kernel_rfl) rfl rfl (fun h => by cases h)
def D115 : TD := ⟨.other, 1, 8, [.nilFunc]⟩
theorem F115 : D115.Fits Tryz.prog 115 := fits_of (z := .nilFunc) ⟨_, Tryz.underlying115, trivial⟩ (by kernel_rfl) rfl rfl (fun _ => ⟨rfl, fun z h => by cases h; rfl⟩)
def D116 : TD := ⟨.sli 9, 1, 24, [.slice none 0 0]⟩
theorem F116 : D116.Fits Tryz.prog 116 := fits_of (z := .slice none 0 0) (show Tryz.prog.underlying 116 = some (TypeDesc.slice 9) by kernel_rfl) (by kernel_rfl) rfl rfl (fun _ => ⟨rfl, fun z h => by cases h; rfl⟩)
def D117 : TD := ⟨.other, 1, 8, [.nilFunc]⟩
theorem F117 : D117.Fits Tryz.prog 117 := fits_of (z := .nilFunc) ⟨_, Tryz.underlying117, trivial⟩ (by kernel_rfl) rfl rfl (fun _ => ⟨rfl, fun z h => by cases h; rfl⟩)
def D119 : TD := ⟨.other, 1, 8, [.nilFunc]⟩
theorem F119 : D119.Fits Tryz.prog 119 := fits_of (z := .nilFunc) ⟨_, Tryz.underlying119, trivial⟩ (by kernel_rfl) rfl rfl (fun _ => ⟨rfl, fun z h => by cases h; rfl⟩)
def D120 : TD := ⟨.other, 1, 8, [.nilFunc]⟩
theorem F120 : D120.Fits Tryz.prog 120 := fits_of (z := .nilFunc) ⟨_, Tryz.underlying120, trivial⟩ (by kernel_rfl) rfl rfl (fun _ => ⟨rfl, fun z h => by cases h; rfl⟩)
def D121 : TD := ⟨.other, 1, 8, [.nilFunc]⟩
theorem F121 : D121.Fits Tryz.prog 121 := fits_of (z := .nilFunc) ⟨_, Tryz.underlying121, trivial⟩ (by kernel_rfl) rfl rfl (fun _ => ⟨rfl, fun z h => by cases h; rfl⟩)
def D122 : TD := ⟨.other, 1, 8, [.nilFunc]⟩
theorem F122 : D122.Fits Tryz.prog 122 := fits_of (z := .nilFunc) ⟨_, Tryz.underlying122, trivial⟩ (by kernel_rfl) rfl rfl (fun _ => ⟨rfl, fun z h => by cases h; rfl⟩)
def D123 : TD := ⟨.other, 1, 8, [.nilFunc]⟩
theorem F123 : D123.Fits Tryz.prog 123 := fits_of (z := .nilFunc) ⟨_, Tryz.underlying123, trivial⟩ (by kernel_rfl) rfl rfl (fun _ => ⟨rfl, fun z h => by cases h; rfl⟩)
def D124 : TD := ⟨.other, 1, 8, [.nilFunc]⟩
theorem F124 : D124.Fits Tryz.prog 124 := fits_of (z := .nilFunc) ⟨_, Tryz.underlying124, trivial⟩ (by kernel_rfl) rfl rfl (fun _ => ⟨rfl, fun z h => by cases h; rfl⟩)
def D125 : TD := ⟨.other, 1, 8, [.nilFunc]⟩
theorem F125 : D125.Fits Tryz.prog 125 := fits_of (z := .nilFunc) ⟨_, Tryz.underlying125, trivial⟩ (by kernel_rfl) rfl rfl (fun _ => ⟨rfl, fun z h => by cases h; rfl⟩)
def D126 : TD := ⟨.other, 1, 8, [.nilFunc]⟩
theorem F126 : D126.Fits Tryz.prog 126 := fits_of (z := .nilFunc) ⟨_, Tryz.underlying126, trivial⟩ (by kernel_rfl) rfl rfl (fun _ => ⟨rfl, fun z h => by cases h; rfl⟩)
def D127 : TD := ⟨.other, 1, 8, [.nilFunc]⟩
theorem F127 : D127.Fits Tryz.prog 127 := fits_of (z := .nilFunc) ⟨_, Tryz.underlying127, trivial⟩ (by kernel_rfl) rfl rfl (fun _ => ⟨rfl, fun z h => by cases h; rfl⟩)
def D129 : TD := ⟨.other, 1, 8, [.nilFunc]⟩
theorem F129 : D129.Fits Tryz.prog 129 := fits_of (z := .nilFunc) ⟨_, Tryz.underlying129, trivial⟩ (by kernel_rfl) rfl rfl (fun _ => ⟨rfl, fun z h => by cases h; rfl⟩)
def D130 : TD := ⟨.other, 1, 8, [.nilFunc]⟩
theorem F130 : D130.Fits Tryz.prog 130 := fits_of (z := .nilFunc) ⟨_, Tryz.underlying130, trivial⟩ (by kernel_rfl) rfl rfl (fun _ => ⟨rfl, fun z h => by cases h; rfl⟩)
def D131 : TD := ⟨.other, 1, 8, [.nilFunc]⟩
theorem F131 : D131.Fits Tryz.prog 131 := fits_of (z := .nilFunc) ⟨_, Tryz.underlying131, trivial⟩ (by kernel_rfl) rfl rfl (fun _ => ⟨rfl, fun z h => by cases h; rfl⟩)
def D132 : TD := ⟨.other, 1, 8, [.nilFunc]⟩
theorem F132 : D132.Fits Tryz.prog 132 := fits_of (z := .nilFunc) ⟨_, Tryz.underlying132, trivial⟩ (by kernel_rfl) rfl rfl (fun _ => ⟨rfl, fun z h => by cases h; rfl⟩)
def D133 : TD := ⟨.arr 256 4, 256, 256, ((List.replicate 256 (.bool false)))⟩
theorem F133 : D133.Fits Tryz.prog 133 := fits_of (z := .agg ⟨((List.replicate 256 (.bool false)))⟩) (show Tryz.prog.underlying 133 = some (TypeDesc.array 256 4) by kernel_rfl) (by kernel_rfl) (by kernel_rfl) (by kernel_rfl) (fun h => by cases h)
def D134 : TD := ⟨.struct [(0, 25), (1, 89), (2, 133), (258, 25)], 259, 312, ([.slice none 0 0, .nilFunc] ++ (List.replicate 256 (.bool false)) ++ [.slice none 0 0])⟩
theorem F134 : D134.Fits Tryz.prog 134 := fits_of (z := .agg ⟨([.slice none 0 0, .nilFunc] ++ (List.replicate 256 (.bool false)) ++ [.slice none 0 0])⟩) ⟨_, Tryz.underlying134, rfl⟩ (by kernel_rfl) (by kernel_rfl) (by kernel_rfl) (fun h => by cases h)
def D135 : TD := ⟨.struct [(0, 25), (1, 89), (2, 133), (258, 25)], 259, 312, ([.slice none 0 0, .nilFunc] ++ (List.replicate 256 (.bool false)) ++ [.slice none 0 0])⟩
theorem F135 : D135.Fits Tryz.prog 135 := fits_of (z := .agg ⟨([.slice none 0 0, .nilFunc] ++ (List.replicate 256 (.bool false)) ++ [.slice none 0 0])⟩) ⟨_, Tryz.underlying135, rfl⟩ (by kernel_rfl) (by kernel_rfl) (by kernel_rfl) (fun h => by cases h)
def D136 : TD := ⟨.other, 1, 8, [.nilFunc]⟩
theorem F136 : D136.Fits Tryz.prog 136 := fits_of (z := .nilFunc) ⟨_, Tryz.underlying136, trivial⟩ (by kernel_rfl) rfl rfl (fun _ => ⟨rfl, fun z h => by cases h; rfl⟩)
def D137 : TD := ⟨.other, 1, 8, [.nilFunc]⟩
theorem F137 : D137.Fits Tryz.prog 137 := fits_of (z := .nilFunc) ⟨_, Tryz.underlying137, trivial⟩ (by kernel_rfl) rfl rfl (fun _ => ⟨rfl, fun z h => by cases h; rfl⟩)
def D138 : TD := ⟨.sli 4, 1, 24, [.slice none 0 0]⟩
theorem F138 : D138.Fits Tryz.prog 138 := fits_of (z := .slice none 0 0) (show Tryz.prog.underlying 138 = some (TypeDesc.slice 4) by kernel_rfl) (by kernel_rfl) rfl rfl (fun _ => ⟨rfl, fun z h => by cases h; rfl⟩)
def D139 : TD := ⟨.other, 1, 8, [.nilFunc]⟩
theorem F139 : D139.Fits Tryz.prog 139 := fits_of (z := .nilFunc) ⟨_, Tryz.underlying139, trivial⟩ (by kernel_rfl) rfl rfl (fun _ => ⟨rfl, fun z h => by cases h; rfl⟩)
def D140 : TD := ⟨.other, 1, 8, [.nilFunc]⟩
theorem F140 : D140.Fits Tryz.prog 140 := fits_of (z := .nilFunc) ⟨_, Tryz.underlying140, trivial⟩ (by kernel_rfl) rfl rfl (fun _ => ⟨rfl, fun z h => by cases h; rfl⟩)
def D141 : TD := ⟨.other, 1, 8, [.nilFunc]⟩
theorem F141 : D141.Fits Tryz.prog 141 := fits_of (z := .nilFunc) ⟨_, Tryz.underlying141, trivial⟩ (by kernel_rfl) rfl rfl (fun _ => ⟨rfl, fun z h => by cases h; rfl⟩)
def D142 : TD := ⟨.other, 1, 8, [.nilFunc]⟩
theorem F142 : D142.Fits Tryz.prog 142 := fits_of (z := .nilFunc) ⟨_, Tryz.underlying142, trivial⟩ (by kernel_rfl) rfl rfl (fun _ => ⟨rfl, fun z h => by cases h; rfl⟩)
def D143 : TD := ⟨.other, 1, 8, [.nilFunc]⟩
theorem F143 : D143.Fits Tryz.prog 143 := fits_of (z := .nilFunc) ⟨_, Tryz.underlying143, trivial⟩ (by kernel_rfl) rfl rfl (fun _ => ⟨rfl, fun z h => by cases h; rfl⟩)
def D144 : TD := ⟨.other, 1, 8, [.nilFunc]⟩
theorem F144 : D144.Fits Tryz.prog 144 := fits_of (z := .nilFunc) ⟨_, Tryz.underlying144, trivial⟩ (by kernel_rfl) rfl rfl (fun _ => ⟨rfl, fun z h => by cases h; rfl⟩)
def D145 : TD := ⟨.int .u32, 1, 4, [.int .u32 0]⟩
theorem F145 : D145.Fits Tryz.prog 145 := fits_of (z := .int .u32 0) (show Tryz.prog.underlying 145 = some (TypeDesc.int .u32) by kernel_rfl) (by kernel_rfl) rfl rfl (fun _ => ⟨rfl, fun z h => by cases h; rfl⟩)
def D146 : TD := ⟨.other, 1, 8, [.nilFunc]⟩
theorem F146 : D146.Fits Tryz.prog 146 := fits_of (z := .nilFunc) ⟨_, Tryz.underlying146, trivial⟩ (by kernel_rfl) rfl rfl (fun _ => ⟨rfl, fun z h => by cases h; rfl⟩)
def D147 : TD := ⟨.other, 1, 8, [.nilFunc]⟩
theorem F147 : D147.Fits Tryz.prog 147 := fits_of (z := .nilFunc) ⟨_, Tryz.underlying147, trivial⟩ (by kernel_rfl) rfl rfl (fun _ => ⟨rfl, fun z h => by cases h; rfl⟩)
def D148 : TD := ⟨.other, 1, 8, [.nilFunc]⟩
theorem F148 : D148.Fits Tryz.prog 148 := fits_of (z := .nilFunc) ⟨_, Tryz.underlying148, trivial⟩ (by kernel_rfl) rfl rfl (fun _ => ⟨rfl, fun z h => by cases h; rfl⟩)
def D149 : TD := ⟨.other, 1, 8, [.nilFunc]⟩
theorem F149 : D149.Fits Tryz.prog 149 := fits_of (z := .nilFunc) ⟨_, Tryz.underlying149, trivial⟩ (by kernel_rfl) rfl rfl (fun _ => ⟨rfl, fun z h => by cases h; rfl⟩)
def D150 : TD := ⟨.other, 1, 8, [.nilFunc]⟩
theorem F150 : D150.Fits Tryz.prog 150 := fits_of (z := .nilFunc) ⟨_, Tryz.underlying150, trivial⟩ (by kernel_rfl) rfl rfl (fun _ => ⟨rfl, fun z h => by cases h; rfl⟩)
def D151 : TD := ⟨.other, 1, 8, [.nilFunc]⟩
theorem F151 : D151.Fits Tryz.prog 151 := fits_of (z := .nilFunc) ⟨_, Tryz.underlying151, trivial⟩ (by kernel_rfl) rfl rfl (fun _ => ⟨rfl, fun z h => by cases h; rfl⟩)
def D152 : TD := ⟨.other, 1, 8, [.nilFunc]⟩
theorem F152 : D152.Fits Tryz.prog 152 := fits_of (z := .nilFunc) ⟨_, Tryz.underlying152, trivial⟩ (by kernel_rfl) rfl rfl (fun _ => ⟨rfl, fun z h => by cases h; rfl⟩)
def D153 : TD := ⟨.other, 1, 8, [.pointer none]⟩
theorem F153 : D153.Fits Tryz.prog 153 := fits_of (z := .pointer none) ⟨_, Tryz.underlying153, trivial⟩ (by kernel_rfl) rfl rfl (fun _ => ⟨rfl, fun z h => by cases h; rfl⟩)
def D154 : TD := ⟨.other, 1, 8, [.nilFunc]⟩
theorem F154 : D154.Fits Tryz.prog 154 := fits_of (z := .nilFunc) ⟨_, Tryz.underlying154, trivial⟩ (by kernel_rfl) rfl rfl (fun _ => ⟨rfl, fun z h => by cases h; rfl⟩)
def D155 : TD := ⟨.other, 1, 8, [.nilFunc]⟩
theorem F155 : D155.Fits Tryz.prog 155 := fits_of (z := .nilFunc) ⟨_, Tryz.underlying155, trivial⟩ (by kernel_rfl) rfl rfl (fun _ => ⟨rfl, fun z h => by cases h; rfl⟩)
def D156 : TD := ⟨.other, 1, 8, [.nilFunc]⟩
theorem F156 : D156.Fits Tryz.prog 156 := fits_of (z := .nilFunc) ⟨_, Tryz.underlying156, trivial⟩ (by kernel_rfl) rfl rfl (fun _ => ⟨rfl, fun z h => by cases h; rfl⟩)
def D157 : TD := ⟨.int .i64, 1, 8, [.int .i64 0]⟩
theorem F157 : D157.Fits Tryz.prog 157 := fits_of (z := .int .i64 0) (show Tryz.prog.underlying 157 = some (TypeDesc.int .i64) by kernel_rfl) (by kernel_rfl) rfl rfl (fun _ => ⟨rfl, fun z h => by cases h; rfl⟩)
def D159 : TD := ⟨.other, 1, 8, [.nilFunc]⟩
theorem F159 : D159.Fits Tryz.prog 159 := fits_of (z := .nilFunc) ⟨_, Tryz.underlying159, trivial⟩ (by kernel_rfl) rfl rfl (fun _ => ⟨rfl, fun z h => by cases h; rfl⟩)
def D160 : TD := ⟨.other, 1, 8, [.nilFunc]⟩
theorem F160 : D160.Fits Tryz.prog 160 := fits_of (z := .nilFunc) ⟨_, Tryz.underlying160, trivial⟩ (by kernel_rfl) rfl rfl (fun _ => ⟨rfl, fun z h => by cases h; rfl⟩)
def D161 : TD := ⟨.other, 1, 8, [.nilFunc]⟩
theorem F161 : D161.Fits Tryz.prog 161 := fits_of (z := .nilFunc) ⟨_, Tryz.underlying161, trivial⟩ (by kernel_rfl) rfl rfl (fun _ => ⟨rfl, fun z h => by cases h; rfl⟩)
def D162 : TD := ⟨.other, 1, 8, [.nilFunc]⟩
theorem F162 : D162.Fits Tryz.prog 162 := fits_of (z := .nilFunc) ⟨_, Tryz.underlying162, trivial⟩ (by kernel_rfl) rfl rfl (fun _ => ⟨rfl, fun z h => by cases h; rfl⟩)
def D163 : TD := ⟨.other, 1, 8, [.nilFunc]⟩
theorem F163 : D163.Fits Tryz.prog 163 := fits_of (z := .nilFunc) ⟨_, Tryz.underlying163, trivial⟩ (by kernel_rfl) rfl rfl (fun _ => ⟨rfl, fun z h => by cases h; rfl⟩)
def D164 : TD := ⟨.other, 1, 8, [.nilFunc]⟩
theorem F164 : D164.Fits Tryz.prog 164 := fits_of (z := .nilFunc) ⟨_, Tryz.underlying164, trivial⟩ (by kernel_rfl) rfl rfl (fun _ => ⟨rfl, fun z h => by cases h; rfl⟩)
def D165 : TD := ⟨.other, 1, 8, [.nilFunc]⟩
theorem F165 : D165.Fits Tryz.prog 165 := fits_of (z := .nilFunc) ⟨_, Tryz.underlying165, trivial⟩ (by kernel_rfl) rfl rfl (fun _ => ⟨rfl, fun z h => by cases h; rfl⟩)
def D166 : TD := ⟨.int .u64, 1, 8, [.int .u64 0]⟩
theorem F166 : D166.Fits Tryz.prog 166 := fits_of (z := .int .u64 0) (show Tryz.prog.underlying 166 = some (TypeDesc.int .u64) by kernel_rfl) (by kernel_rfl) rfl rfl (fun _ => ⟨rfl, fun z h => by cases h; rfl⟩)
def D167 : TD := ⟨.other, 1, 8, [.nilFunc]⟩
theorem F167 : D167.Fits Tryz.prog 167 := fits_of (z := .nilFunc) ⟨_, Tryz.underlying167, trivial⟩ (by kernel_rfl) rfl rfl (fun _ => ⟨rfl, fun z h => by cases h; rfl⟩)
def D168 : TD := ⟨.other, 1, 8, [.nilFunc]⟩
theorem F168 : D168.Fits Tryz.prog 168 := fits_of (z := .nilFunc) ⟨_, Tryz.underlying168, trivial⟩ (by kernel_rfl) rfl rfl (fun _ => ⟨rfl, fun z h => by cases h; rfl⟩)
def D169 : TD := ⟨.other, 1, 8, [.nilFunc]⟩
theorem F169 : D169.Fits Tryz.prog 169 := fits_of (z := .nilFunc) ⟨_, Tryz.underlying169, trivial⟩ (by kernel_rfl) rfl rfl (fun _ => ⟨rfl, fun z h => by cases h; rfl⟩)
def D170 : TD := ⟨.other, 1, 8, [.pointer none]⟩
theorem F170 : D170.Fits Tryz.prog 170 := fits_of (z := .pointer none) ⟨_, Tryz.underlying170, trivial⟩ (by kernel_rfl) rfl rfl (fun _ => ⟨rfl, fun z h => by cases h; rfl⟩)
def D171 : TD := ⟨.other, 1, 8, [.nilFunc]⟩
theorem F171 : D171.Fits Tryz.prog 171 := fits_of (z := .nilFunc) ⟨_, Tryz.underlying171, trivial⟩ (by kernel_rfl) rfl rfl (fun _ => ⟨rfl, fun z h => by cases h; rfl⟩)
def D172 : TD := ⟨.other, 1, 8, [.nilFunc]⟩
theorem F172 : D172.Fits Tryz.prog 172 := fits_of (z := .nilFunc) ⟨_, Tryz.underlying172, trivial⟩ (by kernel_rfl) rfl rfl (fun _ => ⟨rfl, fun z h => by cases h; rfl⟩)
def D173 : TD := ⟨.other, 1, 8, [.nilFunc]⟩
theorem F173 : D173.Fits Tryz.prog 173 := fits_of (z := .nilFunc) ⟨_, Tryz.underlying173, trivial⟩ (by kernel_rfl) rfl rfl (fun _ => ⟨rfl, fun z h => by cases h; rfl⟩)
def D174 : TD := ⟨.other, 1, 8, [.nilFunc]⟩
theorem F174 : D174.Fits Tryz.prog 174 := fits_of (z := .nilFunc) ⟨_, Tryz.underlying174, trivial⟩ (by kernel_rfl) rfl rfl (fun _ => ⟨rfl, fun z h => by cases h; rfl⟩)
def D175 : TD := ⟨.other, 1, 8, [.nilFunc]⟩
theorem F175 : D175.Fits Tryz.prog 175 := fits_of (z := .nilFunc) ⟨_, Tryz.underlying175, trivial⟩ (by kernel_rfl) rfl rfl (fun _ => ⟨rfl, fun z h => by cases h; rfl⟩)
def D176 : TD := ⟨.other, 1, 8, [.nilFunc]⟩
theorem F176 : D176.Fits Tryz.prog 176 := fits_of (z := .nilFunc) ⟨_, Tryz.underlying176, trivial⟩ (by kernel_rfl) rfl rfl (fun _ => ⟨rfl, fun z h => by cases h; rfl⟩)
def D177 : TD := ⟨.other, 1, 8, [.pointer none]⟩
theorem F177 : D177.Fits Tryz.prog 177 := fits_of (z := .pointer none) ⟨_, Tryz.underlying177, trivial⟩ (by kernel_rfl) rfl rfl (fun _ => ⟨rfl, fun z h => by cases h; rfl⟩)
def D179 : TD := ⟨.other, 1, 8, [.nilFunc]⟩
theorem F179 : D179.Fits Tryz.prog 179 := fits_of (z := .nilFunc) ⟨_, Tryz.underlying179, trivial⟩ (by kernel_rfl) rfl rfl (fun _ => ⟨rfl, fun z h => by cases h; rfl⟩)
def D180 : TD := ⟨.other, 1, 8, [.nilFunc]⟩
theorem F180 : D180.Fits Tryz.prog 180 := fits_of (z := .nilFunc) ⟨_, Tryz.underlying180, trivial⟩ (by kernel_rfl) rfl rfl (fun _ => ⟨rfl, fun z h => by cases h; rfl⟩)
def D181 : TD := ⟨.other, 1, 8, [.nilFunc]⟩
theorem F181 : D181.Fits Tryz.prog 181 := fits_of (z := .nilFunc) ⟨_, Tryz.underlying181, trivial⟩ (by kernel_rfl) rfl rfl (fun _ => ⟨rfl, fun z h => by cases h; rfl⟩)
def D182 : TD := ⟨.other, 1, 8, [.nilFunc]⟩
theorem F182 : D182.Fits Tryz.prog 182 := fits_of (z := .nilFunc) ⟨_, Tryz.underlying182, trivial⟩ (by kernel_rfl) rfl rfl (fun _ => ⟨rfl, fun z h => by cases h; rfl⟩)
def D183 : TD := ⟨.other, 1, 8, [.nilFunc]⟩
theorem F183 : D183.Fits Tryz.prog 183 := fits_of (z := .nilFunc) ⟨_, Tryz.underlying183, trivial⟩ (by kernel_rfl) rfl rfl (fun _ => ⟨rfl, fun z h => by cases h; rfl⟩)
def D191 : TD := ⟨.other, 1, 8, [.nilFunc]⟩
theorem F191 : D191.Fits Tryz.prog 191 := fits_of (z := .nilFunc) ⟨_, Tryz.underlying191, trivial⟩ (by kernel_rfl) rfl rfl (fun _ => ⟨rfl, fun z h => by cases h; rfl⟩)
def D192 : TD := ⟨.other, 1, 8, [.pointer none]⟩
theorem F192 : D192.Fits Tryz.prog 192 := fits_of (z := .pointer none) ⟨_, Tryz.underlying192, trivial⟩ (by kernel_rfl) rfl rfl (fun _ => ⟨rfl, fun z h => by cases h; rfl⟩)
def tab0 : List (Nat × TD) := [(1, D1), (2, D2), (3, D3), (4, D4), (5, D5), (9, D9), (12, D12), (13, D13), (21, D21), (22, D22), (23, D23), (24, D24), (25, D25), (26, D26), (27, D27), (29, D29), (30, D30), (31, D31), (32, D32), (33, D33), (34, D34), (35, D35), (36, D36), (37, D37), (39, D39), (40, D40), (41, D41), (43, D43), (44, D44), (45, D45), (46, D46), (47, D47), (48, D48), (49, D49), (50, D50), (51, D51), (52, D52), (54, D54), (55, D55), (56, D56), (57, D57), (58, D58), (59, D59), (60, D60), (61, D61), (63, D63), (64, D64), (66, D66), (67, D67), (68, D68), (69, D69), (70, D70), (71, D71), (72, D72), (73, D73), (74, D74), (75, D75), (76, D76), (77, D77), (78, D78)]
def tab1 : List (Nat × TD) := [(79, D79), (80, D80), (81, D81), (82, D82), (84, D84), (85, D85), (86, D86), (87, D87), (88, D88), (89, D89), (90, D90), (91, D91), (92, D92), (93, D93), (94, D94), (95, D95), (96, D96), (97, D97), (98, D98), (99, D99), (100, D100), (101, D101), (102, D102), (103, D103), (104, D104), (105, D105), (106, D106), (107, D107), (108, D108), (109, D109), (110, D110), (111, D111), (112, D112), (113, D113), (115, D115), (116, D116), (117, D117), (119, D119), (120, D120), (121, D121), (122, D122), (123, D123), (124, D124), (125, D125), (126, D126), (127, D127), (129, D129), (130, D130), (131, D131), (132, D132), (133, D133), (134, D134), (135, D135), (136, D136), (137, D137), (138, D138), (139, D139), (140, D140), (141, D141), (142, D142)]
def tab2 : List (Nat × TD) := [(143, D143), (144, D144), (145, D145), (146, D146), (147, D147), (148, D148), (149, D149), (150, D150), (151, D151), (152, D152), (153, D153), (154, D154), (155, D155), (156, D156), (157, D157), (159, D159), (160, D160), (161, D161), (162, D162), (163, D163), (164, D164), (165, D165), (166, D166), (167, D167), (168, D168), (169, D169), (170, D170), (171, D171), (172, D172), (173, D173), (174, D174), (175, D175), (176, D176), (177, D177), (179, D179), (180, D180), (181, D181), (182, D182), (183, D183), (191, D191), (192, D192)]
def tab : List (Nat × TD) := tab0 ++ tab1 ++ tab2
def T : Tab := fun t => ((tab.find? fun x => x.1 == t).map (·.2)).getD ⟨.other, 0, 0, []⟩
theorem at_of {a b : TD} (h : a = b) : a.k = b.k ∧ a.size = b.size ∧ a.bytes = b.bytes ∧ a.zero = b.zero := by subst h; exact ⟨rfl, rfl, rfl, rfl⟩
theorem T1k : (T 1).k = .other := (at_of (show T 1 = D1 from rfl)).1
theorem T1s : (T 1).size = 1 := (at_of (show T 1 = D1 from rfl)).2.1
theorem T1b : (T 1).bytes = 8 := (at_of (show T 1 = D1 from rfl)).2.2.1
theorem T1z : (T 1).zero = [.nilFunc] := (at_of (show T 1 = D1 from rfl)).2.2.2
theorem T2k : (T 2).k = .int .i64 := (at_of (show T 2 = D2 from rfl)).1
theorem T2s : (T 2).size = 1 := (at_of (show T 2 = D2 from rfl)).2.1
theorem T2b : (T 2).bytes = 8 := (at_of (show T 2 = D2 from rfl)).2.2.1
theorem T2z : (T 2).zero = [.int .i64 0] := (at_of (show T 2 = D2 from rfl)).2.2.2
theorem T3k : (T 3).k = .int .i64 := (at_of (show T 3 = D3 from rfl)).1
theorem T3s : (T 3).size = 1 := (at_of (show T 3 = D3 from rfl)).2.1
theorem T3b : (T 3).bytes = 8 := (at_of (show T 3 = D3 from rfl)).2.2.1
theorem T3z : (T 3).zero = [.int .i64 0] := (at_of (show T 3 = D3 from rfl)).2.2.2
theorem T4k : (T 4).k = .bool := (at_of (show T 4 = D4 from rfl)).1
theorem T4s : (T 4).size = 1 := (at_of (show T 4 = D4 from rfl)).2.1
theorem T4b : (T 4).bytes = 1 := (at_of (show T 4 = D4 from rfl)).2.2.1
theorem T4z : (T 4).zero = [.bool false] := (at_of (show T 4 = D4 from rfl)).2.2.2
theorem T5k : (T 5).k = .int .u8 := (at_of (show T 5 = D5 from rfl)).1
theorem T5s : (T 5).size = 1 := (at_of (show T 5 = D5 from rfl)).2.1
theorem T5b : (T 5).bytes = 1 := (at_of (show T 5 = D5 from rfl)).2.2.1
theorem T5z : (T 5).zero = [.int .u8 0] := (at_of (show T 5 = D5 from rfl)).2.2.2
theorem T9k : (T 9).k = .str := (at_of (show T 9 = D9 from rfl)).1
theorem T9s : (T 9).size = 1 := (at_of (show T 9 = D9 from rfl)).2.1
theorem T9b : (T 9).bytes = 16 := (at_of (show T 9 = D9 from rfl)).2.2.1
theorem T9z : (T 9).zero = [.string ⟨#[]⟩] := (at_of (show T 9 = D9 from rfl)).2.2.2
theorem T12k : (T 12).k = .int .u64 := (at_of (show T 12 = D12 from rfl)).1
theorem T12s : (T 12).size = 1 := (at_of (show T 12 = D12 from rfl)).2.1
theorem T12b : (T 12).bytes = 8 := (at_of (show T 12 = D12 from rfl)).2.2.1
theorem T12z : (T 12).zero = [.int .u64 0] := (at_of (show T 12 = D12 from rfl)).2.2.2
theorem T13k : (T 13).k = .struct [(0, 9), (1, 12)] := (at_of (show T 13 = D13 from rfl)).1
theorem T13s : (T 13).size = 2 := (at_of (show T 13 = D13 from rfl)).2.1
theorem T13b : (T 13).bytes = 24 := (at_of (show T 13 = D13 from rfl)).2.2.1
theorem T13z : (T 13).zero = [.string ⟨#[]⟩, .int .u64 0] := (at_of (show T 13 = D13 from rfl)).2.2.2
theorem T21k : (T 21).k = .int .i32 := (at_of (show T 21 = D21 from rfl)).1
theorem T21s : (T 21).size = 1 := (at_of (show T 21 = D21 from rfl)).2.1
theorem T21b : (T 21).bytes = 4 := (at_of (show T 21 = D21 from rfl)).2.2.1
theorem T21z : (T 21).zero = [.int .i32 0] := (at_of (show T 21 = D21 from rfl)).2.2.2
theorem T22k : (T 22).k = .sli 5 := (at_of (show T 22 = D22 from rfl)).1
theorem T22s : (T 22).size = 1 := (at_of (show T 22 = D22 from rfl)).2.1
theorem T22b : (T 22).bytes = 24 := (at_of (show T 22 = D22 from rfl)).2.2.1
theorem T22z : (T 22).zero = [.slice none 0 0] := (at_of (show T 22 = D22 from rfl)).2.2.2
theorem T23k : (T 23).k = .other := (at_of (show T 23 = D23 from rfl)).1
theorem T23s : (T 23).size = 1 := (at_of (show T 23 = D23 from rfl)).2.1
theorem T23b : (T 23).bytes = 8 := (at_of (show T 23 = D23 from rfl)).2.2.1
theorem T23z : (T 23).zero = [.nilFunc] := (at_of (show T 23 = D23 from rfl)).2.2.2
theorem T24k : (T 24).k = .other := (at_of (show T 24 = D24 from rfl)).1
theorem T24s : (T 24).size = 1 := (at_of (show T 24 = D24 from rfl)).2.1
theorem T24b : (T 24).bytes = 8 := (at_of (show T 24 = D24 from rfl)).2.2.1
theorem T24z : (T 24).zero = [.nilFunc] := (at_of (show T 24 = D24 from rfl)).2.2.2
theorem T25k : (T 25).k = .sli 3 := (at_of (show T 25 = D25 from rfl)).1
theorem T25s : (T 25).size = 1 := (at_of (show T 25 = D25 from rfl)).2.1
theorem T25b : (T 25).bytes = 24 := (at_of (show T 25 = D25 from rfl)).2.2.1
theorem T25z : (T 25).zero = [.slice none 0 0] := (at_of (show T 25 = D25 from rfl)).2.2.2
theorem T26k : (T 26).k = .struct [(0, 3), (1, 25)] := (at_of (show T 26 = D26 from rfl)).1
theorem T26s : (T 26).size = 2 := (at_of (show T 26 = D26 from rfl)).2.1
theorem T26b : (T 26).bytes = 32 := (at_of (show T 26 = D26 from rfl)).2.2.1
theorem T26z : (T 26).zero = [.int .i64 0, .slice none 0 0] := (at_of (show T 26 = D26 from rfl)).2.2.2
theorem T27k : (T 27).k = .struct [(0, 3), (1, 25)] := (at_of (show T 27 = D27 from rfl)).1
theorem T27s : (T 27).size = 2 := (at_of (show T 27 = D27 from rfl)).2.1
theorem T27b : (T 27).bytes = 32 := (at_of (show T 27 = D27 from rfl)).2.2.1
theorem T27z : (T 27).zero = [.int .i64 0, .slice none 0 0] := (at_of (show T 27 = D27 from rfl)).2.2.2
theorem T29k : (T 29).k = .other := (at_of (show T 29 = D29 from rfl)).1
theorem T29s : (T 29).size = 1 := (at_of (show T 29 = D29 from rfl)).2.1
theorem T29b : (T 29).bytes = 8 := (at_of (show T 29 = D29 from rfl)).2.2.1
theorem T29z : (T 29).zero = [.nilFunc] := (at_of (show T 29 = D29 from rfl)).2.2.2
theorem T30k : (T 30).k = .other := (at_of (show T 30 = D30 from rfl)).1
theorem T30s : (T 30).size = 1 := (at_of (show T 30 = D30 from rfl)).2.1
theorem T30b : (T 30).bytes = 8 := (at_of (show T 30 = D30 from rfl)).2.2.1
theorem T30z : (T 30).zero = [.nilFunc] := (at_of (show T 30 = D30 from rfl)).2.2.2
theorem T31k : (T 31).k = .other := (at_of (show T 31 = D31 from rfl)).1
theorem T31s : (T 31).size = 1 := (at_of (show T 31 = D31 from rfl)).2.1
theorem T31b : (T 31).bytes = 8 := (at_of (show T 31 = D31 from rfl)).2.2.1
theorem T31z : (T 31).zero = [.nilFunc] := (at_of (show T 31 = D31 from rfl)).2.2.2
theorem T32k : (T 32).k = .other := (at_of (show T 32 = D32 from rfl)).1
theorem T32s : (T 32).size = 1 := (at_of (show T 32 = D32 from rfl)).2.1
theorem T32b : (T 32).bytes = 8 := (at_of (show T 32 = D32 from rfl)).2.2.1
theorem T32z : (T 32).zero = [.nilFunc] := (at_of (show T 32 = D32 from rfl)).2.2.2
theorem T33k : (T 33).k = .other := (at_of (show T 33 = D33 from rfl)).1
theorem T33s : (T 33).size = 1 := (at_of (show T 33 = D33 from rfl)).2.1
theorem T33b : (T 33).bytes = 8 := (at_of (show T 33 = D33 from rfl)).2.2.1
theorem T33z : (T 33).zero = [.nilFunc] := (at_of (show T 33 = D33 from rfl)).2.2.2
theorem T34k : (T 34).k = .other := (at_of (show T 34 = D34 from rfl)).1
theorem T34s : (T 34).size = 1 := (at_of (show T 34 = D34 from rfl)).2.1
theorem T34b : (T 34).bytes = 8 := (at_of (show T 34 = D34 from rfl)).2.2.1
theorem T34z : (T 34).zero = [.nilFunc] := (at_of (show T 34 = D34 from rfl)).2.2.2
theorem T35k : (T 35).k = .struct [(0, 3), (1, 25)] := (at_of (show T 35 = D35 from rfl)).1
theorem T35s : (T 35).size = 2 := (at_of (show T 35 = D35 from rfl)).2.1
theorem T35b : (T 35).bytes = 32 := (at_of (show T 35 = D35 from rfl)).2.2.1
theorem T35z : (T 35).zero = [.int .i64 0, .slice none 0 0] := (at_of (show T 35 = D35 from rfl)).2.2.2
theorem T36k : (T 36).k = .struct [(0, 3), (1, 25)] := (at_of (show T 36 = D36 from rfl)).1
theorem T36s : (T 36).size = 2 := (at_of (show T 36 = D36 from rfl)).2.1
theorem T36b : (T 36).bytes = 32 := (at_of (show T 36 = D36 from rfl)).2.2.1
theorem T36z : (T 36).zero = [.int .i64 0, .slice none 0 0] := (at_of (show T 36 = D36 from rfl)).2.2.2
theorem T37k : (T 37).k = .other := (at_of (show T 37 = D37 from rfl)).1
theorem T37s : (T 37).size = 1 := (at_of (show T 37 = D37 from rfl)).2.1
theorem T37b : (T 37).bytes = 8 := (at_of (show T 37 = D37 from rfl)).2.2.1
theorem T37z : (T 37).zero = [.nilFunc] := (at_of (show T 37 = D37 from rfl)).2.2.2
theorem T39k : (T 39).k = .other := (at_of (show T 39 = D39 from rfl)).1
theorem T39s : (T 39).size = 1 := (at_of (show T 39 = D39 from rfl)).2.1
theorem T39b : (T 39).bytes = 8 := (at_of (show T 39 = D39 from rfl)).2.2.1
theorem T39z : (T 39).zero = [.nilFunc] := (at_of (show T 39 = D39 from rfl)).2.2.2
theorem T40k : (T 40).k = .other := (at_of (show T 40 = D40 from rfl)).1
theorem T40s : (T 40).size = 1 := (at_of (show T 40 = D40 from rfl)).2.1
theorem T40b : (T 40).bytes = 8 := (at_of (show T 40 = D40 from rfl)).2.2.1
theorem T40z : (T 40).zero = [.nilFunc] := (at_of (show T 40 = D40 from rfl)).2.2.2
theorem T41k : (T 41).k = .other := (at_of (show T 41 = D41 from rfl)).1
theorem T41s : (T 41).size = 1 := (at_of (show T 41 = D41 from rfl)).2.1
theorem T41b : (T 41).bytes = 8 := (at_of (show T 41 = D41 from rfl)).2.2.1
theorem T41z : (T 41).zero = [.nilFunc] := (at_of (show T 41 = D41 from rfl)).2.2.2
theorem T43k : (T 43).k = .other := (at_of (show T 43 = D43 from rfl)).1
theorem T43s : (T 43).size = 1 := (at_of (show T 43 = D43 from rfl)).2.1
theorem T43b : (T 43).bytes = 8 := (at_of (show T 43 = D43 from rfl)).2.2.1
theorem T43z : (T 43).zero = [.nilFunc] := (at_of (show T 43 = D43 from rfl)).2.2.2
theorem T44k : (T 44).k = .other := (at_of (show T 44 = D44 from rfl)).1
theorem T44s : (T 44).size = 1 := (at_of (show T 44 = D44 from rfl)).2.1
theorem T44b : (T 44).bytes = 8 := (at_of (show T 44 = D44 from rfl)).2.2.1
theorem T44z : (T 44).zero = [.nilFunc] := (at_of (show T 44 = D44 from rfl)).2.2.2
theorem T45k : (T 45).k = .other := (at_of (show T 45 = D45 from rfl)).1
theorem T45s : (T 45).size = 1 := (at_of (show T 45 = D45 from rfl)).2.1
theorem T45b : (T 45).bytes = 8 := (at_of (show T 45 = D45 from rfl)).2.2.1
theorem T45z : (T 45).zero = [.nilFunc] := (at_of (show T 45 = D45 from rfl)).2.2.2
theorem T46k : (T 46).k = .other := (at_of (show T 46 = D46 from rfl)).1
theorem T46s : (T 46).size = 1 := (at_of (show T 46 = D46 from rfl)).2.1
theorem T46b : (T 46).bytes = 8 := (at_of (show T 46 = D46 from rfl)).2.2.1
theorem T46z : (T 46).zero = [.nilFunc] := (at_of (show T 46 = D46 from rfl)).2.2.2
theorem T47k : (T 47).k = .other := (at_of (show T 47 = D47 from rfl)).1
theorem T47s : (T 47).size = 1 := (at_of (show T 47 = D47 from rfl)).2.1
theorem T47b : (T 47).bytes = 8 := (at_of (show T 47 = D47 from rfl)).2.2.1
theorem T47z : (T 47).zero = [.nilFunc] := (at_of (show T 47 = D47 from rfl)).2.2.2
theorem T48k : (T 48).k = .other := (at_of (show T 48 = D48 from rfl)).1
theorem T48s : (T 48).size = 1 := (at_of (show T 48 = D48 from rfl)).2.1
theorem T48b : (T 48).bytes = 8 := (at_of (show T 48 = D48 from rfl)).2.2.1
theorem T48z : (T 48).zero = [.nilFunc] := (at_of (show T 48 = D48 from rfl)).2.2.2
theorem T49k : (T 49).k = .other := (at_of (show T 49 = D49 from rfl)).1
theorem T49s : (T 49).size = 1 := (at_of (show T 49 = D49 from rfl)).2.1
theorem T49b : (T 49).bytes = 8 := (at_of (show T 49 = D49 from rfl)).2.2.1
theorem T49z : (T 49).zero = [.nilFunc] := (at_of (show T 49 = D49 from rfl)).2.2.2
theorem T50k : (T 50).k = .other := (at_of (show T 50 = D50 from rfl)).1
theorem T50s : (T 50).size = 1 := (at_of (show T 50 = D50 from rfl)).2.1
theorem T50b : (T 50).bytes = 8 := (at_of (show T 50 = D50 from rfl)).2.2.1
theorem T50z : (T 50).zero = [.nilFunc] := (at_of (show T 50 = D50 from rfl)).2.2.2
theorem T51k : (T 51).k = .struct [(0, 3), (1, 25)] := (at_of (show T 51 = D51 from rfl)).1
theorem T51s : (T 51).size = 2 := (at_of (show T 51 = D51 from rfl)).2.1
theorem T51b : (T 51).bytes = 32 := (at_of (show T 51 = D51 from rfl)).2.2.1
theorem T51z : (T 51).zero = [.int .i64 0, .slice none 0 0] := (at_of (show T 51 = D51 from rfl)).2.2.2
theorem T52k : (T 52).k = .struct [(0, 3), (1, 25)] := (at_of (show T 52 = D52 from rfl)).1
theorem T52s : (T 52).size = 2 := (at_of (show T 52 = D52 from rfl)).2.1
theorem T52b : (T 52).bytes = 32 := (at_of (show T 52 = D52 from rfl)).2.2.1
theorem T52z : (T 52).zero = [.int .i64 0, .slice none 0 0] := (at_of (show T 52 = D52 from rfl)).2.2.2
theorem T54k : (T 54).k = .other := (at_of (show T 54 = D54 from rfl)).1
theorem T54s : (T 54).size = 1 := (at_of (show T 54 = D54 from rfl)).2.1
theorem T54b : (T 54).bytes = 8 := (at_of (show T 54 = D54 from rfl)).2.2.1
theorem T54z : (T 54).zero = [.nilFunc] := (at_of (show T 54 = D54 from rfl)).2.2.2
theorem T55k : (T 55).k = .other := (at_of (show T 55 = D55 from rfl)).1
theorem T55s : (T 55).size = 1 := (at_of (show T 55 = D55 from rfl)).2.1
theorem T55b : (T 55).bytes = 8 := (at_of (show T 55 = D55 from rfl)).2.2.1
theorem T55z : (T 55).zero = [.nilFunc] := (at_of (show T 55 = D55 from rfl)).2.2.2
theorem T56k : (T 56).k = .other := (at_of (show T 56 = D56 from rfl)).1
theorem T56s : (T 56).size = 1 := (at_of (show T 56 = D56 from rfl)).2.1
theorem T56b : (T 56).bytes = 8 := (at_of (show T 56 = D56 from rfl)).2.2.1
theorem T56z : (T 56).zero = [.nilFunc] := (at_of (show T 56 = D56 from rfl)).2.2.2
theorem T57k : (T 57).k = .other := (at_of (show T 57 = D57 from rfl)).1
theorem T57s : (T 57).size = 1 := (at_of (show T 57 = D57 from rfl)).2.1
theorem T57b : (T 57).bytes = 8 := (at_of (show T 57 = D57 from rfl)).2.2.1
theorem T57z : (T 57).zero = [.nilFunc] := (at_of (show T 57 = D57 from rfl)).2.2.2
theorem T58k : (T 58).k = .other := (at_of (show T 58 = D58 from rfl)).1
theorem T58s : (T 58).size = 1 := (at_of (show T 58 = D58 from rfl)).2.1
theorem T58b : (T 58).bytes = 8 := (at_of (show T 58 = D58 from rfl)).2.2.1
theorem T58z : (T 58).zero = [.nilFunc] := (at_of (show T 58 = D58 from rfl)).2.2.2
theorem T59k : (T 59).k = .other := (at_of (show T 59 = D59 from rfl)).1
theorem T59s : (T 59).size = 1 := (at_of (show T 59 = D59 from rfl)).2.1
theorem T59b : (T 59).bytes = 8 := (at_of (show T 59 = D59 from rfl)).2.2.1
theorem T59z : (T 59).zero = [.nilFunc] := (at_of (show T 59 = D59 from rfl)).2.2.2
theorem T60k : (T 60).k = .other := (at_of (show T 60 = D60 from rfl)).1
theorem T60s : (T 60).size = 1 := (at_of (show T 60 = D60 from rfl)).2.1
theorem T60b : (T 60).bytes = 8 := (at_of (show T 60 = D60 from rfl)).2.2.1
theorem T60z : (T 60).zero = [.nilFunc] := (at_of (show T 60 = D60 from rfl)).2.2.2
theorem T61k : (T 61).k = .other := (at_of (show T 61 = D61 from rfl)).1
theorem T61s : (T 61).size = 1 := (at_of (show T 61 = D61 from rfl)).2.1
theorem T61b : (T 61).bytes = 8 := (at_of (show T 61 = D61 from rfl)).2.2.1
theorem T61z : (T 61).zero = [.nilFunc] := (at_of (show T 61 = D61 from rfl)).2.2.2
theorem T63k : (T 63).k = .other := (at_of (show T 63 = D63 from rfl)).1
theorem T63s : (T 63).size = 1 := (at_of (show T 63 = D63 from rfl)).2.1
theorem T63b : (T 63).bytes = 8 := (at_of (show T 63 = D63 from rfl)).2.2.1
theorem T63z : (T 63).zero = [.nilFunc] := (at_of (show T 63 = D63 from rfl)).2.2.2
theorem T64k : (T 64).k = .other := (at_of (show T 64 = D64 from rfl)).1
theorem T64s : (T 64).size = 1 := (at_of (show T 64 = D64 from rfl)).2.1
theorem T64b : (T 64).bytes = 8 := (at_of (show T 64 = D64 from rfl)).2.2.1
theorem T64z : (T 64).zero = [.nilFunc] := (at_of (show T 64 = D64 from rfl)).2.2.2
theorem T66k : (T 66).k = .other := (at_of (show T 66 = D66 from rfl)).1
theorem T66s : (T 66).size = 1 := (at_of (show T 66 = D66 from rfl)).2.1
theorem T66b : (T 66).bytes = 8 := (at_of (show T 66 = D66 from rfl)).2.2.1
theorem T66z : (T 66).zero = [.nilFunc] := (at_of (show T 66 = D66 from rfl)).2.2.2
theorem T67k : (T 67).k = .other := (at_of (show T 67 = D67 from rfl)).1
theorem T67s : (T 67).size = 1 := (at_of (show T 67 = D67 from rfl)).2.1
theorem T67b : (T 67).bytes = 8 := (at_of (show T 67 = D67 from rfl)).2.2.1
theorem T67z : (T 67).zero = [.nilFunc] := (at_of (show T 67 = D67 from rfl)).2.2.2
theorem T68k : (T 68).k = .other := (at_of (show T 68 = D68 from rfl)).1
theorem T68s : (T 68).size = 1 := (at_of (show T 68 = D68 from rfl)).2.1
theorem T68b : (T 68).bytes = 8 := (at_of (show T 68 = D68 from rfl)).2.2.1
theorem T68z : (T 68).zero = [.nilFunc] := (at_of (show T 68 = D68 from rfl)).2.2.2
theorem T69k : (T 69).k = .other := (at_of (show T 69 = D69 from rfl)).1
theorem T69s : (T 69).size = 1 := (at_of (show T 69 = D69 from rfl)).2.1
theorem T69b : (T 69).bytes = 8 := (at_of (show T 69 = D69 from rfl)).2.2.1
theorem T69z : (T 69).zero = [.nilFunc] := (at_of (show T 69 = D69 from rfl)).2.2.2
theorem T70k : (T 70).k = .other := (at_of (show T 70 = D70 from rfl)).1
theorem T70s : (T 70).size = 1 := (at_of (show T 70 = D70 from rfl)).2.1
theorem T70b : (T 70).bytes = 8 := (at_of (show T 70 = D70 from rfl)).2.2.1
theorem T70z : (T 70).zero = [.nilFunc] := (at_of (show T 70 = D70 from rfl)).2.2.2
theorem T71k : (T 71).k = .other := (at_of (show T 71 = D71 from rfl)).1
theorem T71s : (T 71).size = 1 := (at_of (show T 71 = D71 from rfl)).2.1
theorem T71b : (T 71).bytes = 8 := (at_of (show T 71 = D71 from rfl)).2.2.1
theorem T71z : (T 71).zero = [.nilFunc] := (at_of (show T 71 = D71 from rfl)).2.2.2
theorem T72k : (T 72).k = .other := (at_of (show T 72 = D72 from rfl)).1
theorem T72s : (T 72).size = 1 := (at_of (show T 72 = D72 from rfl)).2.1
theorem T72b : (T 72).bytes = 8 := (at_of (show T 72 = D72 from rfl)).2.2.1
theorem T72z : (T 72).zero = [.nilFunc] := (at_of (show T 72 = D72 from rfl)).2.2.2
theorem T73k : (T 73).k = .other := (at_of (show T 73 = D73 from rfl)).1
theorem T73s : (T 73).size = 1 := (at_of (show T 73 = D73 from rfl)).2.1
theorem T73b : (T 73).bytes = 8 := (at_of (show T 73 = D73 from rfl)).2.2.1
theorem T73z : (T 73).zero = [.nilFunc] := (at_of (show T 73 = D73 from rfl)).2.2.2
theorem T74k : (T 74).k = .other := (at_of (show T 74 = D74 from rfl)).1
theorem T74s : (T 74).size = 1 := (at_of (show T 74 = D74 from rfl)).2.1
theorem T74b : (T 74).bytes = 8 := (at_of (show T 74 = D74 from rfl)).2.2.1
theorem T74z : (T 74).zero = [.pointer none] := (at_of (show T 74 = D74 from rfl)).2.2.2
theorem T75k : (T 75).k = .other := (at_of (show T 75 = D75 from rfl)).1
theorem T75s : (T 75).size = 1 := (at_of (show T 75 = D75 from rfl)).2.1
theorem T75b : (T 75).bytes = 8 := (at_of (show T 75 = D75 from rfl)).2.2.1
theorem T75z : (T 75).zero = [.nilFunc] := (at_of (show T 75 = D75 from rfl)).2.2.2
theorem T76k : (T 76).k = .other := (at_of (show T 76 = D76 from rfl)).1
theorem T76s : (T 76).size = 1 := (at_of (show T 76 = D76 from rfl)).2.1
theorem T76b : (T 76).bytes = 8 := (at_of (show T 76 = D76 from rfl)).2.2.1
theorem T76z : (T 76).zero = [.nilFunc] := (at_of (show T 76 = D76 from rfl)).2.2.2
theorem T77k : (T 77).k = .other := (at_of (show T 77 = D77 from rfl)).1
theorem T77s : (T 77).size = 1 := (at_of (show T 77 = D77 from rfl)).2.1
theorem T77b : (T 77).bytes = 8 := (at_of (show T 77 = D77 from rfl)).2.2.1
theorem T77z : (T 77).zero = [.nilFunc] := (at_of (show T 77 = D77 from rfl)).2.2.2
theorem T78k : (T 78).k = .other := (at_of (show T 78 = D78 from rfl)).1
theorem T78s : (T 78).size = 1 := (at_of (show T 78 = D78 from rfl)).2.1
theorem T78b : (T 78).bytes = 8 := (at_of (show T 78 = D78 from rfl)).2.2.1
theorem T78z : (T 78).zero = [.nilFunc] := (at_of (show T 78 = D78 from rfl)).2.2.2
theorem T79k : (T 79).k = .other := (at_of (show T 79 = D79 from rfl)).1
theorem T79s : (T 79).size = 1 := (at_of (show T 79 = D79 from rfl)).2.1
theorem T79b : (T 79).bytes = 8 := (at_of (show T 79 = D79 from rfl)).2.2.1
theorem T79z : (T 79).zero = [.nilFunc] := (at_of (show T 79 = D79 from rfl)).2.2.2
theorem T80k : (T 80).k = .other := (at_of (show T 80 = D80 from rfl)).1
theorem T80s : (T 80).size = 1 := (at_of (show T 80 = D80 from rfl)).2.1
theorem T80b : (T 80).bytes = 8 := (at_of (show T 80 = D80 from rfl)).2.2.1
theorem T80z : (T 80).zero = [.nilFunc] := (at_of (show T 80 = D80 from rfl)).2.2.2
theorem T81k : (T 81).k = .other := (at_of (show T 81 = D81 from rfl)).1
theorem T81s : (T 81).size = 1 := (at_of (show T 81 = D81 from rfl)).2.1
theorem T81b : (T 81).bytes = 8 := (at_of (show T 81 = D81 from rfl)).2.2.1
theorem T81z : (T 81).zero = [.nilFunc] := (at_of (show T 81 = D81 from rfl)).2.2.2
theorem T82k : (T 82).k = .int .u64 := (at_of (show T 82 = D82 from rfl)).1
theorem T82s : (T 82).size = 1 := (at_of (show T 82 = D82 from rfl)).2.1
theorem T82b : (T 82).bytes = 8 := (at_of (show T 82 = D82 from rfl)).2.2.1
theorem T82z : (T 82).zero = [.int .u64 0] := (at_of (show T 82 = D82 from rfl)).2.2.2
theorem T84k : (T 84).k = .other := (at_of (show T 84 = D84 from rfl)).1
theorem T84s : (T 84).size = 1 := (at_of (show T 84 = D84 from rfl)).2.1
theorem T84b : (T 84).bytes = 8 := (at_of (show T 84 = D84 from rfl)).2.2.1
theorem T84z : (T 84).zero = [.nilFunc] := (at_of (show T 84 = D84 from rfl)).2.2.2
theorem T85k : (T 85).k = .other := (at_of (show T 85 = D85 from rfl)).1
theorem T85s : (T 85).size = 1 := (at_of (show T 85 = D85 from rfl)).2.1
theorem T85b : (T 85).bytes = 8 := (at_of (show T 85 = D85 from rfl)).2.2.1
theorem T85z : (T 85).zero = [.nilFunc] := (at_of (show T 85 = D85 from rfl)).2.2.2
theorem T86k : (T 86).k = .other := (at_of (show T 86 = D86 from rfl)).1
theorem T86s : (T 86).size = 1 := (at_of (show T 86 = D86 from rfl)).2.1
theorem T86b : (T 86).bytes = 8 := (at_of (show T 86 = D86 from rfl)).2.2.1
theorem T86z : (T 86).zero = [.nilFunc] := (at_of (show T 86 = D86 from rfl)).2.2.2
theorem T87k : (T 87).k = .other := (at_of (show T 87 = D87 from rfl)).1
theorem T87s : (T 87).size = 1 := (at_of (show T 87 = D87 from rfl)).2.1
theorem T87b : (T 87).bytes = 8 := (at_of (show T 87 = D87 from rfl)).2.2.1
theorem T87z : (T 87).zero = [.nilFunc] := (at_of (show T 87 = D87 from rfl)).2.2.2
theorem T88k : (T 88).k = .int .u64 := (at_of (show T 88 = D88 from rfl)).1
theorem T88s : (T 88).size = 1 := (at_of (show T 88 = D88 from rfl)).2.1
theorem T88b : (T 88).bytes = 8 := (at_of (show T 88 = D88 from rfl)).2.2.1
theorem T88z : (T 88).zero = [.int .u64 0] := (at_of (show T 88 = D88 from rfl)).2.2.2
theorem T89k : (T 89).k = .other := (at_of (show T 89 = D89 from rfl)).1
theorem T89s : (T 89).size = 1 := (at_of (show T 89 = D89 from rfl)).2.1
theorem T89b : (T 89).bytes = 8 := (at_of (show T 89 = D89 from rfl)).2.2.1
theorem T89z : (T 89).zero = [.nilFunc] := (at_of (show T 89 = D89 from rfl)).2.2.2
theorem T90k : (T 90).k = .other := (at_of (show T 90 = D90 from rfl)).1
theorem T90s : (T 90).size = 1 := (at_of (show T 90 = D90 from rfl)).2.1
theorem T90b : (T 90).bytes = 8 := (at_of (show T 90 = D90 from rfl)).2.2.1
theorem T90z : (T 90).zero = [.nilFunc] := (at_of (show T 90 = D90 from rfl)).2.2.2
theorem T91k : (T 91).k = .other := (at_of (show T 91 = D91 from rfl)).1
theorem T91s : (T 91).size = 1 := (at_of (show T 91 = D91 from rfl)).2.1
theorem T91b : (T 91).bytes = 8 := (at_of (show T 91 = D91 from rfl)).2.2.1
theorem T91z : (T 91).zero = [.nilFunc] := (at_of (show T 91 = D91 from rfl)).2.2.2
theorem T92k : (T 92).k = .other := (at_of (show T 92 = D92 from rfl)).1
theorem T92s : (T 92).size = 1 := (at_of (show T 92 = D92 from rfl)).2.1
theorem T92b : (T 92).bytes = 8 := (at_of (show T 92 = D92 from rfl)).2.2.1
theorem T92z : (T 92).zero = [.nilFunc] := (at_of (show T 92 = D92 from rfl)).2.2.2
theorem T93k : (T 93).k = .other := (at_of (show T 93 = D93 from rfl)).1
theorem T93s : (T 93).size = 1 := (at_of (show T 93 = D93 from rfl)).2.1
theorem T93b : (T 93).bytes = 8 := (at_of (show T 93 = D93 from rfl)).2.2.1
theorem T93z : (T 93).zero = [.nilFunc] := (at_of (show T 93 = D93 from rfl)).2.2.2
theorem T94k : (T 94).k = .other := (at_of (show T 94 = D94 from rfl)).1
theorem T94s : (T 94).size = 1 := (at_of (show T 94 = D94 from rfl)).2.1
theorem T94b : (T 94).bytes = 8 := (at_of (show T 94 = D94 from rfl)).2.2.1
theorem T94z : (T 94).zero = [.nilFunc] := (at_of (show T 94 = D94 from rfl)).2.2.2
theorem T95k : (T 95).k = .other := (at_of (show T 95 = D95 from rfl)).1
theorem T95s : (T 95).size = 1 := (at_of (show T 95 = D95 from rfl)).2.1
theorem T95b : (T 95).bytes = 8 := (at_of (show T 95 = D95 from rfl)).2.2.1
theorem T95z : (T 95).zero = [.nilFunc] := (at_of (show T 95 = D95 from rfl)).2.2.2
theorem T96k : (T 96).k = .other := (at_of (show T 96 = D96 from rfl)).1
theorem T96s : (T 96).size = 1 := (at_of (show T 96 = D96 from rfl)).2.1
theorem T96b : (T 96).bytes = 8 := (at_of (show T 96 = D96 from rfl)).2.2.1
theorem T96z : (T 96).zero = [.nilFunc] := (at_of (show T 96 = D96 from rfl)).2.2.2
theorem T97k : (T 97).k = .other := (at_of (show T 97 = D97 from rfl)).1
theorem T97s : (T 97).size = 1 := (at_of (show T 97 = D97 from rfl)).2.1
theorem T97b : (T 97).bytes = 8 := (at_of (show T 97 = D97 from rfl)).2.2.1
theorem T97z : (T 97).zero = [.nilFunc] := (at_of (show T 97 = D97 from rfl)).2.2.2
theorem T98k : (T 98).k = .other := (at_of (show T 98 = D98 from rfl)).1
theorem T98s : (T 98).size = 1 := (at_of (show T 98 = D98 from rfl)).2.1
theorem T98b : (T 98).bytes = 8 := (at_of (show T 98 = D98 from rfl)).2.2.1
theorem T98z : (T 98).zero = [.nilFunc] := (at_of (show T 98 = D98 from rfl)).2.2.2
theorem T99k : (T 99).k = .sli 25 := (at_of (show T 99 = D99 from rfl)).1
theorem T99s : (T 99).size = 1 := (at_of (show T 99 = D99 from rfl)).2.1
theorem T99b : (T 99).bytes = 24 := (at_of (show T 99 = D99 from rfl)).2.2.1
theorem T99z : (T 99).zero = [.slice none 0 0] := (at_of (show T 99 = D99 from rfl)).2.2.2
theorem T100k : (T 100).k = .other := (at_of (show T 100 = D100 from rfl)).1
theorem T100s : (T 100).size = 1 := (at_of (show T 100 = D100 from rfl)).2.1
theorem T100b : (T 100).bytes = 8 := (at_of (show T 100 = D100 from rfl)).2.2.1
theorem T100z : (T 100).zero = [.nilFunc] := (at_of (show T 100 = D100 from rfl)).2.2.2
theorem T101k : (T 101).k = .other := (at_of (show T 101 = D101 from rfl)).1
theorem T101s : (T 101).size = 1 := (at_of (show T 101 = D101 from rfl)).2.1
theorem T101b : (T 101).bytes = 8 := (at_of (show T 101 = D101 from rfl)).2.2.1
theorem T101z : (T 101).zero = [.nilFunc] := (at_of (show T 101 = D101 from rfl)).2.2.2
theorem T102k : (T 102).k = .other := (at_of (show T 102 = D102 from rfl)).1
theorem T102s : (T 102).size = 1 := (at_of (show T 102 = D102 from rfl)).2.1
theorem T102b : (T 102).bytes = 8 := (at_of (show T 102 = D102 from rfl)).2.2.1
theorem T102z : (T 102).zero = [.nilFunc] := (at_of (show T 102 = D102 from rfl)).2.2.2
theorem T103k : (T 103).k = .other := (at_of (show T 103 = D103 from rfl)).1
theorem T103s : (T 103).size = 1 := (at_of (show T 103 = D103 from rfl)).2.1
theorem T103b : (T 103).bytes = 8 := (at_of (show T 103 = D103 from rfl)).2.2.1
theorem T103z : (T 103).zero = [.nilFunc] := (at_of (show T 103 = D103 from rfl)).2.2.2
theorem T104k : (T 104).k = .other := (at_of (show T 104 = D104 from rfl)).1
theorem T104s : (T 104).size = 1 := (at_of (show T 104 = D104 from rfl)).2.1
theorem T104b : (T 104).bytes = 8 := (at_of (show T 104 = D104 from rfl)).2.2.1
theorem T104z : (T 104).zero = [.nilFunc] := (at_of (show T 104 = D104 from rfl)).2.2.2
theorem T105k : (T 105).k = .other := (at_of (show T 105 = D105 from rfl)).1
theorem T105s : (T 105).size = 1 := (at_of (show T 105 = D105 from rfl)).2.1
theorem T105b : (T 105).bytes = 8 := (at_of (show T 105 = D105 from rfl)).2.2.1
theorem T105z : (T 105).zero = [.nilFunc] := (at_of (show T 105 = D105 from rfl)).2.2.2
theorem T106k : (T 106).k = .other := (at_of (show T 106 = D106 from rfl)).1
theorem T106s : (T 106).size = 1 := (at_of (show T 106 = D106 from rfl)).2.1
theorem T106b : (T 106).bytes = 8 := (at_of (show T 106 = D106 from rfl)).2.2.1
theorem T106z : (T 106).zero = [.nilFunc] := (at_of (show T 106 = D106 from rfl)).2.2.2
theorem T107k : (T 107).k = .other := (at_of (show T 107 = D107 from rfl)).1
theorem T107s : (T 107).size = 1 := (at_of (show T 107 = D107 from rfl)).2.1
theorem T107b : (T 107).bytes = 8 := (at_of (show T 107 = D107 from rfl)).2.2.1
theorem T107z : (T 107).zero = [.nilFunc] := (at_of (show T 107 = D107 from rfl)).2.2.2
theorem T108k : (T 108).k = .other := (at_of (show T 108 = D108 from rfl)).1
theorem T108s : (T 108).size = 1 := (at_of (show T 108 = D108 from rfl)).2.1
theorem T108b : (T 108).bytes = 8 := (at_of (show T 108 = D108 from rfl)).2.2.1
theorem T108z : (T 108).zero = [.nilFunc] := (at_of (show T 108 = D108 from rfl)).2.2.2
theorem T109k : (T 109).k = .other := (at_of (show T 109 = D109 from rfl)).1
theorem T109s : (T 109).size = 1 := (at_of (show T 109 = D109 from rfl)).2.1
theorem T109b : (T 109).bytes = 8 := (at_of (show T 109 = D109 from rfl)).2.2.1
theorem T109z : (T 109).zero = [.nilFunc] := (at_of (show T 109 = D109 from rfl)).2.2.2
theorem T110k : (T 110).k = .other := (at_of (show T 110 = D110 from rfl)).1
theorem T110s : (T 110).size = 1 := (at_of (show T 110 = D110 from rfl)).2.1
theorem T110b : (T 110).bytes = 8 := (at_of (show T 110 = D110 from rfl)).2.2.1
theorem T110z : (T 110).zero = [.nilFunc] := (at_of (show T 110 = D110 from rfl)).2.2.2
theorem T111k : (T 111).k = .other := (at_of (show T 111 = D111 from rfl)).1
theorem T111s : (T 111).size = 1 := (at_of (show T 111 = D111 from rfl)).2.1
theorem T111b : (T 111).bytes = 8 := (at_of (show T 111 = D111 from rfl)).2.2.1
theorem T111z : (T 111).zero = [.nilFunc] := (at_of (show T 111 = D111 from rfl)).2.2.2
theorem T112k : (T 112).k = .struct [(0, 22), (1, 3), (2, 3)] := (at_of (show T 112 = D112 from rfl)).1
theorem T112s : (T 112).size = 3 := (at_of (show T 112 = D112 from rfl)).2.1
theorem T112b : (T 112).bytes = 40 := (at_of (show T 112 = D112 from rfl)).2.2.1
theorem T112z : (T 112).zero = [.slice none 0 0, .int .i64 0, .int .i64 0] := (at_of (show T 112 = D112 from rfl)).2.2.2
theorem T113k : (T 113).k = .struct [(0, 22), (1, 3), (2, 3)] := (at_of (show T 113 = D113 from rfl)).1
theorem T113s : (T 113).size = 3 := (at_of (show T 113 = D113 from rfl)).2.1
theorem T113b : (T 113).bytes = 40 := (at_of (show T 113 = D113 from rfl)).2.2.1
theorem T113z : (T 113).zero = [.slice none 0 0, .int .i64 0, .int .i64 0] := (at_of (show T 113 = D113 from rfl)).2.2.2
theorem T115k : (T 115).k = .other := (at_of (show T 115 = D115 from rfl)).1
theorem T115s : (T 115).size = 1 := (at_of (show T 115 = D115 from rfl)).2.1
theorem T115b : (T 115).bytes = 8 := (at_of (show T 115 = D115 from rfl)).2.2.1
theorem T115z : (T 115).zero = [.nilFunc] := (at_of (show T 115 = D115 from rfl)).2.2.2
theorem T116k : (T 116).k = .sli 9 := (at_of (show T 116 = D116 from rfl)).1
theorem T116s : (T 116).size = 1 := (at_of (show T 116 = D116 from rfl)).2.1
theorem T116b : (T 116).bytes = 24 := (at_of (show T 116 = D116 from rfl)).2.2.1
theorem T116z : (T 116).zero = [.slice none 0 0] := (at_of (show T 116 = D116 from rfl)).2.2.2
theorem T117k : (T 117).k = .other := (at_of (show T 117 = D117 from rfl)).1
theorem T117s : (T 117).size = 1 := (at_of (show T 117 = D117 from rfl)).2.1
theorem T117b : (T 117).bytes = 8 := (at_of (show T 117 = D117 from rfl)).2.2.1
theorem T117z : (T 117).zero = [.nilFunc] := (at_of (show T 117 = D117 from rfl)).2.2.2
theorem T119k : (T 119).k = .other := (at_of (show T 119 = D119 from rfl)).1
theorem T119s : (T 119).size = 1 := (at_of (show T 119 = D119 from rfl)).2.1
theorem T119b : (T 119).bytes = 8 := (at_of (show T 119 = D119 from rfl)).2.2.1
theorem T119z : (T 119).zero = [.nilFunc] := (at_of (show T 119 = D119 from rfl)).2.2.2
theorem T120k : (T 120).k = .other := (at_of (show T 120 = D120 from rfl)).1
theorem T120s : (T 120).size = 1 := (at_of (show T 120 = D120 from rfl)).2.1
theorem T120b : (T 120).bytes = 8 := (at_of (show T 120 = D120 from rfl)).2.2.1
theorem T120z : (T 120).zero = [.nilFunc] := (at_of (show T 120 = D120 from rfl)).2.2.2
theorem T121k : (T 121).k = .other := (at_of (show T 121 = D121 from rfl)).1
theorem T121s : (T 121).size = 1 := (at_of (show T 121 = D121 from rfl)).2.1
theorem T121b : (T 121).bytes = 8 := (at_of (show T 121 = D121 from rfl)).2.2.1
theorem T121z : (T 121).zero = [.nilFunc] := (at_of (show T 121 = D121 from rfl)).2.2.2
theorem T122k : (T 122).k = .other := (at_of (show T 122 = D122 from rfl)).1
theorem T122s : (T 122).size = 1 := (at_of (show T 122 = D122 from rfl)).2.1
theorem T122b : (T 122).bytes = 8 := (at_of (show T 122 = D122 from rfl)).2.2.1
theorem T122z : (T 122).zero = [.nilFunc] := (at_of (show T 122 = D122 from rfl)).2.2.2
theorem T123k : (T 123).k = .other := (at_of (show T 123 = D123 from rfl)).1
theorem T123s : (T 123).size = 1 := (at_of (show T 123 = D123 from rfl)).2.1
theorem T123b : (T 123).bytes = 8 := (at_of (show T 123 = D123 from rfl)).2.2.1
theorem T123z : (T 123).zero = [.nilFunc] := (at_of (show T 123 = D123 from rfl)).2.2.2
theorem T124k : (T 124).k = .other := (at_of (show T 124 = D124 from rfl)).1
theorem T124s : (T 124).size = 1 := (at_of (show T 124 = D124 from rfl)).2.1
theorem T124b : (T 124).bytes = 8 := (at_of (show T 124 = D124 from rfl)).2.2.1
theorem T124z : (T 124).zero = [.nilFunc] := (at_of (show T 124 = D124 from rfl)).2.2.2
theorem T125k : (T 125).k = .other := (at_of (show T 125 = D125 from rfl)).1
theorem T125s : (T 125).size = 1 := (at_of (show T 125 = D125 from rfl)).2.1
theorem T125b : (T 125).bytes = 8 := (at_of (show T 125 = D125 from rfl)).2.2.1
theorem T125z : (T 125).zero = [.nilFunc] := (at_of (show T 125 = D125 from rfl)).2.2.2
theorem T126k : (T 126).k = .other := (at_of (show T 126 = D126 from rfl)).1
theorem T126s : (T 126).size = 1 := (at_of (show T 126 = D126 from rfl)).2.1
theorem T126b : (T 126).bytes = 8 := (at_of (show T 126 = D126 from rfl)).2.2.1
theorem T126z : (T 126).zero = [.nilFunc] := (at_of (show T 126 = D126 from rfl)).2.2.2
theorem T127k : (T 127).k = .other := (at_of (show T 127 = D127 from rfl)).1
theorem T127s : (T 127).size = 1 := (at_of (show T 127 = D127 from rfl)).2.1
theorem T127b : (T 127).bytes = 8 := (at_of (show T 127 = D127 from rfl)).2.2.1
theorem T127z : (T 127).zero = [.nilFunc] := (at_of (show T 127 = D127 from rfl)).2.2.2
theorem T129k : (T 129).k = .other := (at_of (show T 129 = D129 from rfl)).1
theorem T129s : (T 129).size = 1 := (at_of (show T 129 = D129 from rfl)).2.1
theorem T129b : (T 129).bytes = 8 := (at_of (show T 129 = D129 from rfl)).2.2.1
theorem T129z : (T 129).zero = [.nilFunc] := (at_of (show T 129 = D129 from rfl)).2.2.2
theorem T130k : (T 130).k = .other := (at_of (show T 130 = D130 from rfl)).1
theorem T130s : (T 130).size = 1 := (at_of (show T 130 = D130 from rfl)).2.1
theorem T130b : (T 130).bytes = 8 := (at_of (show T 130 = D130 from rfl)).2.2.1
theorem T130z : (T 130).zero = [.nilFunc] := (at_of (show T 130 = D130 from rfl)).2.2.2
theorem T131k : (T 131).k = .other := (at_of (show T 131 = D131 from rfl)).1
theorem T131s : (T 131).size = 1 := (at_of (show T 131 = D131 from rfl)).2.1
theorem T131b : (T 131).bytes = 8 := (at_of (show T 131 = D131 from rfl)).2.2.1
theorem T131z : (T 131).zero = [.nilFunc] := (at_of (show T 131 = D131 from rfl)).2.2.2
theorem T132k : (T 132).k = .other := (at_of (show T 132 = D132 from rfl)).1
theorem T132s : (T 132).size = 1 := (at_of (show T 132 = D132 from rfl)).2.1
theorem T132b : (T 132).bytes = 8 := (at_of (show T 132 = D132 from rfl)).2.2.1
theorem T132z : (T 132).zero = [.nilFunc] := (at_of (show T 132 = D132 from rfl)).2.2.2
theorem T133k : (T 133).k = .arr 256 4 := (at_of (show T 133 = D133 from rfl)).1
theorem T133s : (T 133).size = 256 := (at_of (show T 133 = D133 from rfl)).2.1
theorem T133b : (T 133).bytes = 256 := (at_of (show T 133 = D133 from rfl)).2.2.1
theorem T133z : (T 133).zero = ((List.replicate 256 (.bool false))) := (at_of (show T 133 = D133 from rfl)).2.2.2
theorem T134k : (T 134).k = .struct [(0, 25), (1, 89), (2, 133), (258, 25)] := (at_of (show T 134 = D134 from rfl)).1
theorem T134s : (T 134).size = 259 := (at_of (show T 134 = D134 from rfl)).2.1
theorem T134b : (T 134).bytes = 312 := (at_of (show T 134 = D134 from rfl)).2.2.1
theorem T134z : (T 134).zero = ([.slice none 0 0, .nilFunc] ++ (List.replicate 256 (.bool false)) ++ [.slice none 0 0]) := (at_of (show T 134 = D134 from rfl)).2.2.2
theorem T135k : (T 135).k = .struct [(0, 25), (1, 89), (2, 133), (258, 25)] := (at_of (show T 135 = D135 from rfl)).1
theorem T135s : (T 135).size = 259 := (at_of (show T 135 = D135 from rfl)).2.1
theorem T135b : (T 135).bytes = 312 := (at_of (show T 135 = D135 from rfl)).2.2.1
theorem T135z : (T 135).zero = ([.slice none 0 0, .nilFunc] ++ (List.replicate 256 (.bool false)) ++ [.slice none 0 0]) := (at_of (show T 135 = D135 from rfl)).2.2.2
theorem T136k : (T 136).k = .other := (at_of (show T 136 = D136 from rfl)).1
theorem T136s : (T 136).size = 1 := (at_of (show T 136 = D136 from rfl)).2.1
theorem T136b : (T 136).bytes = 8 := (at_of (show T 136 = D136 from rfl)).2.2.1
theorem T136z : (T 136).zero = [.nilFunc] := (at_of (show T 136 = D136 from rfl)).2.2.2
theorem T137k : (T 137).k = .other := (at_of (show T 137 = D137 from rfl)).1
theorem T137s : (T 137).size = 1 := (at_of (show T 137 = D137 from rfl)).2.1
theorem T137b : (T 137).bytes = 8 := (at_of (show T 137 = D137 from rfl)).2.2.1
theorem T137z : (T 137).zero = [.nilFunc] := (at_of (show T 137 = D137 from rfl)).2.2.2
theorem T138k : (T 138).k = .sli 4 := (at_of (show T 138 = D138 from rfl)).1
theorem T138s : (T 138).size = 1 := (at_of (show T 138 = D138 from rfl)).2.1
theorem T138b : (T 138).bytes = 24 := (at_of (show T 138 = D138 from rfl)).2.2.1
theorem T138z : (T 138).zero = [.slice none 0 0] := (at_of (show T 138 = D138 from rfl)).2.2.2
theorem T139k : (T 139).k = .other := (at_of (show T 139 = D139 from rfl)).1
theorem T139s : (T 139).size = 1 := (at_of (show T 139 = D139 from rfl)).2.1
theorem T139b : (T 139).bytes = 8 := (at_of (show T 139 = D139 from rfl)).2.2.1
theorem T139z : (T 139).zero = [.nilFunc] := (at_of (show T 139 = D139 from rfl)).2.2.2
theorem T140k : (T 140).k = .other := (at_of (show T 140 = D140 from rfl)).1
theorem T140s : (T 140).size = 1 := (at_of (show T 140 = D140 from rfl)).2.1
theorem T140b : (T 140).bytes = 8 := (at_of (show T 140 = D140 from rfl)).2.2.1
theorem T140z : (T 140).zero = [.nilFunc] := (at_of (show T 140 = D140 from rfl)).2.2.2
theorem T141k : (T 141).k = .other := (at_of (show T 141 = D141 from rfl)).1
theorem T141s : (T 141).size = 1 := (at_of (show T 141 = D141 from rfl)).2.1
theorem T141b : (T 141).bytes = 8 := (at_of (show T 141 = D141 from rfl)).2.2.1
theorem T141z : (T 141).zero = [.nilFunc] := (at_of (show T 141 = D141 from rfl)).2.2.2
theorem T142k : (T 142).k = .other := (at_of (show T 142 = D142 from rfl)).1
theorem T142s : (T 142).size = 1 := (at_of (show T 142 = D142 from rfl)).2.1
theorem T142b : (T 142).bytes = 8 := (at_of (show T 142 = D142 from rfl)).2.2.1
theorem T142z : (T 142).zero = [.nilFunc] := (at_of (show T 142 = D142 from rfl)).2.2.2
theorem T143k : (T 143).k = .other := (at_of (show T 143 = D143 from rfl)).1
theorem T143s : (T 143).size = 1 := (at_of (show T 143 = D143 from rfl)).2.1
theorem T143b : (T 143).bytes = 8 := (at_of (show T 143 = D143 from rfl)).2.2.1
theorem T143z : (T 143).zero = [.nilFunc] := (at_of (show T 143 = D143 from rfl)).2.2.2
theorem T144k : (T 144).k = .other := (at_of (show T 144 = D144 from rfl)).1
theorem T144s : (T 144).size = 1 := (at_of (show T 144 = D144 from rfl)).2.1
theorem T144b : (T 144).bytes = 8 := (at_of (show T 144 = D144 from rfl)).2.2.1
theorem T144z : (T 144).zero = [.nilFunc] := (at_of (show T 144 = D144 from rfl)).2.2.2
theorem T145k : (T 145).k = .int .u32 := (at_of (show T 145 = D145 from rfl)).1
theorem T145s : (T 145).size = 1 := (at_of (show T 145 = D145 from rfl)).2.1
theorem T145b : (T 145).bytes = 4 := (at_of (show T 145 = D145 from rfl)).2.2.1
theorem T145z : (T 145).zero = [.int .u32 0] := (at_of (show T 145 = D145 from rfl)).2.2.2
theorem T146k : (T 146).k = .other := (at_of (show T 146 = D146 from rfl)).1
theorem T146s : (T 146).size = 1 := (at_of (show T 146 = D146 from rfl)).2.1
theorem T146b : (T 146).bytes = 8 := (at_of (show T 146 = D146 from rfl)).2.2.1
theorem T146z : (T 146).zero = [.nilFunc] := (at_of (show T 146 = D146 from rfl)).2.2.2
theorem T147k : (T 147).k = .other := (at_of (show T 147 = D147 from rfl)).1
theorem T147s : (T 147).size = 1 := (at_of (show T 147 = D147 from rfl)).2.1
theorem T147b : (T 147).bytes = 8 := (at_of (show T 147 = D147 from rfl)).2.2.1
theorem T147z : (T 147).zero = [.nilFunc] := (at_of (show T 147 = D147 from rfl)).2.2.2
theorem T148k : (T 148).k = .other := (at_of (show T 148 = D148 from rfl)).1
theorem T148s : (T 148).size = 1 := (at_of (show T 148 = D148 from rfl)).2.1
theorem T148b : (T 148).bytes = 8 := (at_of (show T 148 = D148 from rfl)).2.2.1
theorem T148z : (T 148).zero = [.nilFunc] := (at_of (show T 148 = D148 from rfl)).2.2.2
theorem T149k : (T 149).k = .other := (at_of (show T 149 = D149 from rfl)).1
theorem T149s : (T 149).size = 1 := (at_of (show T 149 = D149 from rfl)).2.1
theorem T149b : (T 149).bytes = 8 := (at_of (show T 149 = D149 from rfl)).2.2.1
theorem T149z : (T 149).zero = [.nilFunc] := (at_of (show T 149 = D149 from rfl)).2.2.2
theorem T150k : (T 150).k = .other := (at_of (show T 150 = D150 from rfl)).1
theorem T150s : (T 150).size = 1 := (at_of (show T 150 = D150 from rfl)).2.1
theorem T150b : (T 150).bytes = 8 := (at_of (show T 150 = D150 from rfl)).2.2.1
theorem T150z : (T 150).zero = [.nilFunc] := (at_of (show T 150 = D150 from rfl)).2.2.2
theorem T151k : (T 151).k = .other := (at_of (show T 151 = D151 from rfl)).1
theorem T151s : (T 151).size = 1 := (at_of (show T 151 = D151 from rfl)).2.1
theorem T151b : (T 151).bytes = 8 := (at_of (show T 151 = D151 from rfl)).2.2.1
theorem T151z : (T 151).zero = [.nilFunc] := (at_of (show T 151 = D151 from rfl)).2.2.2
theorem T152k : (T 152).k = .other := (at_of (show T 152 = D152 from rfl)).1
theorem T152s : (T 152).size = 1 := (at_of (show T 152 = D152 from rfl)).2.1
theorem T152b : (T 152).bytes = 8 := (at_of (show T 152 = D152 from rfl)).2.2.1
theorem T152z : (T 152).zero = [.nilFunc] := (at_of (show T 152 = D152 from rfl)).2.2.2
theorem T153k : (T 153).k = .other := (at_of (show T 153 = D153 from rfl)).1
theorem T153s : (T 153).size = 1 := (at_of (show T 153 = D153 from rfl)).2.1
theorem T153b : (T 153).bytes = 8 := (at_of (show T 153 = D153 from rfl)).2.2.1
theorem T153z : (T 153).zero = [.pointer none] := (at_of (show T 153 = D153 from rfl)).2.2.2
theorem T154k : (T 154).k = .other := (at_of (show T 154 = D154 from rfl)).1
theorem T154s : (T 154).size = 1 := (at_of (show T 154 = D154 from rfl)).2.1
theorem T154b : (T 154).bytes = 8 := (at_of (show T 154 = D154 from rfl)).2.2.1
theorem T154z : (T 154).zero = [.nilFunc] := (at_of (show T 154 = D154 from rfl)).2.2.2
theorem T155k : (T 155).k = .other := (at_of (show T 155 = D155 from rfl)).1
theorem T155s : (T 155).size = 1 := (at_of (show T 155 = D155 from rfl)).2.1
theorem T155b : (T 155).bytes = 8 := (at_of (show T 155 = D155 from rfl)).2.2.1
theorem T155z : (T 155).zero = [.nilFunc] := (at_of (show T 155 = D155 from rfl)).2.2.2
theorem T156k : (T 156).k = .other := (at_of (show T 156 = D156 from rfl)).1
theorem T156s : (T 156).size = 1 := (at_of (show T 156 = D156 from rfl)).2.1
theorem T156b : (T 156).bytes = 8 := (at_of (show T 156 = D156 from rfl)).2.2.1
theorem T156z : (T 156).zero = [.nilFunc] := (at_of (show T 156 = D156 from rfl)).2.2.2
theorem T157k : (T 157).k = .int .i64 := (at_of (show T 157 = D157 from rfl)).1
theorem T157s : (T 157).size = 1 := (at_of (show T 157 = D157 from rfl)).2.1
theorem T157b : (T 157).bytes = 8 := (at_of (show T 157 = D157 from rfl)).2.2.1
theorem T157z : (T 157).zero = [.int .i64 0] := (at_of (show T 157 = D157 from rfl)).2.2.2
theorem T159k : (T 159).k = .other := (at_of (show T 159 = D159 from rfl)).1
theorem T159s : (T 159).size = 1 := (at_of (show T 159 = D159 from rfl)).2.1
theorem T159b : (T 159).bytes = 8 := (at_of (show T 159 = D159 from rfl)).2.2.1
theorem T159z : (T 159).zero = [.nilFunc] := (at_of (show T 159 = D159 from rfl)).2.2.2
theorem T160k : (T 160).k = .other := (at_of (show T 160 = D160 from rfl)).1
theorem T160s : (T 160).size = 1 := (at_of (show T 160 = D160 from rfl)).2.1
theorem T160b : (T 160).bytes = 8 := (at_of (show T 160 = D160 from rfl)).2.2.1
theorem T160z : (T 160).zero = [.nilFunc] := (at_of (show T 160 = D160 from rfl)).2.2.2
theorem T161k : (T 161).k = .other := (at_of (show T 161 = D161 from rfl)).1
theorem T161s : (T 161).size = 1 := (at_of (show T 161 = D161 from rfl)).2.1
theorem T161b : (T 161).bytes = 8 := (at_of (show T 161 = D161 from rfl)).2.2.1
theorem T161z : (T 161).zero = [.nilFunc] := (at_of (show T 161 = D161 from rfl)).2.2.2
theorem T162k : (T 162).k = .other := (at_of (show T 162 = D162 from rfl)).1
theorem T162s : (T 162).size = 1 := (at_of (show T 162 = D162 from rfl)).2.1
theorem T162b : (T 162).bytes = 8 := (at_of (show T 162 = D162 from rfl)).2.2.1
theorem T162z : (T 162).zero = [.nilFunc] := (at_of (show T 162 = D162 from rfl)).2.2.2
theorem T163k : (T 163).k = .other := (at_of (show T 163 = D163 from rfl)).1
theorem T163s : (T 163).size = 1 := (at_of (show T 163 = D163 from rfl)).2.1
theorem T163b : (T 163).bytes = 8 := (at_of (show T 163 = D163 from rfl)).2.2.1
theorem T163z : (T 163).zero = [.nilFunc] := (at_of (show T 163 = D163 from rfl)).2.2.2
theorem T164k : (T 164).k = .other := (at_of (show T 164 = D164 from rfl)).1
theorem T164s : (T 164).size = 1 := (at_of (show T 164 = D164 from rfl)).2.1
theorem T164b : (T 164).bytes = 8 := (at_of (show T 164 = D164 from rfl)).2.2.1
theorem T164z : (T 164).zero = [.nilFunc] := (at_of (show T 164 = D164 from rfl)).2.2.2
theorem T165k : (T 165).k = .other := (at_of (show T 165 = D165 from rfl)).1
theorem T165s : (T 165).size = 1 := (at_of (show T 165 = D165 from rfl)).2.1
theorem T165b : (T 165).bytes = 8 := (at_of (show T 165 = D165 from rfl)).2.2.1
theorem T165z : (T 165).zero = [.nilFunc] := (at_of (show T 165 = D165 from rfl)).2.2.2
theorem T166k : (T 166).k = .int .u64 := (at_of (show T 166 = D166 from rfl)).1
theorem T166s : (T 166).size = 1 := (at_of (show T 166 = D166 from rfl)).2.1
theorem T166b : (T 166).bytes = 8 := (at_of (show T 166 = D166 from rfl)).2.2.1
theorem T166z : (T 166).zero = [.int .u64 0] := (at_of (show T 166 = D166 from rfl)).2.2.2
theorem T167k : (T 167).k = .other := (at_of (show T 167 = D167 from rfl)).1
theorem T167s : (T 167).size = 1 := (at_of (show T 167 = D167 from rfl)).2.1
theorem T167b : (T 167).bytes = 8 := (at_of (show T 167 = D167 from rfl)).2.2.1
theorem T167z : (T 167).zero = [.nilFunc] := (at_of (show T 167 = D167 from rfl)).2.2.2
theorem T168k : (T 168).k = .other := (at_of (show T 168 = D168 from rfl)).1
theorem T168s : (T 168).size = 1 := (at_of (show T 168 = D168 from rfl)).2.1
theorem T168b : (T 168).bytes = 8 := (at_of (show T 168 = D168 from rfl)).2.2.1
theorem T168z : (T 168).zero = [.nilFunc] := (at_of (show T 168 = D168 from rfl)).2.2.2
theorem T169k : (T 169).k = .other := (at_of (show T 169 = D169 from rfl)).1
theorem T169s : (T 169).size = 1 := (at_of (show T 169 = D169 from rfl)).2.1
theorem T169b : (T 169).bytes = 8 := (at_of (show T 169 = D169 from rfl)).2.2.1
theorem T169z : (T 169).zero = [.nilFunc] := (at_of (show T 169 = D169 from rfl)).2.2.2
theorem T170k : (T 170).k = .other := (at_of (show T 170 = D170 from rfl)).1
theorem T170s : (T 170).size = 1 := (at_of (show T 170 = D170 from rfl)).2.1
theorem T170b : (T 170).bytes = 8 := (at_of (show T 170 = D170 from rfl)).2.2.1
theorem T170z : (T 170).zero = [.pointer none] := (at_of (show T 170 = D170 from rfl)).2.2.2
theorem T171k : (T 171).k = .other := (at_of (show T 171 = D171 from rfl)).1
theorem T171s : (T 171).size = 1 := (at_of (show T 171 = D171 from rfl)).2.1
theorem T171b : (T 171).bytes = 8 := (at_of (show T 171 = D171 from rfl)).2.2.1
theorem T171z : (T 171).zero = [.nilFunc] := (at_of (show T 171 = D171 from rfl)).2.2.2
theorem T172k : (T 172).k = .other := (at_of (show T 172 = D172 from rfl)).1
theorem T172s : (T 172).size = 1 := (at_of (show T 172 = D172 from rfl)).2.1
theorem T172b : (T 172).bytes = 8 := (at_of (show T 172 = D172 from rfl)).2.2.1
theorem T172z : (T 172).zero = [.nilFunc] := (at_of (show T 172 = D172 from rfl)).2.2.2
theorem T173k : (T 173).k = .other := (at_of (show T 173 = D173 from rfl)).1
theorem T173s : (T 173).size = 1 := (at_of (show T 173 = D173 from rfl)).2.1
theorem T173b : (T 173).bytes = 8 := (at_of (show T 173 = D173 from rfl)).2.2.1
theorem T173z : (T 173).zero = [.nilFunc] := (at_of (show T 173 = D173 from rfl)).2.2.2
theorem T174k : (T 174).k = .other := (at_of (show T 174 = D174 from rfl)).1
theorem T174s : (T 174).size = 1 := (at_of (show T 174 = D174 from rfl)).2.1
theorem T174b : (T 174).bytes = 8 := (at_of (show T 174 = D174 from rfl)).2.2.1
theorem T174z : (T 174).zero = [.nilFunc] := (at_of (show T 174 = D174 from rfl)).2.2.2
theorem T175k : (T 175).k = .other := (at_of (show T 175 = D175 from rfl)).1
theorem T175s : (T 175).size = 1 := (at_of (show T 175 = D175 from rfl)).2.1
theorem T175b : (T 175).bytes = 8 := (at_of (show T 175 = D175 from rfl)).2.2.1
theorem T175z : (T 175).zero = [.nilFunc] := (at_of (show T 175 = D175 from rfl)).2.2.2
theorem T176k : (T 176).k = .other := (at_of (show T 176 = D176 from rfl)).1
theorem T176s : (T 176).size = 1 := (at_of (show T 176 = D176 from rfl)).2.1
theorem T176b : (T 176).bytes = 8 := (at_of (show T 176 = D176 from rfl)).2.2.1
theorem T176z : (T 176).zero = [.nilFunc] := (at_of (show T 176 = D176 from rfl)).2.2.2
theorem T177k : (T 177).k = .other := (at_of (show T 177 = D177 from rfl)).1
theorem T177s : (T 177).size = 1 := (at_of (show T 177 = D177 from rfl)).2.1
theorem T177b : (T 177).bytes = 8 := (at_of (show T 177 = D177 from rfl)).2.2.1
theorem T177z : (T 177).zero = [.pointer none] := (at_of (show T 177 = D177 from rfl)).2.2.2
theorem T179k : (T 179).k = .other := (at_of (show T 179 = D179 from rfl)).1
theorem T179s : (T 179).size = 1 := (at_of (show T 179 = D179 from rfl)).2.1
theorem T179b : (T 179).bytes = 8 := (at_of (show T 179 = D179 from rfl)).2.2.1
theorem T179z : (T 179).zero = [.nilFunc] := (at_of (show T 179 = D179 from rfl)).2.2.2
theorem T180k : (T 180).k = .other := (at_of (show T 180 = D180 from rfl)).1
theorem T180s : (T 180).size = 1 := (at_of (show T 180 = D180 from rfl)).2.1
theorem T180b : (T 180).bytes = 8 := (at_of (show T 180 = D180 from rfl)).2.2.1
theorem T180z : (T 180).zero = [.nilFunc] := (at_of (show T 180 = D180 from rfl)).2.2.2
theorem T181k : (T 181).k = .other := (at_of (show T 181 = D181 from rfl)).1
theorem T181s : (T 181).size = 1 := (at_of (show T 181 = D181 from rfl)).2.1
theorem T181b : (T 181).bytes = 8 := (at_of (show T 181 = D181 from rfl)).2.2.1
theorem T181z : (T 181).zero = [.nilFunc] := (at_of (show T 181 = D181 from rfl)).2.2.2
theorem T182k : (T 182).k = .other := (at_of (show T 182 = D182 from rfl)).1
theorem T182s : (T 182).size = 1 := (at_of (show T 182 = D182 from rfl)).2.1
theorem T182b : (T 182).bytes = 8 := (at_of (show T 182 = D182 from rfl)).2.2.1
theorem T182z : (T 182).zero = [.nilFunc] := (at_of (show T 182 = D182 from rfl)).2.2.2
theorem T183k : (T 183).k = .other := (at_of (show T 183 = D183 from rfl)).1
theorem T183s : (T 183).size = 1 := (at_of (show T 183 = D183 from rfl)).2.1
theorem T183b : (T 183).bytes = 8 := (at_of (show T 183 = D183 from rfl)).2.2.1
theorem T183z : (T 183).zero = [.nilFunc] := (at_of (show T 183 = D183 from rfl)).2.2.2
theorem T191k : (T 191).k = .other := (at_of (show T 191 = D191 from rfl)).1
theorem T191s : (T 191).size = 1 := (at_of (show T 191 = D191 from rfl)).2.1
theorem T191b : (T 191).bytes = 8 := (at_of (show T 191 = D191 from rfl)).2.2.1
theorem T191z : (T 191).zero = [.nilFunc] := (at_of (show T 191 = D191 from rfl)).2.2.2
theorem T192k : (T 192).k = .other := (at_of (show T 192 = D192 from rfl)).1
theorem T192s : (T 192).size = 1 := (at_of (show T 192 = D192 from rfl)).2.1
theorem T192b : (T 192).bytes = 8 := (at_of (show T 192 = D192 from rfl)).2.2.1
theorem T192z : (T 192).zero = [.pointer none] := (at_of (show T 192 = D192 from rfl)).2.2.2
theorem gT : type_of% (And.intro @T2k <| And.intro @T2s <| And.intro @T2b <| And.intro @T2z <| And.intro @T3k <| And.intro @T3s <| And.intro @T3b <| And.intro @T3z <| And.intro @T4k <| And.intro @T4s <| And.intro @T4b <| And.intro @T4z <| And.intro @T5k <| And.intro @T5s <| And.intro @T5b <| And.intro @T5z <| And.intro @T9k <| And.intro @T9s <| And.intro @T9b <| And.intro @T9z <| And.intro @T12k <| And.intro @T12s <| And.intro @T12b <| And.intro @T12z <| And.intro @T13k <| And.intro @T13s <| And.intro @T13b <| And.intro @T13z <| And.intro @T21k <| And.intro @T21s <| And.intro @T21b <| And.intro @T21z <| And.intro @T22k <| And.intro @T22s <| And.intro @T22b <| And.intro @T22z <| And.intro @T25k <| And.intro @T25s <| And.intro @T25b <| And.intro @T25z <| And.intro @T26k <| And.intro @T26s <| And.intro @T26b <| And.intro @T26z <| And.intro @T27k <| And.intro @T27s <| And.intro @T27b <| And.intro @T27z <| And.intro @T35k <| And.intro @T35s <| And.intro @T35b <| And.intro @T35z <| And.intro @T36k <| And.intro @T36s <| And.intro @T36b <| And.intro @T36z <| And.intro @T51k <| And.intro @T51s <| And.intro @T51b <| And.intro @T51z <| And.intro @T52k <| And.intro @T52s <| And.intro @T52b <| And.intro @T52z <| And.intro @T82k <| And.intro @T82s <| And.intro @T82b <| And.intro @T82z <| And.intro @T88k <| And.intro @T88s <| And.intro @T88b <| And.intro @T88z <| And.intro @T99k <| And.intro @T99s <| And.intro @T99b <| And.intro @T99z <| And.intro @T112k <| And.intro @T112s <| And.intro @T112b <| And.intro @T112z <| And.intro @T113k <| And.intro @T113s <| And.intro @T113b <| And.intro @T113z <| And.intro @T116k <| And.intro @T116s <| And.intro @T116b <| And.intro @T116z <| And.intro @T133k <| And.intro @T133s <| And.intro @T133b <| And.intro @T133z <| And.intro @T134k <| And.intro @T134s <| And.intro @T134b <| And.intro @T134z <| And.intro @T135k <| And.intro @T135s <| And.intro @T135b <| And.intro @T135z <| And.intro @T138k <| And.intro @T138s <| And.intro @T138b <| And.intro @T138z <| And.intro @T145k <| And.intro @T145s <| And.intro @T145b <| And.intro @T145z <| And.intro @T157k <| And.intro @T157s <| And.intro @T157b <| And.intro @T157z <| And.intro @T166k <| And.intro @T166s <| And.intro @T166b <| @T166z) := And.intro @T2k <| And.intro @T2s <| And.intro @T2b <| And.intro @T2z <| And.intro @T3k <| And.intro @T3s <| And.intro @T3b <| And.intro @T3z <| And.intro @T4k <| And.intro @T4s <| And.intro @T4b <| And.intro @T4z <| And.intro @T5k <| And.intro @T5s <| And.intro @T5b <| And.intro @T5z <| And.intro @T9k <| And.intro @T9s <| And.intro @T9b <| And.intro @T9z <| And.intro @T12k <| And.intro @T12s <| And.intro @T12b <| And.intro @T12z <| And.intro @T13k <| And.intro @T13s <| And.intro @T13b <| And.intro @T13z <| And.intro @T21k <| And.intro @T21s <| And.intro @T21b <| And.intro @T21z <| And.intro @T22k <| And.intro @T22s <| And.intro @T22b <| And.intro @T22z <| And.intro @T25k <| And.intro @T25s <| And.intro @T25b <| And.intro @T25z <| And.intro @T26k <| And.intro @T26s <| And.intro @T26b <| And.intro @T26z <| And.intro @T27k <| And.intro @T27s <| And.intro @T27b <| And.intro @T27z <| And.intro @T35k <| And.intro @T35s <| And.intro @T35b <| And.intro @T35z <| And.intro @T36k <| And.intro @T36s <| And.intro @T36b <| And.intro @T36z <| And.intro @T51k <| And.intro @T51s <| And.intro @T51b <| And.intro @T51z <| And.intro @T52k <| And.intro @T52s <| And.intro @T52b <| And.intro @T52z <| And.intro @T82k <| And.intro @T82s <| And.intro @T82b <| And.intro @T82z <| And.intro @T88k <| And.intro @T88s <| And.intro @T88b <| And.intro @T88z <| And.intro @T99k <| And.intro @T99s <| And.intro @T99b <| And.intro @T99z <| And.intro @T112k <| And.intro @T112s <| And.intro @T112b <| And.intro @T112z <| And.intro @T113k <| And.intro @T113s <| And.intro @T113b <| And.intro @T113z <| And.intro @T116k <| And.intro @T116s <| And.intro @T116b <| And.intro @T116z <| And.intro @T133k <| And.intro @T133s <| And.intro @T133b <| And.intro @T133z <| And.intro @T134k <| And.intro @T134s <| And.intro @T134b <| And.intro @T134z <| And.intro @T135k <| And.intro @T135s <| And.intro @T135b <| And.intro @T135z <| And.intro @T138k <| And.intro @T138s <| And.intro @T138b <| And.intro @T138z <| And.intro @T145k <| And.intro @T145s <| And.intro @T145b <| And.intro @T145z <| And.intro @T157k <| And.intro @T157s <| And.intro @T157b <| And.intro @T157z <| And.intro @T166k <| And.intro @T166s <| And.intro @T166b <| @T166z
theorem tab0_fits : ∀ x ∈ tab0, x.2.Fits Tryz.prog x.1 := by
  simp only [tab0, List.forall_mem_cons]
  exact ⟨F1, F2, F3, F4, F5, F9, F12, F13, F21, F22, F23, F24, F25, F26, F27, F29, F30, F31, F32, F33, F34, F35, F36, F37, F39, F40, F41, F43, F44, F45, F46, F47, F48, F49, F50, F51, F52, F54, F55, F56, F57, F58, F59, F60, F61, F63, F64, F66, F67, F68, F69, F70, F71, F72, F73, F74, F75, F76, F77, F78, fun _ h => absurd h (by simp)⟩
theorem tab1_fits : ∀ x ∈ tab1, x.2.Fits Tryz.prog x.1 := by
  simp only [tab1, List.forall_mem_cons]
  exact ⟨F79, F80, F81, F82, F84, F85, F86, F87, F88, F89, F90, F91, F92, F93, F94, F95, F96, F97, F98, F99, F100, F101, F102, F103, F104, F105, F106, F107, F108, F109, F110, F111, F112, F113, F115, F116, F117, F119, F120, F121, F122, F123, F124, F125, F126, F127, F129, F130, F131, F132, F133, F134, F135, F136, F137, F138, F139, F140, F141, F142, fun _ h => absurd h (by simp)⟩
theorem tab2_fits : ∀ x ∈ tab2, x.2.Fits Tryz.prog x.1 := by
  simp only [tab2, List.forall_mem_cons]
  exact ⟨F143, F144, F145, F146, F147, F148, F149, F150, F151, F152, F153, F154, F155, F156, F157, F159, F160, F161, F162, F163, F164, F165, F166, F167, F168, F169, F170, F171, F172, F173, F174, F175, F176, F177, F179, F180, F181, F182, F183, F191, F192, fun _ h => absurd h (by simp)⟩
theorem tab_fits : ∀ x ∈ tab, x.2.Fits Tryz.prog x.1 := by
  simp only [tab, List.forall_mem_append]
  exact ⟨⟨tab0_fits, tab1_fits⟩, tab2_fits⟩
theorem T_ok : Tab.Ok T Tryz.prog := by
  intro t ht
  unfold T at ht ⊢
  cases h : tab.find? fun x => x.1 == t with
  | none => rw [h] at ht; simp at ht
  | some x =>
    have h1 := List.find?_some h
    have h2 := tab_fits x (List.mem_of_find?_eq_some h)
    simp at h1
    subst h1
    exact h2
theorem mixed : Tryz.prog.follows .mixedOrders = true := by kernel_rfl
instance held : Held := ⟨{ Φ := fun _ => True, Gl := fun _ => False, dr := True, keep := fun _ _ => trivial, low := fun _ h => h.elim }⟩
end Go.Proofs.YtpnknaaehcljoaaGreat

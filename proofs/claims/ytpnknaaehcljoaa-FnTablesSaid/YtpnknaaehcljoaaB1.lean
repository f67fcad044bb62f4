/- DERIVED by an AI agent, by a program of its own (mktypes.py). The types of the translation, as the abstract layer reads them. -/
import Derived.Test.YtpnknaaehcljoaaRows
import Derived.Test.YtpnknaaehcljoaaA12
namespace Go.Proofs.Ytpnknaaehcljoaa
open Go.Abs
set_option linter.unusedVariables false
theorem zai {t:TypeId} {d:TD} {z:Value} (h:d.k.fits Try.prog t) (hi:(Try.prog.info? t).map (fun i=>(i.zero,i.size,i.bytes)) = some (some z,d.size,d.bytes)) (hz:z.cells.toList = d.zero) (hl:d.zero.length = d.size) (ho:d.k.agg = false→d.size = 1∧∀ z,d.zero = [z]→z.oneCell' = true):d.Fits Try.prog t:=by
 refine ⟨h,?_,hl,ho⟩
 cases hq:Try.prog.info? t with
 | none=>rw [hq] at hi;simp at hi
 | some i =>
   rw [hq] at hi
   simp at hi
   exact ⟨i,z,rfl,hi.2.1,hi.2.2,hi.1,hz⟩
def D1:TD:=⟨.other,1,8,[.nilFunc]⟩
theorem F1:D1.Fits Try.prog 1:=zai (z:=.nilFunc) ⟨_,Try.underlying1,trivial⟩ (by kernel_rfl) rfl rfl (fun _=>⟨rfl,fun z h=>by cases h;rfl⟩)
def D2:TD:=⟨.int .i64,1,8,[.int .i64 0]⟩
theorem F2:D2.Fits Try.prog 2:=zai (z:=.int .i64 0) (show Try.prog.underlying 2 = some (TypeDesc.int .i64) by kernel_rfl) (by kernel_rfl) rfl rfl (fun _=>⟨rfl,fun z h=>by cases h;rfl⟩)
def D3:TD:=⟨.int .i64,1,8,[.int .i64 0]⟩
theorem F3:D3.Fits Try.prog 3:=zai (z:=.int .i64 0) (show Try.prog.underlying 3 = some (TypeDesc.int .i64) by kernel_rfl) (by kernel_rfl) rfl rfl (fun _=>⟨rfl,fun z h=>by cases h;rfl⟩)
def D4:TD:=⟨.bool,1,1,[.bool false]⟩
theorem F4:D4.Fits Try.prog 4:=zai (z:=.bool false) (show Try.prog.underlying 4 = some (TypeDesc.bool) by kernel_rfl) (by kernel_rfl) rfl rfl (fun _=>⟨rfl,fun z h=>by cases h;rfl⟩)
def D5:TD:=⟨.int .u8,1,1,[.int .u8 0]⟩
theorem F5:D5.Fits Try.prog 5:=zai (z:=.int .u8 0) (show Try.prog.underlying 5 = some (TypeDesc.int .u8) by kernel_rfl) (by kernel_rfl) rfl rfl (fun _=>⟨rfl,fun z h=>by cases h;rfl⟩)
def D9:TD:=⟨.str,1,16,[.string ⟨#[]⟩]⟩
theorem F9:D9.Fits Try.prog 9:=zai (z:=.string ⟨#[]⟩) (show Try.prog.underlying 9 = some (TypeDesc.string) by kernel_rfl) (by kernel_rfl) rfl rfl (fun _=>⟨rfl,fun z h=>by cases h;rfl⟩)
def D12:TD:=⟨.int .u64,1,8,[.int .u64 0]⟩
theorem F12:D12.Fits Try.prog 12:=zai (z:=.int .u64 0) (show Try.prog.underlying 12 = some (TypeDesc.int .u64) by kernel_rfl) (by kernel_rfl) rfl rfl (fun _=>⟨rfl,fun z h=>by cases h;rfl⟩)
def D13:TD:=⟨.struct [(0,9),(1,12)],2,24,[.string ⟨#[]⟩,.int .u64 0]⟩
theorem F13:D13.Fits Try.prog 13:=zai (z:=.agg #[.string ⟨#[]⟩,.int .u64 0]) ⟨_,Try.underlying13,rfl⟩ (by kernel_rfl) rfl rfl (fun h=>by cases h)
def D21:TD:=⟨.int .i32,1,4,[.int .i32 0]⟩
theorem F21:D21.Fits Try.prog 21:=zai (z:=.int .i32 0) (show Try.prog.underlying 21 = some (TypeDesc.int .i32) by kernel_rfl) (by kernel_rfl) rfl rfl (fun _=>⟨rfl,fun z h=>by cases h;rfl⟩)
def D22:TD:=⟨.sli 3,1,24,[.slice none 0 0]⟩
theorem F22:D22.Fits Try.prog 22:=zai (z:=.slice none 0 0) (show Try.prog.underlying 22 = some (TypeDesc.slice 3) by kernel_rfl) (by kernel_rfl) rfl rfl (fun _=>⟨rfl,fun z h=>by cases h;rfl⟩)
def D23:TD:=⟨.struct [(0,3),(1,22)],2,32,[.int .i64 0,.slice none 0 0]⟩
theorem F23:D23.Fits Try.prog 23:=zai (z:=.agg #[.int .i64 0,.slice none 0 0]) ⟨_,Try.underlying23,rfl⟩ (by kernel_rfl) rfl rfl (fun h=>by cases h)
def D24:TD:=⟨.struct [(0,3),(1,22)],2,32,[.int .i64 0,.slice none 0 0]⟩
theorem F24:D24.Fits Try.prog 24:=zai (z:=.agg #[.int .i64 0,.slice none 0 0]) ⟨_,Try.underlying24,rfl⟩ (by kernel_rfl) rfl rfl (fun h=>by cases h)
def D25:TD:=⟨.other,1,8,[.nilFunc]⟩
theorem F25:D25.Fits Try.prog 25:=zai (z:=.nilFunc) ⟨_,Try.underlying25,trivial⟩ (by kernel_rfl) rfl rfl (fun _=>⟨rfl,fun z h=>by cases h;rfl⟩)
def D26:TD:=⟨.other,1,8,[.nilFunc]⟩
theorem F26:D26.Fits Try.prog 26:=zai (z:=.nilFunc) ⟨_,Try.underlying26,trivial⟩ (by kernel_rfl) rfl rfl (fun _=>⟨rfl,fun z h=>by cases h;rfl⟩)
def D27:TD:=⟨.struct [(0,3),(1,22)],2,32,[.int .i64 0,.slice none 0 0]⟩
theorem F27:D27.Fits Try.prog 27:=zai (z:=.agg #[.int .i64 0,.slice none 0 0]) ⟨_,Try.underlying27,rfl⟩ (by kernel_rfl) rfl rfl (fun h=>by cases h)
def D28:TD:=⟨.other,1,8,[.nilFunc]⟩
theorem F28:D28.Fits Try.prog 28:=zai (z:=.nilFunc) ⟨_,Try.underlying28,trivial⟩ (by kernel_rfl) rfl rfl (fun _=>⟨rfl,fun z h=>by cases h;rfl⟩)
def D29:TD:=⟨.other,1,8,[.nilFunc]⟩
theorem F29:D29.Fits Try.prog 29:=zai (z:=.nilFunc) ⟨_,Try.underlying29,trivial⟩ (by kernel_rfl) rfl rfl (fun _=>⟨rfl,fun z h=>by cases h;rfl⟩)
def D30:TD:=⟨.other,1,8,[.nilFunc]⟩
theorem F30:D30.Fits Try.prog 30:=zai (z:=.nilFunc) ⟨_,Try.underlying30,trivial⟩ (by kernel_rfl) rfl rfl (fun _=>⟨rfl,fun z h=>by cases h;rfl⟩)
def D31:TD:=⟨.sli 5,1,24,[.slice none 0 0]⟩
theorem F31:D31.Fits Try.prog 31:=zai (z:=.slice none 0 0) (show Try.prog.underlying 31 = some (TypeDesc.slice 5) by kernel_rfl) (by kernel_rfl) rfl rfl (fun _=>⟨rfl,fun z h=>by cases h;rfl⟩)
def D32:TD:=⟨.other,1,8,[.nilFunc]⟩
theorem F32:D32.Fits Try.prog 32:=zai (z:=.nilFunc) ⟨_,Try.underlying32,trivial⟩ (by kernel_rfl) rfl rfl (fun _=>⟨rfl,fun z h=>by cases h;rfl⟩)
def D33:TD:=⟨.sli 22,1,24,[.slice none 0 0]⟩
theorem F33:D33.Fits Try.prog 33:=zai (z:=.slice none 0 0) (show Try.prog.underlying 33 = some (TypeDesc.slice 22) by kernel_rfl) (by kernel_rfl) rfl rfl (fun _=>⟨rfl,fun z h=>by cases h;rfl⟩)
def D34:TD:=⟨.struct [(0,33)],1,24,[.slice none 0 0]⟩
theorem F34:D34.Fits Try.prog 34:=zai (z:=.agg #[.slice none 0 0]) ⟨_,Try.underlying34,rfl⟩ (by kernel_rfl) rfl rfl (fun h=>by cases h)
def D35:TD:=⟨.struct [(0,33)],1,24,[.slice none 0 0]⟩
theorem F35:D35.Fits Try.prog 35:=zai (z:=.agg #[.slice none 0 0]) ⟨_,Try.underlying35,rfl⟩ (by kernel_rfl) rfl rfl (fun h=>by cases h)
def D36:TD:=⟨.other,1,8,[.nilFunc]⟩
theorem F36:D36.Fits Try.prog 36:=zai (z:=.nilFunc) ⟨_,Try.underlying36,trivial⟩ (by kernel_rfl) rfl rfl (fun _=>⟨rfl,fun z h=>by cases h;rfl⟩)
def D37:TD:=⟨.struct [(0,3),(1,22)],2,32,[.int .i64 0,.slice none 0 0]⟩
theorem F37:D37.Fits Try.prog 37:=zai (z:=.agg #[.int .i64 0,.slice none 0 0]) ⟨_,Try.underlying37,rfl⟩ (by kernel_rfl) rfl rfl (fun h=>by cases h)
def D38:TD:=⟨.struct [(0,3),(1,22)],2,32,[.int .i64 0,.slice none 0 0]⟩
theorem F38:D38.Fits Try.prog 38:=zai (z:=.agg #[.int .i64 0,.slice none 0 0]) ⟨_,Try.underlying38,rfl⟩ (by kernel_rfl) rfl rfl (fun h=>by cases h)
def D40:TD:=⟨.other,1,8,[.nilFunc]⟩
theorem F40:D40.Fits Try.prog 40:=zai (z:=.nilFunc) ⟨_,Try.underlying40,trivial⟩ (by kernel_rfl) rfl rfl (fun _=>⟨rfl,fun z h=>by cases h;rfl⟩)
def D41:TD:=⟨.other,1,8,[.nilFunc]⟩
theorem F41:D41.Fits Try.prog 41:=zai (z:=.nilFunc) ⟨_,Try.underlying41,trivial⟩ (by kernel_rfl) rfl rfl (fun _=>⟨rfl,fun z h=>by cases h;rfl⟩)
def D43:TD:=⟨.other,1,8,[.nilFunc]⟩
theorem F43:D43.Fits Try.prog 43:=zai (z:=.nilFunc) ⟨_,Try.underlying43,trivial⟩ (by kernel_rfl) rfl rfl (fun _=>⟨rfl,fun z h=>by cases h;rfl⟩)
def D44:TD:=⟨.other,1,8,[.nilFunc]⟩
theorem F44:D44.Fits Try.prog 44:=zai (z:=.nilFunc) ⟨_,Try.underlying44,trivial⟩ (by kernel_rfl) rfl rfl (fun _=>⟨rfl,fun z h=>by cases h;rfl⟩)
def D45:TD:=⟨.other,1,8,[.nilFunc]⟩
theorem F45:D45.Fits Try.prog 45:=zai (z:=.nilFunc) ⟨_,Try.underlying45,trivial⟩ (by kernel_rfl) rfl rfl (fun _=>⟨rfl,fun z h=>by cases h;rfl⟩)
def D47:TD:=⟨.other,1,8,[.nilFunc]⟩
theorem F47:D47.Fits Try.prog 47:=zai (z:=.nilFunc) ⟨_,Try.underlying47,trivial⟩ (by kernel_rfl) rfl rfl (fun _=>⟨rfl,fun z h=>by cases h;rfl⟩)
def D48:TD:=⟨.other,1,8,[.nilFunc]⟩
theorem F48:D48.Fits Try.prog 48:=zai (z:=.nilFunc) ⟨_,Try.underlying48,trivial⟩ (by kernel_rfl) rfl rfl (fun _=>⟨rfl,fun z h=>by cases h;rfl⟩)
def D49:TD:=⟨.other,1,8,[.nilFunc]⟩
theorem F49:D49.Fits Try.prog 49:=zai (z:=.nilFunc) ⟨_,Try.underlying49,trivial⟩ (by kernel_rfl) rfl rfl (fun _=>⟨rfl,fun z h=>by cases h;rfl⟩)
def D50:TD:=⟨.other,1,8,[.nilFunc]⟩
theorem F50:D50.Fits Try.prog 50:=zai (z:=.nilFunc) ⟨_,Try.underlying50,trivial⟩ (by kernel_rfl) rfl rfl (fun _=>⟨rfl,fun z h=>by cases h;rfl⟩)
def D51:TD:=⟨.other,1,8,[.nilFunc]⟩
theorem F51:D51.Fits Try.prog 51:=zai (z:=.nilFunc) ⟨_,Try.underlying51,trivial⟩ (by kernel_rfl) rfl rfl (fun _=>⟨rfl,fun z h=>by cases h;rfl⟩)
def D52:TD:=⟨.other,1,8,[.nilFunc]⟩
theorem F52:D52.Fits Try.prog 52:=zai (z:=.nilFunc) ⟨_,Try.underlying52,trivial⟩ (by kernel_rfl) rfl rfl (fun _=>⟨rfl,fun z h=>by cases h;rfl⟩)
def D53:TD:=⟨.other,1,8,[.nilFunc]⟩
theorem F53:D53.Fits Try.prog 53:=zai (z:=.nilFunc) ⟨_,Try.underlying53,trivial⟩ (by kernel_rfl) rfl rfl (fun _=>⟨rfl,fun z h=>by cases h;rfl⟩)
def D55:TD:=⟨.other,1,8,[.nilFunc]⟩
theorem F55:D55.Fits Try.prog 55:=zai (z:=.nilFunc) ⟨_,Try.underlying55,trivial⟩ (by kernel_rfl) rfl rfl (fun _=>⟨rfl,fun z h=>by cases h;rfl⟩)
def D56:TD:=⟨.other,1,8,[.nilFunc]⟩
theorem F56:D56.Fits Try.prog 56:=zai (z:=.nilFunc) ⟨_,Try.underlying56,trivial⟩ (by kernel_rfl) rfl rfl (fun _=>⟨rfl,fun z h=>by cases h;rfl⟩)
def D57:TD:=⟨.other,1,8,[.nilFunc]⟩
theorem F57:D57.Fits Try.prog 57:=zai (z:=.nilFunc) ⟨_,Try.underlying57,trivial⟩ (by kernel_rfl) rfl rfl (fun _=>⟨rfl,fun z h=>by cases h;rfl⟩)
def D58:TD:=⟨.other,1,8,[.nilFunc]⟩
theorem F58:D58.Fits Try.prog 58:=zai (z:=.nilFunc) ⟨_,Try.underlying58,trivial⟩ (by kernel_rfl) rfl rfl (fun _=>⟨rfl,fun z h=>by cases h;rfl⟩)
def D60:TD:=⟨.other,1,8,[.nilFunc]⟩
theorem F60:D60.Fits Try.prog 60:=zai (z:=.nilFunc) ⟨_,Try.underlying60,trivial⟩ (by kernel_rfl) rfl rfl (fun _=>⟨rfl,fun z h=>by cases h;rfl⟩)
def D61:TD:=⟨.other,1,8,[.nilFunc]⟩
theorem F61:D61.Fits Try.prog 61:=zai (z:=.nilFunc) ⟨_,Try.underlying61,trivial⟩ (by kernel_rfl) rfl rfl (fun _=>⟨rfl,fun z h=>by cases h;rfl⟩)
def D63:TD:=⟨.other,1,8,[.nilFunc]⟩
theorem F63:D63.Fits Try.prog 63:=zai (z:=.nilFunc) ⟨_,Try.underlying63,trivial⟩ (by kernel_rfl) rfl rfl (fun _=>⟨rfl,fun z h=>by cases h;rfl⟩)
def D64:TD:=⟨.other,1,8,[.nilFunc]⟩
theorem F64:D64.Fits Try.prog 64:=zai (z:=.nilFunc) ⟨_,Try.underlying64,trivial⟩ (by kernel_rfl) rfl rfl (fun _=>⟨rfl,fun z h=>by cases h;rfl⟩)
def D65:TD:=⟨.other,1,8,[.nilFunc]⟩
theorem F65:D65.Fits Try.prog 65:=zai (z:=.nilFunc) ⟨_,Try.underlying65,trivial⟩ (by kernel_rfl) rfl rfl (fun _=>⟨rfl,fun z h=>by cases h;rfl⟩)
def D66:TD:=⟨.other,1,8,[.nilFunc]⟩
theorem F66:D66.Fits Try.prog 66:=zai (z:=.nilFunc) ⟨_,Try.underlying66,trivial⟩ (by kernel_rfl) rfl rfl (fun _=>⟨rfl,fun z h=>by cases h;rfl⟩)
def D67:TD:=⟨.other,1,8,[.nilFunc]⟩
theorem F67:D67.Fits Try.prog 67:=zai (z:=.nilFunc) ⟨_,Try.underlying67,trivial⟩ (by kernel_rfl) rfl rfl (fun _=>⟨rfl,fun z h=>by cases h;rfl⟩)
def D69:TD:=⟨.other,1,8,[.nilFunc]⟩
theorem F69:D69.Fits Try.prog 69:=zai (z:=.nilFunc) ⟨_,Try.underlying69,trivial⟩ (by kernel_rfl) rfl rfl (fun _=>⟨rfl,fun z h=>by cases h;rfl⟩)
def D70:TD:=⟨.other,1,8,[.nilFunc]⟩
theorem F70:D70.Fits Try.prog 70:=zai (z:=.nilFunc) ⟨_,Try.underlying70,trivial⟩ (by kernel_rfl) rfl rfl (fun _=>⟨rfl,fun z h=>by cases h;rfl⟩)
def D71:TD:=⟨.other,1,8,[.nilFunc]⟩
theorem F71:D71.Fits Try.prog 71:=zai (z:=.nilFunc) ⟨_,Try.underlying71,trivial⟩ (by kernel_rfl) rfl rfl (fun _=>⟨rfl,fun z h=>by cases h;rfl⟩)
def D72:TD:=⟨.other,1,8,[.nilFunc]⟩
theorem F72:D72.Fits Try.prog 72:=zai (z:=.nilFunc) ⟨_,Try.underlying72,trivial⟩ (by kernel_rfl) rfl rfl (fun _=>⟨rfl,fun z h=>by cases h;rfl⟩)
def D73:TD:=⟨.other,1,8,[.nilFunc]⟩
theorem F73:D73.Fits Try.prog 73:=zai (z:=.nilFunc) ⟨_,Try.underlying73,trivial⟩ (by kernel_rfl) rfl rfl (fun _=>⟨rfl,fun z h=>by cases h;rfl⟩)
def D74:TD:=⟨.other,1,8,[.nilFunc]⟩
theorem F74:D74.Fits Try.prog 74:=zai (z:=.nilFunc) ⟨_,Try.underlying74,trivial⟩ (by kernel_rfl) rfl rfl (fun _=>⟨rfl,fun z h=>by cases h;rfl⟩)
def D75:TD:=⟨.other,1,8,[.nilFunc]⟩
theorem F75:D75.Fits Try.prog 75:=zai (z:=.nilFunc) ⟨_,Try.underlying75,trivial⟩ (by kernel_rfl) rfl rfl (fun _=>⟨rfl,fun z h=>by cases h;rfl⟩)
def D76:TD:=⟨.other,1,8,[.pointer none]⟩
theorem F76:D76.Fits Try.prog 76:=zai (z:=.pointer none) ⟨_,Try.underlying76,trivial⟩ (by kernel_rfl) rfl rfl (fun _=>⟨rfl,fun z h=>by cases h;rfl⟩)
def D77:TD:=⟨.other,1,8,[.nilFunc]⟩
theorem F77:D77.Fits Try.prog 77:=zai (z:=.nilFunc) ⟨_,Try.underlying77,trivial⟩ (by kernel_rfl) rfl rfl (fun _=>⟨rfl,fun z h=>by cases h;rfl⟩)
def D78:TD:=⟨.int .u64,1,8,[.int .u64 0]⟩
theorem F78:D78.Fits Try.prog 78:=zai (z:=.int .u64 0) (show Try.prog.underlying 78 = some (TypeDesc.int .u64) by kernel_rfl) (by kernel_rfl) rfl rfl (fun _=>⟨rfl,fun z h=>by cases h;rfl⟩)
def D79:TD:=⟨.other,1,8,[.nilFunc]⟩
theorem F79:D79.Fits Try.prog 79:=zai (z:=.nilFunc) ⟨_,Try.underlying79,trivial⟩ (by kernel_rfl) rfl rfl (fun _=>⟨rfl,fun z h=>by cases h;rfl⟩)
def D80:TD:=⟨.other,1,8,[.nilFunc]⟩
theorem F80:D80.Fits Try.prog 80:=zai (z:=.nilFunc) ⟨_,Try.underlying80,trivial⟩ (by kernel_rfl) rfl rfl (fun _=>⟨rfl,fun z h=>by cases h;rfl⟩)
def D81:TD:=⟨.other,1,8,[.nilFunc]⟩
theorem F81:D81.Fits Try.prog 81:=zai (z:=.nilFunc) ⟨_,Try.underlying81,trivial⟩ (by kernel_rfl) rfl rfl (fun _=>⟨rfl,fun z h=>by cases h;rfl⟩)
def D82:TD:=⟨.arr 27 4,27,27,((List.replicate 27 (.bool false)))⟩
theorem F82:D82.Fits Try.prog 82:=zai (z:=.agg ⟨((List.replicate 27 (.bool false)))⟩) (show Try.prog.underlying 82 = some (TypeDesc.array 27 4) by kernel_rfl) (by kernel_rfl) (by kernel_rfl) (by kernel_rfl) (fun h=>by cases h)
def D83:TD:=⟨.other,1,8,[.nilFunc]⟩
theorem F83:D83.Fits Try.prog 83:=zai (z:=.nilFunc) ⟨_,Try.underlying83,trivial⟩ (by kernel_rfl) rfl rfl (fun _=>⟨rfl,fun z h=>by cases h;rfl⟩)
def D84:TD:=⟨.other,1,8,[.nilFunc]⟩
theorem F84:D84.Fits Try.prog 84:=zai (z:=.nilFunc) ⟨_,Try.underlying84,trivial⟩ (by kernel_rfl) rfl rfl (fun _=>⟨rfl,fun z h=>by cases h;rfl⟩)
def D85:TD:=⟨.other,1,8,[.nilFunc]⟩
theorem F85:D85.Fits Try.prog 85:=zai (z:=.nilFunc) ⟨_,Try.underlying85,trivial⟩ (by kernel_rfl) rfl rfl (fun _=>⟨rfl,fun z h=>by cases h;rfl⟩)
def D86:TD:=⟨.other,1,8,[.nilFunc]⟩
theorem F86:D86.Fits Try.prog 86:=zai (z:=.nilFunc) ⟨_,Try.underlying86,trivial⟩ (by kernel_rfl) rfl rfl (fun _=>⟨rfl,fun z h=>by cases h;rfl⟩)
def D87:TD:=⟨.other,1,8,[.nilFunc]⟩
theorem F87:D87.Fits Try.prog 87:=zai (z:=.nilFunc) ⟨_,Try.underlying87,trivial⟩ (by kernel_rfl) rfl rfl (fun _=>⟨rfl,fun z h=>by cases h;rfl⟩)
def D88:TD:=⟨.arr 3 3,3,24,[.int .i64 0,.int .i64 0,.int .i64 0]⟩
theorem F88:D88.Fits Try.prog 88:=zai (z:=.agg #[.int .i64 0,.int .i64 0,.int .i64 0]) (show Try.prog.underlying 88 = some (TypeDesc.array 3 3) by kernel_rfl) (by kernel_rfl) rfl rfl (fun h=>by cases h)
def D89:TD:=⟨.other,1,8,[.nilFunc]⟩
theorem F89:D89.Fits Try.prog 89:=zai (z:=.nilFunc) ⟨_,Try.underlying89,trivial⟩ (by kernel_rfl) rfl rfl (fun _=>⟨rfl,fun z h=>by cases h;rfl⟩)
def D90:TD:=⟨.other,1,8,[.nilFunc]⟩
theorem F90:D90.Fits Try.prog 90:=zai (z:=.nilFunc) ⟨_,Try.underlying90,trivial⟩ (by kernel_rfl) rfl rfl (fun _=>⟨rfl,fun z h=>by cases h;rfl⟩)
def D91:TD:=⟨.other,1,8,[.nilFunc]⟩
theorem F91:D91.Fits Try.prog 91:=zai (z:=.nilFunc) ⟨_,Try.underlying91,trivial⟩ (by kernel_rfl) rfl rfl (fun _=>⟨rfl,fun z h=>by cases h;rfl⟩)
def D92:TD:=⟨.other,1,8,[.nilFunc]⟩
theorem F92:D92.Fits Try.prog 92:=zai (z:=.nilFunc) ⟨_,Try.underlying92,trivial⟩ (by kernel_rfl) rfl rfl (fun _=>⟨rfl,fun z h=>by cases h;rfl⟩)
def D93:TD:=⟨.other,1,8,[.nilFunc]⟩
theorem F93:D93.Fits Try.prog 93:=zai (z:=.nilFunc) ⟨_,Try.underlying93,trivial⟩ (by kernel_rfl) rfl rfl (fun _=>⟨rfl,fun z h=>by cases h;rfl⟩)
def D94:TD:=⟨.other,1,8,[.nilFunc]⟩
theorem F94:D94.Fits Try.prog 94:=zai (z:=.nilFunc) ⟨_,Try.underlying94,trivial⟩ (by kernel_rfl) rfl rfl (fun _=>⟨rfl,fun z h=>by cases h;rfl⟩)
def D95:TD:=⟨.other,1,8,[.nilFunc]⟩
theorem F95:D95.Fits Try.prog 95:=zai (z:=.nilFunc) ⟨_,Try.underlying95,trivial⟩ (by kernel_rfl) rfl rfl (fun _=>⟨rfl,fun z h=>by cases h;rfl⟩)
def D96:TD:=⟨.int .u64,1,8,[.int .u64 0]⟩
theorem F96:D96.Fits Try.prog 96:=zai (z:=.int .u64 0) (show Try.prog.underlying 96 = some (TypeDesc.int .u64) by kernel_rfl) (by kernel_rfl) rfl rfl (fun _=>⟨rfl,fun z h=>by cases h;rfl⟩)
def D97:TD:=⟨.other,1,8,[.nilFunc]⟩
theorem F97:D97.Fits Try.prog 97:=zai (z:=.nilFunc) ⟨_,Try.underlying97,trivial⟩ (by kernel_rfl) rfl rfl (fun _=>⟨rfl,fun z h=>by cases h;rfl⟩)
def D98:TD:=⟨.other,1,8,[.nilFunc]⟩
theorem F98:D98.Fits Try.prog 98:=zai (z:=.nilFunc) ⟨_,Try.underlying98,trivial⟩ (by kernel_rfl) rfl rfl (fun _=>⟨rfl,fun z h=>by cases h;rfl⟩)
def D99:TD:=⟨.other,1,8,[.nilFunc]⟩
theorem F99:D99.Fits Try.prog 99:=zai (z:=.nilFunc) ⟨_,Try.underlying99,trivial⟩ (by kernel_rfl) rfl rfl (fun _=>⟨rfl,fun z h=>by cases h;rfl⟩)
def zEu:TD:=⟨.other,1,8,[.nilFunc]⟩
theorem zJl:zEu.Fits Try.prog 100:=zai (z:=.nilFunc) ⟨_,Try.underlying100,trivial⟩ (by kernel_rfl) rfl rfl (fun _=>⟨rfl,fun z h=>by cases h;rfl⟩)
def zEv:TD:=⟨.other,1,8,[.nilFunc]⟩
theorem zJm:zEv.Fits Try.prog 101:=zai (z:=.nilFunc) ⟨_,Try.underlying101,trivial⟩ (by kernel_rfl) rfl rfl (fun _=>⟨rfl,fun z h=>by cases h;rfl⟩)
def zEw:TD:=⟨.other,1,8,[.nilFunc]⟩
theorem zJn:zEw.Fits Try.prog 102:=zai (z:=.nilFunc) ⟨_,Try.underlying102,trivial⟩ (by kernel_rfl) rfl rfl (fun _=>⟨rfl,fun z h=>by cases h;rfl⟩)
def zEx:TD:=⟨.other,1,8,[.nilFunc]⟩
theorem zJo:zEx.Fits Try.prog 103:=zai (z:=.nilFunc) ⟨_,Try.underlying103,trivial⟩ (by kernel_rfl) rfl rfl (fun _=>⟨rfl,fun z h=>by cases h;rfl⟩)
def zEy:TD:=⟨.other,1,8,[.nilFunc]⟩
theorem zJp:zEy.Fits Try.prog 104:=zai (z:=.nilFunc) ⟨_,Try.underlying104,trivial⟩ (by kernel_rfl) rfl rfl (fun _=>⟨rfl,fun z h=>by cases h;rfl⟩)
def zEz:TD:=⟨.other,1,8,[.nilFunc]⟩
theorem zJq:zEz.Fits Try.prog 105:=zai (z:=.nilFunc) ⟨_,Try.underlying105,trivial⟩ (by kernel_rfl) rfl rfl (fun _=>⟨rfl,fun z h=>by cases h;rfl⟩)
def zEA:TD:=⟨.other,1,8,[.nilFunc]⟩
theorem zJr:zEA.Fits Try.prog 106:=zai (z:=.nilFunc) ⟨_,Try.underlying106,trivial⟩ (by kernel_rfl) rfl rfl (fun _=>⟨rfl,fun z h=>by cases h;rfl⟩)
def zEB:TD:=⟨.other,1,8,[.nilFunc]⟩
theorem zJs:zEB.Fits Try.prog 107:=zai (z:=.nilFunc) ⟨_,Try.underlying107,trivial⟩ (by kernel_rfl) rfl rfl (fun _=>⟨rfl,fun z h=>by cases h;rfl⟩)
def zEC:TD:=⟨.other,1,8,[.nilFunc]⟩
theorem zJt:zEC.Fits Try.prog 108:=zai (z:=.nilFunc) ⟨_,Try.underlying108,trivial⟩ (by kernel_rfl) rfl rfl (fun _=>⟨rfl,fun z h=>by cases h;rfl⟩)
def zED:TD:=⟨.other,1,8,[.nilFunc]⟩
theorem zJu:zED.Fits Try.prog 109:=zai (z:=.nilFunc) ⟨_,Try.underlying109,trivial⟩ (by kernel_rfl) rfl rfl (fun _=>⟨rfl,fun z h=>by cases h;rfl⟩)
def zEE:TD:=⟨.other,1,8,[.nilFunc]⟩
theorem zJv:zEE.Fits Try.prog 111:=zai (z:=.nilFunc) ⟨_,Try.underlying111,trivial⟩ (by kernel_rfl) rfl rfl (fun _=>⟨rfl,fun z h=>by cases h;rfl⟩)
def zEF:TD:=⟨.other,1,8,[.nilFunc]⟩
theorem zJw:zEF.Fits Try.prog 112:=zai (z:=.nilFunc) ⟨_,Try.underlying112,trivial⟩ (by kernel_rfl) rfl rfl (fun _=>⟨rfl,fun z h=>by cases h;rfl⟩)
def zEG:TD:=⟨.other,1,8,[.nilFunc]⟩
theorem zJx:zEG.Fits Try.prog 113:=zai (z:=.nilFunc) ⟨_,Try.underlying113,trivial⟩ (by kernel_rfl) rfl rfl (fun _=>⟨rfl,fun z h=>by cases h;rfl⟩)
def zEH:TD:=⟨.struct [(0,31),(1,3),(2,3)],3,40,[.slice none 0 0,.int .i64 0,.int .i64 0]⟩
theorem zJy:zEH.Fits Try.prog 114:=zai (z:=.agg #[.slice none 0 0,.int .i64 0,.int .i64 0]) ⟨_,Try.underlying114,rfl⟩ (by kernel_rfl) rfl rfl (fun h=>by cases h)
def zEI:TD:=⟨.struct [(0,31),(1,3),(2,3)],3,40,[.slice none 0 0,.int .i64 0,.int .i64 0]⟩
theorem zJz:zEI.Fits Try.prog 115:=zai (z:=.agg #[.slice none 0 0,.int .i64 0,.int .i64 0]) ⟨_,Try.underlying115,rfl⟩ (by kernel_rfl) rfl rfl (fun h=>by cases h)
def zEJ:TD:=⟨.other,1,8,[.nilFunc]⟩
theorem zJA:zEJ.Fits Try.prog 116:=zai (z:=.nilFunc) ⟨_,Try.underlying116,trivial⟩ (by kernel_rfl) rfl rfl (fun _=>⟨rfl,fun z h=>by cases h;rfl⟩)
def zEK:TD:=⟨.other,1,8,[.nilFunc]⟩
theorem zJB:zEK.Fits Try.prog 117:=zai (z:=.nilFunc) ⟨_,Try.underlying117,trivial⟩ (by kernel_rfl) rfl rfl (fun _=>⟨rfl,fun z h=>by cases h;rfl⟩)
def zEL:TD:=⟨.other,1,8,[.nilFunc]⟩
theorem zJC:zEL.Fits Try.prog 118:=zai (z:=.nilFunc) ⟨_,Try.underlying118,trivial⟩ (by kernel_rfl) rfl rfl (fun _=>⟨rfl,fun z h=>by cases h;rfl⟩)
def zEM:TD:=⟨.other,1,8,[.nilFunc]⟩
theorem zJD:zEM.Fits Try.prog 119:=zai (z:=.nilFunc) ⟨_,Try.underlying119,trivial⟩ (by kernel_rfl) rfl rfl (fun _=>⟨rfl,fun z h=>by cases h;rfl⟩)
def zEN:TD:=⟨.other,1,8,[.nilFunc]⟩
theorem zJE:zEN.Fits Try.prog 120:=zai (z:=.nilFunc) ⟨_,Try.underlying120,trivial⟩ (by kernel_rfl) rfl rfl (fun _=>⟨rfl,fun z h=>by cases h;rfl⟩)
def zEO:TD:=⟨.other,1,8,[.nilFunc]⟩
theorem zJF:zEO.Fits Try.prog 121:=zai (z:=.nilFunc) ⟨_,Try.underlying121,trivial⟩ (by kernel_rfl) rfl rfl (fun _=>⟨rfl,fun z h=>by cases h;rfl⟩)
def zEP:TD:=⟨.other,1,8,[.nilFunc]⟩
theorem zJG:zEP.Fits Try.prog 122:=zai (z:=.nilFunc) ⟨_,Try.underlying122,trivial⟩ (by kernel_rfl) rfl rfl (fun _=>⟨rfl,fun z h=>by cases h;rfl⟩)
def zEQ:TD:=⟨.other,1,8,[.nilFunc]⟩
theorem zJH:zEQ.Fits Try.prog 123:=zai (z:=.nilFunc) ⟨_,Try.underlying123,trivial⟩ (by kernel_rfl) rfl rfl (fun _=>⟨rfl,fun z h=>by cases h;rfl⟩)
def zER:TD:=⟨.other,1,8,[.nilFunc]⟩
theorem zJI:zER.Fits Try.prog 124:=zai (z:=.nilFunc) ⟨_,Try.underlying124,trivial⟩ (by kernel_rfl) rfl rfl (fun _=>⟨rfl,fun z h=>by cases h;rfl⟩)
def zES:TD:=⟨.other,1,8,[.nilFunc]⟩
theorem zJJ:zES.Fits Try.prog 125:=zai (z:=.nilFunc) ⟨_,Try.underlying125,trivial⟩ (by kernel_rfl) rfl rfl (fun _=>⟨rfl,fun z h=>by cases h;rfl⟩)
def zET:TD:=⟨.other,1,8,[.nilFunc]⟩
theorem zJK:zET.Fits Try.prog 126:=zai (z:=.nilFunc) ⟨_,Try.underlying126,trivial⟩ (by kernel_rfl) rfl rfl (fun _=>⟨rfl,fun z h=>by cases h;rfl⟩)
def zEU:TD:=⟨.other,1,8,[.nilFunc]⟩
theorem zJL:zEU.Fits Try.prog 127:=zai (z:=.nilFunc) ⟨_,Try.underlying127,trivial⟩ (by kernel_rfl) rfl rfl (fun _=>⟨rfl,fun z h=>by cases h;rfl⟩)
def zEV:TD:=⟨.sli 9,1,24,[.slice none 0 0]⟩
theorem zJM:zEV.Fits Try.prog 128:=zai (z:=.slice none 0 0) (show Try.prog.underlying 128 = some (TypeDesc.slice 9) by kernel_rfl) (by kernel_rfl) rfl rfl (fun _=>⟨rfl,fun z h=>by cases h;rfl⟩)
def zEW:TD:=⟨.other,1,8,[.nilFunc]⟩
theorem zJN:zEW.Fits Try.prog 129:=zai (z:=.nilFunc) ⟨_,Try.underlying129,trivial⟩ (by kernel_rfl) rfl rfl (fun _=>⟨rfl,fun z h=>by cases h;rfl⟩)
def zEX:TD:=⟨.other,1,8,[.nilFunc]⟩
theorem zJO:zEX.Fits Try.prog 130:=zai (z:=.nilFunc) ⟨_,Try.underlying130,trivial⟩ (by kernel_rfl) rfl rfl (fun _=>⟨rfl,fun z h=>by cases h;rfl⟩)
def zEY:TD:=⟨.other,1,8,[.nilFunc]⟩
theorem zJP:zEY.Fits Try.prog 131:=zai (z:=.nilFunc) ⟨_,Try.underlying131,trivial⟩ (by kernel_rfl) rfl rfl (fun _=>⟨rfl,fun z h=>by cases h;rfl⟩)
def zEZ:TD:=⟨.other,1,8,[.nilFunc]⟩
theorem zJQ:zEZ.Fits Try.prog 132:=zai (z:=.nilFunc) ⟨_,Try.underlying132,trivial⟩ (by kernel_rfl) rfl rfl (fun _=>⟨rfl,fun z h=>by cases h;rfl⟩)
def zE0:TD:=⟨.other,1,8,[.nilFunc]⟩
theorem zJR:zE0.Fits Try.prog 133:=zai (z:=.nilFunc) ⟨_,Try.underlying133,trivial⟩ (by kernel_rfl) rfl rfl (fun _=>⟨rfl,fun z h=>by cases h;rfl⟩)
def zE1:TD:=⟨.other,1,8,[.nilFunc]⟩
theorem zJS:zE1.Fits Try.prog 135:=zai (z:=.nilFunc) ⟨_,Try.underlying135,trivial⟩ (by kernel_rfl) rfl rfl (fun _=>⟨rfl,fun z h=>by cases h;rfl⟩)
def zE2:TD:=⟨.other,1,8,[.nilFunc]⟩
theorem zJT:zE2.Fits Try.prog 136:=zai (z:=.nilFunc) ⟨_,Try.underlying136,trivial⟩ (by kernel_rfl) rfl rfl (fun _=>⟨rfl,fun z h=>by cases h;rfl⟩)
def zE3:TD:=⟨.other,1,8,[.nilFunc]⟩
theorem zJU:zE3.Fits Try.prog 138:=zai (z:=.nilFunc) ⟨_,Try.underlying138,trivial⟩ (by kernel_rfl) rfl rfl (fun _=>⟨rfl,fun z h=>by cases h;rfl⟩)
def zE4:TD:=⟨.other,1,8,[.nilFunc]⟩
theorem zJV:zE4.Fits Try.prog 139:=zai (z:=.nilFunc) ⟨_,Try.underlying139,trivial⟩ (by kernel_rfl) rfl rfl (fun _=>⟨rfl,fun z h=>by cases h;rfl⟩)
def zE5:TD:=⟨.int .u32,1,4,[.int .u32 0]⟩
theorem zJW:zE5.Fits Try.prog 140:=zai (z:=.int .u32 0) (show Try.prog.underlying 140 = some (TypeDesc.int .u32) by kernel_rfl) (by kernel_rfl) rfl rfl (fun _=>⟨rfl,fun z h=>by cases h;rfl⟩)
def zE6:TD:=⟨.other,1,8,[.nilFunc]⟩
theorem zJX:zE6.Fits Try.prog 141:=zai (z:=.nilFunc) ⟨_,Try.underlying141,trivial⟩ (by kernel_rfl) rfl rfl (fun _=>⟨rfl,fun z h=>by cases h;rfl⟩)
def zE7:TD:=⟨.other,1,8,[.nilFunc]⟩
theorem zJY:zE7.Fits Try.prog 142:=zai (z:=.nilFunc) ⟨_,Try.underlying142,trivial⟩ (by kernel_rfl) rfl rfl (fun _=>⟨rfl,fun z h=>by cases h;rfl⟩)
def zE8:TD:=⟨.other,1,8,[.nilFunc]⟩
theorem zJZ:zE8.Fits Try.prog 143:=zai (z:=.nilFunc) ⟨_,Try.underlying143,trivial⟩ (by kernel_rfl) rfl rfl (fun _=>⟨rfl,fun z h=>by cases h;rfl⟩)
def zE9:TD:=⟨.other,1,8,[.nilFunc]⟩
theorem zJ0:zE9.Fits Try.prog 145:=zai (z:=.nilFunc) ⟨_,Try.underlying145,trivial⟩ (by kernel_rfl) rfl rfl (fun _=>⟨rfl,fun z h=>by cases h;rfl⟩)
def zFa:TD:=⟨.sli 4,1,24,[.slice none 0 0]⟩
theorem zJ1:zFa.Fits Try.prog 146:=zai (z:=.slice none 0 0) (show Try.prog.underlying 146 = some (TypeDesc.slice 4) by kernel_rfl) (by kernel_rfl) rfl rfl (fun _=>⟨rfl,fun z h=>by cases h;rfl⟩)
def zFb:TD:=⟨.other,1,8,[.nilFunc]⟩
theorem zJ2:zFb.Fits Try.prog 147:=zai (z:=.nilFunc) ⟨_,Try.underlying147,trivial⟩ (by kernel_rfl) rfl rfl (fun _=>⟨rfl,fun z h=>by cases h;rfl⟩)
def zFc:TD:=⟨.other,1,8,[.nilFunc]⟩
theorem zJ3:zFc.Fits Try.prog 148:=zai (z:=.nilFunc) ⟨_,Try.underlying148,trivial⟩ (by kernel_rfl) rfl rfl (fun _=>⟨rfl,fun z h=>by cases h;rfl⟩)
def zFd:TD:=⟨.other,1,8,[.nilFunc]⟩
theorem zJ4:zFd.Fits Try.prog 149:=zai (z:=.nilFunc) ⟨_,Try.underlying149,trivial⟩ (by kernel_rfl) rfl rfl (fun _=>⟨rfl,fun z h=>by cases h;rfl⟩)
def zFe:TD:=⟨.other,1,8,[.nilFunc]⟩
theorem zJ5:zFe.Fits Try.prog 150:=zai (z:=.nilFunc) ⟨_,Try.underlying150,trivial⟩ (by kernel_rfl) rfl rfl (fun _=>⟨rfl,fun z h=>by cases h;rfl⟩)
def zFf:TD:=⟨.other,1,8,[.nilFunc]⟩
theorem zJ6:zFf.Fits Try.prog 151:=zai (z:=.nilFunc) ⟨_,Try.underlying151,trivial⟩ (by kernel_rfl) rfl rfl (fun _=>⟨rfl,fun z h=>by cases h;rfl⟩)
def zFg:TD:=⟨.other,1,8,[.nilFunc]⟩
theorem zJ7:zFg.Fits Try.prog 152:=zai (z:=.nilFunc) ⟨_,Try.underlying152,trivial⟩ (by kernel_rfl) rfl rfl (fun _=>⟨rfl,fun z h=>by cases h;rfl⟩)
def zFh:TD:=⟨.other,1,8,[.nilFunc]⟩
theorem zJ8:zFh.Fits Try.prog 153:=zai (z:=.nilFunc) ⟨_,Try.underlying153,trivial⟩ (by kernel_rfl) rfl rfl (fun _=>⟨rfl,fun z h=>by cases h;rfl⟩)
def zFi:TD:=⟨.int .i64,1,8,[.int .i64 0]⟩
theorem zJ9:zFi.Fits Try.prog 154:=zai (z:=.int .i64 0) (show Try.prog.underlying 154 = some (TypeDesc.int .i64) by kernel_rfl) (by kernel_rfl) rfl rfl (fun _=>⟨rfl,fun z h=>by cases h;rfl⟩)
def zFj:TD:=⟨.other,1,8,[.nilFunc]⟩
theorem zKa:zFj.Fits Try.prog 156:=zai (z:=.nilFunc) ⟨_,Try.underlying156,trivial⟩ (by kernel_rfl) rfl rfl (fun _=>⟨rfl,fun z h=>by cases h;rfl⟩)
def zFk:TD:=⟨.other,1,8,[.nilFunc]⟩
theorem zKb:zFk.Fits Try.prog 157:=zai (z:=.nilFunc) ⟨_,Try.underlying157,trivial⟩ (by kernel_rfl) rfl rfl (fun _=>⟨rfl,fun z h=>by cases h;rfl⟩)
def zFl:TD:=⟨.other,1,8,[.nilFunc]⟩
theorem zKc:zFl.Fits Try.prog 158:=zai (z:=.nilFunc) ⟨_,Try.underlying158,trivial⟩ (by kernel_rfl) rfl rfl (fun _=>⟨rfl,fun z h=>by cases h;rfl⟩)
def zFm:TD:=⟨.other,1,8,[.nilFunc]⟩
theorem zKd:zFm.Fits Try.prog 159:=zai (z:=.nilFunc) ⟨_,Try.underlying159,trivial⟩ (by kernel_rfl) rfl rfl (fun _=>⟨rfl,fun z h=>by cases h;rfl⟩)
def zFn:TD:=⟨.int .u64,1,8,[.int .u64 0]⟩
theorem zKe:zFn.Fits Try.prog 160:=zai (z:=.int .u64 0) (show Try.prog.underlying 160 = some (TypeDesc.int .u64) by kernel_rfl) (by kernel_rfl) rfl rfl (fun _=>⟨rfl,fun z h=>by cases h;rfl⟩)
def zFo:TD:=⟨.other,1,8,[.nilFunc]⟩
theorem zKf:zFo.Fits Try.prog 161:=zai (z:=.nilFunc) ⟨_,Try.underlying161,trivial⟩ (by kernel_rfl) rfl rfl (fun _=>⟨rfl,fun z h=>by cases h;rfl⟩)
def zFp:TD:=⟨.other,1,8,[.nilFunc]⟩
theorem zKg:zFp.Fits Try.prog 162:=zai (z:=.nilFunc) ⟨_,Try.underlying162,trivial⟩ (by kernel_rfl) rfl rfl (fun _=>⟨rfl,fun z h=>by cases h;rfl⟩)
def zFq:TD:=⟨.other,1,8,[.nilFunc]⟩
theorem zKh:zFq.Fits Try.prog 163:=zai (z:=.nilFunc) ⟨_,Try.underlying163,trivial⟩ (by kernel_rfl) rfl rfl (fun _=>⟨rfl,fun z h=>by cases h;rfl⟩)
def zFr:TD:=⟨.other,1,8,[.pointer none]⟩
theorem zKi:zFr.Fits Try.prog 164:=zai (z:=.pointer none) ⟨_,Try.underlying164,trivial⟩ (by kernel_rfl) rfl rfl (fun _=>⟨rfl,fun z h=>by cases h;rfl⟩)
def zFs:TD:=⟨.other,1,8,[.nilFunc]⟩
theorem zKj:zFs.Fits Try.prog 165:=zai (z:=.nilFunc) ⟨_,Try.underlying165,trivial⟩ (by kernel_rfl) rfl rfl (fun _=>⟨rfl,fun z h=>by cases h;rfl⟩)
def zFt:TD:=⟨.other,1,8,[.pointer none]⟩
theorem zKk:zFt.Fits Try.prog 166:=zai (z:=.pointer none) ⟨_,Try.underlying166,trivial⟩ (by kernel_rfl) rfl rfl (fun _=>⟨rfl,fun z h=>by cases h;rfl⟩)
def zFu:TD:=⟨.other,1,8,[.nilFunc]⟩
theorem zKl:zFu.Fits Try.prog 168:=zai (z:=.nilFunc) ⟨_,Try.underlying168,trivial⟩ (by kernel_rfl) rfl rfl (fun _=>⟨rfl,fun z h=>by cases h;rfl⟩)
def zFv:TD:=⟨.other,1,8,[.nilFunc]⟩
theorem zKm:zFv.Fits Try.prog 169:=zai (z:=.nilFunc) ⟨_,Try.underlying169,trivial⟩ (by kernel_rfl) rfl rfl (fun _=>⟨rfl,fun z h=>by cases h;rfl⟩)
def zFw:TD:=⟨.other,1,8,[.nilFunc]⟩
theorem zKn:zFw.Fits Try.prog 177:=zai (z:=.nilFunc) ⟨_,Try.underlying177,trivial⟩ (by kernel_rfl) rfl rfl (fun _=>⟨rfl,fun z h=>by cases h;rfl⟩)
def zFx:TD:=⟨.other,1,8,[.pointer none]⟩
theorem zKo:zFx.Fits Try.prog 178:=zai (z:=.pointer none) ⟨_,Try.underlying178,trivial⟩ (by kernel_rfl) rfl rfl (fun _=>⟨rfl,fun z h=>by cases h;rfl⟩)
def zHH:List (Nat × TD):=[(1,D1),(2,D2),(3,D3),(4,D4),(5,D5),(9,D9),(12,D12),(13,D13),(21,D21),(22,D22),(23,D23),(24,D24),(25,D25),(26,D26),(27,D27),(28,D28),(29,D29),(30,D30),(31,D31),(32,D32),(33,D33),(34,D34),(35,D35),(36,D36),(37,D37),(38,D38),(40,D40),(41,D41),(43,D43),(44,D44),(45,D45),(47,D47),(48,D48),(49,D49),(50,D50),(51,D51),(52,D52),(53,D53),(55,D55),(56,D56),(57,D57),(58,D58),(60,D60),(61,D61),(63,D63),(64,D64),(65,D65),(66,D66),(67,D67),(69,D69),(70,D70),(71,D71),(72,D72),(73,D73),(74,D74),(75,D75),(76,D76),(77,D77),(78,D78),(79,D79)]
def zHI:List (Nat × TD):=[(80,D80),(81,D81),(82,D82),(83,D83),(84,D84),(85,D85),(86,D86),(87,D87),(88,D88),(89,D89),(90,D90),(91,D91),(92,D92),(93,D93),(94,D94),(95,D95),(96,D96),(97,D97),(98,D98),(99,D99),(100,zEu),(101,zEv),(102,zEw),(103,zEx),(104,zEy),(105,zEz),(106,zEA),(107,zEB),(108,zEC),(109,zED),(111,zEE),(112,zEF),(113,zEG),(114,zEH),(115,zEI),(116,zEJ),(117,zEK),(118,zEL),(119,zEM),(120,zEN),(121,zEO),(122,zEP),(123,zEQ),(124,zER),(125,zES),(126,zET),(127,zEU),(128,zEV),(129,zEW),(130,zEX),(131,zEY),(132,zEZ),(133,zE0),(135,zE1),(136,zE2),(138,zE3),(139,zE4),(140,zE5),(141,zE6),(142,zE7)]
def zHJ:List (Nat × TD):=[(143,zE8),(145,zE9),(146,zFa),(147,zFb),(148,zFc),(149,zFd),(150,zFe),(151,zFf),(152,zFg),(153,zFh),(154,zFi),(156,zFj),(157,zFk),(158,zFl),(159,zFm),(160,zFn),(161,zFo),(162,zFp),(163,zFq),(164,zFr),(165,zFs),(166,zFt),(168,zFu),(169,zFv),(177,zFw),(178,zFx)]
def tab:List (Nat × TD):=zHH ++ zHI ++ zHJ
def T:Tab:=fun t=>((tab.find? fun x=>x.1 == t).map (·.2)).getD ⟨.other,0,0,[]⟩
theorem zaf {a b:TD} (h:a = b):a.k = b.k∧a.size = b.size∧a.bytes = b.bytes∧a.zero = b.zero:=by subst h;exact ⟨rfl,rfl,rfl,rfl⟩
theorem T1k:(T 1).k = .other:=(zaf (show T 1 = D1 from rfl)).1
theorem T1s:(T 1).size = 1:=(zaf (show T 1 = D1 from rfl)).2.1
theorem T1b:(T 1).bytes = 8:=(zaf (show T 1 = D1 from rfl)).2.2.1
theorem T1z:(T 1).zero = [.nilFunc]:=(zaf (show T 1 = D1 from rfl)).2.2.2
theorem T2k:(T 2).k = .int .i64:=(zaf (show T 2 = D2 from rfl)).1
theorem T2s:(T 2).size = 1:=(zaf (show T 2 = D2 from rfl)).2.1
theorem T2b:(T 2).bytes = 8:=(zaf (show T 2 = D2 from rfl)).2.2.1
theorem T2z:(T 2).zero = [.int .i64 0]:=(zaf (show T 2 = D2 from rfl)).2.2.2
theorem T3k:(T 3).k = .int .i64:=(zaf (show T 3 = D3 from rfl)).1
theorem T3s:(T 3).size = 1:=(zaf (show T 3 = D3 from rfl)).2.1
theorem T3b:(T 3).bytes = 8:=(zaf (show T 3 = D3 from rfl)).2.2.1
theorem T3z:(T 3).zero = [.int .i64 0]:=(zaf (show T 3 = D3 from rfl)).2.2.2
theorem T4k:(T 4).k = .bool:=(zaf (show T 4 = D4 from rfl)).1
theorem T4s:(T 4).size = 1:=(zaf (show T 4 = D4 from rfl)).2.1
theorem T4b:(T 4).bytes = 1:=(zaf (show T 4 = D4 from rfl)).2.2.1
theorem T4z:(T 4).zero = [.bool false]:=(zaf (show T 4 = D4 from rfl)).2.2.2
theorem T5k:(T 5).k = .int .u8:=(zaf (show T 5 = D5 from rfl)).1
theorem T5s:(T 5).size = 1:=(zaf (show T 5 = D5 from rfl)).2.1
theorem T5b:(T 5).bytes = 1:=(zaf (show T 5 = D5 from rfl)).2.2.1
theorem T5z:(T 5).zero = [.int .u8 0]:=(zaf (show T 5 = D5 from rfl)).2.2.2
theorem T9k:(T 9).k = .str:=(zaf (show T 9 = D9 from rfl)).1
theorem T9s:(T 9).size = 1:=(zaf (show T 9 = D9 from rfl)).2.1
theorem T9b:(T 9).bytes = 16:=(zaf (show T 9 = D9 from rfl)).2.2.1
theorem T9z:(T 9).zero = [.string ⟨#[]⟩]:=(zaf (show T 9 = D9 from rfl)).2.2.2
theorem zIh:(T 12).k = .int .u64:=(zaf (show T 12 = D12 from rfl)).1
theorem zIi:(T 12).size = 1:=(zaf (show T 12 = D12 from rfl)).2.1
theorem zIj:(T 12).bytes = 8:=(zaf (show T 12 = D12 from rfl)).2.2.1
theorem zIk:(T 12).zero = [.int .u64 0]:=(zaf (show T 12 = D12 from rfl)).2.2.2
theorem zIl:(T 13).k = .struct [(0,9),(1,12)]:=(zaf (show T 13 = D13 from rfl)).1
theorem zIm:(T 13).size = 2:=(zaf (show T 13 = D13 from rfl)).2.1
theorem zIn:(T 13).bytes = 24:=(zaf (show T 13 = D13 from rfl)).2.2.1
theorem zIo:(T 13).zero = [.string ⟨#[]⟩,.int .u64 0]:=(zaf (show T 13 = D13 from rfl)).2.2.2
theorem zIp:(T 21).k = .int .i32:=(zaf (show T 21 = D21 from rfl)).1
theorem zIq:(T 21).size = 1:=(zaf (show T 21 = D21 from rfl)).2.1
theorem zIr:(T 21).bytes = 4:=(zaf (show T 21 = D21 from rfl)).2.2.1
theorem zIs:(T 21).zero = [.int .i32 0]:=(zaf (show T 21 = D21 from rfl)).2.2.2
theorem zIt:(T 22).k = .sli 3:=(zaf (show T 22 = D22 from rfl)).1
theorem zIu:(T 22).size = 1:=(zaf (show T 22 = D22 from rfl)).2.1
theorem zIv:(T 22).bytes = 24:=(zaf (show T 22 = D22 from rfl)).2.2.1
theorem zIw:(T 22).zero = [.slice none 0 0]:=(zaf (show T 22 = D22 from rfl)).2.2.2
theorem zIx:(T 23).k = .struct [(0,3),(1,22)]:=(zaf (show T 23 = D23 from rfl)).1
theorem zIy:(T 23).size = 2:=(zaf (show T 23 = D23 from rfl)).2.1
theorem zIz:(T 23).bytes = 32:=(zaf (show T 23 = D23 from rfl)).2.2.1
theorem zIA:(T 23).zero = [.int .i64 0,.slice none 0 0]:=(zaf (show T 23 = D23 from rfl)).2.2.2
theorem zIB:(T 24).k = .struct [(0,3),(1,22)]:=(zaf (show T 24 = D24 from rfl)).1
theorem zIC:(T 24).size = 2:=(zaf (show T 24 = D24 from rfl)).2.1
theorem zID:(T 24).bytes = 32:=(zaf (show T 24 = D24 from rfl)).2.2.1
theorem zIE:(T 24).zero = [.int .i64 0,.slice none 0 0]:=(zaf (show T 24 = D24 from rfl)).2.2.2
theorem zOm:(T 25).k = .other:=(zaf (show T 25 = D25 from rfl)).1
theorem zOn:(T 25).size = 1:=(zaf (show T 25 = D25 from rfl)).2.1
theorem zOo:(T 25).bytes = 8:=(zaf (show T 25 = D25 from rfl)).2.2.1
theorem zOp:(T 25).zero = [.nilFunc]:=(zaf (show T 25 = D25 from rfl)).2.2.2
theorem zOq:(T 26).k = .other:=(zaf (show T 26 = D26 from rfl)).1
theorem zOr:(T 26).size = 1:=(zaf (show T 26 = D26 from rfl)).2.1
theorem zOs:(T 26).bytes = 8:=(zaf (show T 26 = D26 from rfl)).2.2.1
theorem zOt:(T 26).zero = [.nilFunc]:=(zaf (show T 26 = D26 from rfl)).2.2.2
theorem zIF:(T 27).k = .struct [(0,3),(1,22)]:=(zaf (show T 27 = D27 from rfl)).1
theorem zIG:(T 27).size = 2:=(zaf (show T 27 = D27 from rfl)).2.1
theorem zIH:(T 27).bytes = 32:=(zaf (show T 27 = D27 from rfl)).2.2.1
theorem zII:(T 27).zero = [.int .i64 0,.slice none 0 0]:=(zaf (show T 27 = D27 from rfl)).2.2.2
theorem zOu:(T 28).k = .other:=(zaf (show T 28 = D28 from rfl)).1
theorem zOv:(T 28).size = 1:=(zaf (show T 28 = D28 from rfl)).2.1
theorem zOw:(T 28).bytes = 8:=(zaf (show T 28 = D28 from rfl)).2.2.1
theorem zOx:(T 28).zero = [.nilFunc]:=(zaf (show T 28 = D28 from rfl)).2.2.2
theorem zOy:(T 29).k = .other:=(zaf (show T 29 = D29 from rfl)).1
theorem zOz:(T 29).size = 1:=(zaf (show T 29 = D29 from rfl)).2.1
theorem zOA:(T 29).bytes = 8:=(zaf (show T 29 = D29 from rfl)).2.2.1
theorem zOB:(T 29).zero = [.nilFunc]:=(zaf (show T 29 = D29 from rfl)).2.2.2
theorem zOC:(T 30).k = .other:=(zaf (show T 30 = D30 from rfl)).1
theorem zOD:(T 30).size = 1:=(zaf (show T 30 = D30 from rfl)).2.1
theorem zOE:(T 30).bytes = 8:=(zaf (show T 30 = D30 from rfl)).2.2.1
theorem zOF:(T 30).zero = [.nilFunc]:=(zaf (show T 30 = D30 from rfl)).2.2.2
theorem zHK:(T 31).k = .sli 5:=(zaf (show T 31 = D31 from rfl)).1
theorem zHL:(T 31).size = 1:=(zaf (show T 31 = D31 from rfl)).2.1
theorem zIJ:(T 31).bytes = 24:=(zaf (show T 31 = D31 from rfl)).2.2.1
theorem zIK:(T 31).zero = [.slice none 0 0]:=(zaf (show T 31 = D31 from rfl)).2.2.2
theorem zOG:(T 32).k = .other:=(zaf (show T 32 = D32 from rfl)).1
theorem zOH:(T 32).size = 1:=(zaf (show T 32 = D32 from rfl)).2.1
theorem zOI:(T 32).bytes = 8:=(zaf (show T 32 = D32 from rfl)).2.2.1
theorem zOJ:(T 32).zero = [.nilFunc]:=(zaf (show T 32 = D32 from rfl)).2.2.2
theorem zIL:(T 33).k = .sli 22:=(zaf (show T 33 = D33 from rfl)).1
theorem zIM:(T 33).size = 1:=(zaf (show T 33 = D33 from rfl)).2.1
theorem zIN:(T 33).bytes = 24:=(zaf (show T 33 = D33 from rfl)).2.2.1
theorem zIO:(T 33).zero = [.slice none 0 0]:=(zaf (show T 33 = D33 from rfl)).2.2.2
theorem zIP:(T 34).k = .struct [(0,33)]:=(zaf (show T 34 = D34 from rfl)).1
theorem zIQ:(T 34).size = 1:=(zaf (show T 34 = D34 from rfl)).2.1
theorem zIR:(T 34).bytes = 24:=(zaf (show T 34 = D34 from rfl)).2.2.1
theorem zIS:(T 34).zero = [.slice none 0 0]:=(zaf (show T 34 = D34 from rfl)).2.2.2
theorem zIT:(T 35).k = .struct [(0,33)]:=(zaf (show T 35 = D35 from rfl)).1
theorem zIU:(T 35).size = 1:=(zaf (show T 35 = D35 from rfl)).2.1
theorem zIV:(T 35).bytes = 24:=(zaf (show T 35 = D35 from rfl)).2.2.1
theorem zIW:(T 35).zero = [.slice none 0 0]:=(zaf (show T 35 = D35 from rfl)).2.2.2
theorem zOK:(T 36).k = .other:=(zaf (show T 36 = D36 from rfl)).1
theorem zOL:(T 36).size = 1:=(zaf (show T 36 = D36 from rfl)).2.1
theorem zOM:(T 36).bytes = 8:=(zaf (show T 36 = D36 from rfl)).2.2.1
theorem zON:(T 36).zero = [.nilFunc]:=(zaf (show T 36 = D36 from rfl)).2.2.2
theorem zIX:(T 37).k = .struct [(0,3),(1,22)]:=(zaf (show T 37 = D37 from rfl)).1
theorem zIY:(T 37).size = 2:=(zaf (show T 37 = D37 from rfl)).2.1
theorem zIZ:(T 37).bytes = 32:=(zaf (show T 37 = D37 from rfl)).2.2.1
theorem zI0:(T 37).zero = [.int .i64 0,.slice none 0 0]:=(zaf (show T 37 = D37 from rfl)).2.2.2
theorem zI1:(T 38).k = .struct [(0,3),(1,22)]:=(zaf (show T 38 = D38 from rfl)).1
theorem zI2:(T 38).size = 2:=(zaf (show T 38 = D38 from rfl)).2.1
theorem zI3:(T 38).bytes = 32:=(zaf (show T 38 = D38 from rfl)).2.2.1
theorem zI4:(T 38).zero = [.int .i64 0,.slice none 0 0]:=(zaf (show T 38 = D38 from rfl)).2.2.2
theorem zOO:(T 40).k = .other:=(zaf (show T 40 = D40 from rfl)).1
theorem zOP:(T 40).size = 1:=(zaf (show T 40 = D40 from rfl)).2.1
theorem zOQ:(T 40).bytes = 8:=(zaf (show T 40 = D40 from rfl)).2.2.1
theorem zOR:(T 40).zero = [.nilFunc]:=(zaf (show T 40 = D40 from rfl)).2.2.2
theorem zOS:(T 41).k = .other:=(zaf (show T 41 = D41 from rfl)).1
theorem zOT:(T 41).size = 1:=(zaf (show T 41 = D41 from rfl)).2.1
theorem zOU:(T 41).bytes = 8:=(zaf (show T 41 = D41 from rfl)).2.2.1
theorem zOV:(T 41).zero = [.nilFunc]:=(zaf (show T 41 = D41 from rfl)).2.2.2
theorem zOW:(T 43).k = .other:=(zaf (show T 43 = D43 from rfl)).1
theorem zOX:(T 43).size = 1:=(zaf (show T 43 = D43 from rfl)).2.1
theorem zOY:(T 43).bytes = 8:=(zaf (show T 43 = D43 from rfl)).2.2.1
theorem zOZ:(T 43).zero = [.nilFunc]:=(zaf (show T 43 = D43 from rfl)).2.2.2
theorem zO0:(T 44).k = .other:=(zaf (show T 44 = D44 from rfl)).1
theorem zO1:(T 44).size = 1:=(zaf (show T 44 = D44 from rfl)).2.1
theorem zO2:(T 44).bytes = 8:=(zaf (show T 44 = D44 from rfl)).2.2.1
theorem zO3:(T 44).zero = [.nilFunc]:=(zaf (show T 44 = D44 from rfl)).2.2.2
theorem zO4:(T 45).k = .other:=(zaf (show T 45 = D45 from rfl)).1
theorem zO5:(T 45).size = 1:=(zaf (show T 45 = D45 from rfl)).2.1
theorem zO6:(T 45).bytes = 8:=(zaf (show T 45 = D45 from rfl)).2.2.1
theorem zO7:(T 45).zero = [.nilFunc]:=(zaf (show T 45 = D45 from rfl)).2.2.2
theorem zO8:(T 47).k = .other:=(zaf (show T 47 = D47 from rfl)).1
theorem zO9:(T 47).size = 1:=(zaf (show T 47 = D47 from rfl)).2.1
theorem zPa:(T 47).bytes = 8:=(zaf (show T 47 = D47 from rfl)).2.2.1
theorem zPb:(T 47).zero = [.nilFunc]:=(zaf (show T 47 = D47 from rfl)).2.2.2
theorem zPc:(T 48).k = .other:=(zaf (show T 48 = D48 from rfl)).1
theorem zPd:(T 48).size = 1:=(zaf (show T 48 = D48 from rfl)).2.1
theorem zPe:(T 48).bytes = 8:=(zaf (show T 48 = D48 from rfl)).2.2.1
theorem zPf:(T 48).zero = [.nilFunc]:=(zaf (show T 48 = D48 from rfl)).2.2.2
theorem zPg:(T 49).k = .other:=(zaf (show T 49 = D49 from rfl)).1
theorem zPh:(T 49).size = 1:=(zaf (show T 49 = D49 from rfl)).2.1
theorem zPi:(T 49).bytes = 8:=(zaf (show T 49 = D49 from rfl)).2.2.1
theorem zPj:(T 49).zero = [.nilFunc]:=(zaf (show T 49 = D49 from rfl)).2.2.2
theorem zPk:(T 50).k = .other:=(zaf (show T 50 = D50 from rfl)).1
theorem zPl:(T 50).size = 1:=(zaf (show T 50 = D50 from rfl)).2.1
theorem zPm:(T 50).bytes = 8:=(zaf (show T 50 = D50 from rfl)).2.2.1
theorem zPn:(T 50).zero = [.nilFunc]:=(zaf (show T 50 = D50 from rfl)).2.2.2
theorem zPo:(T 51).k = .other:=(zaf (show T 51 = D51 from rfl)).1
theorem zPp:(T 51).size = 1:=(zaf (show T 51 = D51 from rfl)).2.1
theorem zPq:(T 51).bytes = 8:=(zaf (show T 51 = D51 from rfl)).2.2.1
theorem zPr:(T 51).zero = [.nilFunc]:=(zaf (show T 51 = D51 from rfl)).2.2.2
theorem zPs:(T 52).k = .other:=(zaf (show T 52 = D52 from rfl)).1
theorem zPt:(T 52).size = 1:=(zaf (show T 52 = D52 from rfl)).2.1
theorem zPu:(T 52).bytes = 8:=(zaf (show T 52 = D52 from rfl)).2.2.1
theorem zPv:(T 52).zero = [.nilFunc]:=(zaf (show T 52 = D52 from rfl)).2.2.2
theorem zPw:(T 53).k = .other:=(zaf (show T 53 = D53 from rfl)).1
theorem zPx:(T 53).size = 1:=(zaf (show T 53 = D53 from rfl)).2.1
theorem zPy:(T 53).bytes = 8:=(zaf (show T 53 = D53 from rfl)).2.2.1
theorem zPz:(T 53).zero = [.nilFunc]:=(zaf (show T 53 = D53 from rfl)).2.2.2
theorem zPA:(T 55).k = .other:=(zaf (show T 55 = D55 from rfl)).1
theorem zPB:(T 55).size = 1:=(zaf (show T 55 = D55 from rfl)).2.1
theorem zPC:(T 55).bytes = 8:=(zaf (show T 55 = D55 from rfl)).2.2.1
theorem zPD:(T 55).zero = [.nilFunc]:=(zaf (show T 55 = D55 from rfl)).2.2.2
theorem zPE:(T 56).k = .other:=(zaf (show T 56 = D56 from rfl)).1
theorem zPF:(T 56).size = 1:=(zaf (show T 56 = D56 from rfl)).2.1
theorem zPG:(T 56).bytes = 8:=(zaf (show T 56 = D56 from rfl)).2.2.1
theorem zPH:(T 56).zero = [.nilFunc]:=(zaf (show T 56 = D56 from rfl)).2.2.2
theorem zPI:(T 57).k = .other:=(zaf (show T 57 = D57 from rfl)).1
theorem zPJ:(T 57).size = 1:=(zaf (show T 57 = D57 from rfl)).2.1
theorem zPK:(T 57).bytes = 8:=(zaf (show T 57 = D57 from rfl)).2.2.1
theorem zPL:(T 57).zero = [.nilFunc]:=(zaf (show T 57 = D57 from rfl)).2.2.2
theorem zPM:(T 58).k = .other:=(zaf (show T 58 = D58 from rfl)).1
theorem zPN:(T 58).size = 1:=(zaf (show T 58 = D58 from rfl)).2.1
theorem zPO:(T 58).bytes = 8:=(zaf (show T 58 = D58 from rfl)).2.2.1
theorem zPP:(T 58).zero = [.nilFunc]:=(zaf (show T 58 = D58 from rfl)).2.2.2
theorem zPQ:(T 60).k = .other:=(zaf (show T 60 = D60 from rfl)).1
theorem zPR:(T 60).size = 1:=(zaf (show T 60 = D60 from rfl)).2.1
theorem zPS:(T 60).bytes = 8:=(zaf (show T 60 = D60 from rfl)).2.2.1
theorem zPT:(T 60).zero = [.nilFunc]:=(zaf (show T 60 = D60 from rfl)).2.2.2
theorem zPU:(T 61).k = .other:=(zaf (show T 61 = D61 from rfl)).1
theorem zPV:(T 61).size = 1:=(zaf (show T 61 = D61 from rfl)).2.1
theorem zPW:(T 61).bytes = 8:=(zaf (show T 61 = D61 from rfl)).2.2.1
theorem zPX:(T 61).zero = [.nilFunc]:=(zaf (show T 61 = D61 from rfl)).2.2.2
theorem zPY:(T 63).k = .other:=(zaf (show T 63 = D63 from rfl)).1
theorem zPZ:(T 63).size = 1:=(zaf (show T 63 = D63 from rfl)).2.1
theorem zP0:(T 63).bytes = 8:=(zaf (show T 63 = D63 from rfl)).2.2.1
theorem zP1:(T 63).zero = [.nilFunc]:=(zaf (show T 63 = D63 from rfl)).2.2.2
theorem zP2:(T 64).k = .other:=(zaf (show T 64 = D64 from rfl)).1
theorem zP3:(T 64).size = 1:=(zaf (show T 64 = D64 from rfl)).2.1
theorem zP4:(T 64).bytes = 8:=(zaf (show T 64 = D64 from rfl)).2.2.1
theorem zP5:(T 64).zero = [.nilFunc]:=(zaf (show T 64 = D64 from rfl)).2.2.2
theorem zP6:(T 65).k = .other:=(zaf (show T 65 = D65 from rfl)).1
theorem zP7:(T 65).size = 1:=(zaf (show T 65 = D65 from rfl)).2.1
theorem zP8:(T 65).bytes = 8:=(zaf (show T 65 = D65 from rfl)).2.2.1
theorem zP9:(T 65).zero = [.nilFunc]:=(zaf (show T 65 = D65 from rfl)).2.2.2
theorem zQa:(T 66).k = .other:=(zaf (show T 66 = D66 from rfl)).1
theorem zQb:(T 66).size = 1:=(zaf (show T 66 = D66 from rfl)).2.1
theorem zQc:(T 66).bytes = 8:=(zaf (show T 66 = D66 from rfl)).2.2.1
theorem zQd:(T 66).zero = [.nilFunc]:=(zaf (show T 66 = D66 from rfl)).2.2.2
theorem zQe:(T 67).k = .other:=(zaf (show T 67 = D67 from rfl)).1
theorem zQf:(T 67).size = 1:=(zaf (show T 67 = D67 from rfl)).2.1
theorem zQg:(T 67).bytes = 8:=(zaf (show T 67 = D67 from rfl)).2.2.1
theorem zQh:(T 67).zero = [.nilFunc]:=(zaf (show T 67 = D67 from rfl)).2.2.2
theorem zQi:(T 69).k = .other:=(zaf (show T 69 = D69 from rfl)).1
theorem zQj:(T 69).size = 1:=(zaf (show T 69 = D69 from rfl)).2.1
theorem zQk:(T 69).bytes = 8:=(zaf (show T 69 = D69 from rfl)).2.2.1
theorem zQl:(T 69).zero = [.nilFunc]:=(zaf (show T 69 = D69 from rfl)).2.2.2
theorem zQm:(T 70).k = .other:=(zaf (show T 70 = D70 from rfl)).1
theorem zQn:(T 70).size = 1:=(zaf (show T 70 = D70 from rfl)).2.1
theorem zQo:(T 70).bytes = 8:=(zaf (show T 70 = D70 from rfl)).2.2.1
theorem zQp:(T 70).zero = [.nilFunc]:=(zaf (show T 70 = D70 from rfl)).2.2.2
theorem zQq:(T 71).k = .other:=(zaf (show T 71 = D71 from rfl)).1
theorem zQr:(T 71).size = 1:=(zaf (show T 71 = D71 from rfl)).2.1
theorem zQs:(T 71).bytes = 8:=(zaf (show T 71 = D71 from rfl)).2.2.1
theorem zQt:(T 71).zero = [.nilFunc]:=(zaf (show T 71 = D71 from rfl)).2.2.2
theorem zQu:(T 72).k = .other:=(zaf (show T 72 = D72 from rfl)).1
theorem zQv:(T 72).size = 1:=(zaf (show T 72 = D72 from rfl)).2.1
theorem zQw:(T 72).bytes = 8:=(zaf (show T 72 = D72 from rfl)).2.2.1
theorem zQx:(T 72).zero = [.nilFunc]:=(zaf (show T 72 = D72 from rfl)).2.2.2
theorem zQy:(T 73).k = .other:=(zaf (show T 73 = D73 from rfl)).1
theorem zQz:(T 73).size = 1:=(zaf (show T 73 = D73 from rfl)).2.1
theorem zQA:(T 73).bytes = 8:=(zaf (show T 73 = D73 from rfl)).2.2.1
theorem zQB:(T 73).zero = [.nilFunc]:=(zaf (show T 73 = D73 from rfl)).2.2.2
theorem zQC:(T 74).k = .other:=(zaf (show T 74 = D74 from rfl)).1
theorem zQD:(T 74).size = 1:=(zaf (show T 74 = D74 from rfl)).2.1
theorem zQE:(T 74).bytes = 8:=(zaf (show T 74 = D74 from rfl)).2.2.1
theorem zQF:(T 74).zero = [.nilFunc]:=(zaf (show T 74 = D74 from rfl)).2.2.2
theorem zQG:(T 75).k = .other:=(zaf (show T 75 = D75 from rfl)).1
theorem zQH:(T 75).size = 1:=(zaf (show T 75 = D75 from rfl)).2.1
theorem zQI:(T 75).bytes = 8:=(zaf (show T 75 = D75 from rfl)).2.2.1
theorem zQJ:(T 75).zero = [.nilFunc]:=(zaf (show T 75 = D75 from rfl)).2.2.2
theorem zQK:(T 76).k = .other:=(zaf (show T 76 = D76 from rfl)).1
theorem zQL:(T 76).size = 1:=(zaf (show T 76 = D76 from rfl)).2.1
theorem zQM:(T 76).bytes = 8:=(zaf (show T 76 = D76 from rfl)).2.2.1
theorem zQN:(T 76).zero = [.pointer none]:=(zaf (show T 76 = D76 from rfl)).2.2.2
theorem zQO:(T 77).k = .other:=(zaf (show T 77 = D77 from rfl)).1
theorem zQP:(T 77).size = 1:=(zaf (show T 77 = D77 from rfl)).2.1
theorem zQQ:(T 77).bytes = 8:=(zaf (show T 77 = D77 from rfl)).2.2.1
theorem zQR:(T 77).zero = [.nilFunc]:=(zaf (show T 77 = D77 from rfl)).2.2.2
theorem zI5:(T 78).k = .int .u64:=(zaf (show T 78 = D78 from rfl)).1
theorem zI6:(T 78).size = 1:=(zaf (show T 78 = D78 from rfl)).2.1
theorem zI7:(T 78).bytes = 8:=(zaf (show T 78 = D78 from rfl)).2.2.1
theorem zI8:(T 78).zero = [.int .u64 0]:=(zaf (show T 78 = D78 from rfl)).2.2.2
theorem zQS:(T 79).k = .other:=(zaf (show T 79 = D79 from rfl)).1
theorem zQT:(T 79).size = 1:=(zaf (show T 79 = D79 from rfl)).2.1
theorem zQU:(T 79).bytes = 8:=(zaf (show T 79 = D79 from rfl)).2.2.1
theorem zQV:(T 79).zero = [.nilFunc]:=(zaf (show T 79 = D79 from rfl)).2.2.2
theorem zQW:(T 80).k = .other:=(zaf (show T 80 = D80 from rfl)).1
theorem zQX:(T 80).size = 1:=(zaf (show T 80 = D80 from rfl)).2.1
theorem zQY:(T 80).bytes = 8:=(zaf (show T 80 = D80 from rfl)).2.2.1
theorem zQZ:(T 80).zero = [.nilFunc]:=(zaf (show T 80 = D80 from rfl)).2.2.2
theorem zQ0:(T 81).k = .other:=(zaf (show T 81 = D81 from rfl)).1
theorem zQ1:(T 81).size = 1:=(zaf (show T 81 = D81 from rfl)).2.1
theorem zQ2:(T 81).bytes = 8:=(zaf (show T 81 = D81 from rfl)).2.2.1
theorem zQ3:(T 81).zero = [.nilFunc]:=(zaf (show T 81 = D81 from rfl)).2.2.2
theorem zI9:(T 82).k = .arr 27 4:=(zaf (show T 82 = D82 from rfl)).1
theorem zJa:(T 82).size = 27:=(zaf (show T 82 = D82 from rfl)).2.1
theorem zJb:(T 82).bytes = 27:=(zaf (show T 82 = D82 from rfl)).2.2.1
theorem zJc:(T 82).zero = ((List.replicate 27 (.bool false))):=(zaf (show T 82 = D82 from rfl)).2.2.2
theorem zQ4:(T 83).k = .other:=(zaf (show T 83 = D83 from rfl)).1
theorem zQ5:(T 83).size = 1:=(zaf (show T 83 = D83 from rfl)).2.1
theorem zQ6:(T 83).bytes = 8:=(zaf (show T 83 = D83 from rfl)).2.2.1
theorem zQ7:(T 83).zero = [.nilFunc]:=(zaf (show T 83 = D83 from rfl)).2.2.2
theorem zQ8:(T 84).k = .other:=(zaf (show T 84 = D84 from rfl)).1
theorem zQ9:(T 84).size = 1:=(zaf (show T 84 = D84 from rfl)).2.1
theorem zRa:(T 84).bytes = 8:=(zaf (show T 84 = D84 from rfl)).2.2.1
theorem zRb:(T 84).zero = [.nilFunc]:=(zaf (show T 84 = D84 from rfl)).2.2.2
theorem zRc:(T 85).k = .other:=(zaf (show T 85 = D85 from rfl)).1
theorem zRd:(T 85).size = 1:=(zaf (show T 85 = D85 from rfl)).2.1
theorem zRe:(T 85).bytes = 8:=(zaf (show T 85 = D85 from rfl)).2.2.1
theorem zRf:(T 85).zero = [.nilFunc]:=(zaf (show T 85 = D85 from rfl)).2.2.2
theorem zRg:(T 86).k = .other:=(zaf (show T 86 = D86 from rfl)).1
theorem zRh:(T 86).size = 1:=(zaf (show T 86 = D86 from rfl)).2.1
theorem zRi:(T 86).bytes = 8:=(zaf (show T 86 = D86 from rfl)).2.2.1
theorem zRj:(T 86).zero = [.nilFunc]:=(zaf (show T 86 = D86 from rfl)).2.2.2
theorem zRk:(T 87).k = .other:=(zaf (show T 87 = D87 from rfl)).1
theorem zRl:(T 87).size = 1:=(zaf (show T 87 = D87 from rfl)).2.1
theorem zRm:(T 87).bytes = 8:=(zaf (show T 87 = D87 from rfl)).2.2.1
theorem zRn:(T 87).zero = [.nilFunc]:=(zaf (show T 87 = D87 from rfl)).2.2.2
theorem zJd:(T 88).k = .arr 3 3:=(zaf (show T 88 = D88 from rfl)).1
theorem zJe:(T 88).size = 3:=(zaf (show T 88 = D88 from rfl)).2.1
theorem zJf:(T 88).bytes = 24:=(zaf (show T 88 = D88 from rfl)).2.2.1
theorem zJg:(T 88).zero = [.int .i64 0,.int .i64 0,.int .i64 0]:=(zaf (show T 88 = D88 from rfl)).2.2.2
theorem zRo:(T 89).k = .other:=(zaf (show T 89 = D89 from rfl)).1
theorem zRp:(T 89).size = 1:=(zaf (show T 89 = D89 from rfl)).2.1
theorem zRq:(T 89).bytes = 8:=(zaf (show T 89 = D89 from rfl)).2.2.1
theorem zRr:(T 89).zero = [.nilFunc]:=(zaf (show T 89 = D89 from rfl)).2.2.2
theorem zRs:(T 90).k = .other:=(zaf (show T 90 = D90 from rfl)).1
theorem zRt:(T 90).size = 1:=(zaf (show T 90 = D90 from rfl)).2.1
theorem zRu:(T 90).bytes = 8:=(zaf (show T 90 = D90 from rfl)).2.2.1
theorem zRv:(T 90).zero = [.nilFunc]:=(zaf (show T 90 = D90 from rfl)).2.2.2
theorem zRw:(T 91).k = .other:=(zaf (show T 91 = D91 from rfl)).1
theorem zRx:(T 91).size = 1:=(zaf (show T 91 = D91 from rfl)).2.1
theorem zRy:(T 91).bytes = 8:=(zaf (show T 91 = D91 from rfl)).2.2.1
theorem zRz:(T 91).zero = [.nilFunc]:=(zaf (show T 91 = D91 from rfl)).2.2.2
theorem zRA:(T 92).k = .other:=(zaf (show T 92 = D92 from rfl)).1
theorem zRB:(T 92).size = 1:=(zaf (show T 92 = D92 from rfl)).2.1
theorem zRC:(T 92).bytes = 8:=(zaf (show T 92 = D92 from rfl)).2.2.1
theorem zRD:(T 92).zero = [.nilFunc]:=(zaf (show T 92 = D92 from rfl)).2.2.2
theorem zRE:(T 93).k = .other:=(zaf (show T 93 = D93 from rfl)).1
theorem zRF:(T 93).size = 1:=(zaf (show T 93 = D93 from rfl)).2.1
theorem zRG:(T 93).bytes = 8:=(zaf (show T 93 = D93 from rfl)).2.2.1
theorem zRH:(T 93).zero = [.nilFunc]:=(zaf (show T 93 = D93 from rfl)).2.2.2
theorem zRI:(T 94).k = .other:=(zaf (show T 94 = D94 from rfl)).1
theorem zRJ:(T 94).size = 1:=(zaf (show T 94 = D94 from rfl)).2.1
theorem zRK:(T 94).bytes = 8:=(zaf (show T 94 = D94 from rfl)).2.2.1
theorem zRL:(T 94).zero = [.nilFunc]:=(zaf (show T 94 = D94 from rfl)).2.2.2
theorem zRM:(T 95).k = .other:=(zaf (show T 95 = D95 from rfl)).1
theorem zRN:(T 95).size = 1:=(zaf (show T 95 = D95 from rfl)).2.1
theorem zRO:(T 95).bytes = 8:=(zaf (show T 95 = D95 from rfl)).2.2.1
theorem zRP:(T 95).zero = [.nilFunc]:=(zaf (show T 95 = D95 from rfl)).2.2.2
theorem zJh:(T 96).k = .int .u64:=(zaf (show T 96 = D96 from rfl)).1
theorem zJi:(T 96).size = 1:=(zaf (show T 96 = D96 from rfl)).2.1
theorem zJj:(T 96).bytes = 8:=(zaf (show T 96 = D96 from rfl)).2.2.1
theorem zJk:(T 96).zero = [.int .u64 0]:=(zaf (show T 96 = D96 from rfl)).2.2.2
theorem zRQ:(T 97).k = .other:=(zaf (show T 97 = D97 from rfl)).1
theorem zRR:(T 97).size = 1:=(zaf (show T 97 = D97 from rfl)).2.1
theorem zRS:(T 97).bytes = 8:=(zaf (show T 97 = D97 from rfl)).2.2.1
theorem zRT:(T 97).zero = [.nilFunc]:=(zaf (show T 97 = D97 from rfl)).2.2.2
theorem zRU:(T 98).k = .other:=(zaf (show T 98 = D98 from rfl)).1
theorem zRV:(T 98).size = 1:=(zaf (show T 98 = D98 from rfl)).2.1
theorem zRW:(T 98).bytes = 8:=(zaf (show T 98 = D98 from rfl)).2.2.1
theorem zRX:(T 98).zero = [.nilFunc]:=(zaf (show T 98 = D98 from rfl)).2.2.2
theorem zRY:(T 99).k = .other:=(zaf (show T 99 = D99 from rfl)).1
theorem zRZ:(T 99).size = 1:=(zaf (show T 99 = D99 from rfl)).2.1
theorem zR0:(T 99).bytes = 8:=(zaf (show T 99 = D99 from rfl)).2.2.1
theorem zR1:(T 99).zero = [.nilFunc]:=(zaf (show T 99 = D99 from rfl)).2.2.2
theorem zKp:(T 100).k = .other:=(zaf (show T 100 = zEu from rfl)).1
theorem zKq:(T 100).size = 1:=(zaf (show T 100 = zEu from rfl)).2.1
theorem zKr:(T 100).bytes = 8:=(zaf (show T 100 = zEu from rfl)).2.2.1
theorem zKs:(T 100).zero = [.nilFunc]:=(zaf (show T 100 = zEu from rfl)).2.2.2
theorem zKt:(T 101).k = .other:=(zaf (show T 101 = zEv from rfl)).1
theorem zKu:(T 101).size = 1:=(zaf (show T 101 = zEv from rfl)).2.1
theorem zKv:(T 101).bytes = 8:=(zaf (show T 101 = zEv from rfl)).2.2.1
theorem zKw:(T 101).zero = [.nilFunc]:=(zaf (show T 101 = zEv from rfl)).2.2.2
theorem zKx:(T 102).k = .other:=(zaf (show T 102 = zEw from rfl)).1
theorem zKy:(T 102).size = 1:=(zaf (show T 102 = zEw from rfl)).2.1
theorem zKz:(T 102).bytes = 8:=(zaf (show T 102 = zEw from rfl)).2.2.1
theorem zKA:(T 102).zero = [.nilFunc]:=(zaf (show T 102 = zEw from rfl)).2.2.2
theorem zKB:(T 103).k = .other:=(zaf (show T 103 = zEx from rfl)).1
theorem zKC:(T 103).size = 1:=(zaf (show T 103 = zEx from rfl)).2.1
theorem zKD:(T 103).bytes = 8:=(zaf (show T 103 = zEx from rfl)).2.2.1
theorem zKE:(T 103).zero = [.nilFunc]:=(zaf (show T 103 = zEx from rfl)).2.2.2
theorem zKF:(T 104).k = .other:=(zaf (show T 104 = zEy from rfl)).1
theorem zKG:(T 104).size = 1:=(zaf (show T 104 = zEy from rfl)).2.1
theorem zKH:(T 104).bytes = 8:=(zaf (show T 104 = zEy from rfl)).2.2.1
theorem zKI:(T 104).zero = [.nilFunc]:=(zaf (show T 104 = zEy from rfl)).2.2.2
theorem zKJ:(T 105).k = .other:=(zaf (show T 105 = zEz from rfl)).1
theorem zKK:(T 105).size = 1:=(zaf (show T 105 = zEz from rfl)).2.1
theorem zKL:(T 105).bytes = 8:=(zaf (show T 105 = zEz from rfl)).2.2.1
theorem zKM:(T 105).zero = [.nilFunc]:=(zaf (show T 105 = zEz from rfl)).2.2.2
theorem zKN:(T 106).k = .other:=(zaf (show T 106 = zEA from rfl)).1
theorem zKO:(T 106).size = 1:=(zaf (show T 106 = zEA from rfl)).2.1
theorem zKP:(T 106).bytes = 8:=(zaf (show T 106 = zEA from rfl)).2.2.1
theorem zKQ:(T 106).zero = [.nilFunc]:=(zaf (show T 106 = zEA from rfl)).2.2.2
theorem zKR:(T 107).k = .other:=(zaf (show T 107 = zEB from rfl)).1
theorem zKS:(T 107).size = 1:=(zaf (show T 107 = zEB from rfl)).2.1
theorem zKT:(T 107).bytes = 8:=(zaf (show T 107 = zEB from rfl)).2.2.1
theorem zKU:(T 107).zero = [.nilFunc]:=(zaf (show T 107 = zEB from rfl)).2.2.2
theorem zKV:(T 108).k = .other:=(zaf (show T 108 = zEC from rfl)).1
theorem zKW:(T 108).size = 1:=(zaf (show T 108 = zEC from rfl)).2.1
theorem zKX:(T 108).bytes = 8:=(zaf (show T 108 = zEC from rfl)).2.2.1
theorem zKY:(T 108).zero = [.nilFunc]:=(zaf (show T 108 = zEC from rfl)).2.2.2
theorem zKZ:(T 109).k = .other:=(zaf (show T 109 = zED from rfl)).1
theorem zK0:(T 109).size = 1:=(zaf (show T 109 = zED from rfl)).2.1
theorem zK1:(T 109).bytes = 8:=(zaf (show T 109 = zED from rfl)).2.2.1
theorem zK2:(T 109).zero = [.nilFunc]:=(zaf (show T 109 = zED from rfl)).2.2.2
theorem zK3:(T 111).k = .other:=(zaf (show T 111 = zEE from rfl)).1
theorem zK4:(T 111).size = 1:=(zaf (show T 111 = zEE from rfl)).2.1
theorem zK5:(T 111).bytes = 8:=(zaf (show T 111 = zEE from rfl)).2.2.1
theorem zK6:(T 111).zero = [.nilFunc]:=(zaf (show T 111 = zEE from rfl)).2.2.2
theorem zK7:(T 112).k = .other:=(zaf (show T 112 = zEF from rfl)).1
theorem zK8:(T 112).size = 1:=(zaf (show T 112 = zEF from rfl)).2.1
theorem zK9:(T 112).bytes = 8:=(zaf (show T 112 = zEF from rfl)).2.2.1
theorem zLa:(T 112).zero = [.nilFunc]:=(zaf (show T 112 = zEF from rfl)).2.2.2
theorem zLb:(T 113).k = .other:=(zaf (show T 113 = zEG from rfl)).1
theorem zLc:(T 113).size = 1:=(zaf (show T 113 = zEG from rfl)).2.1
theorem zLd:(T 113).bytes = 8:=(zaf (show T 113 = zEG from rfl)).2.2.1
theorem zLe:(T 113).zero = [.nilFunc]:=(zaf (show T 113 = zEG from rfl)).2.2.2
theorem zGH:(T 114).k = .struct [(0,31),(1,3),(2,3)]:=(zaf (show T 114 = zEH from rfl)).1
theorem zGI:(T 114).size = 3:=(zaf (show T 114 = zEH from rfl)).2.1
theorem zGJ:(T 114).bytes = 40:=(zaf (show T 114 = zEH from rfl)).2.2.1
theorem zGK:(T 114).zero = [.slice none 0 0,.int .i64 0,.int .i64 0]:=(zaf (show T 114 = zEH from rfl)).2.2.2
theorem zGL:(T 115).k = .struct [(0,31),(1,3),(2,3)]:=(zaf (show T 115 = zEI from rfl)).1
theorem zGM:(T 115).size = 3:=(zaf (show T 115 = zEI from rfl)).2.1
theorem zGN:(T 115).bytes = 40:=(zaf (show T 115 = zEI from rfl)).2.2.1
theorem zGO:(T 115).zero = [.slice none 0 0,.int .i64 0,.int .i64 0]:=(zaf (show T 115 = zEI from rfl)).2.2.2
theorem zLf:(T 116).k = .other:=(zaf (show T 116 = zEJ from rfl)).1
theorem zLg:(T 116).size = 1:=(zaf (show T 116 = zEJ from rfl)).2.1
theorem zLh:(T 116).bytes = 8:=(zaf (show T 116 = zEJ from rfl)).2.2.1
theorem zLi:(T 116).zero = [.nilFunc]:=(zaf (show T 116 = zEJ from rfl)).2.2.2
theorem zLj:(T 117).k = .other:=(zaf (show T 117 = zEK from rfl)).1
theorem zLk:(T 117).size = 1:=(zaf (show T 117 = zEK from rfl)).2.1
theorem zLl:(T 117).bytes = 8:=(zaf (show T 117 = zEK from rfl)).2.2.1
theorem zLm:(T 117).zero = [.nilFunc]:=(zaf (show T 117 = zEK from rfl)).2.2.2
theorem zLn:(T 118).k = .other:=(zaf (show T 118 = zEL from rfl)).1
theorem zLo:(T 118).size = 1:=(zaf (show T 118 = zEL from rfl)).2.1
theorem zLp:(T 118).bytes = 8:=(zaf (show T 118 = zEL from rfl)).2.2.1
theorem zLq:(T 118).zero = [.nilFunc]:=(zaf (show T 118 = zEL from rfl)).2.2.2
theorem zLr:(T 119).k = .other:=(zaf (show T 119 = zEM from rfl)).1
theorem zLs:(T 119).size = 1:=(zaf (show T 119 = zEM from rfl)).2.1
theorem zLt:(T 119).bytes = 8:=(zaf (show T 119 = zEM from rfl)).2.2.1
theorem zLu:(T 119).zero = [.nilFunc]:=(zaf (show T 119 = zEM from rfl)).2.2.2
theorem zLv:(T 120).k = .other:=(zaf (show T 120 = zEN from rfl)).1
theorem zLw:(T 120).size = 1:=(zaf (show T 120 = zEN from rfl)).2.1
theorem zLx:(T 120).bytes = 8:=(zaf (show T 120 = zEN from rfl)).2.2.1
theorem zLy:(T 120).zero = [.nilFunc]:=(zaf (show T 120 = zEN from rfl)).2.2.2
theorem zLz:(T 121).k = .other:=(zaf (show T 121 = zEO from rfl)).1
theorem zLA:(T 121).size = 1:=(zaf (show T 121 = zEO from rfl)).2.1
theorem zLB:(T 121).bytes = 8:=(zaf (show T 121 = zEO from rfl)).2.2.1
theorem zLC:(T 121).zero = [.nilFunc]:=(zaf (show T 121 = zEO from rfl)).2.2.2
theorem zLD:(T 122).k = .other:=(zaf (show T 122 = zEP from rfl)).1
theorem zLE:(T 122).size = 1:=(zaf (show T 122 = zEP from rfl)).2.1
theorem zLF:(T 122).bytes = 8:=(zaf (show T 122 = zEP from rfl)).2.2.1
theorem zLG:(T 122).zero = [.nilFunc]:=(zaf (show T 122 = zEP from rfl)).2.2.2
theorem zLH:(T 123).k = .other:=(zaf (show T 123 = zEQ from rfl)).1
theorem zLI:(T 123).size = 1:=(zaf (show T 123 = zEQ from rfl)).2.1
theorem zLJ:(T 123).bytes = 8:=(zaf (show T 123 = zEQ from rfl)).2.2.1
theorem zLK:(T 123).zero = [.nilFunc]:=(zaf (show T 123 = zEQ from rfl)).2.2.2
theorem zLL:(T 124).k = .other:=(zaf (show T 124 = zER from rfl)).1
theorem zLM:(T 124).size = 1:=(zaf (show T 124 = zER from rfl)).2.1
theorem zLN:(T 124).bytes = 8:=(zaf (show T 124 = zER from rfl)).2.2.1
theorem zLO:(T 124).zero = [.nilFunc]:=(zaf (show T 124 = zER from rfl)).2.2.2
theorem zLP:(T 125).k = .other:=(zaf (show T 125 = zES from rfl)).1
theorem zLQ:(T 125).size = 1:=(zaf (show T 125 = zES from rfl)).2.1
theorem zLR:(T 125).bytes = 8:=(zaf (show T 125 = zES from rfl)).2.2.1
theorem zLS:(T 125).zero = [.nilFunc]:=(zaf (show T 125 = zES from rfl)).2.2.2
theorem zLT:(T 126).k = .other:=(zaf (show T 126 = zET from rfl)).1
theorem zLU:(T 126).size = 1:=(zaf (show T 126 = zET from rfl)).2.1
theorem zLV:(T 126).bytes = 8:=(zaf (show T 126 = zET from rfl)).2.2.1
theorem zLW:(T 126).zero = [.nilFunc]:=(zaf (show T 126 = zET from rfl)).2.2.2
theorem zLX:(T 127).k = .other:=(zaf (show T 127 = zEU from rfl)).1
theorem zLY:(T 127).size = 1:=(zaf (show T 127 = zEU from rfl)).2.1
theorem zLZ:(T 127).bytes = 8:=(zaf (show T 127 = zEU from rfl)).2.2.1
theorem zL0:(T 127).zero = [.nilFunc]:=(zaf (show T 127 = zEU from rfl)).2.2.2
theorem zGP:(T 128).k = .sli 9:=(zaf (show T 128 = zEV from rfl)).1
theorem zGQ:(T 128).size = 1:=(zaf (show T 128 = zEV from rfl)).2.1
theorem zGR:(T 128).bytes = 24:=(zaf (show T 128 = zEV from rfl)).2.2.1
theorem zGS:(T 128).zero = [.slice none 0 0]:=(zaf (show T 128 = zEV from rfl)).2.2.2
theorem zL1:(T 129).k = .other:=(zaf (show T 129 = zEW from rfl)).1
theorem zL2:(T 129).size = 1:=(zaf (show T 129 = zEW from rfl)).2.1
theorem zL3:(T 129).bytes = 8:=(zaf (show T 129 = zEW from rfl)).2.2.1
theorem zL4:(T 129).zero = [.nilFunc]:=(zaf (show T 129 = zEW from rfl)).2.2.2
theorem zL5:(T 130).k = .other:=(zaf (show T 130 = zEX from rfl)).1
theorem zL6:(T 130).size = 1:=(zaf (show T 130 = zEX from rfl)).2.1
theorem zL7:(T 130).bytes = 8:=(zaf (show T 130 = zEX from rfl)).2.2.1
theorem zL8:(T 130).zero = [.nilFunc]:=(zaf (show T 130 = zEX from rfl)).2.2.2
theorem zL9:(T 131).k = .other:=(zaf (show T 131 = zEY from rfl)).1
theorem zMa:(T 131).size = 1:=(zaf (show T 131 = zEY from rfl)).2.1
theorem zMb:(T 131).bytes = 8:=(zaf (show T 131 = zEY from rfl)).2.2.1
theorem zMc:(T 131).zero = [.nilFunc]:=(zaf (show T 131 = zEY from rfl)).2.2.2
theorem zMd:(T 132).k = .other:=(zaf (show T 132 = zEZ from rfl)).1
theorem zMe:(T 132).size = 1:=(zaf (show T 132 = zEZ from rfl)).2.1
theorem zMf:(T 132).bytes = 8:=(zaf (show T 132 = zEZ from rfl)).2.2.1
theorem zMg:(T 132).zero = [.nilFunc]:=(zaf (show T 132 = zEZ from rfl)).2.2.2
theorem zMh:(T 133).k = .other:=(zaf (show T 133 = zE0 from rfl)).1
theorem zMi:(T 133).size = 1:=(zaf (show T 133 = zE0 from rfl)).2.1
theorem zMj:(T 133).bytes = 8:=(zaf (show T 133 = zE0 from rfl)).2.2.1
theorem zMk:(T 133).zero = [.nilFunc]:=(zaf (show T 133 = zE0 from rfl)).2.2.2
theorem zMl:(T 135).k = .other:=(zaf (show T 135 = zE1 from rfl)).1
theorem zMm:(T 135).size = 1:=(zaf (show T 135 = zE1 from rfl)).2.1
theorem zMn:(T 135).bytes = 8:=(zaf (show T 135 = zE1 from rfl)).2.2.1
theorem zMo:(T 135).zero = [.nilFunc]:=(zaf (show T 135 = zE1 from rfl)).2.2.2
theorem zMp:(T 136).k = .other:=(zaf (show T 136 = zE2 from rfl)).1
theorem zMq:(T 136).size = 1:=(zaf (show T 136 = zE2 from rfl)).2.1
theorem zMr:(T 136).bytes = 8:=(zaf (show T 136 = zE2 from rfl)).2.2.1
theorem zMs:(T 136).zero = [.nilFunc]:=(zaf (show T 136 = zE2 from rfl)).2.2.2
theorem zMt:(T 138).k = .other:=(zaf (show T 138 = zE3 from rfl)).1
theorem zMu:(T 138).size = 1:=(zaf (show T 138 = zE3 from rfl)).2.1
theorem zMv:(T 138).bytes = 8:=(zaf (show T 138 = zE3 from rfl)).2.2.1
theorem zMw:(T 138).zero = [.nilFunc]:=(zaf (show T 138 = zE3 from rfl)).2.2.2
theorem zMx:(T 139).k = .other:=(zaf (show T 139 = zE4 from rfl)).1
theorem zMy:(T 139).size = 1:=(zaf (show T 139 = zE4 from rfl)).2.1
theorem zMz:(T 139).bytes = 8:=(zaf (show T 139 = zE4 from rfl)).2.2.1
theorem zMA:(T 139).zero = [.nilFunc]:=(zaf (show T 139 = zE4 from rfl)).2.2.2
theorem zGT:(T 140).k = .int .u32:=(zaf (show T 140 = zE5 from rfl)).1
theorem zGU:(T 140).size = 1:=(zaf (show T 140 = zE5 from rfl)).2.1
theorem zGV:(T 140).bytes = 4:=(zaf (show T 140 = zE5 from rfl)).2.2.1
theorem zGW:(T 140).zero = [.int .u32 0]:=(zaf (show T 140 = zE5 from rfl)).2.2.2
theorem zMB:(T 141).k = .other:=(zaf (show T 141 = zE6 from rfl)).1
theorem zMC:(T 141).size = 1:=(zaf (show T 141 = zE6 from rfl)).2.1
theorem zMD:(T 141).bytes = 8:=(zaf (show T 141 = zE6 from rfl)).2.2.1
theorem zME:(T 141).zero = [.nilFunc]:=(zaf (show T 141 = zE6 from rfl)).2.2.2
theorem zMF:(T 142).k = .other:=(zaf (show T 142 = zE7 from rfl)).1
theorem zMG:(T 142).size = 1:=(zaf (show T 142 = zE7 from rfl)).2.1
theorem zMH:(T 142).bytes = 8:=(zaf (show T 142 = zE7 from rfl)).2.2.1
theorem zMI:(T 142).zero = [.nilFunc]:=(zaf (show T 142 = zE7 from rfl)).2.2.2
theorem zMJ:(T 143).k = .other:=(zaf (show T 143 = zE8 from rfl)).1
theorem zMK:(T 143).size = 1:=(zaf (show T 143 = zE8 from rfl)).2.1
theorem zML:(T 143).bytes = 8:=(zaf (show T 143 = zE8 from rfl)).2.2.1
theorem zMM:(T 143).zero = [.nilFunc]:=(zaf (show T 143 = zE8 from rfl)).2.2.2
theorem zMN:(T 145).k = .other:=(zaf (show T 145 = zE9 from rfl)).1
theorem zMO:(T 145).size = 1:=(zaf (show T 145 = zE9 from rfl)).2.1
theorem zMP:(T 145).bytes = 8:=(zaf (show T 145 = zE9 from rfl)).2.2.1
theorem zMQ:(T 145).zero = [.nilFunc]:=(zaf (show T 145 = zE9 from rfl)).2.2.2
theorem zGX:(T 146).k = .sli 4:=(zaf (show T 146 = zFa from rfl)).1
theorem zGY:(T 146).size = 1:=(zaf (show T 146 = zFa from rfl)).2.1
theorem zGZ:(T 146).bytes = 24:=(zaf (show T 146 = zFa from rfl)).2.2.1
theorem zG0:(T 146).zero = [.slice none 0 0]:=(zaf (show T 146 = zFa from rfl)).2.2.2
theorem zMR:(T 147).k = .other:=(zaf (show T 147 = zFb from rfl)).1
theorem zMS:(T 147).size = 1:=(zaf (show T 147 = zFb from rfl)).2.1
theorem zMT:(T 147).bytes = 8:=(zaf (show T 147 = zFb from rfl)).2.2.1
theorem zMU:(T 147).zero = [.nilFunc]:=(zaf (show T 147 = zFb from rfl)).2.2.2
theorem zMV:(T 148).k = .other:=(zaf (show T 148 = zFc from rfl)).1
theorem zMW:(T 148).size = 1:=(zaf (show T 148 = zFc from rfl)).2.1
theorem zMX:(T 148).bytes = 8:=(zaf (show T 148 = zFc from rfl)).2.2.1
theorem zMY:(T 148).zero = [.nilFunc]:=(zaf (show T 148 = zFc from rfl)).2.2.2
theorem zMZ:(T 149).k = .other:=(zaf (show T 149 = zFd from rfl)).1
theorem zM0:(T 149).size = 1:=(zaf (show T 149 = zFd from rfl)).2.1
theorem zM1:(T 149).bytes = 8:=(zaf (show T 149 = zFd from rfl)).2.2.1
theorem zM2:(T 149).zero = [.nilFunc]:=(zaf (show T 149 = zFd from rfl)).2.2.2
theorem zM3:(T 150).k = .other:=(zaf (show T 150 = zFe from rfl)).1
theorem zM4:(T 150).size = 1:=(zaf (show T 150 = zFe from rfl)).2.1
theorem zM5:(T 150).bytes = 8:=(zaf (show T 150 = zFe from rfl)).2.2.1
theorem zM6:(T 150).zero = [.nilFunc]:=(zaf (show T 150 = zFe from rfl)).2.2.2
theorem zM7:(T 151).k = .other:=(zaf (show T 151 = zFf from rfl)).1
theorem zM8:(T 151).size = 1:=(zaf (show T 151 = zFf from rfl)).2.1
theorem zM9:(T 151).bytes = 8:=(zaf (show T 151 = zFf from rfl)).2.2.1
theorem zNa:(T 151).zero = [.nilFunc]:=(zaf (show T 151 = zFf from rfl)).2.2.2
theorem zNb:(T 152).k = .other:=(zaf (show T 152 = zFg from rfl)).1
theorem zNc:(T 152).size = 1:=(zaf (show T 152 = zFg from rfl)).2.1
theorem zNd:(T 152).bytes = 8:=(zaf (show T 152 = zFg from rfl)).2.2.1
theorem zNe:(T 152).zero = [.nilFunc]:=(zaf (show T 152 = zFg from rfl)).2.2.2
theorem zNf:(T 153).k = .other:=(zaf (show T 153 = zFh from rfl)).1
theorem zNg:(T 153).size = 1:=(zaf (show T 153 = zFh from rfl)).2.1
theorem zNh:(T 153).bytes = 8:=(zaf (show T 153 = zFh from rfl)).2.2.1
theorem zNi:(T 153).zero = [.nilFunc]:=(zaf (show T 153 = zFh from rfl)).2.2.2
theorem zG1:(T 154).k = .int .i64:=(zaf (show T 154 = zFi from rfl)).1
theorem zG2:(T 154).size = 1:=(zaf (show T 154 = zFi from rfl)).2.1
theorem zG3:(T 154).bytes = 8:=(zaf (show T 154 = zFi from rfl)).2.2.1
theorem zG4:(T 154).zero = [.int .i64 0]:=(zaf (show T 154 = zFi from rfl)).2.2.2
theorem zNj:(T 156).k = .other:=(zaf (show T 156 = zFj from rfl)).1
theorem zNk:(T 156).size = 1:=(zaf (show T 156 = zFj from rfl)).2.1
theorem zNl:(T 156).bytes = 8:=(zaf (show T 156 = zFj from rfl)).2.2.1
theorem zNm:(T 156).zero = [.nilFunc]:=(zaf (show T 156 = zFj from rfl)).2.2.2
theorem zNn:(T 157).k = .other:=(zaf (show T 157 = zFk from rfl)).1
theorem zNo:(T 157).size = 1:=(zaf (show T 157 = zFk from rfl)).2.1
theorem zNp:(T 157).bytes = 8:=(zaf (show T 157 = zFk from rfl)).2.2.1
theorem zNq:(T 157).zero = [.nilFunc]:=(zaf (show T 157 = zFk from rfl)).2.2.2
theorem zNr:(T 158).k = .other:=(zaf (show T 158 = zFl from rfl)).1
theorem zNs:(T 158).size = 1:=(zaf (show T 158 = zFl from rfl)).2.1
theorem zNt:(T 158).bytes = 8:=(zaf (show T 158 = zFl from rfl)).2.2.1
theorem zNu:(T 158).zero = [.nilFunc]:=(zaf (show T 158 = zFl from rfl)).2.2.2
theorem zNv:(T 159).k = .other:=(zaf (show T 159 = zFm from rfl)).1
theorem zNw:(T 159).size = 1:=(zaf (show T 159 = zFm from rfl)).2.1
theorem zNx:(T 159).bytes = 8:=(zaf (show T 159 = zFm from rfl)).2.2.1
theorem zNy:(T 159).zero = [.nilFunc]:=(zaf (show T 159 = zFm from rfl)).2.2.2
theorem zG5:(T 160).k = .int .u64:=(zaf (show T 160 = zFn from rfl)).1
theorem zG6:(T 160).size = 1:=(zaf (show T 160 = zFn from rfl)).2.1
theorem zG7:(T 160).bytes = 8:=(zaf (show T 160 = zFn from rfl)).2.2.1
theorem zG8:(T 160).zero = [.int .u64 0]:=(zaf (show T 160 = zFn from rfl)).2.2.2
theorem zNz:(T 161).k = .other:=(zaf (show T 161 = zFo from rfl)).1
theorem zNA:(T 161).size = 1:=(zaf (show T 161 = zFo from rfl)).2.1
theorem zNB:(T 161).bytes = 8:=(zaf (show T 161 = zFo from rfl)).2.2.1
theorem zNC:(T 161).zero = [.nilFunc]:=(zaf (show T 161 = zFo from rfl)).2.2.2
theorem zND:(T 162).k = .other:=(zaf (show T 162 = zFp from rfl)).1
theorem zNE:(T 162).size = 1:=(zaf (show T 162 = zFp from rfl)).2.1
theorem zNF:(T 162).bytes = 8:=(zaf (show T 162 = zFp from rfl)).2.2.1
theorem zNG:(T 162).zero = [.nilFunc]:=(zaf (show T 162 = zFp from rfl)).2.2.2
theorem zNH:(T 163).k = .other:=(zaf (show T 163 = zFq from rfl)).1
theorem zNI:(T 163).size = 1:=(zaf (show T 163 = zFq from rfl)).2.1
theorem zNJ:(T 163).bytes = 8:=(zaf (show T 163 = zFq from rfl)).2.2.1
theorem zNK:(T 163).zero = [.nilFunc]:=(zaf (show T 163 = zFq from rfl)).2.2.2
theorem zNL:(T 164).k = .other:=(zaf (show T 164 = zFr from rfl)).1
theorem zNM:(T 164).size = 1:=(zaf (show T 164 = zFr from rfl)).2.1
theorem zNN:(T 164).bytes = 8:=(zaf (show T 164 = zFr from rfl)).2.2.1
theorem zNO:(T 164).zero = [.pointer none]:=(zaf (show T 164 = zFr from rfl)).2.2.2
theorem zNP:(T 165).k = .other:=(zaf (show T 165 = zFs from rfl)).1
theorem zNQ:(T 165).size = 1:=(zaf (show T 165 = zFs from rfl)).2.1
theorem zNR:(T 165).bytes = 8:=(zaf (show T 165 = zFs from rfl)).2.2.1
theorem zNS:(T 165).zero = [.nilFunc]:=(zaf (show T 165 = zFs from rfl)).2.2.2
theorem zNT:(T 166).k = .other:=(zaf (show T 166 = zFt from rfl)).1
theorem zNU:(T 166).size = 1:=(zaf (show T 166 = zFt from rfl)).2.1
theorem zNV:(T 166).bytes = 8:=(zaf (show T 166 = zFt from rfl)).2.2.1
theorem zNW:(T 166).zero = [.pointer none]:=(zaf (show T 166 = zFt from rfl)).2.2.2
theorem zNX:(T 168).k = .other:=(zaf (show T 168 = zFu from rfl)).1
theorem zNY:(T 168).size = 1:=(zaf (show T 168 = zFu from rfl)).2.1
theorem zNZ:(T 168).bytes = 8:=(zaf (show T 168 = zFu from rfl)).2.2.1
theorem zN0:(T 168).zero = [.nilFunc]:=(zaf (show T 168 = zFu from rfl)).2.2.2
theorem zN1:(T 169).k = .other:=(zaf (show T 169 = zFv from rfl)).1
theorem zN2:(T 169).size = 1:=(zaf (show T 169 = zFv from rfl)).2.1
theorem zN3:(T 169).bytes = 8:=(zaf (show T 169 = zFv from rfl)).2.2.1
theorem zN4:(T 169).zero = [.nilFunc]:=(zaf (show T 169 = zFv from rfl)).2.2.2
theorem zN5:(T 177).k = .other:=(zaf (show T 177 = zFw from rfl)).1
theorem zN6:(T 177).size = 1:=(zaf (show T 177 = zFw from rfl)).2.1
theorem zN7:(T 177).bytes = 8:=(zaf (show T 177 = zFw from rfl)).2.2.1
theorem zN8:(T 177).zero = [.nilFunc]:=(zaf (show T 177 = zFw from rfl)).2.2.2
theorem zN9:(T 178).k = .other:=(zaf (show T 178 = zFx from rfl)).1
theorem zOa:(T 178).size = 1:=(zaf (show T 178 = zFx from rfl)).2.1
theorem zOb:(T 178).bytes = 8:=(zaf (show T 178 = zFx from rfl)).2.2.1
theorem zOc:(T 178).zero = [.pointer none]:=(zaf (show T 178 = zFx from rfl)).2.2.2
theorem gT:type_of% (And.intro @T2k <| And.intro @T2s <| And.intro @T2b <| And.intro @T2z <| And.intro @T3k <| And.intro @T3s <| And.intro @T3b <| And.intro @T3z <| And.intro @T4k <| And.intro @T4s <| And.intro @T4b <| And.intro @T4z <| And.intro @T5k <| And.intro @T5s <| And.intro @T5b <| And.intro @T5z <| And.intro @T9k <| And.intro @T9s <| And.intro @T9b <| And.intro @T9z <| And.intro @zIh <| And.intro @zIi <| And.intro @zIj <| And.intro @zIk <| And.intro @zIl <| And.intro @zIm <| And.intro @zIn <| And.intro @zIo <| And.intro @zIp <| And.intro @zIq <| And.intro @zIr <| And.intro @zIs <| And.intro @zIt <| And.intro @zIu <| And.intro @zIv <| And.intro @zIw <| And.intro @zIx <| And.intro @zIy <| And.intro @zIz <| And.intro @zIA <| And.intro @zIB <| And.intro @zIC <| And.intro @zID <| And.intro @zIE <| And.intro @zIF <| And.intro @zIG <| And.intro @zIH <| And.intro @zII <| And.intro @zHK <| And.intro @zHL <| And.intro @zIJ <| And.intro @zIK <| And.intro @zIL <| And.intro @zIM <| And.intro @zIN <| And.intro @zIO <| And.intro @zIP <| And.intro @zIQ <| And.intro @zIR <| And.intro @zIS <| And.intro @zIT <| And.intro @zIU <| And.intro @zIV <| And.intro @zIW <| And.intro @zIX <| And.intro @zIY <| And.intro @zIZ <| And.intro @zI0 <| And.intro @zI1 <| And.intro @zI2 <| And.intro @zI3 <| And.intro @zI4 <| And.intro @zI5 <| And.intro @zI6 <| And.intro @zI7 <| And.intro @zI8 <| And.intro @zI9 <| And.intro @zJa <| And.intro @zJb <| And.intro @zJc <| And.intro @zJd <| And.intro @zJe <| And.intro @zJf <| And.intro @zJg <| And.intro @zJh <| And.intro @zJi <| And.intro @zJj <| And.intro @zJk <| And.intro @zGH <| And.intro @zGI <| And.intro @zGJ <| And.intro @zGK <| And.intro @zGL <| And.intro @zGM <| And.intro @zGN <| And.intro @zGO <| And.intro @zGP <| And.intro @zGQ <| And.intro @zGR <| And.intro @zGS <| And.intro @zGT <| And.intro @zGU <| And.intro @zGV <| And.intro @zGW <| And.intro @zGX <| And.intro @zGY <| And.intro @zGZ <| And.intro @zG0 <| And.intro @zG1 <| And.intro @zG2 <| And.intro @zG3 <| And.intro @zG4 <| And.intro @zG5 <| And.intro @zG6 <| And.intro @zG7 <| @zG8):=And.intro @T2k <| And.intro @T2s <| And.intro @T2b <| And.intro @T2z <| And.intro @T3k <| And.intro @T3s <| And.intro @T3b <| And.intro @T3z <| And.intro @T4k <| And.intro @T4s <| And.intro @T4b <| And.intro @T4z <| And.intro @T5k <| And.intro @T5s <| And.intro @T5b <| And.intro @T5z <| And.intro @T9k <| And.intro @T9s <| And.intro @T9b <| And.intro @T9z <| And.intro @zIh <| And.intro @zIi <| And.intro @zIj <| And.intro @zIk <| And.intro @zIl <| And.intro @zIm <| And.intro @zIn <| And.intro @zIo <| And.intro @zIp <| And.intro @zIq <| And.intro @zIr <| And.intro @zIs <| And.intro @zIt <| And.intro @zIu <| And.intro @zIv <| And.intro @zIw <| And.intro @zIx <| And.intro @zIy <| And.intro @zIz <| And.intro @zIA <| And.intro @zIB <| And.intro @zIC <| And.intro @zID <| And.intro @zIE <| And.intro @zIF <| And.intro @zIG <| And.intro @zIH <| And.intro @zII <| And.intro @zHK <| And.intro @zHL <| And.intro @zIJ <| And.intro @zIK <| And.intro @zIL <| And.intro @zIM <| And.intro @zIN <| And.intro @zIO <| And.intro @zIP <| And.intro @zIQ <| And.intro @zIR <| And.intro @zIS <| And.intro @zIT <| And.intro @zIU <| And.intro @zIV <| And.intro @zIW <| And.intro @zIX <| And.intro @zIY <| And.intro @zIZ <| And.intro @zI0 <| And.intro @zI1 <| And.intro @zI2 <| And.intro @zI3 <| And.intro @zI4 <| And.intro @zI5 <| And.intro @zI6 <| And.intro @zI7 <| And.intro @zI8 <| And.intro @zI9 <| And.intro @zJa <| And.intro @zJb <| And.intro @zJc <| And.intro @zJd <| And.intro @zJe <| And.intro @zJf <| And.intro @zJg <| And.intro @zJh <| And.intro @zJi <| And.intro @zJj <| And.intro @zJk <| And.intro @zGH <| And.intro @zGI <| And.intro @zGJ <| And.intro @zGK <| And.intro @zGL <| And.intro @zGM <| And.intro @zGN <| And.intro @zGO <| And.intro @zGP <| And.intro @zGQ <| And.intro @zGR <| And.intro @zGS <| And.intro @zGT <| And.intro @zGU <| And.intro @zGV <| And.intro @zGW <| And.intro @zGX <| And.intro @zGY <| And.intro @zGZ <| And.intro @zG0 <| And.intro @zG1 <| And.intro @zG2 <| And.intro @zG3 <| And.intro @zG4 <| And.intro @zG5 <| And.intro @zG6 <| And.intro @zG7 <| @zG8
theorem zzQ:∀ x ∈ zHH,x.2.Fits Try.prog x.1:=by
 simp only [zHH,List.forall_mem_cons]
 exact ⟨F1,F2,F3,F4,F5,F9,F12,F13,F21,F22,F23,F24,F25,F26,F27,F28,F29,F30,F31,F32,F33,F34,F35,F36,F37,F38,F40,F41,F43,F44,F45,F47,F48,F49,F50,F51,F52,F53,F55,F56,F57,F58,F60,F61,F63,F64,F65,F66,F67,F69,F70,F71,F72,F73,F74,F75,F76,F77,F78,F79,fun _ h=>absurd h (by simp)⟩
theorem zzR:∀ x ∈ zHI,x.2.Fits Try.prog x.1:=by
 simp only [zHI,List.forall_mem_cons]
 exact ⟨F80,F81,F82,F83,F84,F85,F86,F87,F88,F89,F90,F91,F92,F93,F94,F95,F96,F97,F98,F99,zJl,zJm,zJn,zJo,zJp,zJq,zJr,zJs,zJt,zJu,zJv,zJw,zJx,zJy,zJz,zJA,zJB,zJC,zJD,zJE,zJF,zJG,zJH,zJI,zJJ,zJK,zJL,zJM,zJN,zJO,zJP,zJQ,zJR,zJS,zJT,zJU,zJV,zJW,zJX,zJY,fun _ h=>absurd h (by simp)⟩
theorem zzS:∀ x ∈ zHJ,x.2.Fits Try.prog x.1:=by
 simp only [zHJ,List.forall_mem_cons]
 exact ⟨zJZ,zJ0,zJ1,zJ2,zJ3,zJ4,zJ5,zJ6,zJ7,zJ8,zJ9,zKa,zKb,zKc,zKd,zKe,zKf,zKg,zKh,zKi,zKj,zKk,zKl,zKm,zKn,zKo,fun _ h=>absurd h (by simp)⟩
theorem zBp:∀ x ∈ tab,x.2.Fits Try.prog x.1:=by
 simp only [tab,List.forall_mem_append]
 exact ⟨⟨zzQ,zzR⟩,zzS⟩
theorem zbc:Tab.Ok T Try.prog:=by
 intro t ht
 unfold T at ht ⊢
 cases h:tab.find? fun x=>x.1 == t with
 | none=>rw [h] at ht;simp at ht
 | some x =>
   have h1:=List.find?_some h
   have h2:=zBp x (List.mem_of_find?_eq_some h)
   simp at h1
   subst h1
   exact h2
theorem zax:Try.prog.follows .mixedOrders = true:=by kernel_rfl
instance held:zaj:=⟨{ Φ:=fun _=>True,Gl:=fun _=>False,dr:=True,keep:=fun _ _=>trivial,low:=fun _ h=>h.elim }⟩
end Go.Proofs.Ytpnknaaehcljoaa

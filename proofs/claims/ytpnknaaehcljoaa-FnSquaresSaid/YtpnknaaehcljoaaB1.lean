/- DERIVED by an AI agent, by a program of its own (mktypes.py). The types of the translation, as the abstract layer reads them. -/
import Derived.Test.YtpnknaaehcljoaaRows
import Derived.Test.YtpnknaaehcljoaaA12
namespace Go.Proofs.Ytpnknaaehcljoaa
open Go.Abs
set_option linter.unusedVariables false
theorem zag {t:TypeId} {d:TD} {z:Value} (h:d.k.fits Try.prog t) (hi:(Try.prog.info? t).map (fun i=>(i.zero,i.size,i.bytes)) = some (some z,d.size,d.bytes)) (hz:z.cells.toList = d.zero) (hl:d.zero.length = d.size) (ho:d.k.agg = false→d.size = 1∧∀ z,d.zero = [z]→z.oneCell' = true):d.Fits Try.prog t:=by
 refine ⟨h,?_,hl,ho⟩
 cases hq:Try.prog.info? t with
 | none=>rw [hq] at hi;simp at hi
 | some i =>
   rw [hq] at hi
   simp at hi
   exact ⟨i,z,rfl,hi.2.1,hi.2.2,hi.1,hz⟩
def D1:TD:=⟨.other,1,8,[.nilFunc]⟩
theorem F1:D1.Fits Try.prog 1:=zag (z:=.nilFunc) ⟨_,Try.underlying1,trivial⟩ (by kernel_rfl) rfl rfl (fun _=>⟨rfl,fun z h=>by cases h;rfl⟩)
def D2:TD:=⟨.int .i64,1,8,[.int .i64 0]⟩
theorem F2:D2.Fits Try.prog 2:=zag (z:=.int .i64 0) (show Try.prog.underlying 2 = some (TypeDesc.int .i64) by kernel_rfl) (by kernel_rfl) rfl rfl (fun _=>⟨rfl,fun z h=>by cases h;rfl⟩)
def D3:TD:=⟨.int .i64,1,8,[.int .i64 0]⟩
theorem F3:D3.Fits Try.prog 3:=zag (z:=.int .i64 0) (show Try.prog.underlying 3 = some (TypeDesc.int .i64) by kernel_rfl) (by kernel_rfl) rfl rfl (fun _=>⟨rfl,fun z h=>by cases h;rfl⟩)
def D4:TD:=⟨.bool,1,1,[.bool false]⟩
theorem F4:D4.Fits Try.prog 4:=zag (z:=.bool false) (show Try.prog.underlying 4 = some (TypeDesc.bool) by kernel_rfl) (by kernel_rfl) rfl rfl (fun _=>⟨rfl,fun z h=>by cases h;rfl⟩)
def D5:TD:=⟨.int .u8,1,1,[.int .u8 0]⟩
theorem F5:D5.Fits Try.prog 5:=zag (z:=.int .u8 0) (show Try.prog.underlying 5 = some (TypeDesc.int .u8) by kernel_rfl) (by kernel_rfl) rfl rfl (fun _=>⟨rfl,fun z h=>by cases h;rfl⟩)
def D9:TD:=⟨.str,1,16,[.string ⟨#[]⟩]⟩
theorem F9:D9.Fits Try.prog 9:=zag (z:=.string ⟨#[]⟩) (show Try.prog.underlying 9 = some (TypeDesc.string) by kernel_rfl) (by kernel_rfl) rfl rfl (fun _=>⟨rfl,fun z h=>by cases h;rfl⟩)
def D12:TD:=⟨.int .u64,1,8,[.int .u64 0]⟩
theorem F12:D12.Fits Try.prog 12:=zag (z:=.int .u64 0) (show Try.prog.underlying 12 = some (TypeDesc.int .u64) by kernel_rfl) (by kernel_rfl) rfl rfl (fun _=>⟨rfl,fun z h=>by cases h;rfl⟩)
def D13:TD:=⟨.struct [(0,9),(1,12)],2,24,[.string ⟨#[]⟩,.int .u64 0]⟩
theorem F13:D13.Fits Try.prog 13:=zag (z:=.agg #[.string ⟨#[]⟩,.int .u64 0]) ⟨_,Try.underlying13,rfl⟩ (by kernel_rfl) rfl rfl (fun h=>by cases h)
def D21:TD:=⟨.int .i32,1,4,[.int .i32 0]⟩
theorem F21:D21.Fits Try.prog 21:=zag (z:=.int .i32 0) (show Try.prog.underlying 21 = some (TypeDesc.int .i32) by kernel_rfl) (by kernel_rfl) rfl rfl (fun _=>⟨rfl,fun z h=>by cases h;rfl⟩)
def D22:TD:=⟨.sli 3,1,24,[.slice none 0 0]⟩
theorem F22:D22.Fits Try.prog 22:=zag (z:=.slice none 0 0) (show Try.prog.underlying 22 = some (TypeDesc.slice 3) by kernel_rfl) (by kernel_rfl) rfl rfl (fun _=>⟨rfl,fun z h=>by cases h;rfl⟩)
def D23:TD:=⟨.struct [(0,3),(1,22)],2,32,[.int .i64 0,.slice none 0 0]⟩
theorem F23:D23.Fits Try.prog 23:=zag (z:=.agg #[.int .i64 0,.slice none 0 0]) ⟨_,Try.underlying23,rfl⟩ (by kernel_rfl) rfl rfl (fun h=>by cases h)
def D24:TD:=⟨.struct [(0,3),(1,22)],2,32,[.int .i64 0,.slice none 0 0]⟩
theorem F24:D24.Fits Try.prog 24:=zag (z:=.agg #[.int .i64 0,.slice none 0 0]) ⟨_,Try.underlying24,rfl⟩ (by kernel_rfl) rfl rfl (fun h=>by cases h)
def D25:TD:=⟨.other,1,8,[.nilFunc]⟩
theorem F25:D25.Fits Try.prog 25:=zag (z:=.nilFunc) ⟨_,Try.underlying25,trivial⟩ (by kernel_rfl) rfl rfl (fun _=>⟨rfl,fun z h=>by cases h;rfl⟩)
def D26:TD:=⟨.other,1,8,[.nilFunc]⟩
theorem F26:D26.Fits Try.prog 26:=zag (z:=.nilFunc) ⟨_,Try.underlying26,trivial⟩ (by kernel_rfl) rfl rfl (fun _=>⟨rfl,fun z h=>by cases h;rfl⟩)
def D27:TD:=⟨.struct [(0,3),(1,22)],2,32,[.int .i64 0,.slice none 0 0]⟩
theorem F27:D27.Fits Try.prog 27:=zag (z:=.agg #[.int .i64 0,.slice none 0 0]) ⟨_,Try.underlying27,rfl⟩ (by kernel_rfl) rfl rfl (fun h=>by cases h)
def D28:TD:=⟨.other,1,8,[.nilFunc]⟩
theorem F28:D28.Fits Try.prog 28:=zag (z:=.nilFunc) ⟨_,Try.underlying28,trivial⟩ (by kernel_rfl) rfl rfl (fun _=>⟨rfl,fun z h=>by cases h;rfl⟩)
def D29:TD:=⟨.other,1,8,[.nilFunc]⟩
theorem F29:D29.Fits Try.prog 29:=zag (z:=.nilFunc) ⟨_,Try.underlying29,trivial⟩ (by kernel_rfl) rfl rfl (fun _=>⟨rfl,fun z h=>by cases h;rfl⟩)
def D30:TD:=⟨.other,1,8,[.nilFunc]⟩
theorem F30:D30.Fits Try.prog 30:=zag (z:=.nilFunc) ⟨_,Try.underlying30,trivial⟩ (by kernel_rfl) rfl rfl (fun _=>⟨rfl,fun z h=>by cases h;rfl⟩)
def D31:TD:=⟨.sli 5,1,24,[.slice none 0 0]⟩
theorem F31:D31.Fits Try.prog 31:=zag (z:=.slice none 0 0) (show Try.prog.underlying 31 = some (TypeDesc.slice 5) by kernel_rfl) (by kernel_rfl) rfl rfl (fun _=>⟨rfl,fun z h=>by cases h;rfl⟩)
def D32:TD:=⟨.other,1,8,[.nilFunc]⟩
theorem F32:D32.Fits Try.prog 32:=zag (z:=.nilFunc) ⟨_,Try.underlying32,trivial⟩ (by kernel_rfl) rfl rfl (fun _=>⟨rfl,fun z h=>by cases h;rfl⟩)
def D33:TD:=⟨.sli 22,1,24,[.slice none 0 0]⟩
theorem F33:D33.Fits Try.prog 33:=zag (z:=.slice none 0 0) (show Try.prog.underlying 33 = some (TypeDesc.slice 22) by kernel_rfl) (by kernel_rfl) rfl rfl (fun _=>⟨rfl,fun z h=>by cases h;rfl⟩)
def D34:TD:=⟨.struct [(0,33)],1,24,[.slice none 0 0]⟩
theorem F34:D34.Fits Try.prog 34:=zag (z:=.agg #[.slice none 0 0]) ⟨_,Try.underlying34,rfl⟩ (by kernel_rfl) rfl rfl (fun h=>by cases h)
def D35:TD:=⟨.struct [(0,33)],1,24,[.slice none 0 0]⟩
theorem F35:D35.Fits Try.prog 35:=zag (z:=.agg #[.slice none 0 0]) ⟨_,Try.underlying35,rfl⟩ (by kernel_rfl) rfl rfl (fun h=>by cases h)
def D36:TD:=⟨.other,1,8,[.nilFunc]⟩
theorem F36:D36.Fits Try.prog 36:=zag (z:=.nilFunc) ⟨_,Try.underlying36,trivial⟩ (by kernel_rfl) rfl rfl (fun _=>⟨rfl,fun z h=>by cases h;rfl⟩)
def D37:TD:=⟨.struct [(0,3),(1,22)],2,32,[.int .i64 0,.slice none 0 0]⟩
theorem F37:D37.Fits Try.prog 37:=zag (z:=.agg #[.int .i64 0,.slice none 0 0]) ⟨_,Try.underlying37,rfl⟩ (by kernel_rfl) rfl rfl (fun h=>by cases h)
def D38:TD:=⟨.struct [(0,3),(1,22)],2,32,[.int .i64 0,.slice none 0 0]⟩
theorem F38:D38.Fits Try.prog 38:=zag (z:=.agg #[.int .i64 0,.slice none 0 0]) ⟨_,Try.underlying38,rfl⟩ (by kernel_rfl) rfl rfl (fun h=>by cases h)
def D40:TD:=⟨.other,1,8,[.nilFunc]⟩
theorem F40:D40.Fits Try.prog 40:=zag (z:=.nilFunc) ⟨_,Try.underlying40,trivial⟩ (by kernel_rfl) rfl rfl (fun _=>⟨rfl,fun z h=>by cases h;rfl⟩)
def D41:TD:=⟨.other,1,8,[.nilFunc]⟩
theorem F41:D41.Fits Try.prog 41:=zag (z:=.nilFunc) ⟨_,Try.underlying41,trivial⟩ (by kernel_rfl) rfl rfl (fun _=>⟨rfl,fun z h=>by cases h;rfl⟩)
def D43:TD:=⟨.other,1,8,[.nilFunc]⟩
theorem F43:D43.Fits Try.prog 43:=zag (z:=.nilFunc) ⟨_,Try.underlying43,trivial⟩ (by kernel_rfl) rfl rfl (fun _=>⟨rfl,fun z h=>by cases h;rfl⟩)
def D44:TD:=⟨.other,1,8,[.nilFunc]⟩
theorem F44:D44.Fits Try.prog 44:=zag (z:=.nilFunc) ⟨_,Try.underlying44,trivial⟩ (by kernel_rfl) rfl rfl (fun _=>⟨rfl,fun z h=>by cases h;rfl⟩)
def D45:TD:=⟨.other,1,8,[.nilFunc]⟩
theorem F45:D45.Fits Try.prog 45:=zag (z:=.nilFunc) ⟨_,Try.underlying45,trivial⟩ (by kernel_rfl) rfl rfl (fun _=>⟨rfl,fun z h=>by cases h;rfl⟩)
def D47:TD:=⟨.other,1,8,[.nilFunc]⟩
theorem F47:D47.Fits Try.prog 47:=zag (z:=.nilFunc) ⟨_,Try.underlying47,trivial⟩ (by kernel_rfl) rfl rfl (fun _=>⟨rfl,fun z h=>by cases h;rfl⟩)
def D48:TD:=⟨.other,1,8,[.nilFunc]⟩
theorem F48:D48.Fits Try.prog 48:=zag (z:=.nilFunc) ⟨_,Try.underlying48,trivial⟩ (by kernel_rfl) rfl rfl (fun _=>⟨rfl,fun z h=>by cases h;rfl⟩)
def D49:TD:=⟨.other,1,8,[.nilFunc]⟩
theorem F49:D49.Fits Try.prog 49:=zag (z:=.nilFunc) ⟨_,Try.underlying49,trivial⟩ (by kernel_rfl) rfl rfl (fun _=>⟨rfl,fun z h=>by cases h;rfl⟩)
def D50:TD:=⟨.other,1,8,[.nilFunc]⟩
theorem F50:D50.Fits Try.prog 50:=zag (z:=.nilFunc) ⟨_,Try.underlying50,trivial⟩ (by kernel_rfl) rfl rfl (fun _=>⟨rfl,fun z h=>by cases h;rfl⟩)
def D51:TD:=⟨.other,1,8,[.nilFunc]⟩
theorem F51:D51.Fits Try.prog 51:=zag (z:=.nilFunc) ⟨_,Try.underlying51,trivial⟩ (by kernel_rfl) rfl rfl (fun _=>⟨rfl,fun z h=>by cases h;rfl⟩)
def D52:TD:=⟨.other,1,8,[.nilFunc]⟩
theorem F52:D52.Fits Try.prog 52:=zag (z:=.nilFunc) ⟨_,Try.underlying52,trivial⟩ (by kernel_rfl) rfl rfl (fun _=>⟨rfl,fun z h=>by cases h;rfl⟩)
def D53:TD:=⟨.other,1,8,[.nilFunc]⟩
theorem F53:D53.Fits Try.prog 53:=zag (z:=.nilFunc) ⟨_,Try.underlying53,trivial⟩ (by kernel_rfl) rfl rfl (fun _=>⟨rfl,fun z h=>by cases h;rfl⟩)
def D55:TD:=⟨.other,1,8,[.nilFunc]⟩
theorem F55:D55.Fits Try.prog 55:=zag (z:=.nilFunc) ⟨_,Try.underlying55,trivial⟩ (by kernel_rfl) rfl rfl (fun _=>⟨rfl,fun z h=>by cases h;rfl⟩)
def D56:TD:=⟨.other,1,8,[.nilFunc]⟩
theorem F56:D56.Fits Try.prog 56:=zag (z:=.nilFunc) ⟨_,Try.underlying56,trivial⟩ (by kernel_rfl) rfl rfl (fun _=>⟨rfl,fun z h=>by cases h;rfl⟩)
def D57:TD:=⟨.other,1,8,[.nilFunc]⟩
theorem F57:D57.Fits Try.prog 57:=zag (z:=.nilFunc) ⟨_,Try.underlying57,trivial⟩ (by kernel_rfl) rfl rfl (fun _=>⟨rfl,fun z h=>by cases h;rfl⟩)
def D58:TD:=⟨.other,1,8,[.nilFunc]⟩
theorem F58:D58.Fits Try.prog 58:=zag (z:=.nilFunc) ⟨_,Try.underlying58,trivial⟩ (by kernel_rfl) rfl rfl (fun _=>⟨rfl,fun z h=>by cases h;rfl⟩)
def D60:TD:=⟨.other,1,8,[.nilFunc]⟩
theorem F60:D60.Fits Try.prog 60:=zag (z:=.nilFunc) ⟨_,Try.underlying60,trivial⟩ (by kernel_rfl) rfl rfl (fun _=>⟨rfl,fun z h=>by cases h;rfl⟩)
def D61:TD:=⟨.other,1,8,[.nilFunc]⟩
theorem F61:D61.Fits Try.prog 61:=zag (z:=.nilFunc) ⟨_,Try.underlying61,trivial⟩ (by kernel_rfl) rfl rfl (fun _=>⟨rfl,fun z h=>by cases h;rfl⟩)
def D63:TD:=⟨.other,1,8,[.nilFunc]⟩
theorem F63:D63.Fits Try.prog 63:=zag (z:=.nilFunc) ⟨_,Try.underlying63,trivial⟩ (by kernel_rfl) rfl rfl (fun _=>⟨rfl,fun z h=>by cases h;rfl⟩)
def D64:TD:=⟨.other,1,8,[.nilFunc]⟩
theorem F64:D64.Fits Try.prog 64:=zag (z:=.nilFunc) ⟨_,Try.underlying64,trivial⟩ (by kernel_rfl) rfl rfl (fun _=>⟨rfl,fun z h=>by cases h;rfl⟩)
def D65:TD:=⟨.other,1,8,[.nilFunc]⟩
theorem F65:D65.Fits Try.prog 65:=zag (z:=.nilFunc) ⟨_,Try.underlying65,trivial⟩ (by kernel_rfl) rfl rfl (fun _=>⟨rfl,fun z h=>by cases h;rfl⟩)
def D66:TD:=⟨.other,1,8,[.nilFunc]⟩
theorem F66:D66.Fits Try.prog 66:=zag (z:=.nilFunc) ⟨_,Try.underlying66,trivial⟩ (by kernel_rfl) rfl rfl (fun _=>⟨rfl,fun z h=>by cases h;rfl⟩)
def D67:TD:=⟨.other,1,8,[.nilFunc]⟩
theorem F67:D67.Fits Try.prog 67:=zag (z:=.nilFunc) ⟨_,Try.underlying67,trivial⟩ (by kernel_rfl) rfl rfl (fun _=>⟨rfl,fun z h=>by cases h;rfl⟩)
def D69:TD:=⟨.other,1,8,[.nilFunc]⟩
theorem F69:D69.Fits Try.prog 69:=zag (z:=.nilFunc) ⟨_,Try.underlying69,trivial⟩ (by kernel_rfl) rfl rfl (fun _=>⟨rfl,fun z h=>by cases h;rfl⟩)
def D70:TD:=⟨.other,1,8,[.nilFunc]⟩
theorem F70:D70.Fits Try.prog 70:=zag (z:=.nilFunc) ⟨_,Try.underlying70,trivial⟩ (by kernel_rfl) rfl rfl (fun _=>⟨rfl,fun z h=>by cases h;rfl⟩)
def D71:TD:=⟨.other,1,8,[.nilFunc]⟩
theorem F71:D71.Fits Try.prog 71:=zag (z:=.nilFunc) ⟨_,Try.underlying71,trivial⟩ (by kernel_rfl) rfl rfl (fun _=>⟨rfl,fun z h=>by cases h;rfl⟩)
def D72:TD:=⟨.other,1,8,[.nilFunc]⟩
theorem F72:D72.Fits Try.prog 72:=zag (z:=.nilFunc) ⟨_,Try.underlying72,trivial⟩ (by kernel_rfl) rfl rfl (fun _=>⟨rfl,fun z h=>by cases h;rfl⟩)
def D73:TD:=⟨.other,1,8,[.nilFunc]⟩
theorem F73:D73.Fits Try.prog 73:=zag (z:=.nilFunc) ⟨_,Try.underlying73,trivial⟩ (by kernel_rfl) rfl rfl (fun _=>⟨rfl,fun z h=>by cases h;rfl⟩)
def D74:TD:=⟨.other,1,8,[.nilFunc]⟩
theorem F74:D74.Fits Try.prog 74:=zag (z:=.nilFunc) ⟨_,Try.underlying74,trivial⟩ (by kernel_rfl) rfl rfl (fun _=>⟨rfl,fun z h=>by cases h;rfl⟩)
def D75:TD:=⟨.other,1,8,[.nilFunc]⟩
theorem F75:D75.Fits Try.prog 75:=zag (z:=.nilFunc) ⟨_,Try.underlying75,trivial⟩ (by kernel_rfl) rfl rfl (fun _=>⟨rfl,fun z h=>by cases h;rfl⟩)
def D76:TD:=⟨.other,1,8,[.pointer none]⟩
theorem F76:D76.Fits Try.prog 76:=zag (z:=.pointer none) ⟨_,Try.underlying76,trivial⟩ (by kernel_rfl) rfl rfl (fun _=>⟨rfl,fun z h=>by cases h;rfl⟩)
def D77:TD:=⟨.other,1,8,[.nilFunc]⟩
theorem F77:D77.Fits Try.prog 77:=zag (z:=.nilFunc) ⟨_,Try.underlying77,trivial⟩ (by kernel_rfl) rfl rfl (fun _=>⟨rfl,fun z h=>by cases h;rfl⟩)
def D78:TD:=⟨.int .u64,1,8,[.int .u64 0]⟩
theorem F78:D78.Fits Try.prog 78:=zag (z:=.int .u64 0) (show Try.prog.underlying 78 = some (TypeDesc.int .u64) by kernel_rfl) (by kernel_rfl) rfl rfl (fun _=>⟨rfl,fun z h=>by cases h;rfl⟩)
def D79:TD:=⟨.other,1,8,[.nilFunc]⟩
theorem F79:D79.Fits Try.prog 79:=zag (z:=.nilFunc) ⟨_,Try.underlying79,trivial⟩ (by kernel_rfl) rfl rfl (fun _=>⟨rfl,fun z h=>by cases h;rfl⟩)
def D80:TD:=⟨.other,1,8,[.nilFunc]⟩
theorem F80:D80.Fits Try.prog 80:=zag (z:=.nilFunc) ⟨_,Try.underlying80,trivial⟩ (by kernel_rfl) rfl rfl (fun _=>⟨rfl,fun z h=>by cases h;rfl⟩)
def D81:TD:=⟨.other,1,8,[.nilFunc]⟩
theorem F81:D81.Fits Try.prog 81:=zag (z:=.nilFunc) ⟨_,Try.underlying81,trivial⟩ (by kernel_rfl) rfl rfl (fun _=>⟨rfl,fun z h=>by cases h;rfl⟩)
def D82:TD:=⟨.arr 27 4,27,27,((List.replicate 27 (.bool false)))⟩
theorem F82:D82.Fits Try.prog 82:=zag (z:=.agg ⟨((List.replicate 27 (.bool false)))⟩) (show Try.prog.underlying 82 = some (TypeDesc.array 27 4) by kernel_rfl) (by kernel_rfl) (by kernel_rfl) (by kernel_rfl) (fun h=>by cases h)
def D83:TD:=⟨.other,1,8,[.nilFunc]⟩
theorem F83:D83.Fits Try.prog 83:=zag (z:=.nilFunc) ⟨_,Try.underlying83,trivial⟩ (by kernel_rfl) rfl rfl (fun _=>⟨rfl,fun z h=>by cases h;rfl⟩)
def D84:TD:=⟨.other,1,8,[.nilFunc]⟩
theorem F84:D84.Fits Try.prog 84:=zag (z:=.nilFunc) ⟨_,Try.underlying84,trivial⟩ (by kernel_rfl) rfl rfl (fun _=>⟨rfl,fun z h=>by cases h;rfl⟩)
def D85:TD:=⟨.other,1,8,[.nilFunc]⟩
theorem F85:D85.Fits Try.prog 85:=zag (z:=.nilFunc) ⟨_,Try.underlying85,trivial⟩ (by kernel_rfl) rfl rfl (fun _=>⟨rfl,fun z h=>by cases h;rfl⟩)
def D86:TD:=⟨.other,1,8,[.nilFunc]⟩
theorem F86:D86.Fits Try.prog 86:=zag (z:=.nilFunc) ⟨_,Try.underlying86,trivial⟩ (by kernel_rfl) rfl rfl (fun _=>⟨rfl,fun z h=>by cases h;rfl⟩)
def D87:TD:=⟨.other,1,8,[.nilFunc]⟩
theorem F87:D87.Fits Try.prog 87:=zag (z:=.nilFunc) ⟨_,Try.underlying87,trivial⟩ (by kernel_rfl) rfl rfl (fun _=>⟨rfl,fun z h=>by cases h;rfl⟩)
def D88:TD:=⟨.arr 3 3,3,24,[.int .i64 0,.int .i64 0,.int .i64 0]⟩
theorem F88:D88.Fits Try.prog 88:=zag (z:=.agg #[.int .i64 0,.int .i64 0,.int .i64 0]) (show Try.prog.underlying 88 = some (TypeDesc.array 3 3) by kernel_rfl) (by kernel_rfl) rfl rfl (fun h=>by cases h)
def D89:TD:=⟨.other,1,8,[.nilFunc]⟩
theorem F89:D89.Fits Try.prog 89:=zag (z:=.nilFunc) ⟨_,Try.underlying89,trivial⟩ (by kernel_rfl) rfl rfl (fun _=>⟨rfl,fun z h=>by cases h;rfl⟩)
def D90:TD:=⟨.other,1,8,[.nilFunc]⟩
theorem F90:D90.Fits Try.prog 90:=zag (z:=.nilFunc) ⟨_,Try.underlying90,trivial⟩ (by kernel_rfl) rfl rfl (fun _=>⟨rfl,fun z h=>by cases h;rfl⟩)
def D91:TD:=⟨.other,1,8,[.nilFunc]⟩
theorem F91:D91.Fits Try.prog 91:=zag (z:=.nilFunc) ⟨_,Try.underlying91,trivial⟩ (by kernel_rfl) rfl rfl (fun _=>⟨rfl,fun z h=>by cases h;rfl⟩)
def D92:TD:=⟨.other,1,8,[.nilFunc]⟩
theorem F92:D92.Fits Try.prog 92:=zag (z:=.nilFunc) ⟨_,Try.underlying92,trivial⟩ (by kernel_rfl) rfl rfl (fun _=>⟨rfl,fun z h=>by cases h;rfl⟩)
def D93:TD:=⟨.other,1,8,[.nilFunc]⟩
theorem F93:D93.Fits Try.prog 93:=zag (z:=.nilFunc) ⟨_,Try.underlying93,trivial⟩ (by kernel_rfl) rfl rfl (fun _=>⟨rfl,fun z h=>by cases h;rfl⟩)
def D94:TD:=⟨.other,1,8,[.nilFunc]⟩
theorem F94:D94.Fits Try.prog 94:=zag (z:=.nilFunc) ⟨_,Try.underlying94,trivial⟩ (by kernel_rfl) rfl rfl (fun _=>⟨rfl,fun z h=>by cases h;rfl⟩)
def D95:TD:=⟨.other,1,8,[.nilFunc]⟩
theorem F95:D95.Fits Try.prog 95:=zag (z:=.nilFunc) ⟨_,Try.underlying95,trivial⟩ (by kernel_rfl) rfl rfl (fun _=>⟨rfl,fun z h=>by cases h;rfl⟩)
def D96:TD:=⟨.int .u64,1,8,[.int .u64 0]⟩
theorem F96:D96.Fits Try.prog 96:=zag (z:=.int .u64 0) (show Try.prog.underlying 96 = some (TypeDesc.int .u64) by kernel_rfl) (by kernel_rfl) rfl rfl (fun _=>⟨rfl,fun z h=>by cases h;rfl⟩)
def D97:TD:=⟨.other,1,8,[.nilFunc]⟩
theorem F97:D97.Fits Try.prog 97:=zag (z:=.nilFunc) ⟨_,Try.underlying97,trivial⟩ (by kernel_rfl) rfl rfl (fun _=>⟨rfl,fun z h=>by cases h;rfl⟩)
def D98:TD:=⟨.other,1,8,[.nilFunc]⟩
theorem F98:D98.Fits Try.prog 98:=zag (z:=.nilFunc) ⟨_,Try.underlying98,trivial⟩ (by kernel_rfl) rfl rfl (fun _=>⟨rfl,fun z h=>by cases h;rfl⟩)
def D99:TD:=⟨.other,1,8,[.nilFunc]⟩
theorem F99:D99.Fits Try.prog 99:=zag (z:=.nilFunc) ⟨_,Try.underlying99,trivial⟩ (by kernel_rfl) rfl rfl (fun _=>⟨rfl,fun z h=>by cases h;rfl⟩)
def zAF:TD:=⟨.other,1,8,[.nilFunc]⟩
theorem zFD:zAF.Fits Try.prog 100:=zag (z:=.nilFunc) ⟨_,Try.underlying100,trivial⟩ (by kernel_rfl) rfl rfl (fun _=>⟨rfl,fun z h=>by cases h;rfl⟩)
def zAG:TD:=⟨.other,1,8,[.nilFunc]⟩
theorem zFE:zAG.Fits Try.prog 101:=zag (z:=.nilFunc) ⟨_,Try.underlying101,trivial⟩ (by kernel_rfl) rfl rfl (fun _=>⟨rfl,fun z h=>by cases h;rfl⟩)
def zAH:TD:=⟨.other,1,8,[.nilFunc]⟩
theorem zFF:zAH.Fits Try.prog 102:=zag (z:=.nilFunc) ⟨_,Try.underlying102,trivial⟩ (by kernel_rfl) rfl rfl (fun _=>⟨rfl,fun z h=>by cases h;rfl⟩)
def zAI:TD:=⟨.other,1,8,[.nilFunc]⟩
theorem zFG:zAI.Fits Try.prog 103:=zag (z:=.nilFunc) ⟨_,Try.underlying103,trivial⟩ (by kernel_rfl) rfl rfl (fun _=>⟨rfl,fun z h=>by cases h;rfl⟩)
def zAJ:TD:=⟨.other,1,8,[.nilFunc]⟩
theorem zFH:zAJ.Fits Try.prog 104:=zag (z:=.nilFunc) ⟨_,Try.underlying104,trivial⟩ (by kernel_rfl) rfl rfl (fun _=>⟨rfl,fun z h=>by cases h;rfl⟩)
def zAK:TD:=⟨.other,1,8,[.nilFunc]⟩
theorem zFI:zAK.Fits Try.prog 105:=zag (z:=.nilFunc) ⟨_,Try.underlying105,trivial⟩ (by kernel_rfl) rfl rfl (fun _=>⟨rfl,fun z h=>by cases h;rfl⟩)
def zAL:TD:=⟨.other,1,8,[.nilFunc]⟩
theorem zFJ:zAL.Fits Try.prog 106:=zag (z:=.nilFunc) ⟨_,Try.underlying106,trivial⟩ (by kernel_rfl) rfl rfl (fun _=>⟨rfl,fun z h=>by cases h;rfl⟩)
def zAM:TD:=⟨.other,1,8,[.nilFunc]⟩
theorem zFK:zAM.Fits Try.prog 107:=zag (z:=.nilFunc) ⟨_,Try.underlying107,trivial⟩ (by kernel_rfl) rfl rfl (fun _=>⟨rfl,fun z h=>by cases h;rfl⟩)
def zAN:TD:=⟨.other,1,8,[.nilFunc]⟩
theorem zFL:zAN.Fits Try.prog 108:=zag (z:=.nilFunc) ⟨_,Try.underlying108,trivial⟩ (by kernel_rfl) rfl rfl (fun _=>⟨rfl,fun z h=>by cases h;rfl⟩)
def zAO:TD:=⟨.other,1,8,[.nilFunc]⟩
theorem zFM:zAO.Fits Try.prog 109:=zag (z:=.nilFunc) ⟨_,Try.underlying109,trivial⟩ (by kernel_rfl) rfl rfl (fun _=>⟨rfl,fun z h=>by cases h;rfl⟩)
def zAP:TD:=⟨.other,1,8,[.nilFunc]⟩
theorem zFN:zAP.Fits Try.prog 111:=zag (z:=.nilFunc) ⟨_,Try.underlying111,trivial⟩ (by kernel_rfl) rfl rfl (fun _=>⟨rfl,fun z h=>by cases h;rfl⟩)
def zAQ:TD:=⟨.other,1,8,[.nilFunc]⟩
theorem zFO:zAQ.Fits Try.prog 112:=zag (z:=.nilFunc) ⟨_,Try.underlying112,trivial⟩ (by kernel_rfl) rfl rfl (fun _=>⟨rfl,fun z h=>by cases h;rfl⟩)
def zAR:TD:=⟨.other,1,8,[.nilFunc]⟩
theorem zFP:zAR.Fits Try.prog 113:=zag (z:=.nilFunc) ⟨_,Try.underlying113,trivial⟩ (by kernel_rfl) rfl rfl (fun _=>⟨rfl,fun z h=>by cases h;rfl⟩)
def zAS:TD:=⟨.struct [(0,31),(1,3),(2,3)],3,40,[.slice none 0 0,.int .i64 0,.int .i64 0]⟩
theorem zFQ:zAS.Fits Try.prog 114:=zag (z:=.agg #[.slice none 0 0,.int .i64 0,.int .i64 0]) ⟨_,Try.underlying114,rfl⟩ (by kernel_rfl) rfl rfl (fun h=>by cases h)
def zAT:TD:=⟨.struct [(0,31),(1,3),(2,3)],3,40,[.slice none 0 0,.int .i64 0,.int .i64 0]⟩
theorem zFR:zAT.Fits Try.prog 115:=zag (z:=.agg #[.slice none 0 0,.int .i64 0,.int .i64 0]) ⟨_,Try.underlying115,rfl⟩ (by kernel_rfl) rfl rfl (fun h=>by cases h)
def zAU:TD:=⟨.other,1,8,[.nilFunc]⟩
theorem zFS:zAU.Fits Try.prog 116:=zag (z:=.nilFunc) ⟨_,Try.underlying116,trivial⟩ (by kernel_rfl) rfl rfl (fun _=>⟨rfl,fun z h=>by cases h;rfl⟩)
def zAV:TD:=⟨.other,1,8,[.nilFunc]⟩
theorem zFT:zAV.Fits Try.prog 117:=zag (z:=.nilFunc) ⟨_,Try.underlying117,trivial⟩ (by kernel_rfl) rfl rfl (fun _=>⟨rfl,fun z h=>by cases h;rfl⟩)
def zAW:TD:=⟨.other,1,8,[.nilFunc]⟩
theorem zFU:zAW.Fits Try.prog 118:=zag (z:=.nilFunc) ⟨_,Try.underlying118,trivial⟩ (by kernel_rfl) rfl rfl (fun _=>⟨rfl,fun z h=>by cases h;rfl⟩)
def zAX:TD:=⟨.other,1,8,[.nilFunc]⟩
theorem zFV:zAX.Fits Try.prog 119:=zag (z:=.nilFunc) ⟨_,Try.underlying119,trivial⟩ (by kernel_rfl) rfl rfl (fun _=>⟨rfl,fun z h=>by cases h;rfl⟩)
def zAY:TD:=⟨.other,1,8,[.nilFunc]⟩
theorem zFW:zAY.Fits Try.prog 120:=zag (z:=.nilFunc) ⟨_,Try.underlying120,trivial⟩ (by kernel_rfl) rfl rfl (fun _=>⟨rfl,fun z h=>by cases h;rfl⟩)
def zAZ:TD:=⟨.other,1,8,[.nilFunc]⟩
theorem zFX:zAZ.Fits Try.prog 121:=zag (z:=.nilFunc) ⟨_,Try.underlying121,trivial⟩ (by kernel_rfl) rfl rfl (fun _=>⟨rfl,fun z h=>by cases h;rfl⟩)
def zA0:TD:=⟨.other,1,8,[.nilFunc]⟩
theorem zFY:zA0.Fits Try.prog 122:=zag (z:=.nilFunc) ⟨_,Try.underlying122,trivial⟩ (by kernel_rfl) rfl rfl (fun _=>⟨rfl,fun z h=>by cases h;rfl⟩)
def zA1:TD:=⟨.other,1,8,[.nilFunc]⟩
theorem zFZ:zA1.Fits Try.prog 123:=zag (z:=.nilFunc) ⟨_,Try.underlying123,trivial⟩ (by kernel_rfl) rfl rfl (fun _=>⟨rfl,fun z h=>by cases h;rfl⟩)
def zA2:TD:=⟨.other,1,8,[.nilFunc]⟩
theorem zF0:zA2.Fits Try.prog 124:=zag (z:=.nilFunc) ⟨_,Try.underlying124,trivial⟩ (by kernel_rfl) rfl rfl (fun _=>⟨rfl,fun z h=>by cases h;rfl⟩)
def zA3:TD:=⟨.other,1,8,[.nilFunc]⟩
theorem zF1:zA3.Fits Try.prog 125:=zag (z:=.nilFunc) ⟨_,Try.underlying125,trivial⟩ (by kernel_rfl) rfl rfl (fun _=>⟨rfl,fun z h=>by cases h;rfl⟩)
def zA4:TD:=⟨.other,1,8,[.nilFunc]⟩
theorem zF2:zA4.Fits Try.prog 126:=zag (z:=.nilFunc) ⟨_,Try.underlying126,trivial⟩ (by kernel_rfl) rfl rfl (fun _=>⟨rfl,fun z h=>by cases h;rfl⟩)
def zA5:TD:=⟨.other,1,8,[.nilFunc]⟩
theorem zF3:zA5.Fits Try.prog 127:=zag (z:=.nilFunc) ⟨_,Try.underlying127,trivial⟩ (by kernel_rfl) rfl rfl (fun _=>⟨rfl,fun z h=>by cases h;rfl⟩)
def zA6:TD:=⟨.sli 9,1,24,[.slice none 0 0]⟩
theorem zF4:zA6.Fits Try.prog 128:=zag (z:=.slice none 0 0) (show Try.prog.underlying 128 = some (TypeDesc.slice 9) by kernel_rfl) (by kernel_rfl) rfl rfl (fun _=>⟨rfl,fun z h=>by cases h;rfl⟩)
def zA7:TD:=⟨.other,1,8,[.nilFunc]⟩
theorem zF5:zA7.Fits Try.prog 129:=zag (z:=.nilFunc) ⟨_,Try.underlying129,trivial⟩ (by kernel_rfl) rfl rfl (fun _=>⟨rfl,fun z h=>by cases h;rfl⟩)
def zA8:TD:=⟨.other,1,8,[.nilFunc]⟩
theorem zF6:zA8.Fits Try.prog 130:=zag (z:=.nilFunc) ⟨_,Try.underlying130,trivial⟩ (by kernel_rfl) rfl rfl (fun _=>⟨rfl,fun z h=>by cases h;rfl⟩)
def zA9:TD:=⟨.other,1,8,[.nilFunc]⟩
theorem zF7:zA9.Fits Try.prog 131:=zag (z:=.nilFunc) ⟨_,Try.underlying131,trivial⟩ (by kernel_rfl) rfl rfl (fun _=>⟨rfl,fun z h=>by cases h;rfl⟩)
def zBa:TD:=⟨.other,1,8,[.nilFunc]⟩
theorem zF8:zBa.Fits Try.prog 132:=zag (z:=.nilFunc) ⟨_,Try.underlying132,trivial⟩ (by kernel_rfl) rfl rfl (fun _=>⟨rfl,fun z h=>by cases h;rfl⟩)
def zBb:TD:=⟨.other,1,8,[.nilFunc]⟩
theorem zF9:zBb.Fits Try.prog 133:=zag (z:=.nilFunc) ⟨_,Try.underlying133,trivial⟩ (by kernel_rfl) rfl rfl (fun _=>⟨rfl,fun z h=>by cases h;rfl⟩)
def zBc:TD:=⟨.other,1,8,[.nilFunc]⟩
theorem zGa:zBc.Fits Try.prog 135:=zag (z:=.nilFunc) ⟨_,Try.underlying135,trivial⟩ (by kernel_rfl) rfl rfl (fun _=>⟨rfl,fun z h=>by cases h;rfl⟩)
def zBd:TD:=⟨.other,1,8,[.nilFunc]⟩
theorem zGb:zBd.Fits Try.prog 136:=zag (z:=.nilFunc) ⟨_,Try.underlying136,trivial⟩ (by kernel_rfl) rfl rfl (fun _=>⟨rfl,fun z h=>by cases h;rfl⟩)
def zBe:TD:=⟨.other,1,8,[.nilFunc]⟩
theorem zGc:zBe.Fits Try.prog 138:=zag (z:=.nilFunc) ⟨_,Try.underlying138,trivial⟩ (by kernel_rfl) rfl rfl (fun _=>⟨rfl,fun z h=>by cases h;rfl⟩)
def zBf:TD:=⟨.other,1,8,[.nilFunc]⟩
theorem zGd:zBf.Fits Try.prog 139:=zag (z:=.nilFunc) ⟨_,Try.underlying139,trivial⟩ (by kernel_rfl) rfl rfl (fun _=>⟨rfl,fun z h=>by cases h;rfl⟩)
def zBg:TD:=⟨.int .u32,1,4,[.int .u32 0]⟩
theorem zGe:zBg.Fits Try.prog 140:=zag (z:=.int .u32 0) (show Try.prog.underlying 140 = some (TypeDesc.int .u32) by kernel_rfl) (by kernel_rfl) rfl rfl (fun _=>⟨rfl,fun z h=>by cases h;rfl⟩)
def zBh:TD:=⟨.other,1,8,[.nilFunc]⟩
theorem zGf:zBh.Fits Try.prog 141:=zag (z:=.nilFunc) ⟨_,Try.underlying141,trivial⟩ (by kernel_rfl) rfl rfl (fun _=>⟨rfl,fun z h=>by cases h;rfl⟩)
def zBi:TD:=⟨.other,1,8,[.nilFunc]⟩
theorem zGg:zBi.Fits Try.prog 142:=zag (z:=.nilFunc) ⟨_,Try.underlying142,trivial⟩ (by kernel_rfl) rfl rfl (fun _=>⟨rfl,fun z h=>by cases h;rfl⟩)
def zBj:TD:=⟨.other,1,8,[.nilFunc]⟩
theorem zGh:zBj.Fits Try.prog 143:=zag (z:=.nilFunc) ⟨_,Try.underlying143,trivial⟩ (by kernel_rfl) rfl rfl (fun _=>⟨rfl,fun z h=>by cases h;rfl⟩)
def zBk:TD:=⟨.other,1,8,[.nilFunc]⟩
theorem zGi:zBk.Fits Try.prog 145:=zag (z:=.nilFunc) ⟨_,Try.underlying145,trivial⟩ (by kernel_rfl) rfl rfl (fun _=>⟨rfl,fun z h=>by cases h;rfl⟩)
def zBl:TD:=⟨.sli 4,1,24,[.slice none 0 0]⟩
theorem zGj:zBl.Fits Try.prog 146:=zag (z:=.slice none 0 0) (show Try.prog.underlying 146 = some (TypeDesc.slice 4) by kernel_rfl) (by kernel_rfl) rfl rfl (fun _=>⟨rfl,fun z h=>by cases h;rfl⟩)
def zBm:TD:=⟨.other,1,8,[.nilFunc]⟩
theorem zGk:zBm.Fits Try.prog 147:=zag (z:=.nilFunc) ⟨_,Try.underlying147,trivial⟩ (by kernel_rfl) rfl rfl (fun _=>⟨rfl,fun z h=>by cases h;rfl⟩)
def zBn:TD:=⟨.other,1,8,[.nilFunc]⟩
theorem zGl:zBn.Fits Try.prog 148:=zag (z:=.nilFunc) ⟨_,Try.underlying148,trivial⟩ (by kernel_rfl) rfl rfl (fun _=>⟨rfl,fun z h=>by cases h;rfl⟩)
def zBo:TD:=⟨.other,1,8,[.nilFunc]⟩
theorem zGm:zBo.Fits Try.prog 149:=zag (z:=.nilFunc) ⟨_,Try.underlying149,trivial⟩ (by kernel_rfl) rfl rfl (fun _=>⟨rfl,fun z h=>by cases h;rfl⟩)
def zBp:TD:=⟨.other,1,8,[.nilFunc]⟩
theorem zGn:zBp.Fits Try.prog 150:=zag (z:=.nilFunc) ⟨_,Try.underlying150,trivial⟩ (by kernel_rfl) rfl rfl (fun _=>⟨rfl,fun z h=>by cases h;rfl⟩)
def zBq:TD:=⟨.other,1,8,[.nilFunc]⟩
theorem zGo:zBq.Fits Try.prog 151:=zag (z:=.nilFunc) ⟨_,Try.underlying151,trivial⟩ (by kernel_rfl) rfl rfl (fun _=>⟨rfl,fun z h=>by cases h;rfl⟩)
def zBr:TD:=⟨.other,1,8,[.nilFunc]⟩
theorem zGp:zBr.Fits Try.prog 152:=zag (z:=.nilFunc) ⟨_,Try.underlying152,trivial⟩ (by kernel_rfl) rfl rfl (fun _=>⟨rfl,fun z h=>by cases h;rfl⟩)
def zBs:TD:=⟨.other,1,8,[.nilFunc]⟩
theorem zGq:zBs.Fits Try.prog 153:=zag (z:=.nilFunc) ⟨_,Try.underlying153,trivial⟩ (by kernel_rfl) rfl rfl (fun _=>⟨rfl,fun z h=>by cases h;rfl⟩)
def zBt:TD:=⟨.int .i64,1,8,[.int .i64 0]⟩
theorem zGr:zBt.Fits Try.prog 154:=zag (z:=.int .i64 0) (show Try.prog.underlying 154 = some (TypeDesc.int .i64) by kernel_rfl) (by kernel_rfl) rfl rfl (fun _=>⟨rfl,fun z h=>by cases h;rfl⟩)
def zBu:TD:=⟨.other,1,8,[.nilFunc]⟩
theorem zGs:zBu.Fits Try.prog 156:=zag (z:=.nilFunc) ⟨_,Try.underlying156,trivial⟩ (by kernel_rfl) rfl rfl (fun _=>⟨rfl,fun z h=>by cases h;rfl⟩)
def zBv:TD:=⟨.other,1,8,[.nilFunc]⟩
theorem zGt:zBv.Fits Try.prog 157:=zag (z:=.nilFunc) ⟨_,Try.underlying157,trivial⟩ (by kernel_rfl) rfl rfl (fun _=>⟨rfl,fun z h=>by cases h;rfl⟩)
def zBw:TD:=⟨.other,1,8,[.nilFunc]⟩
theorem zGu:zBw.Fits Try.prog 158:=zag (z:=.nilFunc) ⟨_,Try.underlying158,trivial⟩ (by kernel_rfl) rfl rfl (fun _=>⟨rfl,fun z h=>by cases h;rfl⟩)
def zBx:TD:=⟨.other,1,8,[.nilFunc]⟩
theorem zGv:zBx.Fits Try.prog 159:=zag (z:=.nilFunc) ⟨_,Try.underlying159,trivial⟩ (by kernel_rfl) rfl rfl (fun _=>⟨rfl,fun z h=>by cases h;rfl⟩)
def zBy:TD:=⟨.int .u64,1,8,[.int .u64 0]⟩
theorem zGw:zBy.Fits Try.prog 160:=zag (z:=.int .u64 0) (show Try.prog.underlying 160 = some (TypeDesc.int .u64) by kernel_rfl) (by kernel_rfl) rfl rfl (fun _=>⟨rfl,fun z h=>by cases h;rfl⟩)
def zBz:TD:=⟨.other,1,8,[.nilFunc]⟩
theorem zGx:zBz.Fits Try.prog 161:=zag (z:=.nilFunc) ⟨_,Try.underlying161,trivial⟩ (by kernel_rfl) rfl rfl (fun _=>⟨rfl,fun z h=>by cases h;rfl⟩)
def zBA:TD:=⟨.other,1,8,[.nilFunc]⟩
theorem zGy:zBA.Fits Try.prog 162:=zag (z:=.nilFunc) ⟨_,Try.underlying162,trivial⟩ (by kernel_rfl) rfl rfl (fun _=>⟨rfl,fun z h=>by cases h;rfl⟩)
def zBB:TD:=⟨.other,1,8,[.nilFunc]⟩
theorem zGz:zBB.Fits Try.prog 163:=zag (z:=.nilFunc) ⟨_,Try.underlying163,trivial⟩ (by kernel_rfl) rfl rfl (fun _=>⟨rfl,fun z h=>by cases h;rfl⟩)
def zBC:TD:=⟨.other,1,8,[.pointer none]⟩
theorem zGA:zBC.Fits Try.prog 164:=zag (z:=.pointer none) ⟨_,Try.underlying164,trivial⟩ (by kernel_rfl) rfl rfl (fun _=>⟨rfl,fun z h=>by cases h;rfl⟩)
def zBD:TD:=⟨.other,1,8,[.nilFunc]⟩
theorem zGB:zBD.Fits Try.prog 165:=zag (z:=.nilFunc) ⟨_,Try.underlying165,trivial⟩ (by kernel_rfl) rfl rfl (fun _=>⟨rfl,fun z h=>by cases h;rfl⟩)
def zBE:TD:=⟨.other,1,8,[.pointer none]⟩
theorem zGC:zBE.Fits Try.prog 166:=zag (z:=.pointer none) ⟨_,Try.underlying166,trivial⟩ (by kernel_rfl) rfl rfl (fun _=>⟨rfl,fun z h=>by cases h;rfl⟩)
def zBF:TD:=⟨.other,1,8,[.nilFunc]⟩
theorem zGD:zBF.Fits Try.prog 168:=zag (z:=.nilFunc) ⟨_,Try.underlying168,trivial⟩ (by kernel_rfl) rfl rfl (fun _=>⟨rfl,fun z h=>by cases h;rfl⟩)
def zBG:TD:=⟨.other,1,8,[.nilFunc]⟩
theorem zGE:zBG.Fits Try.prog 169:=zag (z:=.nilFunc) ⟨_,Try.underlying169,trivial⟩ (by kernel_rfl) rfl rfl (fun _=>⟨rfl,fun z h=>by cases h;rfl⟩)
def zBH:TD:=⟨.other,1,8,[.nilFunc]⟩
theorem zGF:zBH.Fits Try.prog 177:=zag (z:=.nilFunc) ⟨_,Try.underlying177,trivial⟩ (by kernel_rfl) rfl rfl (fun _=>⟨rfl,fun z h=>by cases h;rfl⟩)
def zBI:TD:=⟨.other,1,8,[.pointer none]⟩
theorem zGG:zBI.Fits Try.prog 178:=zag (z:=.pointer none) ⟨_,Try.underlying178,trivial⟩ (by kernel_rfl) rfl rfl (fun _=>⟨rfl,fun z h=>by cases h;rfl⟩)
def zDJ:List (Nat × TD):=[(1,D1),(2,D2),(3,D3),(4,D4),(5,D5),(9,D9),(12,D12),(13,D13),(21,D21),(22,D22),(23,D23),(24,D24),(25,D25),(26,D26),(27,D27),(28,D28),(29,D29),(30,D30),(31,D31),(32,D32),(33,D33),(34,D34),(35,D35),(36,D36),(37,D37),(38,D38),(40,D40),(41,D41),(43,D43),(44,D44),(45,D45),(47,D47),(48,D48),(49,D49),(50,D50),(51,D51),(52,D52),(53,D53),(55,D55),(56,D56),(57,D57),(58,D58),(60,D60),(61,D61),(63,D63),(64,D64),(65,D65),(66,D66),(67,D67),(69,D69),(70,D70),(71,D71),(72,D72),(73,D73),(74,D74),(75,D75),(76,D76),(77,D77),(78,D78),(79,D79)]
def zDK:List (Nat × TD):=[(80,D80),(81,D81),(82,D82),(83,D83),(84,D84),(85,D85),(86,D86),(87,D87),(88,D88),(89,D89),(90,D90),(91,D91),(92,D92),(93,D93),(94,D94),(95,D95),(96,D96),(97,D97),(98,D98),(99,D99),(100,zAF),(101,zAG),(102,zAH),(103,zAI),(104,zAJ),(105,zAK),(106,zAL),(107,zAM),(108,zAN),(109,zAO),(111,zAP),(112,zAQ),(113,zAR),(114,zAS),(115,zAT),(116,zAU),(117,zAV),(118,zAW),(119,zAX),(120,zAY),(121,zAZ),(122,zA0),(123,zA1),(124,zA2),(125,zA3),(126,zA4),(127,zA5),(128,zA6),(129,zA7),(130,zA8),(131,zA9),(132,zBa),(133,zBb),(135,zBc),(136,zBd),(138,zBe),(139,zBf),(140,zBg),(141,zBh),(142,zBi)]
def zDL:List (Nat × TD):=[(143,zBj),(145,zBk),(146,zBl),(147,zBm),(148,zBn),(149,zBo),(150,zBp),(151,zBq),(152,zBr),(153,zBs),(154,zBt),(156,zBu),(157,zBv),(158,zBw),(159,zBx),(160,zBy),(161,zBz),(162,zBA),(163,zBB),(164,zBC),(165,zBD),(166,zBE),(168,zBF),(169,zBG),(177,zBH),(178,zBI)]
def tab:List (Nat × TD):=zDJ ++ zDK ++ zDL
def T:Tab:=fun t=>((tab.find? fun x=>x.1 == t).map (·.2)).getD ⟨.other,0,0,[]⟩
theorem zae {a b:TD} (h:a = b):a.k = b.k∧a.size = b.size∧a.bytes = b.bytes∧a.zero = b.zero:=by subst h;exact ⟨rfl,rfl,rfl,rfl⟩
theorem T1k:(T 1).k = .other:=(zae (show T 1 = D1 from rfl)).1
theorem T1s:(T 1).size = 1:=(zae (show T 1 = D1 from rfl)).2.1
theorem T1b:(T 1).bytes = 8:=(zae (show T 1 = D1 from rfl)).2.2.1
theorem T1z:(T 1).zero = [.nilFunc]:=(zae (show T 1 = D1 from rfl)).2.2.2
theorem T2k:(T 2).k = .int .i64:=(zae (show T 2 = D2 from rfl)).1
theorem T2s:(T 2).size = 1:=(zae (show T 2 = D2 from rfl)).2.1
theorem T2b:(T 2).bytes = 8:=(zae (show T 2 = D2 from rfl)).2.2.1
theorem T2z:(T 2).zero = [.int .i64 0]:=(zae (show T 2 = D2 from rfl)).2.2.2
theorem T3k:(T 3).k = .int .i64:=(zae (show T 3 = D3 from rfl)).1
theorem T3s:(T 3).size = 1:=(zae (show T 3 = D3 from rfl)).2.1
theorem T3b:(T 3).bytes = 8:=(zae (show T 3 = D3 from rfl)).2.2.1
theorem T3z:(T 3).zero = [.int .i64 0]:=(zae (show T 3 = D3 from rfl)).2.2.2
theorem T4k:(T 4).k = .bool:=(zae (show T 4 = D4 from rfl)).1
theorem T4s:(T 4).size = 1:=(zae (show T 4 = D4 from rfl)).2.1
theorem T4b:(T 4).bytes = 1:=(zae (show T 4 = D4 from rfl)).2.2.1
theorem T4z:(T 4).zero = [.bool false]:=(zae (show T 4 = D4 from rfl)).2.2.2
theorem T5k:(T 5).k = .int .u8:=(zae (show T 5 = D5 from rfl)).1
theorem T5s:(T 5).size = 1:=(zae (show T 5 = D5 from rfl)).2.1
theorem T5b:(T 5).bytes = 1:=(zae (show T 5 = D5 from rfl)).2.2.1
theorem T5z:(T 5).zero = [.int .u8 0]:=(zae (show T 5 = D5 from rfl)).2.2.2
theorem T9k:(T 9).k = .str:=(zae (show T 9 = D9 from rfl)).1
theorem T9s:(T 9).size = 1:=(zae (show T 9 = D9 from rfl)).2.1
theorem T9b:(T 9).bytes = 16:=(zae (show T 9 = D9 from rfl)).2.2.1
theorem T9z:(T 9).zero = [.string ⟨#[]⟩]:=(zae (show T 9 = D9 from rfl)).2.2.2
theorem zD7:(T 12).k = .int .u64:=(zae (show T 12 = D12 from rfl)).1
theorem zD8:(T 12).size = 1:=(zae (show T 12 = D12 from rfl)).2.1
theorem zD9:(T 12).bytes = 8:=(zae (show T 12 = D12 from rfl)).2.2.1
theorem zEa:(T 12).zero = [.int .u64 0]:=(zae (show T 12 = D12 from rfl)).2.2.2
theorem zEb:(T 13).k = .struct [(0,9),(1,12)]:=(zae (show T 13 = D13 from rfl)).1
theorem zEc:(T 13).size = 2:=(zae (show T 13 = D13 from rfl)).2.1
theorem zEd:(T 13).bytes = 24:=(zae (show T 13 = D13 from rfl)).2.2.1
theorem zEe:(T 13).zero = [.string ⟨#[]⟩,.int .u64 0]:=(zae (show T 13 = D13 from rfl)).2.2.2
theorem zEf:(T 21).k = .int .i32:=(zae (show T 21 = D21 from rfl)).1
theorem zEg:(T 21).size = 1:=(zae (show T 21 = D21 from rfl)).2.1
theorem zEh:(T 21).bytes = 4:=(zae (show T 21 = D21 from rfl)).2.2.1
theorem zEi:(T 21).zero = [.int .i32 0]:=(zae (show T 21 = D21 from rfl)).2.2.2
theorem zEj:(T 22).k = .sli 3:=(zae (show T 22 = D22 from rfl)).1
theorem zEk:(T 22).size = 1:=(zae (show T 22 = D22 from rfl)).2.1
theorem zEl:(T 22).bytes = 24:=(zae (show T 22 = D22 from rfl)).2.2.1
theorem zEm:(T 22).zero = [.slice none 0 0]:=(zae (show T 22 = D22 from rfl)).2.2.2
theorem zEn:(T 23).k = .struct [(0,3),(1,22)]:=(zae (show T 23 = D23 from rfl)).1
theorem zEo:(T 23).size = 2:=(zae (show T 23 = D23 from rfl)).2.1
theorem zEp:(T 23).bytes = 32:=(zae (show T 23 = D23 from rfl)).2.2.1
theorem zEq:(T 23).zero = [.int .i64 0,.slice none 0 0]:=(zae (show T 23 = D23 from rfl)).2.2.2
theorem zEr:(T 24).k = .struct [(0,3),(1,22)]:=(zae (show T 24 = D24 from rfl)).1
theorem zEs:(T 24).size = 2:=(zae (show T 24 = D24 from rfl)).2.1
theorem zEt:(T 24).bytes = 32:=(zae (show T 24 = D24 from rfl)).2.2.1
theorem zEu:(T 24).zero = [.int .i64 0,.slice none 0 0]:=(zae (show T 24 = D24 from rfl)).2.2.2
theorem zKx:(T 25).k = .other:=(zae (show T 25 = D25 from rfl)).1
theorem zKy:(T 25).size = 1:=(zae (show T 25 = D25 from rfl)).2.1
theorem zKz:(T 25).bytes = 8:=(zae (show T 25 = D25 from rfl)).2.2.1
theorem zKA:(T 25).zero = [.nilFunc]:=(zae (show T 25 = D25 from rfl)).2.2.2
theorem zKB:(T 26).k = .other:=(zae (show T 26 = D26 from rfl)).1
theorem zKC:(T 26).size = 1:=(zae (show T 26 = D26 from rfl)).2.1
theorem zKD:(T 26).bytes = 8:=(zae (show T 26 = D26 from rfl)).2.2.1
theorem zKE:(T 26).zero = [.nilFunc]:=(zae (show T 26 = D26 from rfl)).2.2.2
theorem zEv:(T 27).k = .struct [(0,3),(1,22)]:=(zae (show T 27 = D27 from rfl)).1
theorem zEw:(T 27).size = 2:=(zae (show T 27 = D27 from rfl)).2.1
theorem zEx:(T 27).bytes = 32:=(zae (show T 27 = D27 from rfl)).2.2.1
theorem zEy:(T 27).zero = [.int .i64 0,.slice none 0 0]:=(zae (show T 27 = D27 from rfl)).2.2.2
theorem zKF:(T 28).k = .other:=(zae (show T 28 = D28 from rfl)).1
theorem zKG:(T 28).size = 1:=(zae (show T 28 = D28 from rfl)).2.1
theorem zKH:(T 28).bytes = 8:=(zae (show T 28 = D28 from rfl)).2.2.1
theorem zKI:(T 28).zero = [.nilFunc]:=(zae (show T 28 = D28 from rfl)).2.2.2
theorem zKJ:(T 29).k = .other:=(zae (show T 29 = D29 from rfl)).1
theorem zKK:(T 29).size = 1:=(zae (show T 29 = D29 from rfl)).2.1
theorem zKL:(T 29).bytes = 8:=(zae (show T 29 = D29 from rfl)).2.2.1
theorem zKM:(T 29).zero = [.nilFunc]:=(zae (show T 29 = D29 from rfl)).2.2.2
theorem zKN:(T 30).k = .other:=(zae (show T 30 = D30 from rfl)).1
theorem zKO:(T 30).size = 1:=(zae (show T 30 = D30 from rfl)).2.1
theorem zKP:(T 30).bytes = 8:=(zae (show T 30 = D30 from rfl)).2.2.1
theorem zKQ:(T 30).zero = [.nilFunc]:=(zae (show T 30 = D30 from rfl)).2.2.2
theorem zEz:(T 31).k = .sli 5:=(zae (show T 31 = D31 from rfl)).1
theorem zEA:(T 31).size = 1:=(zae (show T 31 = D31 from rfl)).2.1
theorem zEB:(T 31).bytes = 24:=(zae (show T 31 = D31 from rfl)).2.2.1
theorem zEC:(T 31).zero = [.slice none 0 0]:=(zae (show T 31 = D31 from rfl)).2.2.2
theorem zKR:(T 32).k = .other:=(zae (show T 32 = D32 from rfl)).1
theorem zKS:(T 32).size = 1:=(zae (show T 32 = D32 from rfl)).2.1
theorem zKT:(T 32).bytes = 8:=(zae (show T 32 = D32 from rfl)).2.2.1
theorem zKU:(T 32).zero = [.nilFunc]:=(zae (show T 32 = D32 from rfl)).2.2.2
theorem zED:(T 33).k = .sli 22:=(zae (show T 33 = D33 from rfl)).1
theorem zEE:(T 33).size = 1:=(zae (show T 33 = D33 from rfl)).2.1
theorem zEF:(T 33).bytes = 24:=(zae (show T 33 = D33 from rfl)).2.2.1
theorem zEG:(T 33).zero = [.slice none 0 0]:=(zae (show T 33 = D33 from rfl)).2.2.2
theorem zEH:(T 34).k = .struct [(0,33)]:=(zae (show T 34 = D34 from rfl)).1
theorem zEI:(T 34).size = 1:=(zae (show T 34 = D34 from rfl)).2.1
theorem zEJ:(T 34).bytes = 24:=(zae (show T 34 = D34 from rfl)).2.2.1
theorem zEK:(T 34).zero = [.slice none 0 0]:=(zae (show T 34 = D34 from rfl)).2.2.2
theorem zEL:(T 35).k = .struct [(0,33)]:=(zae (show T 35 = D35 from rfl)).1
theorem zEM:(T 35).size = 1:=(zae (show T 35 = D35 from rfl)).2.1
theorem zEN:(T 35).bytes = 24:=(zae (show T 35 = D35 from rfl)).2.2.1
theorem zEO:(T 35).zero = [.slice none 0 0]:=(zae (show T 35 = D35 from rfl)).2.2.2
theorem zKV:(T 36).k = .other:=(zae (show T 36 = D36 from rfl)).1
theorem zKW:(T 36).size = 1:=(zae (show T 36 = D36 from rfl)).2.1
theorem zKX:(T 36).bytes = 8:=(zae (show T 36 = D36 from rfl)).2.2.1
theorem zKY:(T 36).zero = [.nilFunc]:=(zae (show T 36 = D36 from rfl)).2.2.2
theorem zEP:(T 37).k = .struct [(0,3),(1,22)]:=(zae (show T 37 = D37 from rfl)).1
theorem zEQ:(T 37).size = 2:=(zae (show T 37 = D37 from rfl)).2.1
theorem zER:(T 37).bytes = 32:=(zae (show T 37 = D37 from rfl)).2.2.1
theorem zES:(T 37).zero = [.int .i64 0,.slice none 0 0]:=(zae (show T 37 = D37 from rfl)).2.2.2
theorem zET:(T 38).k = .struct [(0,3),(1,22)]:=(zae (show T 38 = D38 from rfl)).1
theorem zEU:(T 38).size = 2:=(zae (show T 38 = D38 from rfl)).2.1
theorem zEV:(T 38).bytes = 32:=(zae (show T 38 = D38 from rfl)).2.2.1
theorem zEW:(T 38).zero = [.int .i64 0,.slice none 0 0]:=(zae (show T 38 = D38 from rfl)).2.2.2
theorem zKZ:(T 40).k = .other:=(zae (show T 40 = D40 from rfl)).1
theorem zK0:(T 40).size = 1:=(zae (show T 40 = D40 from rfl)).2.1
theorem zK1:(T 40).bytes = 8:=(zae (show T 40 = D40 from rfl)).2.2.1
theorem zK2:(T 40).zero = [.nilFunc]:=(zae (show T 40 = D40 from rfl)).2.2.2
theorem zK3:(T 41).k = .other:=(zae (show T 41 = D41 from rfl)).1
theorem zK4:(T 41).size = 1:=(zae (show T 41 = D41 from rfl)).2.1
theorem zK5:(T 41).bytes = 8:=(zae (show T 41 = D41 from rfl)).2.2.1
theorem zK6:(T 41).zero = [.nilFunc]:=(zae (show T 41 = D41 from rfl)).2.2.2
theorem zK7:(T 43).k = .other:=(zae (show T 43 = D43 from rfl)).1
theorem zK8:(T 43).size = 1:=(zae (show T 43 = D43 from rfl)).2.1
theorem zK9:(T 43).bytes = 8:=(zae (show T 43 = D43 from rfl)).2.2.1
theorem zLa:(T 43).zero = [.nilFunc]:=(zae (show T 43 = D43 from rfl)).2.2.2
theorem zLb:(T 44).k = .other:=(zae (show T 44 = D44 from rfl)).1
theorem zLc:(T 44).size = 1:=(zae (show T 44 = D44 from rfl)).2.1
theorem zLd:(T 44).bytes = 8:=(zae (show T 44 = D44 from rfl)).2.2.1
theorem zLe:(T 44).zero = [.nilFunc]:=(zae (show T 44 = D44 from rfl)).2.2.2
theorem zLf:(T 45).k = .other:=(zae (show T 45 = D45 from rfl)).1
theorem zLg:(T 45).size = 1:=(zae (show T 45 = D45 from rfl)).2.1
theorem zLh:(T 45).bytes = 8:=(zae (show T 45 = D45 from rfl)).2.2.1
theorem zLi:(T 45).zero = [.nilFunc]:=(zae (show T 45 = D45 from rfl)).2.2.2
theorem zLj:(T 47).k = .other:=(zae (show T 47 = D47 from rfl)).1
theorem zLk:(T 47).size = 1:=(zae (show T 47 = D47 from rfl)).2.1
theorem zLl:(T 47).bytes = 8:=(zae (show T 47 = D47 from rfl)).2.2.1
theorem zLm:(T 47).zero = [.nilFunc]:=(zae (show T 47 = D47 from rfl)).2.2.2
theorem zLn:(T 48).k = .other:=(zae (show T 48 = D48 from rfl)).1
theorem zLo:(T 48).size = 1:=(zae (show T 48 = D48 from rfl)).2.1
theorem zLp:(T 48).bytes = 8:=(zae (show T 48 = D48 from rfl)).2.2.1
theorem zLq:(T 48).zero = [.nilFunc]:=(zae (show T 48 = D48 from rfl)).2.2.2
theorem zLr:(T 49).k = .other:=(zae (show T 49 = D49 from rfl)).1
theorem zLs:(T 49).size = 1:=(zae (show T 49 = D49 from rfl)).2.1
theorem zLt:(T 49).bytes = 8:=(zae (show T 49 = D49 from rfl)).2.2.1
theorem zLu:(T 49).zero = [.nilFunc]:=(zae (show T 49 = D49 from rfl)).2.2.2
theorem zLv:(T 50).k = .other:=(zae (show T 50 = D50 from rfl)).1
theorem zLw:(T 50).size = 1:=(zae (show T 50 = D50 from rfl)).2.1
theorem zLx:(T 50).bytes = 8:=(zae (show T 50 = D50 from rfl)).2.2.1
theorem zLy:(T 50).zero = [.nilFunc]:=(zae (show T 50 = D50 from rfl)).2.2.2
theorem zLz:(T 51).k = .other:=(zae (show T 51 = D51 from rfl)).1
theorem zLA:(T 51).size = 1:=(zae (show T 51 = D51 from rfl)).2.1
theorem zLB:(T 51).bytes = 8:=(zae (show T 51 = D51 from rfl)).2.2.1
theorem zLC:(T 51).zero = [.nilFunc]:=(zae (show T 51 = D51 from rfl)).2.2.2
theorem zLD:(T 52).k = .other:=(zae (show T 52 = D52 from rfl)).1
theorem zLE:(T 52).size = 1:=(zae (show T 52 = D52 from rfl)).2.1
theorem zLF:(T 52).bytes = 8:=(zae (show T 52 = D52 from rfl)).2.2.1
theorem zLG:(T 52).zero = [.nilFunc]:=(zae (show T 52 = D52 from rfl)).2.2.2
theorem zLH:(T 53).k = .other:=(zae (show T 53 = D53 from rfl)).1
theorem zLI:(T 53).size = 1:=(zae (show T 53 = D53 from rfl)).2.1
theorem zLJ:(T 53).bytes = 8:=(zae (show T 53 = D53 from rfl)).2.2.1
theorem zLK:(T 53).zero = [.nilFunc]:=(zae (show T 53 = D53 from rfl)).2.2.2
theorem zLL:(T 55).k = .other:=(zae (show T 55 = D55 from rfl)).1
theorem zLM:(T 55).size = 1:=(zae (show T 55 = D55 from rfl)).2.1
theorem zLN:(T 55).bytes = 8:=(zae (show T 55 = D55 from rfl)).2.2.1
theorem zLO:(T 55).zero = [.nilFunc]:=(zae (show T 55 = D55 from rfl)).2.2.2
theorem zLP:(T 56).k = .other:=(zae (show T 56 = D56 from rfl)).1
theorem zLQ:(T 56).size = 1:=(zae (show T 56 = D56 from rfl)).2.1
theorem zLR:(T 56).bytes = 8:=(zae (show T 56 = D56 from rfl)).2.2.1
theorem zLS:(T 56).zero = [.nilFunc]:=(zae (show T 56 = D56 from rfl)).2.2.2
theorem zLT:(T 57).k = .other:=(zae (show T 57 = D57 from rfl)).1
theorem zLU:(T 57).size = 1:=(zae (show T 57 = D57 from rfl)).2.1
theorem zLV:(T 57).bytes = 8:=(zae (show T 57 = D57 from rfl)).2.2.1
theorem zLW:(T 57).zero = [.nilFunc]:=(zae (show T 57 = D57 from rfl)).2.2.2
theorem zLX:(T 58).k = .other:=(zae (show T 58 = D58 from rfl)).1
theorem zLY:(T 58).size = 1:=(zae (show T 58 = D58 from rfl)).2.1
theorem zLZ:(T 58).bytes = 8:=(zae (show T 58 = D58 from rfl)).2.2.1
theorem zL0:(T 58).zero = [.nilFunc]:=(zae (show T 58 = D58 from rfl)).2.2.2
theorem zL1:(T 60).k = .other:=(zae (show T 60 = D60 from rfl)).1
theorem zL2:(T 60).size = 1:=(zae (show T 60 = D60 from rfl)).2.1
theorem zL3:(T 60).bytes = 8:=(zae (show T 60 = D60 from rfl)).2.2.1
theorem zL4:(T 60).zero = [.nilFunc]:=(zae (show T 60 = D60 from rfl)).2.2.2
theorem zL5:(T 61).k = .other:=(zae (show T 61 = D61 from rfl)).1
theorem zL6:(T 61).size = 1:=(zae (show T 61 = D61 from rfl)).2.1
theorem zL7:(T 61).bytes = 8:=(zae (show T 61 = D61 from rfl)).2.2.1
theorem zL8:(T 61).zero = [.nilFunc]:=(zae (show T 61 = D61 from rfl)).2.2.2
theorem zL9:(T 63).k = .other:=(zae (show T 63 = D63 from rfl)).1
theorem zMa:(T 63).size = 1:=(zae (show T 63 = D63 from rfl)).2.1
theorem zMb:(T 63).bytes = 8:=(zae (show T 63 = D63 from rfl)).2.2.1
theorem zMc:(T 63).zero = [.nilFunc]:=(zae (show T 63 = D63 from rfl)).2.2.2
theorem zMd:(T 64).k = .other:=(zae (show T 64 = D64 from rfl)).1
theorem zMe:(T 64).size = 1:=(zae (show T 64 = D64 from rfl)).2.1
theorem zMf:(T 64).bytes = 8:=(zae (show T 64 = D64 from rfl)).2.2.1
theorem zMg:(T 64).zero = [.nilFunc]:=(zae (show T 64 = D64 from rfl)).2.2.2
theorem zMh:(T 65).k = .other:=(zae (show T 65 = D65 from rfl)).1
theorem zMi:(T 65).size = 1:=(zae (show T 65 = D65 from rfl)).2.1
theorem zMj:(T 65).bytes = 8:=(zae (show T 65 = D65 from rfl)).2.2.1
theorem zMk:(T 65).zero = [.nilFunc]:=(zae (show T 65 = D65 from rfl)).2.2.2
theorem zMl:(T 66).k = .other:=(zae (show T 66 = D66 from rfl)).1
theorem zMm:(T 66).size = 1:=(zae (show T 66 = D66 from rfl)).2.1
theorem zMn:(T 66).bytes = 8:=(zae (show T 66 = D66 from rfl)).2.2.1
theorem zMo:(T 66).zero = [.nilFunc]:=(zae (show T 66 = D66 from rfl)).2.2.2
theorem zMp:(T 67).k = .other:=(zae (show T 67 = D67 from rfl)).1
theorem zMq:(T 67).size = 1:=(zae (show T 67 = D67 from rfl)).2.1
theorem zMr:(T 67).bytes = 8:=(zae (show T 67 = D67 from rfl)).2.2.1
theorem zMs:(T 67).zero = [.nilFunc]:=(zae (show T 67 = D67 from rfl)).2.2.2
theorem zMt:(T 69).k = .other:=(zae (show T 69 = D69 from rfl)).1
theorem zMu:(T 69).size = 1:=(zae (show T 69 = D69 from rfl)).2.1
theorem zMv:(T 69).bytes = 8:=(zae (show T 69 = D69 from rfl)).2.2.1
theorem zMw:(T 69).zero = [.nilFunc]:=(zae (show T 69 = D69 from rfl)).2.2.2
theorem zMx:(T 70).k = .other:=(zae (show T 70 = D70 from rfl)).1
theorem zMy:(T 70).size = 1:=(zae (show T 70 = D70 from rfl)).2.1
theorem zMz:(T 70).bytes = 8:=(zae (show T 70 = D70 from rfl)).2.2.1
theorem zMA:(T 70).zero = [.nilFunc]:=(zae (show T 70 = D70 from rfl)).2.2.2
theorem zMB:(T 71).k = .other:=(zae (show T 71 = D71 from rfl)).1
theorem zMC:(T 71).size = 1:=(zae (show T 71 = D71 from rfl)).2.1
theorem zMD:(T 71).bytes = 8:=(zae (show T 71 = D71 from rfl)).2.2.1
theorem zME:(T 71).zero = [.nilFunc]:=(zae (show T 71 = D71 from rfl)).2.2.2
theorem zMF:(T 72).k = .other:=(zae (show T 72 = D72 from rfl)).1
theorem zMG:(T 72).size = 1:=(zae (show T 72 = D72 from rfl)).2.1
theorem zMH:(T 72).bytes = 8:=(zae (show T 72 = D72 from rfl)).2.2.1
theorem zMI:(T 72).zero = [.nilFunc]:=(zae (show T 72 = D72 from rfl)).2.2.2
theorem zMJ:(T 73).k = .other:=(zae (show T 73 = D73 from rfl)).1
theorem zMK:(T 73).size = 1:=(zae (show T 73 = D73 from rfl)).2.1
theorem zML:(T 73).bytes = 8:=(zae (show T 73 = D73 from rfl)).2.2.1
theorem zMM:(T 73).zero = [.nilFunc]:=(zae (show T 73 = D73 from rfl)).2.2.2
theorem zMN:(T 74).k = .other:=(zae (show T 74 = D74 from rfl)).1
theorem zMO:(T 74).size = 1:=(zae (show T 74 = D74 from rfl)).2.1
theorem zMP:(T 74).bytes = 8:=(zae (show T 74 = D74 from rfl)).2.2.1
theorem zMQ:(T 74).zero = [.nilFunc]:=(zae (show T 74 = D74 from rfl)).2.2.2
theorem zMR:(T 75).k = .other:=(zae (show T 75 = D75 from rfl)).1
theorem zMS:(T 75).size = 1:=(zae (show T 75 = D75 from rfl)).2.1
theorem zMT:(T 75).bytes = 8:=(zae (show T 75 = D75 from rfl)).2.2.1
theorem zMU:(T 75).zero = [.nilFunc]:=(zae (show T 75 = D75 from rfl)).2.2.2
theorem zMV:(T 76).k = .other:=(zae (show T 76 = D76 from rfl)).1
theorem zMW:(T 76).size = 1:=(zae (show T 76 = D76 from rfl)).2.1
theorem zMX:(T 76).bytes = 8:=(zae (show T 76 = D76 from rfl)).2.2.1
theorem zMY:(T 76).zero = [.pointer none]:=(zae (show T 76 = D76 from rfl)).2.2.2
theorem zMZ:(T 77).k = .other:=(zae (show T 77 = D77 from rfl)).1
theorem zM0:(T 77).size = 1:=(zae (show T 77 = D77 from rfl)).2.1
theorem zM1:(T 77).bytes = 8:=(zae (show T 77 = D77 from rfl)).2.2.1
theorem zM2:(T 77).zero = [.nilFunc]:=(zae (show T 77 = D77 from rfl)).2.2.2
theorem zEX:(T 78).k = .int .u64:=(zae (show T 78 = D78 from rfl)).1
theorem zEY:(T 78).size = 1:=(zae (show T 78 = D78 from rfl)).2.1
theorem zEZ:(T 78).bytes = 8:=(zae (show T 78 = D78 from rfl)).2.2.1
theorem zE0:(T 78).zero = [.int .u64 0]:=(zae (show T 78 = D78 from rfl)).2.2.2
theorem zM3:(T 79).k = .other:=(zae (show T 79 = D79 from rfl)).1
theorem zM4:(T 79).size = 1:=(zae (show T 79 = D79 from rfl)).2.1
theorem zM5:(T 79).bytes = 8:=(zae (show T 79 = D79 from rfl)).2.2.1
theorem zM6:(T 79).zero = [.nilFunc]:=(zae (show T 79 = D79 from rfl)).2.2.2
theorem zM7:(T 80).k = .other:=(zae (show T 80 = D80 from rfl)).1
theorem zM8:(T 80).size = 1:=(zae (show T 80 = D80 from rfl)).2.1
theorem zM9:(T 80).bytes = 8:=(zae (show T 80 = D80 from rfl)).2.2.1
theorem zNa:(T 80).zero = [.nilFunc]:=(zae (show T 80 = D80 from rfl)).2.2.2
theorem zNb:(T 81).k = .other:=(zae (show T 81 = D81 from rfl)).1
theorem zNc:(T 81).size = 1:=(zae (show T 81 = D81 from rfl)).2.1
theorem zNd:(T 81).bytes = 8:=(zae (show T 81 = D81 from rfl)).2.2.1
theorem zNe:(T 81).zero = [.nilFunc]:=(zae (show T 81 = D81 from rfl)).2.2.2
theorem zE1:(T 82).k = .arr 27 4:=(zae (show T 82 = D82 from rfl)).1
theorem zE2:(T 82).size = 27:=(zae (show T 82 = D82 from rfl)).2.1
theorem zE3:(T 82).bytes = 27:=(zae (show T 82 = D82 from rfl)).2.2.1
theorem zE4:(T 82).zero = ((List.replicate 27 (.bool false))):=(zae (show T 82 = D82 from rfl)).2.2.2
theorem zNf:(T 83).k = .other:=(zae (show T 83 = D83 from rfl)).1
theorem zNg:(T 83).size = 1:=(zae (show T 83 = D83 from rfl)).2.1
theorem zNh:(T 83).bytes = 8:=(zae (show T 83 = D83 from rfl)).2.2.1
theorem zNi:(T 83).zero = [.nilFunc]:=(zae (show T 83 = D83 from rfl)).2.2.2
theorem zNj:(T 84).k = .other:=(zae (show T 84 = D84 from rfl)).1
theorem zNk:(T 84).size = 1:=(zae (show T 84 = D84 from rfl)).2.1
theorem zNl:(T 84).bytes = 8:=(zae (show T 84 = D84 from rfl)).2.2.1
theorem zNm:(T 84).zero = [.nilFunc]:=(zae (show T 84 = D84 from rfl)).2.2.2
theorem zNn:(T 85).k = .other:=(zae (show T 85 = D85 from rfl)).1
theorem zNo:(T 85).size = 1:=(zae (show T 85 = D85 from rfl)).2.1
theorem zNp:(T 85).bytes = 8:=(zae (show T 85 = D85 from rfl)).2.2.1
theorem zNq:(T 85).zero = [.nilFunc]:=(zae (show T 85 = D85 from rfl)).2.2.2
theorem zNr:(T 86).k = .other:=(zae (show T 86 = D86 from rfl)).1
theorem zNs:(T 86).size = 1:=(zae (show T 86 = D86 from rfl)).2.1
theorem zNt:(T 86).bytes = 8:=(zae (show T 86 = D86 from rfl)).2.2.1
theorem zNu:(T 86).zero = [.nilFunc]:=(zae (show T 86 = D86 from rfl)).2.2.2
theorem zNv:(T 87).k = .other:=(zae (show T 87 = D87 from rfl)).1
theorem zNw:(T 87).size = 1:=(zae (show T 87 = D87 from rfl)).2.1
theorem zNx:(T 87).bytes = 8:=(zae (show T 87 = D87 from rfl)).2.2.1
theorem zNy:(T 87).zero = [.nilFunc]:=(zae (show T 87 = D87 from rfl)).2.2.2
theorem zE5:(T 88).k = .arr 3 3:=(zae (show T 88 = D88 from rfl)).1
theorem zE6:(T 88).size = 3:=(zae (show T 88 = D88 from rfl)).2.1
theorem zE7:(T 88).bytes = 24:=(zae (show T 88 = D88 from rfl)).2.2.1
theorem zE8:(T 88).zero = [.int .i64 0,.int .i64 0,.int .i64 0]:=(zae (show T 88 = D88 from rfl)).2.2.2
theorem zNz:(T 89).k = .other:=(zae (show T 89 = D89 from rfl)).1
theorem zNA:(T 89).size = 1:=(zae (show T 89 = D89 from rfl)).2.1
theorem zNB:(T 89).bytes = 8:=(zae (show T 89 = D89 from rfl)).2.2.1
theorem zNC:(T 89).zero = [.nilFunc]:=(zae (show T 89 = D89 from rfl)).2.2.2
theorem zND:(T 90).k = .other:=(zae (show T 90 = D90 from rfl)).1
theorem zNE:(T 90).size = 1:=(zae (show T 90 = D90 from rfl)).2.1
theorem zNF:(T 90).bytes = 8:=(zae (show T 90 = D90 from rfl)).2.2.1
theorem zNG:(T 90).zero = [.nilFunc]:=(zae (show T 90 = D90 from rfl)).2.2.2
theorem zNH:(T 91).k = .other:=(zae (show T 91 = D91 from rfl)).1
theorem zNI:(T 91).size = 1:=(zae (show T 91 = D91 from rfl)).2.1
theorem zNJ:(T 91).bytes = 8:=(zae (show T 91 = D91 from rfl)).2.2.1
theorem zNK:(T 91).zero = [.nilFunc]:=(zae (show T 91 = D91 from rfl)).2.2.2
theorem zNL:(T 92).k = .other:=(zae (show T 92 = D92 from rfl)).1
theorem zNM:(T 92).size = 1:=(zae (show T 92 = D92 from rfl)).2.1
theorem zNN:(T 92).bytes = 8:=(zae (show T 92 = D92 from rfl)).2.2.1
theorem zNO:(T 92).zero = [.nilFunc]:=(zae (show T 92 = D92 from rfl)).2.2.2
theorem zNP:(T 93).k = .other:=(zae (show T 93 = D93 from rfl)).1
theorem zNQ:(T 93).size = 1:=(zae (show T 93 = D93 from rfl)).2.1
theorem zNR:(T 93).bytes = 8:=(zae (show T 93 = D93 from rfl)).2.2.1
theorem zNS:(T 93).zero = [.nilFunc]:=(zae (show T 93 = D93 from rfl)).2.2.2
theorem zNT:(T 94).k = .other:=(zae (show T 94 = D94 from rfl)).1
theorem zNU:(T 94).size = 1:=(zae (show T 94 = D94 from rfl)).2.1
theorem zNV:(T 94).bytes = 8:=(zae (show T 94 = D94 from rfl)).2.2.1
theorem zNW:(T 94).zero = [.nilFunc]:=(zae (show T 94 = D94 from rfl)).2.2.2
theorem zNX:(T 95).k = .other:=(zae (show T 95 = D95 from rfl)).1
theorem zNY:(T 95).size = 1:=(zae (show T 95 = D95 from rfl)).2.1
theorem zNZ:(T 95).bytes = 8:=(zae (show T 95 = D95 from rfl)).2.2.1
theorem zN0:(T 95).zero = [.nilFunc]:=(zae (show T 95 = D95 from rfl)).2.2.2
theorem zE9:(T 96).k = .int .u64:=(zae (show T 96 = D96 from rfl)).1
theorem zFa:(T 96).size = 1:=(zae (show T 96 = D96 from rfl)).2.1
theorem zFb:(T 96).bytes = 8:=(zae (show T 96 = D96 from rfl)).2.2.1
theorem zFc:(T 96).zero = [.int .u64 0]:=(zae (show T 96 = D96 from rfl)).2.2.2
theorem zN1:(T 97).k = .other:=(zae (show T 97 = D97 from rfl)).1
theorem zN2:(T 97).size = 1:=(zae (show T 97 = D97 from rfl)).2.1
theorem zN3:(T 97).bytes = 8:=(zae (show T 97 = D97 from rfl)).2.2.1
theorem zN4:(T 97).zero = [.nilFunc]:=(zae (show T 97 = D97 from rfl)).2.2.2
theorem zN5:(T 98).k = .other:=(zae (show T 98 = D98 from rfl)).1
theorem zN6:(T 98).size = 1:=(zae (show T 98 = D98 from rfl)).2.1
theorem zN7:(T 98).bytes = 8:=(zae (show T 98 = D98 from rfl)).2.2.1
theorem zN8:(T 98).zero = [.nilFunc]:=(zae (show T 98 = D98 from rfl)).2.2.2
theorem zN9:(T 99).k = .other:=(zae (show T 99 = D99 from rfl)).1
theorem zOa:(T 99).size = 1:=(zae (show T 99 = D99 from rfl)).2.1
theorem zOb:(T 99).bytes = 8:=(zae (show T 99 = D99 from rfl)).2.2.1
theorem zOc:(T 99).zero = [.nilFunc]:=(zae (show T 99 = D99 from rfl)).2.2.2
theorem zGH:(T 100).k = .other:=(zae (show T 100 = zAF from rfl)).1
theorem zGI:(T 100).size = 1:=(zae (show T 100 = zAF from rfl)).2.1
theorem zGJ:(T 100).bytes = 8:=(zae (show T 100 = zAF from rfl)).2.2.1
theorem zGK:(T 100).zero = [.nilFunc]:=(zae (show T 100 = zAF from rfl)).2.2.2
theorem zGL:(T 101).k = .other:=(zae (show T 101 = zAG from rfl)).1
theorem zGM:(T 101).size = 1:=(zae (show T 101 = zAG from rfl)).2.1
theorem zGN:(T 101).bytes = 8:=(zae (show T 101 = zAG from rfl)).2.2.1
theorem zGO:(T 101).zero = [.nilFunc]:=(zae (show T 101 = zAG from rfl)).2.2.2
theorem zGP:(T 102).k = .other:=(zae (show T 102 = zAH from rfl)).1
theorem zGQ:(T 102).size = 1:=(zae (show T 102 = zAH from rfl)).2.1
theorem zGR:(T 102).bytes = 8:=(zae (show T 102 = zAH from rfl)).2.2.1
theorem zGS:(T 102).zero = [.nilFunc]:=(zae (show T 102 = zAH from rfl)).2.2.2
theorem zGT:(T 103).k = .other:=(zae (show T 103 = zAI from rfl)).1
theorem zGU:(T 103).size = 1:=(zae (show T 103 = zAI from rfl)).2.1
theorem zGV:(T 103).bytes = 8:=(zae (show T 103 = zAI from rfl)).2.2.1
theorem zGW:(T 103).zero = [.nilFunc]:=(zae (show T 103 = zAI from rfl)).2.2.2
theorem zGX:(T 104).k = .other:=(zae (show T 104 = zAJ from rfl)).1
theorem zGY:(T 104).size = 1:=(zae (show T 104 = zAJ from rfl)).2.1
theorem zGZ:(T 104).bytes = 8:=(zae (show T 104 = zAJ from rfl)).2.2.1
theorem zG0:(T 104).zero = [.nilFunc]:=(zae (show T 104 = zAJ from rfl)).2.2.2
theorem zG1:(T 105).k = .other:=(zae (show T 105 = zAK from rfl)).1
theorem zG2:(T 105).size = 1:=(zae (show T 105 = zAK from rfl)).2.1
theorem zG3:(T 105).bytes = 8:=(zae (show T 105 = zAK from rfl)).2.2.1
theorem zG4:(T 105).zero = [.nilFunc]:=(zae (show T 105 = zAK from rfl)).2.2.2
theorem zG5:(T 106).k = .other:=(zae (show T 106 = zAL from rfl)).1
theorem zG6:(T 106).size = 1:=(zae (show T 106 = zAL from rfl)).2.1
theorem zG7:(T 106).bytes = 8:=(zae (show T 106 = zAL from rfl)).2.2.1
theorem zG8:(T 106).zero = [.nilFunc]:=(zae (show T 106 = zAL from rfl)).2.2.2
theorem zG9:(T 107).k = .other:=(zae (show T 107 = zAM from rfl)).1
theorem zHa:(T 107).size = 1:=(zae (show T 107 = zAM from rfl)).2.1
theorem zHb:(T 107).bytes = 8:=(zae (show T 107 = zAM from rfl)).2.2.1
theorem zHc:(T 107).zero = [.nilFunc]:=(zae (show T 107 = zAM from rfl)).2.2.2
theorem zHd:(T 108).k = .other:=(zae (show T 108 = zAN from rfl)).1
theorem zHe:(T 108).size = 1:=(zae (show T 108 = zAN from rfl)).2.1
theorem zHf:(T 108).bytes = 8:=(zae (show T 108 = zAN from rfl)).2.2.1
theorem zHg:(T 108).zero = [.nilFunc]:=(zae (show T 108 = zAN from rfl)).2.2.2
theorem zHh:(T 109).k = .other:=(zae (show T 109 = zAO from rfl)).1
theorem zHi:(T 109).size = 1:=(zae (show T 109 = zAO from rfl)).2.1
theorem zHj:(T 109).bytes = 8:=(zae (show T 109 = zAO from rfl)).2.2.1
theorem zHk:(T 109).zero = [.nilFunc]:=(zae (show T 109 = zAO from rfl)).2.2.2
theorem zHl:(T 111).k = .other:=(zae (show T 111 = zAP from rfl)).1
theorem zHm:(T 111).size = 1:=(zae (show T 111 = zAP from rfl)).2.1
theorem zHn:(T 111).bytes = 8:=(zae (show T 111 = zAP from rfl)).2.2.1
theorem zHo:(T 111).zero = [.nilFunc]:=(zae (show T 111 = zAP from rfl)).2.2.2
theorem zHp:(T 112).k = .other:=(zae (show T 112 = zAQ from rfl)).1
theorem zHq:(T 112).size = 1:=(zae (show T 112 = zAQ from rfl)).2.1
theorem zHr:(T 112).bytes = 8:=(zae (show T 112 = zAQ from rfl)).2.2.1
theorem zHs:(T 112).zero = [.nilFunc]:=(zae (show T 112 = zAQ from rfl)).2.2.2
theorem zHt:(T 113).k = .other:=(zae (show T 113 = zAR from rfl)).1
theorem zHu:(T 113).size = 1:=(zae (show T 113 = zAR from rfl)).2.1
theorem zHv:(T 113).bytes = 8:=(zae (show T 113 = zAR from rfl)).2.2.1
theorem zHw:(T 113).zero = [.nilFunc]:=(zae (show T 113 = zAR from rfl)).2.2.2
theorem zBV:(T 114).k = .struct [(0,31),(1,3),(2,3)]:=(zae (show T 114 = zAS from rfl)).1
theorem zBW:(T 114).size = 3:=(zae (show T 114 = zAS from rfl)).2.1
theorem zBX:(T 114).bytes = 40:=(zae (show T 114 = zAS from rfl)).2.2.1
theorem zBY:(T 114).zero = [.slice none 0 0,.int .i64 0,.int .i64 0]:=(zae (show T 114 = zAS from rfl)).2.2.2
theorem zBZ:(T 115).k = .struct [(0,31),(1,3),(2,3)]:=(zae (show T 115 = zAT from rfl)).1
theorem zB0:(T 115).size = 3:=(zae (show T 115 = zAT from rfl)).2.1
theorem zB1:(T 115).bytes = 40:=(zae (show T 115 = zAT from rfl)).2.2.1
theorem zB2:(T 115).zero = [.slice none 0 0,.int .i64 0,.int .i64 0]:=(zae (show T 115 = zAT from rfl)).2.2.2
theorem zHx:(T 116).k = .other:=(zae (show T 116 = zAU from rfl)).1
theorem zHy:(T 116).size = 1:=(zae (show T 116 = zAU from rfl)).2.1
theorem zHz:(T 116).bytes = 8:=(zae (show T 116 = zAU from rfl)).2.2.1
theorem zHA:(T 116).zero = [.nilFunc]:=(zae (show T 116 = zAU from rfl)).2.2.2
theorem zHB:(T 117).k = .other:=(zae (show T 117 = zAV from rfl)).1
theorem zHC:(T 117).size = 1:=(zae (show T 117 = zAV from rfl)).2.1
theorem zHD:(T 117).bytes = 8:=(zae (show T 117 = zAV from rfl)).2.2.1
theorem zHE:(T 117).zero = [.nilFunc]:=(zae (show T 117 = zAV from rfl)).2.2.2
theorem zHF:(T 118).k = .other:=(zae (show T 118 = zAW from rfl)).1
theorem zHG:(T 118).size = 1:=(zae (show T 118 = zAW from rfl)).2.1
theorem zHH:(T 118).bytes = 8:=(zae (show T 118 = zAW from rfl)).2.2.1
theorem zHI:(T 118).zero = [.nilFunc]:=(zae (show T 118 = zAW from rfl)).2.2.2
theorem zHJ:(T 119).k = .other:=(zae (show T 119 = zAX from rfl)).1
theorem zHK:(T 119).size = 1:=(zae (show T 119 = zAX from rfl)).2.1
theorem zHL:(T 119).bytes = 8:=(zae (show T 119 = zAX from rfl)).2.2.1
theorem zHM:(T 119).zero = [.nilFunc]:=(zae (show T 119 = zAX from rfl)).2.2.2
theorem zHN:(T 120).k = .other:=(zae (show T 120 = zAY from rfl)).1
theorem zHO:(T 120).size = 1:=(zae (show T 120 = zAY from rfl)).2.1
theorem zHP:(T 120).bytes = 8:=(zae (show T 120 = zAY from rfl)).2.2.1
theorem zHQ:(T 120).zero = [.nilFunc]:=(zae (show T 120 = zAY from rfl)).2.2.2
theorem zHR:(T 121).k = .other:=(zae (show T 121 = zAZ from rfl)).1
theorem zHS:(T 121).size = 1:=(zae (show T 121 = zAZ from rfl)).2.1
theorem zHT:(T 121).bytes = 8:=(zae (show T 121 = zAZ from rfl)).2.2.1
theorem zHU:(T 121).zero = [.nilFunc]:=(zae (show T 121 = zAZ from rfl)).2.2.2
theorem zHV:(T 122).k = .other:=(zae (show T 122 = zA0 from rfl)).1
theorem zHW:(T 122).size = 1:=(zae (show T 122 = zA0 from rfl)).2.1
theorem zHX:(T 122).bytes = 8:=(zae (show T 122 = zA0 from rfl)).2.2.1
theorem zHY:(T 122).zero = [.nilFunc]:=(zae (show T 122 = zA0 from rfl)).2.2.2
theorem zHZ:(T 123).k = .other:=(zae (show T 123 = zA1 from rfl)).1
theorem zH0:(T 123).size = 1:=(zae (show T 123 = zA1 from rfl)).2.1
theorem zH1:(T 123).bytes = 8:=(zae (show T 123 = zA1 from rfl)).2.2.1
theorem zH2:(T 123).zero = [.nilFunc]:=(zae (show T 123 = zA1 from rfl)).2.2.2
theorem zH3:(T 124).k = .other:=(zae (show T 124 = zA2 from rfl)).1
theorem zH4:(T 124).size = 1:=(zae (show T 124 = zA2 from rfl)).2.1
theorem zH5:(T 124).bytes = 8:=(zae (show T 124 = zA2 from rfl)).2.2.1
theorem zH6:(T 124).zero = [.nilFunc]:=(zae (show T 124 = zA2 from rfl)).2.2.2
theorem zH7:(T 125).k = .other:=(zae (show T 125 = zA3 from rfl)).1
theorem zH8:(T 125).size = 1:=(zae (show T 125 = zA3 from rfl)).2.1
theorem zH9:(T 125).bytes = 8:=(zae (show T 125 = zA3 from rfl)).2.2.1
theorem zIa:(T 125).zero = [.nilFunc]:=(zae (show T 125 = zA3 from rfl)).2.2.2
theorem zIb:(T 126).k = .other:=(zae (show T 126 = zA4 from rfl)).1
theorem zIc:(T 126).size = 1:=(zae (show T 126 = zA4 from rfl)).2.1
theorem zId:(T 126).bytes = 8:=(zae (show T 126 = zA4 from rfl)).2.2.1
theorem zIe:(T 126).zero = [.nilFunc]:=(zae (show T 126 = zA4 from rfl)).2.2.2
theorem zIf:(T 127).k = .other:=(zae (show T 127 = zA5 from rfl)).1
theorem zIg:(T 127).size = 1:=(zae (show T 127 = zA5 from rfl)).2.1
theorem zIh:(T 127).bytes = 8:=(zae (show T 127 = zA5 from rfl)).2.2.1
theorem zIi:(T 127).zero = [.nilFunc]:=(zae (show T 127 = zA5 from rfl)).2.2.2
theorem zB3:(T 128).k = .sli 9:=(zae (show T 128 = zA6 from rfl)).1
theorem zB4:(T 128).size = 1:=(zae (show T 128 = zA6 from rfl)).2.1
theorem zB5:(T 128).bytes = 24:=(zae (show T 128 = zA6 from rfl)).2.2.1
theorem zB6:(T 128).zero = [.slice none 0 0]:=(zae (show T 128 = zA6 from rfl)).2.2.2
theorem zIj:(T 129).k = .other:=(zae (show T 129 = zA7 from rfl)).1
theorem zIk:(T 129).size = 1:=(zae (show T 129 = zA7 from rfl)).2.1
theorem zIl:(T 129).bytes = 8:=(zae (show T 129 = zA7 from rfl)).2.2.1
theorem zIm:(T 129).zero = [.nilFunc]:=(zae (show T 129 = zA7 from rfl)).2.2.2
theorem zIn:(T 130).k = .other:=(zae (show T 130 = zA8 from rfl)).1
theorem zIo:(T 130).size = 1:=(zae (show T 130 = zA8 from rfl)).2.1
theorem zIp:(T 130).bytes = 8:=(zae (show T 130 = zA8 from rfl)).2.2.1
theorem zIq:(T 130).zero = [.nilFunc]:=(zae (show T 130 = zA8 from rfl)).2.2.2
theorem zIr:(T 131).k = .other:=(zae (show T 131 = zA9 from rfl)).1
theorem zIs:(T 131).size = 1:=(zae (show T 131 = zA9 from rfl)).2.1
theorem zIt:(T 131).bytes = 8:=(zae (show T 131 = zA9 from rfl)).2.2.1
theorem zIu:(T 131).zero = [.nilFunc]:=(zae (show T 131 = zA9 from rfl)).2.2.2
theorem zIv:(T 132).k = .other:=(zae (show T 132 = zBa from rfl)).1
theorem zIw:(T 132).size = 1:=(zae (show T 132 = zBa from rfl)).2.1
theorem zIx:(T 132).bytes = 8:=(zae (show T 132 = zBa from rfl)).2.2.1
theorem zIy:(T 132).zero = [.nilFunc]:=(zae (show T 132 = zBa from rfl)).2.2.2
theorem zIz:(T 133).k = .other:=(zae (show T 133 = zBb from rfl)).1
theorem zIA:(T 133).size = 1:=(zae (show T 133 = zBb from rfl)).2.1
theorem zIB:(T 133).bytes = 8:=(zae (show T 133 = zBb from rfl)).2.2.1
theorem zIC:(T 133).zero = [.nilFunc]:=(zae (show T 133 = zBb from rfl)).2.2.2
theorem zID:(T 135).k = .other:=(zae (show T 135 = zBc from rfl)).1
theorem zIE:(T 135).size = 1:=(zae (show T 135 = zBc from rfl)).2.1
theorem zIF:(T 135).bytes = 8:=(zae (show T 135 = zBc from rfl)).2.2.1
theorem zIG:(T 135).zero = [.nilFunc]:=(zae (show T 135 = zBc from rfl)).2.2.2
theorem zIH:(T 136).k = .other:=(zae (show T 136 = zBd from rfl)).1
theorem zII:(T 136).size = 1:=(zae (show T 136 = zBd from rfl)).2.1
theorem zIJ:(T 136).bytes = 8:=(zae (show T 136 = zBd from rfl)).2.2.1
theorem zIK:(T 136).zero = [.nilFunc]:=(zae (show T 136 = zBd from rfl)).2.2.2
theorem zIL:(T 138).k = .other:=(zae (show T 138 = zBe from rfl)).1
theorem zIM:(T 138).size = 1:=(zae (show T 138 = zBe from rfl)).2.1
theorem zIN:(T 138).bytes = 8:=(zae (show T 138 = zBe from rfl)).2.2.1
theorem zIO:(T 138).zero = [.nilFunc]:=(zae (show T 138 = zBe from rfl)).2.2.2
theorem zIP:(T 139).k = .other:=(zae (show T 139 = zBf from rfl)).1
theorem zIQ:(T 139).size = 1:=(zae (show T 139 = zBf from rfl)).2.1
theorem zIR:(T 139).bytes = 8:=(zae (show T 139 = zBf from rfl)).2.2.1
theorem zIS:(T 139).zero = [.nilFunc]:=(zae (show T 139 = zBf from rfl)).2.2.2
theorem zB7:(T 140).k = .int .u32:=(zae (show T 140 = zBg from rfl)).1
theorem zB8:(T 140).size = 1:=(zae (show T 140 = zBg from rfl)).2.1
theorem zB9:(T 140).bytes = 4:=(zae (show T 140 = zBg from rfl)).2.2.1
theorem zCa:(T 140).zero = [.int .u32 0]:=(zae (show T 140 = zBg from rfl)).2.2.2
theorem zIT:(T 141).k = .other:=(zae (show T 141 = zBh from rfl)).1
theorem zIU:(T 141).size = 1:=(zae (show T 141 = zBh from rfl)).2.1
theorem zIV:(T 141).bytes = 8:=(zae (show T 141 = zBh from rfl)).2.2.1
theorem zIW:(T 141).zero = [.nilFunc]:=(zae (show T 141 = zBh from rfl)).2.2.2
theorem zIX:(T 142).k = .other:=(zae (show T 142 = zBi from rfl)).1
theorem zIY:(T 142).size = 1:=(zae (show T 142 = zBi from rfl)).2.1
theorem zIZ:(T 142).bytes = 8:=(zae (show T 142 = zBi from rfl)).2.2.1
theorem zI0:(T 142).zero = [.nilFunc]:=(zae (show T 142 = zBi from rfl)).2.2.2
theorem zI1:(T 143).k = .other:=(zae (show T 143 = zBj from rfl)).1
theorem zI2:(T 143).size = 1:=(zae (show T 143 = zBj from rfl)).2.1
theorem zI3:(T 143).bytes = 8:=(zae (show T 143 = zBj from rfl)).2.2.1
theorem zI4:(T 143).zero = [.nilFunc]:=(zae (show T 143 = zBj from rfl)).2.2.2
theorem zI5:(T 145).k = .other:=(zae (show T 145 = zBk from rfl)).1
theorem zI6:(T 145).size = 1:=(zae (show T 145 = zBk from rfl)).2.1
theorem zI7:(T 145).bytes = 8:=(zae (show T 145 = zBk from rfl)).2.2.1
theorem zI8:(T 145).zero = [.nilFunc]:=(zae (show T 145 = zBk from rfl)).2.2.2
theorem zCb:(T 146).k = .sli 4:=(zae (show T 146 = zBl from rfl)).1
theorem zCc:(T 146).size = 1:=(zae (show T 146 = zBl from rfl)).2.1
theorem zCd:(T 146).bytes = 24:=(zae (show T 146 = zBl from rfl)).2.2.1
theorem zCe:(T 146).zero = [.slice none 0 0]:=(zae (show T 146 = zBl from rfl)).2.2.2
theorem zI9:(T 147).k = .other:=(zae (show T 147 = zBm from rfl)).1
theorem zJa:(T 147).size = 1:=(zae (show T 147 = zBm from rfl)).2.1
theorem zJb:(T 147).bytes = 8:=(zae (show T 147 = zBm from rfl)).2.2.1
theorem zJc:(T 147).zero = [.nilFunc]:=(zae (show T 147 = zBm from rfl)).2.2.2
theorem zJd:(T 148).k = .other:=(zae (show T 148 = zBn from rfl)).1
theorem zJe:(T 148).size = 1:=(zae (show T 148 = zBn from rfl)).2.1
theorem zJf:(T 148).bytes = 8:=(zae (show T 148 = zBn from rfl)).2.2.1
theorem zJg:(T 148).zero = [.nilFunc]:=(zae (show T 148 = zBn from rfl)).2.2.2
theorem zJh:(T 149).k = .other:=(zae (show T 149 = zBo from rfl)).1
theorem zJi:(T 149).size = 1:=(zae (show T 149 = zBo from rfl)).2.1
theorem zJj:(T 149).bytes = 8:=(zae (show T 149 = zBo from rfl)).2.2.1
theorem zJk:(T 149).zero = [.nilFunc]:=(zae (show T 149 = zBo from rfl)).2.2.2
theorem zJl:(T 150).k = .other:=(zae (show T 150 = zBp from rfl)).1
theorem zJm:(T 150).size = 1:=(zae (show T 150 = zBp from rfl)).2.1
theorem zJn:(T 150).bytes = 8:=(zae (show T 150 = zBp from rfl)).2.2.1
theorem zJo:(T 150).zero = [.nilFunc]:=(zae (show T 150 = zBp from rfl)).2.2.2
theorem zJp:(T 151).k = .other:=(zae (show T 151 = zBq from rfl)).1
theorem zJq:(T 151).size = 1:=(zae (show T 151 = zBq from rfl)).2.1
theorem zJr:(T 151).bytes = 8:=(zae (show T 151 = zBq from rfl)).2.2.1
theorem zJs:(T 151).zero = [.nilFunc]:=(zae (show T 151 = zBq from rfl)).2.2.2
theorem zJt:(T 152).k = .other:=(zae (show T 152 = zBr from rfl)).1
theorem zJu:(T 152).size = 1:=(zae (show T 152 = zBr from rfl)).2.1
theorem zJv:(T 152).bytes = 8:=(zae (show T 152 = zBr from rfl)).2.2.1
theorem zJw:(T 152).zero = [.nilFunc]:=(zae (show T 152 = zBr from rfl)).2.2.2
theorem zJx:(T 153).k = .other:=(zae (show T 153 = zBs from rfl)).1
theorem zJy:(T 153).size = 1:=(zae (show T 153 = zBs from rfl)).2.1
theorem zJz:(T 153).bytes = 8:=(zae (show T 153 = zBs from rfl)).2.2.1
theorem zJA:(T 153).zero = [.nilFunc]:=(zae (show T 153 = zBs from rfl)).2.2.2
theorem zCf:(T 154).k = .int .i64:=(zae (show T 154 = zBt from rfl)).1
theorem zCg:(T 154).size = 1:=(zae (show T 154 = zBt from rfl)).2.1
theorem zCh:(T 154).bytes = 8:=(zae (show T 154 = zBt from rfl)).2.2.1
theorem zCi:(T 154).zero = [.int .i64 0]:=(zae (show T 154 = zBt from rfl)).2.2.2
theorem zJB:(T 156).k = .other:=(zae (show T 156 = zBu from rfl)).1
theorem zJC:(T 156).size = 1:=(zae (show T 156 = zBu from rfl)).2.1
theorem zJD:(T 156).bytes = 8:=(zae (show T 156 = zBu from rfl)).2.2.1
theorem zJE:(T 156).zero = [.nilFunc]:=(zae (show T 156 = zBu from rfl)).2.2.2
theorem zJF:(T 157).k = .other:=(zae (show T 157 = zBv from rfl)).1
theorem zJG:(T 157).size = 1:=(zae (show T 157 = zBv from rfl)).2.1
theorem zJH:(T 157).bytes = 8:=(zae (show T 157 = zBv from rfl)).2.2.1
theorem zJI:(T 157).zero = [.nilFunc]:=(zae (show T 157 = zBv from rfl)).2.2.2
theorem zJJ:(T 158).k = .other:=(zae (show T 158 = zBw from rfl)).1
theorem zJK:(T 158).size = 1:=(zae (show T 158 = zBw from rfl)).2.1
theorem zJL:(T 158).bytes = 8:=(zae (show T 158 = zBw from rfl)).2.2.1
theorem zJM:(T 158).zero = [.nilFunc]:=(zae (show T 158 = zBw from rfl)).2.2.2
theorem zJN:(T 159).k = .other:=(zae (show T 159 = zBx from rfl)).1
theorem zJO:(T 159).size = 1:=(zae (show T 159 = zBx from rfl)).2.1
theorem zJP:(T 159).bytes = 8:=(zae (show T 159 = zBx from rfl)).2.2.1
theorem zJQ:(T 159).zero = [.nilFunc]:=(zae (show T 159 = zBx from rfl)).2.2.2
theorem zCj:(T 160).k = .int .u64:=(zae (show T 160 = zBy from rfl)).1
theorem zCk:(T 160).size = 1:=(zae (show T 160 = zBy from rfl)).2.1
theorem zCl:(T 160).bytes = 8:=(zae (show T 160 = zBy from rfl)).2.2.1
theorem zCm:(T 160).zero = [.int .u64 0]:=(zae (show T 160 = zBy from rfl)).2.2.2
theorem zJR:(T 161).k = .other:=(zae (show T 161 = zBz from rfl)).1
theorem zJS:(T 161).size = 1:=(zae (show T 161 = zBz from rfl)).2.1
theorem zJT:(T 161).bytes = 8:=(zae (show T 161 = zBz from rfl)).2.2.1
theorem zJU:(T 161).zero = [.nilFunc]:=(zae (show T 161 = zBz from rfl)).2.2.2
theorem zJV:(T 162).k = .other:=(zae (show T 162 = zBA from rfl)).1
theorem zJW:(T 162).size = 1:=(zae (show T 162 = zBA from rfl)).2.1
theorem zJX:(T 162).bytes = 8:=(zae (show T 162 = zBA from rfl)).2.2.1
theorem zJY:(T 162).zero = [.nilFunc]:=(zae (show T 162 = zBA from rfl)).2.2.2
theorem zJZ:(T 163).k = .other:=(zae (show T 163 = zBB from rfl)).1
theorem zJ0:(T 163).size = 1:=(zae (show T 163 = zBB from rfl)).2.1
theorem zJ1:(T 163).bytes = 8:=(zae (show T 163 = zBB from rfl)).2.2.1
theorem zJ2:(T 163).zero = [.nilFunc]:=(zae (show T 163 = zBB from rfl)).2.2.2
theorem zJ3:(T 164).k = .other:=(zae (show T 164 = zBC from rfl)).1
theorem zJ4:(T 164).size = 1:=(zae (show T 164 = zBC from rfl)).2.1
theorem zJ5:(T 164).bytes = 8:=(zae (show T 164 = zBC from rfl)).2.2.1
theorem zJ6:(T 164).zero = [.pointer none]:=(zae (show T 164 = zBC from rfl)).2.2.2
theorem zJ7:(T 165).k = .other:=(zae (show T 165 = zBD from rfl)).1
theorem zJ8:(T 165).size = 1:=(zae (show T 165 = zBD from rfl)).2.1
theorem zJ9:(T 165).bytes = 8:=(zae (show T 165 = zBD from rfl)).2.2.1
theorem zKa:(T 165).zero = [.nilFunc]:=(zae (show T 165 = zBD from rfl)).2.2.2
theorem zKb:(T 166).k = .other:=(zae (show T 166 = zBE from rfl)).1
theorem zKc:(T 166).size = 1:=(zae (show T 166 = zBE from rfl)).2.1
theorem zKd:(T 166).bytes = 8:=(zae (show T 166 = zBE from rfl)).2.2.1
theorem zKe:(T 166).zero = [.pointer none]:=(zae (show T 166 = zBE from rfl)).2.2.2
theorem zKf:(T 168).k = .other:=(zae (show T 168 = zBF from rfl)).1
theorem zKg:(T 168).size = 1:=(zae (show T 168 = zBF from rfl)).2.1
theorem zKh:(T 168).bytes = 8:=(zae (show T 168 = zBF from rfl)).2.2.1
theorem zKi:(T 168).zero = [.nilFunc]:=(zae (show T 168 = zBF from rfl)).2.2.2
theorem zKj:(T 169).k = .other:=(zae (show T 169 = zBG from rfl)).1
theorem zKk:(T 169).size = 1:=(zae (show T 169 = zBG from rfl)).2.1
theorem zKl:(T 169).bytes = 8:=(zae (show T 169 = zBG from rfl)).2.2.1
theorem zKm:(T 169).zero = [.nilFunc]:=(zae (show T 169 = zBG from rfl)).2.2.2
theorem zKn:(T 177).k = .other:=(zae (show T 177 = zBH from rfl)).1
theorem zKo:(T 177).size = 1:=(zae (show T 177 = zBH from rfl)).2.1
theorem zKp:(T 177).bytes = 8:=(zae (show T 177 = zBH from rfl)).2.2.1
theorem zKq:(T 177).zero = [.nilFunc]:=(zae (show T 177 = zBH from rfl)).2.2.2
theorem zKr:(T 178).k = .other:=(zae (show T 178 = zBI from rfl)).1
theorem zKs:(T 178).size = 1:=(zae (show T 178 = zBI from rfl)).2.1
theorem zKt:(T 178).bytes = 8:=(zae (show T 178 = zBI from rfl)).2.2.1
theorem zKu:(T 178).zero = [.pointer none]:=(zae (show T 178 = zBI from rfl)).2.2.2
theorem gT:type_of% (And.intro @T2k <| And.intro @T2s <| And.intro @T2b <| And.intro @T2z <| And.intro @T3k <| And.intro @T3s <| And.intro @T3b <| And.intro @T3z <| And.intro @T4k <| And.intro @T4s <| And.intro @T4b <| And.intro @T4z <| And.intro @T5k <| And.intro @T5s <| And.intro @T5b <| And.intro @T5z <| And.intro @T9k <| And.intro @T9s <| And.intro @T9b <| And.intro @T9z <| And.intro @zD7 <| And.intro @zD8 <| And.intro @zD9 <| And.intro @zEa <| And.intro @zEb <| And.intro @zEc <| And.intro @zEd <| And.intro @zEe <| And.intro @zEf <| And.intro @zEg <| And.intro @zEh <| And.intro @zEi <| And.intro @zEj <| And.intro @zEk <| And.intro @zEl <| And.intro @zEm <| And.intro @zEn <| And.intro @zEo <| And.intro @zEp <| And.intro @zEq <| And.intro @zEr <| And.intro @zEs <| And.intro @zEt <| And.intro @zEu <| And.intro @zEv <| And.intro @zEw <| And.intro @zEx <| And.intro @zEy <| And.intro @zEz <| And.intro @zEA <| And.intro @zEB <| And.intro @zEC <| And.intro @zED <| And.intro @zEE <| And.intro @zEF <| And.intro @zEG <| And.intro @zEH <| And.intro @zEI <| And.intro @zEJ <| And.intro @zEK <| And.intro @zEL <| And.intro @zEM <| And.intro @zEN <| And.intro @zEO <| And.intro @zEP <| And.intro @zEQ <| And.intro @zER <| And.intro @zES <| And.intro @zET <| And.intro @zEU <| And.intro @zEV <| And.intro @zEW <| And.intro @zEX <| And.intro @zEY <| And.intro @zEZ <| And.intro @zE0 <| And.intro @zE1 <| And.intro @zE2 <| And.intro @zE3 <| And.intro @zE4 <| And.intro @zE5 <| And.intro @zE6 <| And.intro @zE7 <| And.intro @zE8 <| And.intro @zE9 <| And.intro @zFa <| And.intro @zFb <| And.intro @zFc <| And.intro @zBV <| And.intro @zBW <| And.intro @zBX <| And.intro @zBY <| And.intro @zBZ <| And.intro @zB0 <| And.intro @zB1 <| And.intro @zB2 <| And.intro @zB3 <| And.intro @zB4 <| And.intro @zB5 <| And.intro @zB6 <| And.intro @zB7 <| And.intro @zB8 <| And.intro @zB9 <| And.intro @zCa <| And.intro @zCb <| And.intro @zCc <| And.intro @zCd <| And.intro @zCe <| And.intro @zCf <| And.intro @zCg <| And.intro @zCh <| And.intro @zCi <| And.intro @zCj <| And.intro @zCk <| And.intro @zCl <| @zCm):=And.intro @T2k <| And.intro @T2s <| And.intro @T2b <| And.intro @T2z <| And.intro @T3k <| And.intro @T3s <| And.intro @T3b <| And.intro @T3z <| And.intro @T4k <| And.intro @T4s <| And.intro @T4b <| And.intro @T4z <| And.intro @T5k <| And.intro @T5s <| And.intro @T5b <| And.intro @T5z <| And.intro @T9k <| And.intro @T9s <| And.intro @T9b <| And.intro @T9z <| And.intro @zD7 <| And.intro @zD8 <| And.intro @zD9 <| And.intro @zEa <| And.intro @zEb <| And.intro @zEc <| And.intro @zEd <| And.intro @zEe <| And.intro @zEf <| And.intro @zEg <| And.intro @zEh <| And.intro @zEi <| And.intro @zEj <| And.intro @zEk <| And.intro @zEl <| And.intro @zEm <| And.intro @zEn <| And.intro @zEo <| And.intro @zEp <| And.intro @zEq <| And.intro @zEr <| And.intro @zEs <| And.intro @zEt <| And.intro @zEu <| And.intro @zEv <| And.intro @zEw <| And.intro @zEx <| And.intro @zEy <| And.intro @zEz <| And.intro @zEA <| And.intro @zEB <| And.intro @zEC <| And.intro @zED <| And.intro @zEE <| And.intro @zEF <| And.intro @zEG <| And.intro @zEH <| And.intro @zEI <| And.intro @zEJ <| And.intro @zEK <| And.intro @zEL <| And.intro @zEM <| And.intro @zEN <| And.intro @zEO <| And.intro @zEP <| And.intro @zEQ <| And.intro @zER <| And.intro @zES <| And.intro @zET <| And.intro @zEU <| And.intro @zEV <| And.intro @zEW <| And.intro @zEX <| And.intro @zEY <| And.intro @zEZ <| And.intro @zE0 <| And.intro @zE1 <| And.intro @zE2 <| And.intro @zE3 <| And.intro @zE4 <| And.intro @zE5 <| And.intro @zE6 <| And.intro @zE7 <| And.intro @zE8 <| And.intro @zE9 <| And.intro @zFa <| And.intro @zFb <| And.intro @zFc <| And.intro @zBV <| And.intro @zBW <| And.intro @zBX <| And.intro @zBY <| And.intro @zBZ <| And.intro @zB0 <| And.intro @zB1 <| And.intro @zB2 <| And.intro @zB3 <| And.intro @zB4 <| And.intro @zB5 <| And.intro @zB6 <| And.intro @zB7 <| And.intro @zB8 <| And.intro @zB9 <| And.intro @zCa <| And.intro @zCb <| And.intro @zCc <| And.intro @zCd <| And.intro @zCe <| And.intro @zCf <| And.intro @zCg <| And.intro @zCh <| And.intro @zCi <| And.intro @zCj <| And.intro @zCk <| And.intro @zCl <| @zCm
theorem ztw:∀ x ∈ zDJ,x.2.Fits Try.prog x.1:=by
 simp only [zDJ,List.forall_mem_cons]
 exact ⟨F1,F2,F3,F4,F5,F9,F12,F13,F21,F22,F23,F24,F25,F26,F27,F28,F29,F30,F31,F32,F33,F34,F35,F36,F37,F38,F40,F41,F43,F44,F45,F47,F48,F49,F50,F51,F52,F53,F55,F56,F57,F58,F60,F61,F63,F64,F65,F66,F67,F69,F70,F71,F72,F73,F74,F75,F76,F77,F78,F79,fun _ h=>absurd h (by simp)⟩
theorem ztx:∀ x ∈ zDK,x.2.Fits Try.prog x.1:=by
 simp only [zDK,List.forall_mem_cons]
 exact ⟨F80,F81,F82,F83,F84,F85,F86,F87,F88,F89,F90,F91,F92,F93,F94,F95,F96,F97,F98,F99,zFD,zFE,zFF,zFG,zFH,zFI,zFJ,zFK,zFL,zFM,zFN,zFO,zFP,zFQ,zFR,zFS,zFT,zFU,zFV,zFW,zFX,zFY,zFZ,zF0,zF1,zF2,zF3,zF4,zF5,zF6,zF7,zF8,zF9,zGa,zGb,zGc,zGd,zGe,zGf,zGg,fun _ h=>absurd h (by simp)⟩
theorem zty:∀ x ∈ zDL,x.2.Fits Try.prog x.1:=by
 simp only [zDL,List.forall_mem_cons]
 exact ⟨zGh,zGi,zGj,zGk,zGl,zGm,zGn,zGo,zGp,zGq,zGr,zGs,zGt,zGu,zGv,zGw,zGx,zGy,zGz,zGA,zGB,zGC,zGD,zGE,zGF,zGG,fun _ h=>absurd h (by simp)⟩
theorem zxe:∀ x ∈ tab,x.2.Fits Try.prog x.1:=by
 simp only [tab,List.forall_mem_append]
 exact ⟨⟨ztw,ztx⟩,zty⟩
theorem zbq:Tab.Ok T Try.prog:=by
 intro t ht
 unfold T at ht ⊢
 cases h:tab.find? fun x=>x.1 == t with
 | none=>rw [h] at ht;simp at ht
 | some x =>
   have h1:=List.find?_some h
   have h2:=zxe x (List.mem_of_find?_eq_some h)
   simp at h1
   subst h1
   exact h2
theorem zaD:Try.prog.follows .mixedOrders = true:=by kernel_rfl
instance held:zah:=⟨{ Φ:=fun _=>True,Gl:=fun _=>False,dr:=True,keep:=fun _ _=>trivial,low:=fun _ h=>h.elim }⟩
end Go.Proofs.Ytpnknaaehcljoaa

/- DERIVED by an AI agent, by a program of its own (mktypes.py). The types of the translation, as the abstract layer reads them. -/
import Derived.Test.YtpnknaaehcljoaaRows
import Derived.Test.YtpnknaaehcljoaaA12
namespace Go.Proofs.Ytpnknaaehcljoaa
open Go.Abs
set_option linter.unusedVariables false
theorem zaP {t:TypeId} {d:TD} {z:Value} (h:d.k.fits Try.prog t) (hi:(Try.prog.info? t).map (fun i=>(i.zero,i.size,i.bytes)) = some (some z,d.size,d.bytes)) (hz:z.cells.toList = d.zero) (hl:d.zero.length = d.size) (ho:d.k.agg = false→d.size = 1∧∀ z,d.zero = [z]→z.oneCell' = true):d.Fits Try.prog t:=by
 refine ⟨h,?_,hl,ho⟩
 cases hq:Try.prog.info? t with
 | none=>rw [hq] at hi;simp at hi
 | some i =>
   rw [hq] at hi
   simp at hi
   exact ⟨i,z,rfl,hi.2.1,hi.2.2,hi.1,hz⟩
def D2:TD:=⟨.int .i64,1,8,[.int .i64 0]⟩
theorem F2:D2.Fits Try.prog 2:=zaP (z:=.int .i64 0) (show Try.prog.underlying 2 = some (TypeDesc.int .i64) by kernel_rfl) (by kernel_rfl) rfl rfl (fun _=>⟨rfl,fun z h=>by cases h;rfl⟩)
def D3:TD:=⟨.int .i64,1,8,[.int .i64 0]⟩
theorem F3:D3.Fits Try.prog 3:=zaP (z:=.int .i64 0) (show Try.prog.underlying 3 = some (TypeDesc.int .i64) by kernel_rfl) (by kernel_rfl) rfl rfl (fun _=>⟨rfl,fun z h=>by cases h;rfl⟩)
def D4:TD:=⟨.bool,1,1,[.bool false]⟩
theorem F4:D4.Fits Try.prog 4:=zaP (z:=.bool false) (show Try.prog.underlying 4 = some (TypeDesc.bool) by kernel_rfl) (by kernel_rfl) rfl rfl (fun _=>⟨rfl,fun z h=>by cases h;rfl⟩)
def D5:TD:=⟨.int .u8,1,1,[.int .u8 0]⟩
theorem F5:D5.Fits Try.prog 5:=zaP (z:=.int .u8 0) (show Try.prog.underlying 5 = some (TypeDesc.int .u8) by kernel_rfl) (by kernel_rfl) rfl rfl (fun _=>⟨rfl,fun z h=>by cases h;rfl⟩)
def D9:TD:=⟨.str,1,16,[.string ⟨#[]⟩]⟩
theorem F9:D9.Fits Try.prog 9:=zaP (z:=.string ⟨#[]⟩) (show Try.prog.underlying 9 = some (TypeDesc.string) by kernel_rfl) (by kernel_rfl) rfl rfl (fun _=>⟨rfl,fun z h=>by cases h;rfl⟩)
def D12:TD:=⟨.int .u64,1,8,[.int .u64 0]⟩
theorem F12:D12.Fits Try.prog 12:=zaP (z:=.int .u64 0) (show Try.prog.underlying 12 = some (TypeDesc.int .u64) by kernel_rfl) (by kernel_rfl) rfl rfl (fun _=>⟨rfl,fun z h=>by cases h;rfl⟩)
def D13:TD:=⟨.struct [(0,9),(1,12)],2,24,[.string ⟨#[]⟩,.int .u64 0]⟩
theorem F13:D13.Fits Try.prog 13:=zaP (z:=.agg #[.string ⟨#[]⟩,.int .u64 0]) ⟨_,Try.underlying13,rfl⟩ (by kernel_rfl) rfl rfl (fun h=>by cases h)
def D21:TD:=⟨.int .i32,1,4,[.int .i32 0]⟩
theorem F21:D21.Fits Try.prog 21:=zaP (z:=.int .i32 0) (show Try.prog.underlying 21 = some (TypeDesc.int .i32) by kernel_rfl) (by kernel_rfl) rfl rfl (fun _=>⟨rfl,fun z h=>by cases h;rfl⟩)
def D22:TD:=⟨.sli 3,1,24,[.slice none 0 0]⟩
theorem F22:D22.Fits Try.prog 22:=zaP (z:=.slice none 0 0) (show Try.prog.underlying 22 = some (TypeDesc.slice 3) by kernel_rfl) (by kernel_rfl) rfl rfl (fun _=>⟨rfl,fun z h=>by cases h;rfl⟩)
def D23:TD:=⟨.struct [(0,3),(1,22)],2,32,[.int .i64 0,.slice none 0 0]⟩
theorem F23:D23.Fits Try.prog 23:=zaP (z:=.agg #[.int .i64 0,.slice none 0 0]) ⟨_,Try.underlying23,rfl⟩ (by kernel_rfl) rfl rfl (fun h=>by cases h)
def D24:TD:=⟨.struct [(0,3),(1,22)],2,32,[.int .i64 0,.slice none 0 0]⟩
theorem F24:D24.Fits Try.prog 24:=zaP (z:=.agg #[.int .i64 0,.slice none 0 0]) ⟨_,Try.underlying24,rfl⟩ (by kernel_rfl) rfl rfl (fun h=>by cases h)
def D27:TD:=⟨.struct [(0,3),(1,22)],2,32,[.int .i64 0,.slice none 0 0]⟩
theorem F27:D27.Fits Try.prog 27:=zaP (z:=.agg #[.int .i64 0,.slice none 0 0]) ⟨_,Try.underlying27,rfl⟩ (by kernel_rfl) rfl rfl (fun h=>by cases h)
def D31:TD:=⟨.sli 5,1,24,[.slice none 0 0]⟩
theorem F31:D31.Fits Try.prog 31:=zaP (z:=.slice none 0 0) (show Try.prog.underlying 31 = some (TypeDesc.slice 5) by kernel_rfl) (by kernel_rfl) rfl rfl (fun _=>⟨rfl,fun z h=>by cases h;rfl⟩)
def D33:TD:=⟨.sli 22,1,24,[.slice none 0 0]⟩
theorem F33:D33.Fits Try.prog 33:=zaP (z:=.slice none 0 0) (show Try.prog.underlying 33 = some (TypeDesc.slice 22) by kernel_rfl) (by kernel_rfl) rfl rfl (fun _=>⟨rfl,fun z h=>by cases h;rfl⟩)
def D34:TD:=⟨.struct [(0,33)],1,24,[.slice none 0 0]⟩
theorem F34:D34.Fits Try.prog 34:=zaP (z:=.agg #[.slice none 0 0]) ⟨_,Try.underlying34,rfl⟩ (by kernel_rfl) rfl rfl (fun h=>by cases h)
def D35:TD:=⟨.struct [(0,33)],1,24,[.slice none 0 0]⟩
theorem F35:D35.Fits Try.prog 35:=zaP (z:=.agg #[.slice none 0 0]) ⟨_,Try.underlying35,rfl⟩ (by kernel_rfl) rfl rfl (fun h=>by cases h)
def D37:TD:=⟨.struct [(0,3),(1,22)],2,32,[.int .i64 0,.slice none 0 0]⟩
theorem F37:D37.Fits Try.prog 37:=zaP (z:=.agg #[.int .i64 0,.slice none 0 0]) ⟨_,Try.underlying37,rfl⟩ (by kernel_rfl) rfl rfl (fun h=>by cases h)
def D38:TD:=⟨.struct [(0,3),(1,22)],2,32,[.int .i64 0,.slice none 0 0]⟩
theorem F38:D38.Fits Try.prog 38:=zaP (z:=.agg #[.int .i64 0,.slice none 0 0]) ⟨_,Try.underlying38,rfl⟩ (by kernel_rfl) rfl rfl (fun h=>by cases h)
def D78:TD:=⟨.int .u64,1,8,[.int .u64 0]⟩
theorem F78:D78.Fits Try.prog 78:=zaP (z:=.int .u64 0) (show Try.prog.underlying 78 = some (TypeDesc.int .u64) by kernel_rfl) (by kernel_rfl) rfl rfl (fun _=>⟨rfl,fun z h=>by cases h;rfl⟩)
def D82:TD:=⟨.arr 27 4,27,27,((List.replicate 27 (.bool false)))⟩
theorem F82:D82.Fits Try.prog 82:=zaP (z:=.agg ⟨((List.replicate 27 (.bool false)))⟩) (show Try.prog.underlying 82 = some (TypeDesc.array 27 4) by kernel_rfl) (by kernel_rfl) (by kernel_rfl) (by kernel_rfl) (fun h=>by cases h)
def D88:TD:=⟨.arr 3 3,3,24,[.int .i64 0,.int .i64 0,.int .i64 0]⟩
theorem F88:D88.Fits Try.prog 88:=zaP (z:=.agg #[.int .i64 0,.int .i64 0,.int .i64 0]) (show Try.prog.underlying 88 = some (TypeDesc.array 3 3) by kernel_rfl) (by kernel_rfl) rfl rfl (fun h=>by cases h)
def D96:TD:=⟨.int .u64,1,8,[.int .u64 0]⟩
theorem F96:D96.Fits Try.prog 96:=zaP (z:=.int .u64 0) (show Try.prog.underlying 96 = some (TypeDesc.int .u64) by kernel_rfl) (by kernel_rfl) rfl rfl (fun _=>⟨rfl,fun z h=>by cases h;rfl⟩)
def zDS:TD:=⟨.struct [(0,31),(1,3),(2,3)],3,40,[.slice none 0 0,.int .i64 0,.int .i64 0]⟩
theorem zHW:zDS.Fits Try.prog 114:=zaP (z:=.agg #[.slice none 0 0,.int .i64 0,.int .i64 0]) ⟨_,Try.underlying114,rfl⟩ (by kernel_rfl) rfl rfl (fun h=>by cases h)
def zDT:TD:=⟨.struct [(0,31),(1,3),(2,3)],3,40,[.slice none 0 0,.int .i64 0,.int .i64 0]⟩
theorem zHX:zDT.Fits Try.prog 115:=zaP (z:=.agg #[.slice none 0 0,.int .i64 0,.int .i64 0]) ⟨_,Try.underlying115,rfl⟩ (by kernel_rfl) rfl rfl (fun h=>by cases h)
def zDU:TD:=⟨.sli 9,1,24,[.slice none 0 0]⟩
theorem zHY:zDU.Fits Try.prog 128:=zaP (z:=.slice none 0 0) (show Try.prog.underlying 128 = some (TypeDesc.slice 9) by kernel_rfl) (by kernel_rfl) rfl rfl (fun _=>⟨rfl,fun z h=>by cases h;rfl⟩)
def zDV:TD:=⟨.int .u32,1,4,[.int .u32 0]⟩
theorem zHZ:zDV.Fits Try.prog 140:=zaP (z:=.int .u32 0) (show Try.prog.underlying 140 = some (TypeDesc.int .u32) by kernel_rfl) (by kernel_rfl) rfl rfl (fun _=>⟨rfl,fun z h=>by cases h;rfl⟩)
def zDW:TD:=⟨.sli 4,1,24,[.slice none 0 0]⟩
theorem zH0:zDW.Fits Try.prog 146:=zaP (z:=.slice none 0 0) (show Try.prog.underlying 146 = some (TypeDesc.slice 4) by kernel_rfl) (by kernel_rfl) rfl rfl (fun _=>⟨rfl,fun z h=>by cases h;rfl⟩)
def zDX:TD:=⟨.int .i64,1,8,[.int .i64 0]⟩
theorem zH1:zDX.Fits Try.prog 154:=zaP (z:=.int .i64 0) (show Try.prog.underlying 154 = some (TypeDesc.int .i64) by kernel_rfl) (by kernel_rfl) rfl rfl (fun _=>⟨rfl,fun z h=>by cases h;rfl⟩)
def zDY:TD:=⟨.int .u64,1,8,[.int .u64 0]⟩
theorem zH2:zDY.Fits Try.prog 160:=zaP (z:=.int .u64 0) (show Try.prog.underlying 160 = some (TypeDesc.int .u64) by kernel_rfl) (by kernel_rfl) rfl rfl (fun _=>⟨rfl,fun z h=>by cases h;rfl⟩)
def zF4:List (Nat × TD):=[(2,D2),(3,D3),(4,D4),(5,D5),(9,D9),(12,D12),(13,D13),(21,D21),(22,D22),(23,D23),(24,D24),(27,D27),(31,D31),(33,D33),(34,D34),(35,D35),(37,D37),(38,D38),(78,D78),(82,D82),(88,D88),(96,D96),(114,zDS),(115,zDT),(128,zDU),(140,zDV),(146,zDW),(154,zDX),(160,zDY)]
def tab:List (Nat × TD):=zF4
def T:Tab:=fun t=>((tab.find? fun x=>x.1 == t).map (·.2)).getD ⟨.other,0,0,[]⟩
theorem zau {a b:TD} (h:a = b):a.k = b.k∧a.size = b.size∧a.bytes = b.bytes∧a.zero = b.zero:=by subst h;exact ⟨rfl,rfl,rfl,rfl⟩
theorem T2k:(T 2).k = .int .i64:=(zau (show T 2 = D2 from rfl)).1
theorem T2s:(T 2).size = 1:=(zau (show T 2 = D2 from rfl)).2.1
theorem T2b:(T 2).bytes = 8:=(zau (show T 2 = D2 from rfl)).2.2.1
theorem T2z:(T 2).zero = [.int .i64 0]:=(zau (show T 2 = D2 from rfl)).2.2.2
theorem T3k:(T 3).k = .int .i64:=(zau (show T 3 = D3 from rfl)).1
theorem T3s:(T 3).size = 1:=(zau (show T 3 = D3 from rfl)).2.1
theorem T3b:(T 3).bytes = 8:=(zau (show T 3 = D3 from rfl)).2.2.1
theorem T3z:(T 3).zero = [.int .i64 0]:=(zau (show T 3 = D3 from rfl)).2.2.2
theorem T4k:(T 4).k = .bool:=(zau (show T 4 = D4 from rfl)).1
theorem T4s:(T 4).size = 1:=(zau (show T 4 = D4 from rfl)).2.1
theorem T4b:(T 4).bytes = 1:=(zau (show T 4 = D4 from rfl)).2.2.1
theorem T4z:(T 4).zero = [.bool false]:=(zau (show T 4 = D4 from rfl)).2.2.2
theorem T5k:(T 5).k = .int .u8:=(zau (show T 5 = D5 from rfl)).1
theorem T5s:(T 5).size = 1:=(zau (show T 5 = D5 from rfl)).2.1
theorem T5b:(T 5).bytes = 1:=(zau (show T 5 = D5 from rfl)).2.2.1
theorem T5z:(T 5).zero = [.int .u8 0]:=(zau (show T 5 = D5 from rfl)).2.2.2
theorem T9k:(T 9).k = .str:=(zau (show T 9 = D9 from rfl)).1
theorem T9s:(T 9).size = 1:=(zau (show T 9 = D9 from rfl)).2.1
theorem T9b:(T 9).bytes = 16:=(zau (show T 9 = D9 from rfl)).2.2.1
theorem T9z:(T 9).zero = [.string ⟨#[]⟩]:=(zau (show T 9 = D9 from rfl)).2.2.2
theorem zGs:(T 12).k = .int .u64:=(zau (show T 12 = D12 from rfl)).1
theorem zGt:(T 12).size = 1:=(zau (show T 12 = D12 from rfl)).2.1
theorem zGu:(T 12).bytes = 8:=(zau (show T 12 = D12 from rfl)).2.2.1
theorem zGv:(T 12).zero = [.int .u64 0]:=(zau (show T 12 = D12 from rfl)).2.2.2
theorem zGw:(T 13).k = .struct [(0,9),(1,12)]:=(zau (show T 13 = D13 from rfl)).1
theorem zGx:(T 13).size = 2:=(zau (show T 13 = D13 from rfl)).2.1
theorem zGy:(T 13).bytes = 24:=(zau (show T 13 = D13 from rfl)).2.2.1
theorem zGz:(T 13).zero = [.string ⟨#[]⟩,.int .u64 0]:=(zau (show T 13 = D13 from rfl)).2.2.2
theorem zGA:(T 21).k = .int .i32:=(zau (show T 21 = D21 from rfl)).1
theorem zGB:(T 21).size = 1:=(zau (show T 21 = D21 from rfl)).2.1
theorem zGC:(T 21).bytes = 4:=(zau (show T 21 = D21 from rfl)).2.2.1
theorem zGD:(T 21).zero = [.int .i32 0]:=(zau (show T 21 = D21 from rfl)).2.2.2
theorem zGE:(T 22).k = .sli 3:=(zau (show T 22 = D22 from rfl)).1
theorem zGF:(T 22).size = 1:=(zau (show T 22 = D22 from rfl)).2.1
theorem zGG:(T 22).bytes = 24:=(zau (show T 22 = D22 from rfl)).2.2.1
theorem zGH:(T 22).zero = [.slice none 0 0]:=(zau (show T 22 = D22 from rfl)).2.2.2
theorem zGI:(T 23).k = .struct [(0,3),(1,22)]:=(zau (show T 23 = D23 from rfl)).1
theorem zGJ:(T 23).size = 2:=(zau (show T 23 = D23 from rfl)).2.1
theorem zGK:(T 23).bytes = 32:=(zau (show T 23 = D23 from rfl)).2.2.1
theorem zGL:(T 23).zero = [.int .i64 0,.slice none 0 0]:=(zau (show T 23 = D23 from rfl)).2.2.2
theorem zGM:(T 24).k = .struct [(0,3),(1,22)]:=(zau (show T 24 = D24 from rfl)).1
theorem zGN:(T 24).size = 2:=(zau (show T 24 = D24 from rfl)).2.1
theorem zGO:(T 24).bytes = 32:=(zau (show T 24 = D24 from rfl)).2.2.1
theorem zGP:(T 24).zero = [.int .i64 0,.slice none 0 0]:=(zau (show T 24 = D24 from rfl)).2.2.2
theorem zGQ:(T 27).k = .struct [(0,3),(1,22)]:=(zau (show T 27 = D27 from rfl)).1
theorem zGR:(T 27).size = 2:=(zau (show T 27 = D27 from rfl)).2.1
theorem zGS:(T 27).bytes = 32:=(zau (show T 27 = D27 from rfl)).2.2.1
theorem zGT:(T 27).zero = [.int .i64 0,.slice none 0 0]:=(zau (show T 27 = D27 from rfl)).2.2.2
theorem zF5:(T 31).k = .sli 5:=(zau (show T 31 = D31 from rfl)).1
theorem zF6:(T 31).size = 1:=(zau (show T 31 = D31 from rfl)).2.1
theorem zGU:(T 31).bytes = 24:=(zau (show T 31 = D31 from rfl)).2.2.1
theorem zGV:(T 31).zero = [.slice none 0 0]:=(zau (show T 31 = D31 from rfl)).2.2.2
theorem zGW:(T 33).k = .sli 22:=(zau (show T 33 = D33 from rfl)).1
theorem zGX:(T 33).size = 1:=(zau (show T 33 = D33 from rfl)).2.1
theorem zGY:(T 33).bytes = 24:=(zau (show T 33 = D33 from rfl)).2.2.1
theorem zGZ:(T 33).zero = [.slice none 0 0]:=(zau (show T 33 = D33 from rfl)).2.2.2
theorem zG0:(T 34).k = .struct [(0,33)]:=(zau (show T 34 = D34 from rfl)).1
theorem zG1:(T 34).size = 1:=(zau (show T 34 = D34 from rfl)).2.1
theorem zG2:(T 34).bytes = 24:=(zau (show T 34 = D34 from rfl)).2.2.1
theorem zG3:(T 34).zero = [.slice none 0 0]:=(zau (show T 34 = D34 from rfl)).2.2.2
theorem zG4:(T 35).k = .struct [(0,33)]:=(zau (show T 35 = D35 from rfl)).1
theorem zG5:(T 35).size = 1:=(zau (show T 35 = D35 from rfl)).2.1
theorem zG6:(T 35).bytes = 24:=(zau (show T 35 = D35 from rfl)).2.2.1
theorem zG7:(T 35).zero = [.slice none 0 0]:=(zau (show T 35 = D35 from rfl)).2.2.2
theorem zG8:(T 37).k = .struct [(0,3),(1,22)]:=(zau (show T 37 = D37 from rfl)).1
theorem zG9:(T 37).size = 2:=(zau (show T 37 = D37 from rfl)).2.1
theorem zHa:(T 37).bytes = 32:=(zau (show T 37 = D37 from rfl)).2.2.1
theorem zHb:(T 37).zero = [.int .i64 0,.slice none 0 0]:=(zau (show T 37 = D37 from rfl)).2.2.2
theorem zHc:(T 38).k = .struct [(0,3),(1,22)]:=(zau (show T 38 = D38 from rfl)).1
theorem zHd:(T 38).size = 2:=(zau (show T 38 = D38 from rfl)).2.1
theorem zHe:(T 38).bytes = 32:=(zau (show T 38 = D38 from rfl)).2.2.1
theorem zHf:(T 38).zero = [.int .i64 0,.slice none 0 0]:=(zau (show T 38 = D38 from rfl)).2.2.2
theorem zHg:(T 78).k = .int .u64:=(zau (show T 78 = D78 from rfl)).1
theorem zHh:(T 78).size = 1:=(zau (show T 78 = D78 from rfl)).2.1
theorem zHi:(T 78).bytes = 8:=(zau (show T 78 = D78 from rfl)).2.2.1
theorem zHj:(T 78).zero = [.int .u64 0]:=(zau (show T 78 = D78 from rfl)).2.2.2
theorem zHk:(T 82).k = .arr 27 4:=(zau (show T 82 = D82 from rfl)).1
theorem zHl:(T 82).size = 27:=(zau (show T 82 = D82 from rfl)).2.1
theorem zHm:(T 82).bytes = 27:=(zau (show T 82 = D82 from rfl)).2.2.1
theorem zHn:(T 82).zero = ((List.replicate 27 (.bool false))):=(zau (show T 82 = D82 from rfl)).2.2.2
theorem zHo:(T 88).k = .arr 3 3:=(zau (show T 88 = D88 from rfl)).1
theorem zHp:(T 88).size = 3:=(zau (show T 88 = D88 from rfl)).2.1
theorem zHq:(T 88).bytes = 24:=(zau (show T 88 = D88 from rfl)).2.2.1
theorem zHr:(T 88).zero = [.int .i64 0,.int .i64 0,.int .i64 0]:=(zau (show T 88 = D88 from rfl)).2.2.2
theorem zHs:(T 96).k = .int .u64:=(zau (show T 96 = D96 from rfl)).1
theorem zHt:(T 96).size = 1:=(zau (show T 96 = D96 from rfl)).2.1
theorem zHu:(T 96).bytes = 8:=(zau (show T 96 = D96 from rfl)).2.2.1
theorem zHv:(T 96).zero = [.int .u64 0]:=(zau (show T 96 = D96 from rfl)).2.2.2
theorem zEe:(T 114).k = .struct [(0,31),(1,3),(2,3)]:=(zau (show T 114 = zDS from rfl)).1
theorem zEf:(T 114).size = 3:=(zau (show T 114 = zDS from rfl)).2.1
theorem zEg:(T 114).bytes = 40:=(zau (show T 114 = zDS from rfl)).2.2.1
theorem zEh:(T 114).zero = [.slice none 0 0,.int .i64 0,.int .i64 0]:=(zau (show T 114 = zDS from rfl)).2.2.2
theorem zEi:(T 115).k = .struct [(0,31),(1,3),(2,3)]:=(zau (show T 115 = zDT from rfl)).1
theorem zEj:(T 115).size = 3:=(zau (show T 115 = zDT from rfl)).2.1
theorem zEk:(T 115).bytes = 40:=(zau (show T 115 = zDT from rfl)).2.2.1
theorem zEl:(T 115).zero = [.slice none 0 0,.int .i64 0,.int .i64 0]:=(zau (show T 115 = zDT from rfl)).2.2.2
theorem zEm:(T 128).k = .sli 9:=(zau (show T 128 = zDU from rfl)).1
theorem zEn:(T 128).size = 1:=(zau (show T 128 = zDU from rfl)).2.1
theorem zEo:(T 128).bytes = 24:=(zau (show T 128 = zDU from rfl)).2.2.1
theorem zEp:(T 128).zero = [.slice none 0 0]:=(zau (show T 128 = zDU from rfl)).2.2.2
theorem zEq:(T 140).k = .int .u32:=(zau (show T 140 = zDV from rfl)).1
theorem zEr:(T 140).size = 1:=(zau (show T 140 = zDV from rfl)).2.1
theorem zEs:(T 140).bytes = 4:=(zau (show T 140 = zDV from rfl)).2.2.1
theorem zEt:(T 140).zero = [.int .u32 0]:=(zau (show T 140 = zDV from rfl)).2.2.2
theorem zEu:(T 146).k = .sli 4:=(zau (show T 146 = zDW from rfl)).1
theorem zEv:(T 146).size = 1:=(zau (show T 146 = zDW from rfl)).2.1
theorem zEw:(T 146).bytes = 24:=(zau (show T 146 = zDW from rfl)).2.2.1
theorem zEx:(T 146).zero = [.slice none 0 0]:=(zau (show T 146 = zDW from rfl)).2.2.2
theorem zEy:(T 154).k = .int .i64:=(zau (show T 154 = zDX from rfl)).1
theorem zEz:(T 154).size = 1:=(zau (show T 154 = zDX from rfl)).2.1
theorem zEA:(T 154).bytes = 8:=(zau (show T 154 = zDX from rfl)).2.2.1
theorem zEB:(T 154).zero = [.int .i64 0]:=(zau (show T 154 = zDX from rfl)).2.2.2
theorem zEC:(T 160).k = .int .u64:=(zau (show T 160 = zDY from rfl)).1
theorem zED:(T 160).size = 1:=(zau (show T 160 = zDY from rfl)).2.1
theorem zEE:(T 160).bytes = 8:=(zau (show T 160 = zDY from rfl)).2.2.1
theorem zEF:(T 160).zero = [.int .u64 0]:=(zau (show T 160 = zDY from rfl)).2.2.2
theorem gT:type_of% (And.intro @T2k <| And.intro @T2s <| And.intro @T2b <| And.intro @T2z <| And.intro @T3k <| And.intro @T3s <| And.intro @T3b <| And.intro @T3z <| And.intro @T4k <| And.intro @T4s <| And.intro @T4b <| And.intro @T4z <| And.intro @T5k <| And.intro @T5s <| And.intro @T5b <| And.intro @T5z <| And.intro @T9k <| And.intro @T9s <| And.intro @T9b <| And.intro @T9z <| And.intro @zGs <| And.intro @zGt <| And.intro @zGu <| And.intro @zGv <| And.intro @zGw <| And.intro @zGx <| And.intro @zGy <| And.intro @zGz <| And.intro @zGA <| And.intro @zGB <| And.intro @zGC <| And.intro @zGD <| And.intro @zGE <| And.intro @zGF <| And.intro @zGG <| And.intro @zGH <| And.intro @zGI <| And.intro @zGJ <| And.intro @zGK <| And.intro @zGL <| And.intro @zGM <| And.intro @zGN <| And.intro @zGO <| And.intro @zGP <| And.intro @zGQ <| And.intro @zGR <| And.intro @zGS <| And.intro @zGT <| And.intro @zF5 <| And.intro @zF6 <| And.intro @zGU <| And.intro @zGV <| And.intro @zGW <| And.intro @zGX <| And.intro @zGY <| And.intro @zGZ <| And.intro @zG0 <| And.intro @zG1 <| And.intro @zG2 <| And.intro @zG3 <| And.intro @zG4 <| And.intro @zG5 <| And.intro @zG6 <| And.intro @zG7 <| And.intro @zG8 <| And.intro @zG9 <| And.intro @zHa <| And.intro @zHb <| And.intro @zHc <| And.intro @zHd <| And.intro @zHe <| And.intro @zHf <| And.intro @zHg <| And.intro @zHh <| And.intro @zHi <| And.intro @zHj <| And.intro @zHk <| And.intro @zHl <| And.intro @zHm <| And.intro @zHn <| And.intro @zHo <| And.intro @zHp <| And.intro @zHq <| And.intro @zHr <| And.intro @zHs <| And.intro @zHt <| And.intro @zHu <| And.intro @zHv <| And.intro @zEe <| And.intro @zEf <| And.intro @zEg <| And.intro @zEh <| And.intro @zEi <| And.intro @zEj <| And.intro @zEk <| And.intro @zEl <| And.intro @zEm <| And.intro @zEn <| And.intro @zEo <| And.intro @zEp <| And.intro @zEq <| And.intro @zEr <| And.intro @zEs <| And.intro @zEt <| And.intro @zEu <| And.intro @zEv <| And.intro @zEw <| And.intro @zEx <| And.intro @zEy <| And.intro @zEz <| And.intro @zEA <| And.intro @zEB <| And.intro @zEC <| And.intro @zED <| And.intro @zEE <| @zEF):=And.intro @T2k <| And.intro @T2s <| And.intro @T2b <| And.intro @T2z <| And.intro @T3k <| And.intro @T3s <| And.intro @T3b <| And.intro @T3z <| And.intro @T4k <| And.intro @T4s <| And.intro @T4b <| And.intro @T4z <| And.intro @T5k <| And.intro @T5s <| And.intro @T5b <| And.intro @T5z <| And.intro @T9k <| And.intro @T9s <| And.intro @T9b <| And.intro @T9z <| And.intro @zGs <| And.intro @zGt <| And.intro @zGu <| And.intro @zGv <| And.intro @zGw <| And.intro @zGx <| And.intro @zGy <| And.intro @zGz <| And.intro @zGA <| And.intro @zGB <| And.intro @zGC <| And.intro @zGD <| And.intro @zGE <| And.intro @zGF <| And.intro @zGG <| And.intro @zGH <| And.intro @zGI <| And.intro @zGJ <| And.intro @zGK <| And.intro @zGL <| And.intro @zGM <| And.intro @zGN <| And.intro @zGO <| And.intro @zGP <| And.intro @zGQ <| And.intro @zGR <| And.intro @zGS <| And.intro @zGT <| And.intro @zF5 <| And.intro @zF6 <| And.intro @zGU <| And.intro @zGV <| And.intro @zGW <| And.intro @zGX <| And.intro @zGY <| And.intro @zGZ <| And.intro @zG0 <| And.intro @zG1 <| And.intro @zG2 <| And.intro @zG3 <| And.intro @zG4 <| And.intro @zG5 <| And.intro @zG6 <| And.intro @zG7 <| And.intro @zG8 <| And.intro @zG9 <| And.intro @zHa <| And.intro @zHb <| And.intro @zHc <| And.intro @zHd <| And.intro @zHe <| And.intro @zHf <| And.intro @zHg <| And.intro @zHh <| And.intro @zHi <| And.intro @zHj <| And.intro @zHk <| And.intro @zHl <| And.intro @zHm <| And.intro @zHn <| And.intro @zHo <| And.intro @zHp <| And.intro @zHq <| And.intro @zHr <| And.intro @zHs <| And.intro @zHt <| And.intro @zHu <| And.intro @zHv <| And.intro @zEe <| And.intro @zEf <| And.intro @zEg <| And.intro @zEh <| And.intro @zEi <| And.intro @zEj <| And.intro @zEk <| And.intro @zEl <| And.intro @zEm <| And.intro @zEn <| And.intro @zEo <| And.intro @zEp <| And.intro @zEq <| And.intro @zEr <| And.intro @zEs <| And.intro @zEt <| And.intro @zEu <| And.intro @zEv <| And.intro @zEw <| And.intro @zEx <| And.intro @zEy <| And.intro @zEz <| And.intro @zEA <| And.intro @zEB <| And.intro @zEC <| And.intro @zED <| And.intro @zEE <| @zEF
theorem zv8:∀ x ∈ zF4,x.2.Fits Try.prog x.1:=by
 simp only [zF4,List.forall_mem_cons]
 exact ⟨F2,F3,F4,F5,F9,F12,F13,F21,F22,F23,F24,F27,F31,F33,F34,F35,F37,F38,F78,F82,F88,F96,zHW,zHX,zHY,zHZ,zH0,zH1,zH2,fun _ h=>absurd h (by simp)⟩
theorem zzU:∀ x ∈ tab,x.2.Fits Try.prog x.1:=by
 simp only [tab]
 exact zv8
theorem zbe:Tab.Ok T Try.prog:=by
 intro t ht
 unfold T at ht ⊢
 cases h:tab.find? fun x=>x.1 == t with
 | none=>rw [h] at ht;simp at ht
 | some x =>
   have h1:=List.find?_some h
   have h2:=zzU x (List.mem_of_find?_eq_some h)
   simp at h1
   subst h1
   exact h2
theorem zax:Try.prog.follows .mixedOrders = true:=by kernel_rfl
instance held:zai:=⟨{ Φ:=fun _=>True,Gl:=fun _=>False,dr:=True,keep:=fun _ _=>trivial,low:=fun _ h=>h.elim }⟩
end Go.Proofs.Ytpnknaaehcljoaa

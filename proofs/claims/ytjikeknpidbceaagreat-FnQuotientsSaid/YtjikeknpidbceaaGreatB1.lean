/- DERIVED by an AI agent, by a program of its own (mktypes.py). The types of the translation, as the abstract layer reads them. -/
import Derived.Test.YtjikeknpidbceaaGreatRows
import Derived.Test.YtjikeknpidbceaaGreatA12
namespace Go.Proofs.YtjikeknpidbceaaGreat
open Go.Abs
set_option linter.unusedVariables false
theorem zaZ {t:TypeId} {d:TD} {z:Value} (h:d.k.fits Tryz.prog t) (hi:(Tryz.prog.info? t).map (fun i=>(i.zero,i.size,i.bytes)) = some (some z,d.size,d.bytes)) (hz:z.cells.toList = d.zero) (hl:d.zero.length = d.size) (ho:d.k.agg = false→d.size = 1∧∀ z,d.zero = [z]→z.oneCell' = true):d.Fits Tryz.prog t:=by
 refine ⟨h,?_,hl,ho⟩
 cases hq:Tryz.prog.info? t with
 | none=>rw [hq] at hi;simp at hi
 | some i =>
   rw [hq] at hi
   simp at hi
   exact ⟨i,z,rfl,hi.2.1,hi.2.2,hi.1,hz⟩
def D2:TD:=⟨.int .i64,1,8,[.int .i64 0]⟩
theorem F2:D2.Fits Tryz.prog 2:=zaZ (z:=.int .i64 0) (show Tryz.prog.underlying 2 = some (TypeDesc.int .i64) by kernel_rfl) (by kernel_rfl) rfl rfl (fun _=>⟨rfl,fun z h=>by cases h;rfl⟩)
def D3:TD:=⟨.int .i64,1,8,[.int .i64 0]⟩
theorem F3:D3.Fits Tryz.prog 3:=zaZ (z:=.int .i64 0) (show Tryz.prog.underlying 3 = some (TypeDesc.int .i64) by kernel_rfl) (by kernel_rfl) rfl rfl (fun _=>⟨rfl,fun z h=>by cases h;rfl⟩)
def D4:TD:=⟨.bool,1,1,[.bool false]⟩
theorem F4:D4.Fits Tryz.prog 4:=zaZ (z:=.bool false) (show Tryz.prog.underlying 4 = some (TypeDesc.bool) by kernel_rfl) (by kernel_rfl) rfl rfl (fun _=>⟨rfl,fun z h=>by cases h;rfl⟩)
def D5:TD:=⟨.int .u8,1,1,[.int .u8 0]⟩
theorem F5:D5.Fits Tryz.prog 5:=zaZ (z:=.int .u8 0) (show Tryz.prog.underlying 5 = some (TypeDesc.int .u8) by kernel_rfl) (by kernel_rfl) rfl rfl (fun _=>⟨rfl,fun z h=>by cases h;rfl⟩)
def D9:TD:=⟨.str,1,16,[.string ⟨#[]⟩]⟩
theorem F9:D9.Fits Tryz.prog 9:=zaZ (z:=.string ⟨#[]⟩) (show Tryz.prog.underlying 9 = some (TypeDesc.string) by kernel_rfl) (by kernel_rfl) rfl rfl (fun _=>⟨rfl,fun z h=>by cases h;rfl⟩)
def D12:TD:=⟨.int .u64,1,8,[.int .u64 0]⟩
theorem F12:D12.Fits Tryz.prog 12:=zaZ (z:=.int .u64 0) (show Tryz.prog.underlying 12 = some (TypeDesc.int .u64) by kernel_rfl) (by kernel_rfl) rfl rfl (fun _=>⟨rfl,fun z h=>by cases h;rfl⟩)
def D13:TD:=⟨.struct [(0,9),(1,12)],2,24,[.string ⟨#[]⟩,.int .u64 0]⟩
theorem F13:D13.Fits Tryz.prog 13:=zaZ (z:=.agg #[.string ⟨#[]⟩,.int .u64 0]) ⟨_,Tryz.underlying13,rfl⟩ (by kernel_rfl) rfl rfl (fun h=>by cases h)
def D21:TD:=⟨.int .i32,1,4,[.int .i32 0]⟩
theorem F21:D21.Fits Tryz.prog 21:=zaZ (z:=.int .i32 0) (show Tryz.prog.underlying 21 = some (TypeDesc.int .i32) by kernel_rfl) (by kernel_rfl) rfl rfl (fun _=>⟨rfl,fun z h=>by cases h;rfl⟩)
def D22:TD:=⟨.sli 5,1,24,[.slice none 0 0]⟩
theorem F22:D22.Fits Tryz.prog 22:=zaZ (z:=.slice none 0 0) (show Tryz.prog.underlying 22 = some (TypeDesc.slice 5) by kernel_rfl) (by kernel_rfl) rfl rfl (fun _=>⟨rfl,fun z h=>by cases h;rfl⟩)
def D24:TD:=⟨.sli 3,1,24,[.slice none 0 0]⟩
theorem F24:D24.Fits Tryz.prog 24:=zaZ (z:=.slice none 0 0) (show Tryz.prog.underlying 24 = some (TypeDesc.slice 3) by kernel_rfl) (by kernel_rfl) rfl rfl (fun _=>⟨rfl,fun z h=>by cases h;rfl⟩)
def D25:TD:=⟨.struct [(0,3),(1,24)],2,32,[.int .i64 0,.slice none 0 0]⟩
theorem F25:D25.Fits Tryz.prog 25:=zaZ (z:=.agg #[.int .i64 0,.slice none 0 0]) ⟨_,Tryz.underlying25,rfl⟩ (by kernel_rfl) rfl rfl (fun h=>by cases h)
def D26:TD:=⟨.struct [(0,3),(1,24)],2,32,[.int .i64 0,.slice none 0 0]⟩
theorem F26:D26.Fits Tryz.prog 26:=zaZ (z:=.agg #[.int .i64 0,.slice none 0 0]) ⟨_,Tryz.underlying26,rfl⟩ (by kernel_rfl) rfl rfl (fun h=>by cases h)
def D35:TD:=⟨.struct [(0,3),(1,24)],2,32,[.int .i64 0,.slice none 0 0]⟩
theorem F35:D35.Fits Tryz.prog 35:=zaZ (z:=.agg #[.int .i64 0,.slice none 0 0]) ⟨_,Tryz.underlying35,rfl⟩ (by kernel_rfl) rfl rfl (fun h=>by cases h)
def D36:TD:=⟨.struct [(0,3),(1,24)],2,32,[.int .i64 0,.slice none 0 0]⟩
theorem F36:D36.Fits Tryz.prog 36:=zaZ (z:=.agg #[.int .i64 0,.slice none 0 0]) ⟨_,Tryz.underlying36,rfl⟩ (by kernel_rfl) rfl rfl (fun h=>by cases h)
def D48:TD:=⟨.other,1,8,[.nilFunc]⟩
theorem F48:D48.Fits Tryz.prog 48:=zaZ (z:=.nilFunc) ⟨_,Tryz.underlying48,trivial⟩ (by kernel_rfl) rfl rfl (fun _=>⟨rfl,fun z h=>by cases h;rfl⟩)
def D55:TD:=⟨.sli 24,1,24,[.slice none 0 0]⟩
theorem F55:D55.Fits Tryz.prog 55:=zaZ (z:=.slice none 0 0) (show Tryz.prog.underlying 55 = some (TypeDesc.slice 24) by kernel_rfl) (by kernel_rfl) rfl rfl (fun _=>⟨rfl,fun z h=>by cases h;rfl⟩)
def D62:TD:=⟨.struct [(0,22),(1,3),(2,3)],3,40,[.slice none 0 0,.int .i64 0,.int .i64 0]⟩
theorem F62:D62.Fits Tryz.prog 62:=zaZ (z:=.agg #[.slice none 0 0,.int .i64 0,.int .i64 0]) ⟨_,Tryz.underlying62,rfl⟩ (by kernel_rfl) rfl rfl (fun h=>by cases h)
def D63:TD:=⟨.struct [(0,22),(1,3),(2,3)],3,40,[.slice none 0 0,.int .i64 0,.int .i64 0]⟩
theorem F63:D63.Fits Tryz.prog 63:=zaZ (z:=.agg #[.slice none 0 0,.int .i64 0,.int .i64 0]) ⟨_,Tryz.underlying63,rfl⟩ (by kernel_rfl) rfl rfl (fun h=>by cases h)
def D67:TD:=⟨.arr 256 4,256,256,((List.replicate 256 (.bool false)))⟩
theorem F67:D67.Fits Tryz.prog 67:=zaZ (z:=.agg ⟨((List.replicate 256 (.bool false)))⟩) (show Tryz.prog.underlying 67 = some (TypeDesc.array 256 4) by kernel_rfl) (by kernel_rfl) (by kernel_rfl) (by kernel_rfl) (fun h=>by cases h)
def D68:TD:=⟨.struct [(0,24),(1,48),(2,67),(258,24)],259,312,([.slice none 0 0,.nilFunc] ++ (List.replicate 256 (.bool false)) ++ [.slice none 0 0])⟩
theorem F68:D68.Fits Tryz.prog 68:=zaZ (z:=.agg ⟨([.slice none 0 0,.nilFunc] ++ (List.replicate 256 (.bool false)) ++ [.slice none 0 0])⟩) ⟨_,Tryz.underlying68,rfl⟩ (by kernel_rfl) (by kernel_rfl) (by kernel_rfl) (fun h=>by cases h)
def D69:TD:=⟨.struct [(0,24),(1,48),(2,67),(258,24)],259,312,([.slice none 0 0,.nilFunc] ++ (List.replicate 256 (.bool false)) ++ [.slice none 0 0])⟩
theorem F69:D69.Fits Tryz.prog 69:=zaZ (z:=.agg ⟨([.slice none 0 0,.nilFunc] ++ (List.replicate 256 (.bool false)) ++ [.slice none 0 0])⟩) ⟨_,Tryz.underlying69,rfl⟩ (by kernel_rfl) (by kernel_rfl) (by kernel_rfl) (fun h=>by cases h)
def D73:TD:=⟨.int .u64,1,8,[.int .u64 0]⟩
theorem F73:D73.Fits Tryz.prog 73:=zaZ (z:=.int .u64 0) (show Tryz.prog.underlying 73 = some (TypeDesc.int .u64) by kernel_rfl) (by kernel_rfl) rfl rfl (fun _=>⟨rfl,fun z h=>by cases h;rfl⟩)
def D84:TD:=⟨.int .u32,1,4,[.int .u32 0]⟩
theorem F84:D84.Fits Tryz.prog 84:=zaZ (z:=.int .u32 0) (show Tryz.prog.underlying 84 = some (TypeDesc.int .u32) by kernel_rfl) (by kernel_rfl) rfl rfl (fun _=>⟨rfl,fun z h=>by cases h;rfl⟩)
def D86:TD:=⟨.int .u64,1,8,[.int .u64 0]⟩
theorem F86:D86.Fits Tryz.prog 86:=zaZ (z:=.int .u64 0) (show Tryz.prog.underlying 86 = some (TypeDesc.int .u64) by kernel_rfl) (by kernel_rfl) rfl rfl (fun _=>⟨rfl,fun z h=>by cases h;rfl⟩)
def D89:TD:=⟨.int .i64,1,8,[.int .i64 0]⟩
theorem F89:D89.Fits Tryz.prog 89:=zaZ (z:=.int .i64 0) (show Tryz.prog.underlying 89 = some (TypeDesc.int .i64) by kernel_rfl) (by kernel_rfl) rfl rfl (fun _=>⟨rfl,fun z h=>by cases h;rfl⟩)
def D96:TD:=⟨.sli 4,1,24,[.slice none 0 0]⟩
theorem F96:D96.Fits Tryz.prog 96:=zaZ (z:=.slice none 0 0) (show Tryz.prog.underlying 96 = some (TypeDesc.slice 4) by kernel_rfl) (by kernel_rfl) rfl rfl (fun _=>⟨rfl,fun z h=>by cases h;rfl⟩)
def D99:TD:=⟨.int .u64,1,8,[.int .u64 0]⟩
theorem F99:D99.Fits Tryz.prog 99:=zaZ (z:=.int .u64 0) (show Tryz.prog.underlying 99 = some (TypeDesc.int .u64) by kernel_rfl) (by kernel_rfl) rfl rfl (fun _=>⟨rfl,fun z h=>by cases h;rfl⟩)
def zFU:List (Nat × TD):=[(2,D2),(3,D3),(4,D4),(5,D5),(9,D9),(12,D12),(13,D13),(21,D21),(22,D22),(24,D24),(25,D25),(26,D26),(35,D35),(36,D36),(48,D48),(55,D55),(62,D62),(63,D63),(67,D67),(68,D68),(69,D69),(73,D73),(84,D84),(86,D86),(89,D89),(96,D96),(99,D99)]
def tab:List (Nat × TD):=zFU
def T:Tab:=fun t=>((tab.find? fun x=>x.1 == t).map (·.2)).getD ⟨.other,0,0,[]⟩
theorem zat {a b:TD} (h:a = b):a.k = b.k∧a.size = b.size∧a.bytes = b.bytes∧a.zero = b.zero:=by subst h;exact ⟨rfl,rfl,rfl,rfl⟩
theorem T2k:(T 2).k = .int .i64:=(zat (show T 2 = D2 from rfl)).1
theorem T2s:(T 2).size = 1:=(zat (show T 2 = D2 from rfl)).2.1
theorem T2b:(T 2).bytes = 8:=(zat (show T 2 = D2 from rfl)).2.2.1
theorem T2z:(T 2).zero = [.int .i64 0]:=(zat (show T 2 = D2 from rfl)).2.2.2
theorem T3k:(T 3).k = .int .i64:=(zat (show T 3 = D3 from rfl)).1
theorem T3s:(T 3).size = 1:=(zat (show T 3 = D3 from rfl)).2.1
theorem T3b:(T 3).bytes = 8:=(zat (show T 3 = D3 from rfl)).2.2.1
theorem T3z:(T 3).zero = [.int .i64 0]:=(zat (show T 3 = D3 from rfl)).2.2.2
theorem T4k:(T 4).k = .bool:=(zat (show T 4 = D4 from rfl)).1
theorem T4s:(T 4).size = 1:=(zat (show T 4 = D4 from rfl)).2.1
theorem T4b:(T 4).bytes = 1:=(zat (show T 4 = D4 from rfl)).2.2.1
theorem T4z:(T 4).zero = [.bool false]:=(zat (show T 4 = D4 from rfl)).2.2.2
theorem T5k:(T 5).k = .int .u8:=(zat (show T 5 = D5 from rfl)).1
theorem T5s:(T 5).size = 1:=(zat (show T 5 = D5 from rfl)).2.1
theorem T5b:(T 5).bytes = 1:=(zat (show T 5 = D5 from rfl)).2.2.1
theorem T5z:(T 5).zero = [.int .u8 0]:=(zat (show T 5 = D5 from rfl)).2.2.2
theorem T9k:(T 9).k = .str:=(zat (show T 9 = D9 from rfl)).1
theorem T9s:(T 9).size = 1:=(zat (show T 9 = D9 from rfl)).2.1
theorem T9b:(T 9).bytes = 16:=(zat (show T 9 = D9 from rfl)).2.2.1
theorem T9z:(T 9).zero = [.string ⟨#[]⟩]:=(zat (show T 9 = D9 from rfl)).2.2.2
theorem zGe:(T 12).k = .int .u64:=(zat (show T 12 = D12 from rfl)).1
theorem zGf:(T 12).size = 1:=(zat (show T 12 = D12 from rfl)).2.1
theorem zGg:(T 12).bytes = 8:=(zat (show T 12 = D12 from rfl)).2.2.1
theorem zGh:(T 12).zero = [.int .u64 0]:=(zat (show T 12 = D12 from rfl)).2.2.2
theorem zGi:(T 13).k = .struct [(0,9),(1,12)]:=(zat (show T 13 = D13 from rfl)).1
theorem zGj:(T 13).size = 2:=(zat (show T 13 = D13 from rfl)).2.1
theorem zGk:(T 13).bytes = 24:=(zat (show T 13 = D13 from rfl)).2.2.1
theorem zGl:(T 13).zero = [.string ⟨#[]⟩,.int .u64 0]:=(zat (show T 13 = D13 from rfl)).2.2.2
theorem zGm:(T 21).k = .int .i32:=(zat (show T 21 = D21 from rfl)).1
theorem zGn:(T 21).size = 1:=(zat (show T 21 = D21 from rfl)).2.1
theorem zGo:(T 21).bytes = 4:=(zat (show T 21 = D21 from rfl)).2.2.1
theorem zGp:(T 21).zero = [.int .i32 0]:=(zat (show T 21 = D21 from rfl)).2.2.2
theorem zGq:(T 22).k = .sli 5:=(zat (show T 22 = D22 from rfl)).1
theorem zGr:(T 22).size = 1:=(zat (show T 22 = D22 from rfl)).2.1
theorem zGs:(T 22).bytes = 24:=(zat (show T 22 = D22 from rfl)).2.2.1
theorem zGt:(T 22).zero = [.slice none 0 0]:=(zat (show T 22 = D22 from rfl)).2.2.2
theorem zGu:(T 24).k = .sli 3:=(zat (show T 24 = D24 from rfl)).1
theorem zGv:(T 24).size = 1:=(zat (show T 24 = D24 from rfl)).2.1
theorem zGw:(T 24).bytes = 24:=(zat (show T 24 = D24 from rfl)).2.2.1
theorem zGx:(T 24).zero = [.slice none 0 0]:=(zat (show T 24 = D24 from rfl)).2.2.2
theorem zGy:(T 25).k = .struct [(0,3),(1,24)]:=(zat (show T 25 = D25 from rfl)).1
theorem zGz:(T 25).size = 2:=(zat (show T 25 = D25 from rfl)).2.1
theorem zGA:(T 25).bytes = 32:=(zat (show T 25 = D25 from rfl)).2.2.1
theorem zGB:(T 25).zero = [.int .i64 0,.slice none 0 0]:=(zat (show T 25 = D25 from rfl)).2.2.2
theorem zGC:(T 26).k = .struct [(0,3),(1,24)]:=(zat (show T 26 = D26 from rfl)).1
theorem zGD:(T 26).size = 2:=(zat (show T 26 = D26 from rfl)).2.1
theorem zGE:(T 26).bytes = 32:=(zat (show T 26 = D26 from rfl)).2.2.1
theorem zGF:(T 26).zero = [.int .i64 0,.slice none 0 0]:=(zat (show T 26 = D26 from rfl)).2.2.2
theorem zGG:(T 35).k = .struct [(0,3),(1,24)]:=(zat (show T 35 = D35 from rfl)).1
theorem zGH:(T 35).size = 2:=(zat (show T 35 = D35 from rfl)).2.1
theorem zGI:(T 35).bytes = 32:=(zat (show T 35 = D35 from rfl)).2.2.1
theorem zGJ:(T 35).zero = [.int .i64 0,.slice none 0 0]:=(zat (show T 35 = D35 from rfl)).2.2.2
theorem zGK:(T 36).k = .struct [(0,3),(1,24)]:=(zat (show T 36 = D36 from rfl)).1
theorem zGL:(T 36).size = 2:=(zat (show T 36 = D36 from rfl)).2.1
theorem zGM:(T 36).bytes = 32:=(zat (show T 36 = D36 from rfl)).2.2.1
theorem zGN:(T 36).zero = [.int .i64 0,.slice none 0 0]:=(zat (show T 36 = D36 from rfl)).2.2.2
theorem zH2:(T 48).k = .other:=(zat (show T 48 = D48 from rfl)).1
theorem zH3:(T 48).size = 1:=(zat (show T 48 = D48 from rfl)).2.1
theorem zH4:(T 48).bytes = 8:=(zat (show T 48 = D48 from rfl)).2.2.1
theorem zH5:(T 48).zero = [.nilFunc]:=(zat (show T 48 = D48 from rfl)).2.2.2
theorem zGO:(T 55).k = .sli 24:=(zat (show T 55 = D55 from rfl)).1
theorem zGP:(T 55).size = 1:=(zat (show T 55 = D55 from rfl)).2.1
theorem zGQ:(T 55).bytes = 24:=(zat (show T 55 = D55 from rfl)).2.2.1
theorem zGR:(T 55).zero = [.slice none 0 0]:=(zat (show T 55 = D55 from rfl)).2.2.2
theorem zGS:(T 62).k = .struct [(0,22),(1,3),(2,3)]:=(zat (show T 62 = D62 from rfl)).1
theorem zGT:(T 62).size = 3:=(zat (show T 62 = D62 from rfl)).2.1
theorem zGU:(T 62).bytes = 40:=(zat (show T 62 = D62 from rfl)).2.2.1
theorem zGV:(T 62).zero = [.slice none 0 0,.int .i64 0,.int .i64 0]:=(zat (show T 62 = D62 from rfl)).2.2.2
theorem zGW:(T 63).k = .struct [(0,22),(1,3),(2,3)]:=(zat (show T 63 = D63 from rfl)).1
theorem zGX:(T 63).size = 3:=(zat (show T 63 = D63 from rfl)).2.1
theorem zGY:(T 63).bytes = 40:=(zat (show T 63 = D63 from rfl)).2.2.1
theorem zGZ:(T 63).zero = [.slice none 0 0,.int .i64 0,.int .i64 0]:=(zat (show T 63 = D63 from rfl)).2.2.2
theorem zG0:(T 67).k = .arr 256 4:=(zat (show T 67 = D67 from rfl)).1
theorem zG1:(T 67).size = 256:=(zat (show T 67 = D67 from rfl)).2.1
theorem zG2:(T 67).bytes = 256:=(zat (show T 67 = D67 from rfl)).2.2.1
theorem zG3:(T 67).zero = ((List.replicate 256 (.bool false))):=(zat (show T 67 = D67 from rfl)).2.2.2
theorem zG4:(T 68).k = .struct [(0,24),(1,48),(2,67),(258,24)]:=(zat (show T 68 = D68 from rfl)).1
theorem zG5:(T 68).size = 259:=(zat (show T 68 = D68 from rfl)).2.1
theorem zG6:(T 68).bytes = 312:=(zat (show T 68 = D68 from rfl)).2.2.1
theorem zG7:(T 68).zero = ([.slice none 0 0,.nilFunc] ++ (List.replicate 256 (.bool false)) ++ [.slice none 0 0]):=(zat (show T 68 = D68 from rfl)).2.2.2
theorem zG8:(T 69).k = .struct [(0,24),(1,48),(2,67),(258,24)]:=(zat (show T 69 = D69 from rfl)).1
theorem zG9:(T 69).size = 259:=(zat (show T 69 = D69 from rfl)).2.1
theorem zHa:(T 69).bytes = 312:=(zat (show T 69 = D69 from rfl)).2.2.1
theorem zHb:(T 69).zero = ([.slice none 0 0,.nilFunc] ++ (List.replicate 256 (.bool false)) ++ [.slice none 0 0]):=(zat (show T 69 = D69 from rfl)).2.2.2
theorem zHc:(T 73).k = .int .u64:=(zat (show T 73 = D73 from rfl)).1
theorem zHd:(T 73).size = 1:=(zat (show T 73 = D73 from rfl)).2.1
theorem zHe:(T 73).bytes = 8:=(zat (show T 73 = D73 from rfl)).2.2.1
theorem zHf:(T 73).zero = [.int .u64 0]:=(zat (show T 73 = D73 from rfl)).2.2.2
theorem zHg:(T 84).k = .int .u32:=(zat (show T 84 = D84 from rfl)).1
theorem zHh:(T 84).size = 1:=(zat (show T 84 = D84 from rfl)).2.1
theorem zHi:(T 84).bytes = 4:=(zat (show T 84 = D84 from rfl)).2.2.1
theorem zHj:(T 84).zero = [.int .u32 0]:=(zat (show T 84 = D84 from rfl)).2.2.2
theorem zHk:(T 86).k = .int .u64:=(zat (show T 86 = D86 from rfl)).1
theorem zHl:(T 86).size = 1:=(zat (show T 86 = D86 from rfl)).2.1
theorem zHm:(T 86).bytes = 8:=(zat (show T 86 = D86 from rfl)).2.2.1
theorem zHn:(T 86).zero = [.int .u64 0]:=(zat (show T 86 = D86 from rfl)).2.2.2
theorem zHo:(T 89).k = .int .i64:=(zat (show T 89 = D89 from rfl)).1
theorem zHp:(T 89).size = 1:=(zat (show T 89 = D89 from rfl)).2.1
theorem zHq:(T 89).bytes = 8:=(zat (show T 89 = D89 from rfl)).2.2.1
theorem zHr:(T 89).zero = [.int .i64 0]:=(zat (show T 89 = D89 from rfl)).2.2.2
theorem zHs:(T 96).k = .sli 4:=(zat (show T 96 = D96 from rfl)).1
theorem zHt:(T 96).size = 1:=(zat (show T 96 = D96 from rfl)).2.1
theorem zHu:(T 96).bytes = 24:=(zat (show T 96 = D96 from rfl)).2.2.1
theorem zHv:(T 96).zero = [.slice none 0 0]:=(zat (show T 96 = D96 from rfl)).2.2.2
theorem zHw:(T 99).k = .int .u64:=(zat (show T 99 = D99 from rfl)).1
theorem zHx:(T 99).size = 1:=(zat (show T 99 = D99 from rfl)).2.1
theorem zHy:(T 99).bytes = 8:=(zat (show T 99 = D99 from rfl)).2.2.1
theorem zHz:(T 99).zero = [.int .u64 0]:=(zat (show T 99 = D99 from rfl)).2.2.2
theorem gT:type_of% (And.intro @T2k <| And.intro @T2s <| And.intro @T2b <| And.intro @T2z <| And.intro @T3k <| And.intro @T3s <| And.intro @T3b <| And.intro @T3z <| And.intro @T4k <| And.intro @T4s <| And.intro @T4b <| And.intro @T4z <| And.intro @T5k <| And.intro @T5s <| And.intro @T5b <| And.intro @T5z <| And.intro @T9k <| And.intro @T9s <| And.intro @T9b <| And.intro @T9z <| And.intro @zGe <| And.intro @zGf <| And.intro @zGg <| And.intro @zGh <| And.intro @zGi <| And.intro @zGj <| And.intro @zGk <| And.intro @zGl <| And.intro @zGm <| And.intro @zGn <| And.intro @zGo <| And.intro @zGp <| And.intro @zGq <| And.intro @zGr <| And.intro @zGs <| And.intro @zGt <| And.intro @zGu <| And.intro @zGv <| And.intro @zGw <| And.intro @zGx <| And.intro @zGy <| And.intro @zGz <| And.intro @zGA <| And.intro @zGB <| And.intro @zGC <| And.intro @zGD <| And.intro @zGE <| And.intro @zGF <| And.intro @zGG <| And.intro @zGH <| And.intro @zGI <| And.intro @zGJ <| And.intro @zGK <| And.intro @zGL <| And.intro @zGM <| And.intro @zGN <| And.intro @zGO <| And.intro @zGP <| And.intro @zGQ <| And.intro @zGR <| And.intro @zGS <| And.intro @zGT <| And.intro @zGU <| And.intro @zGV <| And.intro @zGW <| And.intro @zGX <| And.intro @zGY <| And.intro @zGZ <| And.intro @zG0 <| And.intro @zG1 <| And.intro @zG2 <| And.intro @zG3 <| And.intro @zG4 <| And.intro @zG5 <| And.intro @zG6 <| And.intro @zG7 <| And.intro @zG8 <| And.intro @zG9 <| And.intro @zHa <| And.intro @zHb <| And.intro @zHc <| And.intro @zHd <| And.intro @zHe <| And.intro @zHf <| And.intro @zHg <| And.intro @zHh <| And.intro @zHi <| And.intro @zHj <| And.intro @zHk <| And.intro @zHl <| And.intro @zHm <| And.intro @zHn <| And.intro @zHo <| And.intro @zHp <| And.intro @zHq <| And.intro @zHr <| And.intro @zHs <| And.intro @zHt <| And.intro @zHu <| And.intro @zHv <| And.intro @zHw <| And.intro @zHx <| And.intro @zHy <| @zHz):=And.intro @T2k <| And.intro @T2s <| And.intro @T2b <| And.intro @T2z <| And.intro @T3k <| And.intro @T3s <| And.intro @T3b <| And.intro @T3z <| And.intro @T4k <| And.intro @T4s <| And.intro @T4b <| And.intro @T4z <| And.intro @T5k <| And.intro @T5s <| And.intro @T5b <| And.intro @T5z <| And.intro @T9k <| And.intro @T9s <| And.intro @T9b <| And.intro @T9z <| And.intro @zGe <| And.intro @zGf <| And.intro @zGg <| And.intro @zGh <| And.intro @zGi <| And.intro @zGj <| And.intro @zGk <| And.intro @zGl <| And.intro @zGm <| And.intro @zGn <| And.intro @zGo <| And.intro @zGp <| And.intro @zGq <| And.intro @zGr <| And.intro @zGs <| And.intro @zGt <| And.intro @zGu <| And.intro @zGv <| And.intro @zGw <| And.intro @zGx <| And.intro @zGy <| And.intro @zGz <| And.intro @zGA <| And.intro @zGB <| And.intro @zGC <| And.intro @zGD <| And.intro @zGE <| And.intro @zGF <| And.intro @zGG <| And.intro @zGH <| And.intro @zGI <| And.intro @zGJ <| And.intro @zGK <| And.intro @zGL <| And.intro @zGM <| And.intro @zGN <| And.intro @zGO <| And.intro @zGP <| And.intro @zGQ <| And.intro @zGR <| And.intro @zGS <| And.intro @zGT <| And.intro @zGU <| And.intro @zGV <| And.intro @zGW <| And.intro @zGX <| And.intro @zGY <| And.intro @zGZ <| And.intro @zG0 <| And.intro @zG1 <| And.intro @zG2 <| And.intro @zG3 <| And.intro @zG4 <| And.intro @zG5 <| And.intro @zG6 <| And.intro @zG7 <| And.intro @zG8 <| And.intro @zG9 <| And.intro @zHa <| And.intro @zHb <| And.intro @zHc <| And.intro @zHd <| And.intro @zHe <| And.intro @zHf <| And.intro @zHg <| And.intro @zHh <| And.intro @zHi <| And.intro @zHj <| And.intro @zHk <| And.intro @zHl <| And.intro @zHm <| And.intro @zHn <| And.intro @zHo <| And.intro @zHp <| And.intro @zHq <| And.intro @zHr <| And.intro @zHs <| And.intro @zHt <| And.intro @zHu <| And.intro @zHv <| And.intro @zHw <| And.intro @zHx <| And.intro @zHy <| @zHz
theorem zv2:∀ x ∈ zFU,x.2.Fits Tryz.prog x.1:=by
 simp only [zFU,List.forall_mem_cons]
 exact ⟨F2,F3,F4,F5,F9,F12,F13,F21,F22,F24,F25,F26,F35,F36,F48,F55,F62,F63,F67,F68,F69,F73,F84,F86,F89,F96,F99,fun _ h=>absurd h (by simp)⟩
theorem zz7:∀ x ∈ tab,x.2.Fits Tryz.prog x.1:=by
 simp only [tab]
 exact zv2
theorem zaQ:Tab.Ok T Tryz.prog:=by
 intro t ht
 unfold T at ht ⊢
 cases h:tab.find? fun x=>x.1 == t with
 | none=>rw [h] at ht;simp at ht
 | some x =>
   have h1:=List.find?_some h
   have h2:=zz7 x (List.mem_of_find?_eq_some h)
   simp at h1
   subst h1
   exact h2
theorem zar:Tryz.prog.follows .mixedOrders = true:=by kernel_rfl
instance held:zag:=⟨{ Φ:=fun _=>True,Gl:=fun _=>False,dr:=False,keep:=fun _ _=>trivial,low:=fun _ h=>h.elim }⟩
end Go.Proofs.YtjikeknpidbceaaGreat

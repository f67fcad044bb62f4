/- DERIVED by an AI agent, by a program of its own (mktypes.py). The types of the translation, as the abstract layer reads them. -/
import Derived.Test.YtpnknaaehcljoaaGreatRows
import Derived.Test.YtpnknaaehcljoaaGreatA12
namespace Go.Proofs.YtpnknaaehcljoaaGreat
open Go.Abs
set_option linter.unusedVariables false
theorem za1 {t:TypeId} {d:TD} {z:Value} (h:d.k.fits Tryz.prog t) (hi:(Tryz.prog.info? t).map (fun i=>(i.zero,i.size,i.bytes)) = some (some z,d.size,d.bytes)) (hz:z.cells.toList = d.zero) (hl:d.zero.length = d.size) (ho:d.k.agg = false→d.size = 1∧∀ z,d.zero = [z]→z.oneCell' = true):d.Fits Tryz.prog t:=by
 refine ⟨h,?_,hl,ho⟩
 cases hq:Tryz.prog.info? t with
 | none=>rw [hq] at hi;simp at hi
 | some i =>
   rw [hq] at hi
   simp at hi
   exact ⟨i,z,rfl,hi.2.1,hi.2.2,hi.1,hz⟩
def D2:TD:=⟨.int .i64,1,8,[.int .i64 0]⟩
theorem F2:D2.Fits Tryz.prog 2:=za1 (z:=.int .i64 0) (show Tryz.prog.underlying 2 = some (TypeDesc.int .i64) by kernel_rfl) (by kernel_rfl) rfl rfl (fun _=>⟨rfl,fun z h=>by cases h;rfl⟩)
def D3:TD:=⟨.int .i64,1,8,[.int .i64 0]⟩
theorem F3:D3.Fits Tryz.prog 3:=za1 (z:=.int .i64 0) (show Tryz.prog.underlying 3 = some (TypeDesc.int .i64) by kernel_rfl) (by kernel_rfl) rfl rfl (fun _=>⟨rfl,fun z h=>by cases h;rfl⟩)
def D4:TD:=⟨.bool,1,1,[.bool false]⟩
theorem F4:D4.Fits Tryz.prog 4:=za1 (z:=.bool false) (show Tryz.prog.underlying 4 = some (TypeDesc.bool) by kernel_rfl) (by kernel_rfl) rfl rfl (fun _=>⟨rfl,fun z h=>by cases h;rfl⟩)
def D5:TD:=⟨.int .u8,1,1,[.int .u8 0]⟩
theorem F5:D5.Fits Tryz.prog 5:=za1 (z:=.int .u8 0) (show Tryz.prog.underlying 5 = some (TypeDesc.int .u8) by kernel_rfl) (by kernel_rfl) rfl rfl (fun _=>⟨rfl,fun z h=>by cases h;rfl⟩)
def D9:TD:=⟨.str,1,16,[.string ⟨#[]⟩]⟩
theorem F9:D9.Fits Tryz.prog 9:=za1 (z:=.string ⟨#[]⟩) (show Tryz.prog.underlying 9 = some (TypeDesc.string) by kernel_rfl) (by kernel_rfl) rfl rfl (fun _=>⟨rfl,fun z h=>by cases h;rfl⟩)
def D12:TD:=⟨.int .u64,1,8,[.int .u64 0]⟩
theorem F12:D12.Fits Tryz.prog 12:=za1 (z:=.int .u64 0) (show Tryz.prog.underlying 12 = some (TypeDesc.int .u64) by kernel_rfl) (by kernel_rfl) rfl rfl (fun _=>⟨rfl,fun z h=>by cases h;rfl⟩)
def D13:TD:=⟨.struct [(0,9),(1,12)],2,24,[.string ⟨#[]⟩,.int .u64 0]⟩
theorem F13:D13.Fits Tryz.prog 13:=za1 (z:=.agg #[.string ⟨#[]⟩,.int .u64 0]) ⟨_,Tryz.underlying13,rfl⟩ (by kernel_rfl) rfl rfl (fun h=>by cases h)
def D21:TD:=⟨.int .i32,1,4,[.int .i32 0]⟩
theorem F21:D21.Fits Tryz.prog 21:=za1 (z:=.int .i32 0) (show Tryz.prog.underlying 21 = some (TypeDesc.int .i32) by kernel_rfl) (by kernel_rfl) rfl rfl (fun _=>⟨rfl,fun z h=>by cases h;rfl⟩)
def D22:TD:=⟨.sli 5,1,24,[.slice none 0 0]⟩
theorem F22:D22.Fits Tryz.prog 22:=za1 (z:=.slice none 0 0) (show Tryz.prog.underlying 22 = some (TypeDesc.slice 5) by kernel_rfl) (by kernel_rfl) rfl rfl (fun _=>⟨rfl,fun z h=>by cases h;rfl⟩)
def D25:TD:=⟨.sli 3,1,24,[.slice none 0 0]⟩
theorem F25:D25.Fits Tryz.prog 25:=za1 (z:=.slice none 0 0) (show Tryz.prog.underlying 25 = some (TypeDesc.slice 3) by kernel_rfl) (by kernel_rfl) rfl rfl (fun _=>⟨rfl,fun z h=>by cases h;rfl⟩)
def D26:TD:=⟨.struct [(0,3),(1,25)],2,32,[.int .i64 0,.slice none 0 0]⟩
theorem F26:D26.Fits Tryz.prog 26:=za1 (z:=.agg #[.int .i64 0,.slice none 0 0]) ⟨_,Tryz.underlying26,rfl⟩ (by kernel_rfl) rfl rfl (fun h=>by cases h)
def D27:TD:=⟨.struct [(0,3),(1,25)],2,32,[.int .i64 0,.slice none 0 0]⟩
theorem F27:D27.Fits Tryz.prog 27:=za1 (z:=.agg #[.int .i64 0,.slice none 0 0]) ⟨_,Tryz.underlying27,rfl⟩ (by kernel_rfl) rfl rfl (fun h=>by cases h)
def D35:TD:=⟨.struct [(0,3),(1,25)],2,32,[.int .i64 0,.slice none 0 0]⟩
theorem F35:D35.Fits Tryz.prog 35:=za1 (z:=.agg #[.int .i64 0,.slice none 0 0]) ⟨_,Tryz.underlying35,rfl⟩ (by kernel_rfl) rfl rfl (fun h=>by cases h)
def D36:TD:=⟨.struct [(0,3),(1,25)],2,32,[.int .i64 0,.slice none 0 0]⟩
theorem F36:D36.Fits Tryz.prog 36:=za1 (z:=.agg #[.int .i64 0,.slice none 0 0]) ⟨_,Tryz.underlying36,rfl⟩ (by kernel_rfl) rfl rfl (fun h=>by cases h)
def D51:TD:=⟨.struct [(0,3),(1,25)],2,32,[.int .i64 0,.slice none 0 0]⟩
theorem F51:D51.Fits Tryz.prog 51:=za1 (z:=.agg #[.int .i64 0,.slice none 0 0]) ⟨_,Tryz.underlying51,rfl⟩ (by kernel_rfl) rfl rfl (fun h=>by cases h)
def D52:TD:=⟨.struct [(0,3),(1,25)],2,32,[.int .i64 0,.slice none 0 0]⟩
theorem F52:D52.Fits Tryz.prog 52:=za1 (z:=.agg #[.int .i64 0,.slice none 0 0]) ⟨_,Tryz.underlying52,rfl⟩ (by kernel_rfl) rfl rfl (fun h=>by cases h)
def D82:TD:=⟨.int .u64,1,8,[.int .u64 0]⟩
theorem F82:D82.Fits Tryz.prog 82:=za1 (z:=.int .u64 0) (show Tryz.prog.underlying 82 = some (TypeDesc.int .u64) by kernel_rfl) (by kernel_rfl) rfl rfl (fun _=>⟨rfl,fun z h=>by cases h;rfl⟩)
def D88:TD:=⟨.int .u64,1,8,[.int .u64 0]⟩
theorem F88:D88.Fits Tryz.prog 88:=za1 (z:=.int .u64 0) (show Tryz.prog.underlying 88 = some (TypeDesc.int .u64) by kernel_rfl) (by kernel_rfl) rfl rfl (fun _=>⟨rfl,fun z h=>by cases h;rfl⟩)
def D99:TD:=⟨.sli 25,1,24,[.slice none 0 0]⟩
theorem F99:D99.Fits Tryz.prog 99:=za1 (z:=.slice none 0 0) (show Tryz.prog.underlying 99 = some (TypeDesc.slice 25) by kernel_rfl) (by kernel_rfl) rfl rfl (fun _=>⟨rfl,fun z h=>by cases h;rfl⟩)
def zDV:TD:=⟨.struct [(0,22),(1,3),(2,3)],3,40,[.slice none 0 0,.int .i64 0,.int .i64 0]⟩
theorem zHY:zDV.Fits Tryz.prog 112:=za1 (z:=.agg #[.slice none 0 0,.int .i64 0,.int .i64 0]) ⟨_,Tryz.underlying112,rfl⟩ (by kernel_rfl) rfl rfl (fun h=>by cases h)
def zDW:TD:=⟨.struct [(0,22),(1,3),(2,3)],3,40,[.slice none 0 0,.int .i64 0,.int .i64 0]⟩
theorem zHZ:zDW.Fits Tryz.prog 113:=za1 (z:=.agg #[.slice none 0 0,.int .i64 0,.int .i64 0]) ⟨_,Tryz.underlying113,rfl⟩ (by kernel_rfl) rfl rfl (fun h=>by cases h)
def zDX:TD:=⟨.sli 9,1,24,[.slice none 0 0]⟩
theorem zH0:zDX.Fits Tryz.prog 116:=za1 (z:=.slice none 0 0) (show Tryz.prog.underlying 116 = some (TypeDesc.slice 9) by kernel_rfl) (by kernel_rfl) rfl rfl (fun _=>⟨rfl,fun z h=>by cases h;rfl⟩)
def zDY:TD:=⟨.arr 256 4,256,256,((List.replicate 256 (.bool false)))⟩
theorem zH1:zDY.Fits Tryz.prog 133:=za1 (z:=.agg ⟨((List.replicate 256 (.bool false)))⟩) (show Tryz.prog.underlying 133 = some (TypeDesc.array 256 4) by kernel_rfl) (by kernel_rfl) (by kernel_rfl) (by kernel_rfl) (fun h=>by cases h)
def zDZ:TD:=⟨.struct [(0,25),(1,89),(2,133),(258,25)],259,312,([.slice none 0 0,.nilFunc] ++ (List.replicate 256 (.bool false)) ++ [.slice none 0 0])⟩
theorem zH2:zDZ.Fits Tryz.prog 134:=za1 (z:=.agg ⟨([.slice none 0 0,.nilFunc] ++ (List.replicate 256 (.bool false)) ++ [.slice none 0 0])⟩) ⟨_,Tryz.underlying134,rfl⟩ (by kernel_rfl) (by kernel_rfl) (by kernel_rfl) (fun h=>by cases h)
def zD0:TD:=⟨.struct [(0,25),(1,89),(2,133),(258,25)],259,312,([.slice none 0 0,.nilFunc] ++ (List.replicate 256 (.bool false)) ++ [.slice none 0 0])⟩
theorem zH3:zD0.Fits Tryz.prog 135:=za1 (z:=.agg ⟨([.slice none 0 0,.nilFunc] ++ (List.replicate 256 (.bool false)) ++ [.slice none 0 0])⟩) ⟨_,Tryz.underlying135,rfl⟩ (by kernel_rfl) (by kernel_rfl) (by kernel_rfl) (fun h=>by cases h)
def zD1:TD:=⟨.sli 4,1,24,[.slice none 0 0]⟩
theorem zH4:zD1.Fits Tryz.prog 138:=za1 (z:=.slice none 0 0) (show Tryz.prog.underlying 138 = some (TypeDesc.slice 4) by kernel_rfl) (by kernel_rfl) rfl rfl (fun _=>⟨rfl,fun z h=>by cases h;rfl⟩)
def zD2:TD:=⟨.int .u32,1,4,[.int .u32 0]⟩
theorem zH5:zD2.Fits Tryz.prog 145:=za1 (z:=.int .u32 0) (show Tryz.prog.underlying 145 = some (TypeDesc.int .u32) by kernel_rfl) (by kernel_rfl) rfl rfl (fun _=>⟨rfl,fun z h=>by cases h;rfl⟩)
def zD3:TD:=⟨.int .i64,1,8,[.int .i64 0]⟩
theorem zH6:zD3.Fits Tryz.prog 157:=za1 (z:=.int .i64 0) (show Tryz.prog.underlying 157 = some (TypeDesc.int .i64) by kernel_rfl) (by kernel_rfl) rfl rfl (fun _=>⟨rfl,fun z h=>by cases h;rfl⟩)
def zD4:TD:=⟨.int .u64,1,8,[.int .u64 0]⟩
theorem zH7:zD4.Fits Tryz.prog 166:=za1 (z:=.int .u64 0) (show Tryz.prog.underlying 166 = some (TypeDesc.int .u64) by kernel_rfl) (by kernel_rfl) rfl rfl (fun _=>⟨rfl,fun z h=>by cases h;rfl⟩)
def zGn:List (Nat × TD):=[(2,D2),(3,D3),(4,D4),(5,D5),(9,D9),(12,D12),(13,D13),(21,D21),(22,D22),(25,D25),(26,D26),(27,D27),(35,D35),(36,D36),(51,D51),(52,D52),(82,D82),(88,D88),(99,D99),(112,zDV),(113,zDW),(116,zDX),(133,zDY),(134,zDZ),(135,zD0),(138,zD1),(145,zD2),(157,zD3),(166,zD4)]
def tab:List (Nat × TD):=zGn
def T:Tab:=fun t=>((tab.find? fun x=>x.1 == t).map (·.2)).getD ⟨.other,0,0,[]⟩
theorem zav {a b:TD} (h:a = b):a.k = b.k∧a.size = b.size∧a.bytes = b.bytes∧a.zero = b.zero:=by subst h;exact ⟨rfl,rfl,rfl,rfl⟩
theorem T2k:(T 2).k = .int .i64:=(zav (show T 2 = D2 from rfl)).1
theorem T2s:(T 2).size = 1:=(zav (show T 2 = D2 from rfl)).2.1
theorem T2b:(T 2).bytes = 8:=(zav (show T 2 = D2 from rfl)).2.2.1
theorem T2z:(T 2).zero = [.int .i64 0]:=(zav (show T 2 = D2 from rfl)).2.2.2
theorem T3k:(T 3).k = .int .i64:=(zav (show T 3 = D3 from rfl)).1
theorem T3s:(T 3).size = 1:=(zav (show T 3 = D3 from rfl)).2.1
theorem T3b:(T 3).bytes = 8:=(zav (show T 3 = D3 from rfl)).2.2.1
theorem T3z:(T 3).zero = [.int .i64 0]:=(zav (show T 3 = D3 from rfl)).2.2.2
theorem T4k:(T 4).k = .bool:=(zav (show T 4 = D4 from rfl)).1
theorem T4s:(T 4).size = 1:=(zav (show T 4 = D4 from rfl)).2.1
theorem T4b:(T 4).bytes = 1:=(zav (show T 4 = D4 from rfl)).2.2.1
theorem T4z:(T 4).zero = [.bool false]:=(zav (show T 4 = D4 from rfl)).2.2.2
theorem T5k:(T 5).k = .int .u8:=(zav (show T 5 = D5 from rfl)).1
theorem T5s:(T 5).size = 1:=(zav (show T 5 = D5 from rfl)).2.1
theorem T5b:(T 5).bytes = 1:=(zav (show T 5 = D5 from rfl)).2.2.1
theorem T5z:(T 5).zero = [.int .u8 0]:=(zav (show T 5 = D5 from rfl)).2.2.2
theorem T9k:(T 9).k = .str:=(zav (show T 9 = D9 from rfl)).1
theorem T9s:(T 9).size = 1:=(zav (show T 9 = D9 from rfl)).2.1
theorem T9b:(T 9).bytes = 16:=(zav (show T 9 = D9 from rfl)).2.2.1
theorem T9z:(T 9).zero = [.string ⟨#[]⟩]:=(zav (show T 9 = D9 from rfl)).2.2.2
theorem zGH:(T 12).k = .int .u64:=(zav (show T 12 = D12 from rfl)).1
theorem zGI:(T 12).size = 1:=(zav (show T 12 = D12 from rfl)).2.1
theorem zGJ:(T 12).bytes = 8:=(zav (show T 12 = D12 from rfl)).2.2.1
theorem zGK:(T 12).zero = [.int .u64 0]:=(zav (show T 12 = D12 from rfl)).2.2.2
theorem zGL:(T 13).k = .struct [(0,9),(1,12)]:=(zav (show T 13 = D13 from rfl)).1
theorem zGM:(T 13).size = 2:=(zav (show T 13 = D13 from rfl)).2.1
theorem zGN:(T 13).bytes = 24:=(zav (show T 13 = D13 from rfl)).2.2.1
theorem zGO:(T 13).zero = [.string ⟨#[]⟩,.int .u64 0]:=(zav (show T 13 = D13 from rfl)).2.2.2
theorem zGP:(T 21).k = .int .i32:=(zav (show T 21 = D21 from rfl)).1
theorem zGQ:(T 21).size = 1:=(zav (show T 21 = D21 from rfl)).2.1
theorem zGR:(T 21).bytes = 4:=(zav (show T 21 = D21 from rfl)).2.2.1
theorem zGS:(T 21).zero = [.int .i32 0]:=(zav (show T 21 = D21 from rfl)).2.2.2
theorem zGo:(T 22).k = .sli 5:=(zav (show T 22 = D22 from rfl)).1
theorem zGp:(T 22).size = 1:=(zav (show T 22 = D22 from rfl)).2.1
theorem zGT:(T 22).bytes = 24:=(zav (show T 22 = D22 from rfl)).2.2.1
theorem zGU:(T 22).zero = [.slice none 0 0]:=(zav (show T 22 = D22 from rfl)).2.2.2
theorem zGV:(T 25).k = .sli 3:=(zav (show T 25 = D25 from rfl)).1
theorem zGW:(T 25).size = 1:=(zav (show T 25 = D25 from rfl)).2.1
theorem zGX:(T 25).bytes = 24:=(zav (show T 25 = D25 from rfl)).2.2.1
theorem zGY:(T 25).zero = [.slice none 0 0]:=(zav (show T 25 = D25 from rfl)).2.2.2
theorem zGZ:(T 26).k = .struct [(0,3),(1,25)]:=(zav (show T 26 = D26 from rfl)).1
theorem zG0:(T 26).size = 2:=(zav (show T 26 = D26 from rfl)).2.1
theorem zG1:(T 26).bytes = 32:=(zav (show T 26 = D26 from rfl)).2.2.1
theorem zG2:(T 26).zero = [.int .i64 0,.slice none 0 0]:=(zav (show T 26 = D26 from rfl)).2.2.2
theorem zG3:(T 27).k = .struct [(0,3),(1,25)]:=(zav (show T 27 = D27 from rfl)).1
theorem zG4:(T 27).size = 2:=(zav (show T 27 = D27 from rfl)).2.1
theorem zG5:(T 27).bytes = 32:=(zav (show T 27 = D27 from rfl)).2.2.1
theorem zG6:(T 27).zero = [.int .i64 0,.slice none 0 0]:=(zav (show T 27 = D27 from rfl)).2.2.2
theorem zG7:(T 35).k = .struct [(0,3),(1,25)]:=(zav (show T 35 = D35 from rfl)).1
theorem zG8:(T 35).size = 2:=(zav (show T 35 = D35 from rfl)).2.1
theorem zG9:(T 35).bytes = 32:=(zav (show T 35 = D35 from rfl)).2.2.1
theorem zHa:(T 35).zero = [.int .i64 0,.slice none 0 0]:=(zav (show T 35 = D35 from rfl)).2.2.2
theorem zHb:(T 36).k = .struct [(0,3),(1,25)]:=(zav (show T 36 = D36 from rfl)).1
theorem zHc:(T 36).size = 2:=(zav (show T 36 = D36 from rfl)).2.1
theorem zHd:(T 36).bytes = 32:=(zav (show T 36 = D36 from rfl)).2.2.1
theorem zHe:(T 36).zero = [.int .i64 0,.slice none 0 0]:=(zav (show T 36 = D36 from rfl)).2.2.2
theorem zHf:(T 51).k = .struct [(0,3),(1,25)]:=(zav (show T 51 = D51 from rfl)).1
theorem zHg:(T 51).size = 2:=(zav (show T 51 = D51 from rfl)).2.1
theorem zHh:(T 51).bytes = 32:=(zav (show T 51 = D51 from rfl)).2.2.1
theorem zHi:(T 51).zero = [.int .i64 0,.slice none 0 0]:=(zav (show T 51 = D51 from rfl)).2.2.2
theorem zHj:(T 52).k = .struct [(0,3),(1,25)]:=(zav (show T 52 = D52 from rfl)).1
theorem zHk:(T 52).size = 2:=(zav (show T 52 = D52 from rfl)).2.1
theorem zHl:(T 52).bytes = 32:=(zav (show T 52 = D52 from rfl)).2.2.1
theorem zHm:(T 52).zero = [.int .i64 0,.slice none 0 0]:=(zav (show T 52 = D52 from rfl)).2.2.2
theorem zHn:(T 82).k = .int .u64:=(zav (show T 82 = D82 from rfl)).1
theorem zHo:(T 82).size = 1:=(zav (show T 82 = D82 from rfl)).2.1
theorem zHp:(T 82).bytes = 8:=(zav (show T 82 = D82 from rfl)).2.2.1
theorem zHq:(T 82).zero = [.int .u64 0]:=(zav (show T 82 = D82 from rfl)).2.2.2
theorem zHr:(T 88).k = .int .u64:=(zav (show T 88 = D88 from rfl)).1
theorem zHs:(T 88).size = 1:=(zav (show T 88 = D88 from rfl)).2.1
theorem zHt:(T 88).bytes = 8:=(zav (show T 88 = D88 from rfl)).2.2.1
theorem zHu:(T 88).zero = [.int .u64 0]:=(zav (show T 88 = D88 from rfl)).2.2.2
theorem zHv:(T 99).k = .sli 25:=(zav (show T 99 = D99 from rfl)).1
theorem zHw:(T 99).size = 1:=(zav (show T 99 = D99 from rfl)).2.1
theorem zHx:(T 99).bytes = 24:=(zav (show T 99 = D99 from rfl)).2.2.1
theorem zHy:(T 99).zero = [.slice none 0 0]:=(zav (show T 99 = D99 from rfl)).2.2.2
theorem zEn:(T 112).k = .struct [(0,22),(1,3),(2,3)]:=(zav (show T 112 = zDV from rfl)).1
theorem zEo:(T 112).size = 3:=(zav (show T 112 = zDV from rfl)).2.1
theorem zEp:(T 112).bytes = 40:=(zav (show T 112 = zDV from rfl)).2.2.1
theorem zEq:(T 112).zero = [.slice none 0 0,.int .i64 0,.int .i64 0]:=(zav (show T 112 = zDV from rfl)).2.2.2
theorem zEr:(T 113).k = .struct [(0,22),(1,3),(2,3)]:=(zav (show T 113 = zDW from rfl)).1
theorem zEs:(T 113).size = 3:=(zav (show T 113 = zDW from rfl)).2.1
theorem zEt:(T 113).bytes = 40:=(zav (show T 113 = zDW from rfl)).2.2.1
theorem zEu:(T 113).zero = [.slice none 0 0,.int .i64 0,.int .i64 0]:=(zav (show T 113 = zDW from rfl)).2.2.2
theorem zEv:(T 116).k = .sli 9:=(zav (show T 116 = zDX from rfl)).1
theorem zEw:(T 116).size = 1:=(zav (show T 116 = zDX from rfl)).2.1
theorem zEx:(T 116).bytes = 24:=(zav (show T 116 = zDX from rfl)).2.2.1
theorem zEy:(T 116).zero = [.slice none 0 0]:=(zav (show T 116 = zDX from rfl)).2.2.2
theorem zEz:(T 133).k = .arr 256 4:=(zav (show T 133 = zDY from rfl)).1
theorem zEA:(T 133).size = 256:=(zav (show T 133 = zDY from rfl)).2.1
theorem zEB:(T 133).bytes = 256:=(zav (show T 133 = zDY from rfl)).2.2.1
theorem zEC:(T 133).zero = ((List.replicate 256 (.bool false))):=(zav (show T 133 = zDY from rfl)).2.2.2
theorem zED:(T 134).k = .struct [(0,25),(1,89),(2,133),(258,25)]:=(zav (show T 134 = zDZ from rfl)).1
theorem zEE:(T 134).size = 259:=(zav (show T 134 = zDZ from rfl)).2.1
theorem zEF:(T 134).bytes = 312:=(zav (show T 134 = zDZ from rfl)).2.2.1
theorem zEG:(T 134).zero = ([.slice none 0 0,.nilFunc] ++ (List.replicate 256 (.bool false)) ++ [.slice none 0 0]):=(zav (show T 134 = zDZ from rfl)).2.2.2
theorem zEH:(T 135).k = .struct [(0,25),(1,89),(2,133),(258,25)]:=(zav (show T 135 = zD0 from rfl)).1
theorem zEI:(T 135).size = 259:=(zav (show T 135 = zD0 from rfl)).2.1
theorem zEJ:(T 135).bytes = 312:=(zav (show T 135 = zD0 from rfl)).2.2.1
theorem zEK:(T 135).zero = ([.slice none 0 0,.nilFunc] ++ (List.replicate 256 (.bool false)) ++ [.slice none 0 0]):=(zav (show T 135 = zD0 from rfl)).2.2.2
theorem zEL:(T 138).k = .sli 4:=(zav (show T 138 = zD1 from rfl)).1
theorem zEM:(T 138).size = 1:=(zav (show T 138 = zD1 from rfl)).2.1
theorem zEN:(T 138).bytes = 24:=(zav (show T 138 = zD1 from rfl)).2.2.1
theorem zEO:(T 138).zero = [.slice none 0 0]:=(zav (show T 138 = zD1 from rfl)).2.2.2
theorem zEP:(T 145).k = .int .u32:=(zav (show T 145 = zD2 from rfl)).1
theorem zEQ:(T 145).size = 1:=(zav (show T 145 = zD2 from rfl)).2.1
theorem zER:(T 145).bytes = 4:=(zav (show T 145 = zD2 from rfl)).2.2.1
theorem zES:(T 145).zero = [.int .u32 0]:=(zav (show T 145 = zD2 from rfl)).2.2.2
theorem zET:(T 157).k = .int .i64:=(zav (show T 157 = zD3 from rfl)).1
theorem zEU:(T 157).size = 1:=(zav (show T 157 = zD3 from rfl)).2.1
theorem zEV:(T 157).bytes = 8:=(zav (show T 157 = zD3 from rfl)).2.2.1
theorem zEW:(T 157).zero = [.int .i64 0]:=(zav (show T 157 = zD3 from rfl)).2.2.2
theorem zEX:(T 166).k = .int .u64:=(zav (show T 166 = zD4 from rfl)).1
theorem zEY:(T 166).size = 1:=(zav (show T 166 = zD4 from rfl)).2.1
theorem zEZ:(T 166).bytes = 8:=(zav (show T 166 = zD4 from rfl)).2.2.1
theorem zE0:(T 166).zero = [.int .u64 0]:=(zav (show T 166 = zD4 from rfl)).2.2.2
theorem gT:type_of% (And.intro @T2k <| And.intro @T2s <| And.intro @T2b <| And.intro @T2z <| And.intro @T3k <| And.intro @T3s <| And.intro @T3b <| And.intro @T3z <| And.intro @T4k <| And.intro @T4s <| And.intro @T4b <| And.intro @T4z <| And.intro @T5k <| And.intro @T5s <| And.intro @T5b <| And.intro @T5z <| And.intro @T9k <| And.intro @T9s <| And.intro @T9b <| And.intro @T9z <| And.intro @zGH <| And.intro @zGI <| And.intro @zGJ <| And.intro @zGK <| And.intro @zGL <| And.intro @zGM <| And.intro @zGN <| And.intro @zGO <| And.intro @zGP <| And.intro @zGQ <| And.intro @zGR <| And.intro @zGS <| And.intro @zGo <| And.intro @zGp <| And.intro @zGT <| And.intro @zGU <| And.intro @zGV <| And.intro @zGW <| And.intro @zGX <| And.intro @zGY <| And.intro @zGZ <| And.intro @zG0 <| And.intro @zG1 <| And.intro @zG2 <| And.intro @zG3 <| And.intro @zG4 <| And.intro @zG5 <| And.intro @zG6 <| And.intro @zG7 <| And.intro @zG8 <| And.intro @zG9 <| And.intro @zHa <| And.intro @zHb <| And.intro @zHc <| And.intro @zHd <| And.intro @zHe <| And.intro @zHf <| And.intro @zHg <| And.intro @zHh <| And.intro @zHi <| And.intro @zHj <| And.intro @zHk <| And.intro @zHl <| And.intro @zHm <| And.intro @zHn <| And.intro @zHo <| And.intro @zHp <| And.intro @zHq <| And.intro @zHr <| And.intro @zHs <| And.intro @zHt <| And.intro @zHu <| And.intro @zHv <| And.intro @zHw <| And.intro @zHx <| And.intro @zHy <| And.intro @zEn <| And.intro @zEo <| And.intro @zEp <| And.intro @zEq <| And.intro @zEr <| And.intro @zEs <| And.intro @zEt <| And.intro @zEu <| And.intro @zEv <| And.intro @zEw <| And.intro @zEx <| And.intro @zEy <| And.intro @zEz <| And.intro @zEA <| And.intro @zEB <| And.intro @zEC <| And.intro @zED <| And.intro @zEE <| And.intro @zEF <| And.intro @zEG <| And.intro @zEH <| And.intro @zEI <| And.intro @zEJ <| And.intro @zEK <| And.intro @zEL <| And.intro @zEM <| And.intro @zEN <| And.intro @zEO <| And.intro @zEP <| And.intro @zEQ <| And.intro @zER <| And.intro @zES <| And.intro @zET <| And.intro @zEU <| And.intro @zEV <| And.intro @zEW <| And.intro @zEX <| And.intro @zEY <| And.intro @zEZ <| @zE0):=And.intro @T2k <| And.intro @T2s <| And.intro @T2b <| And.intro @T2z <| And.intro @T3k <| And.intro @T3s <| And.intro @T3b <| And.intro @T3z <| And.intro @T4k <| And.intro @T4s <| And.intro @T4b <| And.intro @T4z <| And.intro @T5k <| And.intro @T5s <| And.intro @T5b <| And.intro @T5z <| And.intro @T9k <| And.intro @T9s <| And.intro @T9b <| And.intro @T9z <| And.intro @zGH <| And.intro @zGI <| And.intro @zGJ <| And.intro @zGK <| And.intro @zGL <| And.intro @zGM <| And.intro @zGN <| And.intro @zGO <| And.intro @zGP <| And.intro @zGQ <| And.intro @zGR <| And.intro @zGS <| And.intro @zGo <| And.intro @zGp <| And.intro @zGT <| And.intro @zGU <| And.intro @zGV <| And.intro @zGW <| And.intro @zGX <| And.intro @zGY <| And.intro @zGZ <| And.intro @zG0 <| And.intro @zG1 <| And.intro @zG2 <| And.intro @zG3 <| And.intro @zG4 <| And.intro @zG5 <| And.intro @zG6 <| And.intro @zG7 <| And.intro @zG8 <| And.intro @zG9 <| And.intro @zHa <| And.intro @zHb <| And.intro @zHc <| And.intro @zHd <| And.intro @zHe <| And.intro @zHf <| And.intro @zHg <| And.intro @zHh <| And.intro @zHi <| And.intro @zHj <| And.intro @zHk <| And.intro @zHl <| And.intro @zHm <| And.intro @zHn <| And.intro @zHo <| And.intro @zHp <| And.intro @zHq <| And.intro @zHr <| And.intro @zHs <| And.intro @zHt <| And.intro @zHu <| And.intro @zHv <| And.intro @zHw <| And.intro @zHx <| And.intro @zHy <| And.intro @zEn <| And.intro @zEo <| And.intro @zEp <| And.intro @zEq <| And.intro @zEr <| And.intro @zEs <| And.intro @zEt <| And.intro @zEu <| And.intro @zEv <| And.intro @zEw <| And.intro @zEx <| And.intro @zEy <| And.intro @zEz <| And.intro @zEA <| And.intro @zEB <| And.intro @zEC <| And.intro @zED <| And.intro @zEE <| And.intro @zEF <| And.intro @zEG <| And.intro @zEH <| And.intro @zEI <| And.intro @zEJ <| And.intro @zEK <| And.intro @zEL <| And.intro @zEM <| And.intro @zEN <| And.intro @zEO <| And.intro @zEP <| And.intro @zEQ <| And.intro @zER <| And.intro @zES <| And.intro @zET <| And.intro @zEU <| And.intro @zEV <| And.intro @zEW <| And.intro @zEX <| And.intro @zEY <| And.intro @zEZ <| @zE0
theorem zv7:∀ x ∈ zGn,x.2.Fits Tryz.prog x.1:=by
 simp only [zGn,List.forall_mem_cons]
 exact ⟨F2,F3,F4,F5,F9,F12,F13,F21,F22,F25,F26,F27,F35,F36,F51,F52,F82,F88,F99,zHY,zHZ,zH0,zH1,zH2,zH3,zH4,zH5,zH6,zH7,fun _ h=>absurd h (by simp)⟩
theorem zz1:∀ x ∈ tab,x.2.Fits Tryz.prog x.1:=by
 simp only [tab]
 exact zv7
theorem zbg:Tab.Ok T Tryz.prog:=by
 intro t ht
 unfold T at ht ⊢
 cases h:tab.find? fun x=>x.1 == t with
 | none=>rw [h] at ht;simp at ht
 | some x =>
   have h1:=List.find?_some h
   have h2:=zz1 x (List.mem_of_find?_eq_some h)
   simp at h1
   subst h1
   exact h2
theorem zay:Tryz.prog.follows .mixedOrders = true:=by kernel_rfl
instance held:zah:=⟨{ Φ:=fun _=>True,Gl:=fun _=>False,dr:=True,keep:=fun _ _=>trivial,low:=fun _ h=>h.elim }⟩
end Go.Proofs.YtpnknaaehcljoaaGreat

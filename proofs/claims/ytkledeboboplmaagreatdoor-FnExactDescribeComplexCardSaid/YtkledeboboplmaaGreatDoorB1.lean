/- DERIVED by an AI agent, by a program of its own (mktypes.py). The types of the translation, as the abstract layer reads them. -/
import Derived.Test.YtkledeboboplmaaGreatDoorRows
import Derived.Test.YtkledeboboplmaaGreatDoorA12
import Derived.Test.YtkledeboboplmaaGreatDoorA13
namespace Go.Proofs.YtkledeboboplmaaGreatDoor
open Go.Abs
set_option linter.unusedVariables false
theorem zaH {t:TypeId} {d:TD} {z:Value} (h:d.k.fits Tryz.prog t) (hi:(Tryz.prog.info? t).map (fun i=>(i.zero,i.size,i.bytes)) = some (some z,d.size,d.bytes)) (hz:z.cells.toList = d.zero) (hl:d.zero.length = d.size) (ho:d.k.agg = false→d.size = 1∧∀ z,d.zero = [z]→z.oneCell' = true) (hq:d.k.agg = true ∨ d.zero = [z]):d.Fits Tryz.prog t:=by
 cases he:Tryz.prog.info? t with
 | none=>rw [he] at hi;simp at hi
 | some i =>
   rw [he] at hi
   simp at hi
   exact ⟨h,⟨i,z,he,hi.2.1,hi.2.2,hi.1,hz⟩,hl,ho,hq.imp id fun e=>⟨i,z,he,hi.1,e⟩⟩
def D2:TD:=⟨.int .i64,1,8,[.int .i64 0]⟩
theorem F2:D2.Fits Tryz.prog 2:=zaH (z:=.int .i64 0) (show Tryz.prog.underlying 2 = some (TypeDesc.int .i64) by kernel_rfl) (by kernel_rfl) rfl rfl (fun _=>⟨rfl,fun z h=>by cases h;rfl⟩) (.inr rfl)
def D3:TD:=⟨.int .i64,1,8,[.int .i64 0]⟩
theorem F3:D3.Fits Tryz.prog 3:=zaH (z:=.int .i64 0) (show Tryz.prog.underlying 3 = some (TypeDesc.int .i64) by kernel_rfl) (by kernel_rfl) rfl rfl (fun _=>⟨rfl,fun z h=>by cases h;rfl⟩) (.inr rfl)
def D4:TD:=⟨.bool,1,1,[.bool false]⟩
theorem F4:D4.Fits Tryz.prog 4:=zaH (z:=.bool false) (show Tryz.prog.underlying 4 = some (TypeDesc.bool) by kernel_rfl) (by kernel_rfl) rfl rfl (fun _=>⟨rfl,fun z h=>by cases h;rfl⟩) (.inr rfl)
def D5:TD:=⟨.int .u8,1,1,[.int .u8 0]⟩
theorem F5:D5.Fits Tryz.prog 5:=zaH (z:=.int .u8 0) (show Tryz.prog.underlying 5 = some (TypeDesc.int .u8) by kernel_rfl) (by kernel_rfl) rfl rfl (fun _=>⟨rfl,fun z h=>by cases h;rfl⟩) (.inr rfl)
def D9:TD:=⟨.str,1,16,[.string ⟨#[]⟩]⟩
theorem F9:D9.Fits Tryz.prog 9:=zaH (z:=.string ⟨#[]⟩) (show Tryz.prog.underlying 9 = some (TypeDesc.string) by kernel_rfl) (by kernel_rfl) rfl rfl (fun _=>⟨rfl,fun z h=>by cases h;rfl⟩) (.inr rfl)
def D12:TD:=⟨.int .u64,1,8,[.int .u64 0]⟩
theorem F12:D12.Fits Tryz.prog 12:=zaH (z:=.int .u64 0) (show Tryz.prog.underlying 12 = some (TypeDesc.int .u64) by kernel_rfl) (by kernel_rfl) rfl rfl (fun _=>⟨rfl,fun z h=>by cases h;rfl⟩) (.inr rfl)
def D13:TD:=⟨.struct [(0,9),(1,12)],2,24,[.string ⟨#[]⟩,.int .u64 0]⟩
theorem F13:D13.Fits Tryz.prog 13:=zaH (z:=.agg #[.string ⟨#[]⟩,.int .u64 0]) ⟨_,Tryz.underlying13,rfl⟩ (by kernel_rfl) rfl rfl (fun h=>by cases h) (.inl rfl)
def D21:TD:=⟨.int .i32,1,4,[.int .i32 0]⟩
theorem F21:D21.Fits Tryz.prog 21:=zaH (z:=.int .i32 0) (show Tryz.prog.underlying 21 = some (TypeDesc.int .i32) by kernel_rfl) (by kernel_rfl) rfl rfl (fun _=>⟨rfl,fun z h=>by cases h;rfl⟩) (.inr rfl)
def D22:TD:=⟨.sli 3,1,24,[.slice none 0 0]⟩
theorem F22:D22.Fits Tryz.prog 22:=zaH (z:=.slice none 0 0) (show Tryz.prog.underlying 22 = some (TypeDesc.slice 3) by kernel_rfl) (by kernel_rfl) rfl rfl (fun _=>⟨rfl,fun z h=>by cases h;rfl⟩) (.inr rfl)
def D23:TD:=⟨.struct [(0,3),(1,22)],2,32,[.int .i64 0,.slice none 0 0]⟩
theorem F23:D23.Fits Tryz.prog 23:=zaH (z:=.agg #[.int .i64 0,.slice none 0 0]) ⟨_,Tryz.underlying23,rfl⟩ (by kernel_rfl) rfl rfl (fun h=>by cases h) (.inl rfl)
def D24:TD:=⟨.struct [(0,3),(1,22)],2,32,[.int .i64 0,.slice none 0 0]⟩
theorem F24:D24.Fits Tryz.prog 24:=zaH (z:=.agg #[.int .i64 0,.slice none 0 0]) ⟨_,Tryz.underlying24,rfl⟩ (by kernel_rfl) rfl rfl (fun h=>by cases h) (.inl rfl)
def D27:TD:=⟨.struct [(0,3),(1,22)],2,32,[.int .i64 0,.slice none 0 0]⟩
theorem F27:D27.Fits Tryz.prog 27:=zaH (z:=.agg #[.int .i64 0,.slice none 0 0]) ⟨_,Tryz.underlying27,rfl⟩ (by kernel_rfl) rfl rfl (fun h=>by cases h) (.inl rfl)
def D31:TD:=⟨.sli 5,1,24,[.slice none 0 0]⟩
theorem F31:D31.Fits Tryz.prog 31:=zaH (z:=.slice none 0 0) (show Tryz.prog.underlying 31 = some (TypeDesc.slice 5) by kernel_rfl) (by kernel_rfl) rfl rfl (fun _=>⟨rfl,fun z h=>by cases h;rfl⟩) (.inr rfl)
def D44:TD:=⟨.sli 9,1,24,[.slice none 0 0]⟩
theorem F44:D44.Fits Tryz.prog 44:=zaH (z:=.slice none 0 0) (show Tryz.prog.underlying 44 = some (TypeDesc.slice 9) by kernel_rfl) (by kernel_rfl) rfl rfl (fun _=>⟨rfl,fun z h=>by cases h;rfl⟩) (.inr rfl)
def D65:TD:=⟨.sli 22,1,24,[.slice none 0 0]⟩
theorem F65:D65.Fits Tryz.prog 65:=zaH (z:=.slice none 0 0) (show Tryz.prog.underlying 65 = some (TypeDesc.slice 22) by kernel_rfl) (by kernel_rfl) rfl rfl (fun _=>⟨rfl,fun z h=>by cases h;rfl⟩) (.inr rfl)
def D70:TD:=⟨.int .u64,1,8,[.int .u64 0]⟩
theorem F70:D70.Fits Tryz.prog 70:=zaH (z:=.int .u64 0) (show Tryz.prog.underlying 70 = some (TypeDesc.int .u64) by kernel_rfl) (by kernel_rfl) rfl rfl (fun _=>⟨rfl,fun z h=>by cases h;rfl⟩) (.inr rfl)
def D76:TD:=⟨.struct [(0,75),(1,31)],2,32,[.pointer none,.slice none 0 0]⟩
theorem F76:D76.Fits Tryz.prog 76:=zaH (z:=.agg #[.pointer none,.slice none 0 0]) ⟨_,Tryz.underlying76,rfl⟩ (by kernel_rfl) rfl rfl (fun h=>by cases h) (.inl rfl)
def D77:TD:=⟨.struct [(0,75),(1,31)],2,32,[.pointer none,.slice none 0 0]⟩
theorem F77:D77.Fits Tryz.prog 77:=zaH (z:=.agg #[.pointer none,.slice none 0 0]) ⟨_,Tryz.underlying77,rfl⟩ (by kernel_rfl) rfl rfl (fun h=>by cases h) (.inl rfl)
def D86:TD:=⟨.struct [(0,31),(1,3),(2,3)],3,40,[.slice none 0 0,.int .i64 0,.int .i64 0]⟩
theorem F86:D86.Fits Tryz.prog 86:=zaH (z:=.agg #[.slice none 0 0,.int .i64 0,.int .i64 0]) ⟨_,Tryz.underlying86,rfl⟩ (by kernel_rfl) rfl rfl (fun h=>by cases h) (.inl rfl)
def D87:TD:=⟨.struct [(0,31),(1,3),(2,3)],3,40,[.slice none 0 0,.int .i64 0,.int .i64 0]⟩
theorem F87:D87.Fits Tryz.prog 87:=zaH (z:=.agg #[.slice none 0 0,.int .i64 0,.int .i64 0]) ⟨_,Tryz.underlying87,rfl⟩ (by kernel_rfl) rfl rfl (fun h=>by cases h) (.inl rfl)
def D96:TD:=⟨.int .u64,1,8,[.int .u64 0]⟩
theorem F96:D96.Fits Tryz.prog 96:=zaH (z:=.int .u64 0) (show Tryz.prog.underlying 96 = some (TypeDesc.int .u64) by kernel_rfl) (by kernel_rfl) rfl rfl (fun _=>⟨rfl,fun z h=>by cases h;rfl⟩) (.inr rfl)
def zHy:TD:=⟨.other,1,8,[.nilFunc]⟩
theorem zML:zHy.Fits Tryz.prog 101:=zaH (z:=.nilFunc) ⟨_,Tryz.underlying101,trivial⟩ (by kernel_rfl) rfl rfl (fun _=>⟨rfl,fun z h=>by cases h;rfl⟩) (.inr rfl)
def zHz:TD:=⟨.map 70 3,1,8,[.map none]⟩
theorem zMM:zHz.Fits Tryz.prog 103:=zaH (z:=.map none) (show Tryz.prog.underlying 103 = some (TypeDesc.map 70 3) by kernel_rfl) (by kernel_rfl) rfl rfl (fun _=>⟨rfl,fun z h=>by cases h;rfl⟩) (.inr rfl)
def zHA:TD:=⟨.struct [(0,103)],1,8,[.map none]⟩
theorem zMN:zHA.Fits Tryz.prog 104:=zaH (z:=.agg #[.map none]) ⟨_,Tryz.underlying104,rfl⟩ (by kernel_rfl) rfl rfl (fun h=>by cases h) (.inl rfl)
def zHB:TD:=⟨.struct [(0,103)],1,8,[.map none]⟩
theorem zMO:zHB.Fits Tryz.prog 105:=zaH (z:=.agg #[.map none]) ⟨_,Tryz.underlying105,rfl⟩ (by kernel_rfl) rfl rfl (fun h=>by cases h) (.inl rfl)
def zHC:TD:=⟨.arr 256 4,256,256,((List.replicate 256 (.bool false)))⟩
theorem zMP:zHC.Fits Tryz.prog 125:=zaH (z:=.agg ⟨((List.replicate 256 (.bool false)))⟩) (show Tryz.prog.underlying 125 = some (TypeDesc.array 256 4) by kernel_rfl) (by kernel_rfl) (by kernel_rfl) (by kernel_rfl) (fun h=>by cases h) (.inl rfl)
def zHD:TD:=⟨.struct [(0,22),(1,101),(2,125),(258,22)],259,312,([.slice none 0 0,.nilFunc] ++ (List.replicate 256 (.bool false)) ++ [.slice none 0 0])⟩
theorem zMQ:zHD.Fits Tryz.prog 126:=zaH (z:=.agg ⟨([.slice none 0 0,.nilFunc] ++ (List.replicate 256 (.bool false)) ++ [.slice none 0 0])⟩) ⟨_,Tryz.underlying126,rfl⟩ (by kernel_rfl) (by kernel_rfl) (by kernel_rfl) (fun h=>by cases h) (.inl rfl)
def zHE:TD:=⟨.struct [(0,22),(1,101),(2,125),(258,22)],259,312,([.slice none 0 0,.nilFunc] ++ (List.replicate 256 (.bool false)) ++ [.slice none 0 0])⟩
theorem zMR:zHE.Fits Tryz.prog 127:=zaH (z:=.agg ⟨([.slice none 0 0,.nilFunc] ++ (List.replicate 256 (.bool false)) ++ [.slice none 0 0])⟩) ⟨_,Tryz.underlying127,rfl⟩ (by kernel_rfl) (by kernel_rfl) (by kernel_rfl) (fun h=>by cases h) (.inl rfl)
def zHF:TD:=⟨.sli 4,1,24,[.slice none 0 0]⟩
theorem zMS:zHF.Fits Tryz.prog 133:=zaH (z:=.slice none 0 0) (show Tryz.prog.underlying 133 = some (TypeDesc.slice 4) by kernel_rfl) (by kernel_rfl) rfl rfl (fun _=>⟨rfl,fun z h=>by cases h;rfl⟩) (.inr rfl)
def zHG:TD:=⟨.int .u32,1,4,[.int .u32 0]⟩
theorem zMT:zHG.Fits Tryz.prog 145:=zaH (z:=.int .u32 0) (show Tryz.prog.underlying 145 = some (TypeDesc.int .u32) by kernel_rfl) (by kernel_rfl) rfl rfl (fun _=>⟨rfl,fun z h=>by cases h;rfl⟩) (.inr rfl)
def zHH:TD:=⟨.struct [(0,3),(1,22)],2,32,[.int .i64 0,.slice none 0 0]⟩
theorem zMU:zHH.Fits Tryz.prog 146:=zaH (z:=.agg #[.int .i64 0,.slice none 0 0]) ⟨_,Tryz.underlying146,rfl⟩ (by kernel_rfl) rfl rfl (fun h=>by cases h) (.inl rfl)
def zHI:TD:=⟨.struct [(0,3),(1,22)],2,32,[.int .i64 0,.slice none 0 0]⟩
theorem zMV:zHI.Fits Tryz.prog 147:=zaH (z:=.agg #[.int .i64 0,.slice none 0 0]) ⟨_,Tryz.underlying147,rfl⟩ (by kernel_rfl) rfl rfl (fun h=>by cases h) (.inl rfl)
def zHJ:TD:=⟨.arr 24 5,24,24,((List.replicate 24 (.int .u8 0)))⟩
theorem zMW:zHJ.Fits Tryz.prog 153:=zaH (z:=.agg ⟨((List.replicate 24 (.int .u8 0)))⟩) (show Tryz.prog.underlying 153 = some (TypeDesc.array 24 5) by kernel_rfl) (by kernel_rfl) (by kernel_rfl) (by kernel_rfl) (fun h=>by cases h) (.inl rfl)
def zHK:TD:=⟨.int .i64,1,8,[.int .i64 0]⟩
theorem zMX:zHK.Fits Tryz.prog 158:=zaH (z:=.int .i64 0) (show Tryz.prog.underlying 158 = some (TypeDesc.int .i64) by kernel_rfl) (by kernel_rfl) rfl rfl (fun _=>⟨rfl,fun z h=>by cases h;rfl⟩) (.inr rfl)
def zHL:TD:=⟨.arr 20 70,20,160,((List.replicate 20 (.int .u64 0)))⟩
theorem zMY:zHL.Fits Tryz.prog 164:=zaH (z:=.agg ⟨((List.replicate 20 (.int .u64 0)))⟩) (show Tryz.prog.underlying 164 = some (TypeDesc.array 20 70) by kernel_rfl) (by kernel_rfl) (by kernel_rfl) (by kernel_rfl) (fun h=>by cases h) (.inl rfl)
def zHM:TD:=⟨.arr 65 5,65,65,((List.replicate 65 (.int .u8 0)))⟩
theorem zMZ:zHM.Fits Tryz.prog 165:=zaH (z:=.agg ⟨((List.replicate 65 (.int .u8 0)))⟩) (show Tryz.prog.underlying 165 = some (TypeDesc.array 65 5) by kernel_rfl) (by kernel_rfl) (by kernel_rfl) (by kernel_rfl) (fun h=>by cases h) (.inl rfl)
def zHN:TD:=⟨.int .u64,1,8,[.int .u64 0]⟩
theorem zM0:zHN.Fits Tryz.prog 166:=zaH (z:=.int .u64 0) (show Tryz.prog.underlying 166 = some (TypeDesc.int .u64) by kernel_rfl) (by kernel_rfl) rfl rfl (fun _=>⟨rfl,fun z h=>by cases h;rfl⟩) (.inr rfl)
def zHO:TD:=⟨.arr 32 5,32,32,((List.replicate 32 (.int .u8 0)))⟩
theorem zM1:zHO.Fits Tryz.prog 175:=zaH (z:=.agg ⟨((List.replicate 32 (.int .u8 0)))⟩) (show Tryz.prog.underlying 175 = some (TypeDesc.array 32 5) by kernel_rfl) (by kernel_rfl) (by kernel_rfl) (by kernel_rfl) (fun h=>by cases h) (.inl rfl)
def zHP:TD:=⟨.arr 64 5,64,64,((List.replicate 64 (.int .u8 0)))⟩
theorem zM2:zHP.Fits Tryz.prog 176:=zaH (z:=.agg ⟨((List.replicate 64 (.int .u8 0)))⟩) (show Tryz.prog.underlying 176 = some (TypeDesc.array 64 5) by kernel_rfl) (by kernel_rfl) (by kernel_rfl) (by kernel_rfl) (fun h=>by cases h) (.inl rfl)
def zKL:List (Nat × TD):=[(2,D2),(3,D3),(4,D4),(5,D5),(9,D9),(12,D12),(13,D13),(21,D21),(22,D22),(23,D23),(24,D24),(27,D27),(31,D31),(44,D44),(65,D65),(70,D70),(76,D76),(77,D77),(86,D86),(87,D87),(96,D96),(101,zHy),(103,zHz),(104,zHA),(105,zHB),(125,zHC),(126,zHD),(127,zHE),(133,zHF),(145,zHG),(146,zHH),(147,zHI),(153,zHJ),(158,zHK),(164,zHL),(165,zHM),(166,zHN),(175,zHO),(176,zHP)]
def tab:List (Nat × TD):=zKL
def T:Tab:=fun t=>((tab.find? fun x=>x.1 == t).map (·.2)).getD ⟨.other,0,0,[]⟩
theorem zap {a b:TD} (h:a = b):a.k = b.k∧a.size = b.size∧a.bytes = b.bytes∧a.zero = b.zero:=by subst h;exact ⟨rfl,rfl,rfl,rfl⟩
theorem T2k:(T 2).k = .int .i64:=(zap (show T 2 = D2 from rfl)).1
theorem T2s:(T 2).size = 1:=(zap (show T 2 = D2 from rfl)).2.1
theorem T2b:(T 2).bytes = 8:=(zap (show T 2 = D2 from rfl)).2.2.1
theorem T2z:(T 2).zero = [.int .i64 0]:=(zap (show T 2 = D2 from rfl)).2.2.2
theorem T3k:(T 3).k = .int .i64:=(zap (show T 3 = D3 from rfl)).1
theorem T3s:(T 3).size = 1:=(zap (show T 3 = D3 from rfl)).2.1
theorem T3b:(T 3).bytes = 8:=(zap (show T 3 = D3 from rfl)).2.2.1
theorem T3z:(T 3).zero = [.int .i64 0]:=(zap (show T 3 = D3 from rfl)).2.2.2
theorem T4k:(T 4).k = .bool:=(zap (show T 4 = D4 from rfl)).1
theorem T4s:(T 4).size = 1:=(zap (show T 4 = D4 from rfl)).2.1
theorem T4b:(T 4).bytes = 1:=(zap (show T 4 = D4 from rfl)).2.2.1
theorem T4z:(T 4).zero = [.bool false]:=(zap (show T 4 = D4 from rfl)).2.2.2
theorem T5k:(T 5).k = .int .u8:=(zap (show T 5 = D5 from rfl)).1
theorem T5s:(T 5).size = 1:=(zap (show T 5 = D5 from rfl)).2.1
theorem T5b:(T 5).bytes = 1:=(zap (show T 5 = D5 from rfl)).2.2.1
theorem T5z:(T 5).zero = [.int .u8 0]:=(zap (show T 5 = D5 from rfl)).2.2.2
theorem T9k:(T 9).k = .str:=(zap (show T 9 = D9 from rfl)).1
theorem T9s:(T 9).size = 1:=(zap (show T 9 = D9 from rfl)).2.1
theorem T9b:(T 9).bytes = 16:=(zap (show T 9 = D9 from rfl)).2.2.1
theorem T9z:(T 9).zero = [.string ⟨#[]⟩]:=(zap (show T 9 = D9 from rfl)).2.2.2
theorem zLl:(T 12).k = .int .u64:=(zap (show T 12 = D12 from rfl)).1
theorem zLm:(T 12).size = 1:=(zap (show T 12 = D12 from rfl)).2.1
theorem zLn:(T 12).bytes = 8:=(zap (show T 12 = D12 from rfl)).2.2.1
theorem zLo:(T 12).zero = [.int .u64 0]:=(zap (show T 12 = D12 from rfl)).2.2.2
theorem zLp:(T 13).k = .struct [(0,9),(1,12)]:=(zap (show T 13 = D13 from rfl)).1
theorem zLq:(T 13).size = 2:=(zap (show T 13 = D13 from rfl)).2.1
theorem zLr:(T 13).bytes = 24:=(zap (show T 13 = D13 from rfl)).2.2.1
theorem zLs:(T 13).zero = [.string ⟨#[]⟩,.int .u64 0]:=(zap (show T 13 = D13 from rfl)).2.2.2
theorem zLt:(T 21).k = .int .i32:=(zap (show T 21 = D21 from rfl)).1
theorem zLu:(T 21).size = 1:=(zap (show T 21 = D21 from rfl)).2.1
theorem zLv:(T 21).bytes = 4:=(zap (show T 21 = D21 from rfl)).2.2.1
theorem zLw:(T 21).zero = [.int .i32 0]:=(zap (show T 21 = D21 from rfl)).2.2.2
theorem zLx:(T 22).k = .sli 3:=(zap (show T 22 = D22 from rfl)).1
theorem zLy:(T 22).size = 1:=(zap (show T 22 = D22 from rfl)).2.1
theorem zLz:(T 22).bytes = 24:=(zap (show T 22 = D22 from rfl)).2.2.1
theorem zLA:(T 22).zero = [.slice none 0 0]:=(zap (show T 22 = D22 from rfl)).2.2.2
theorem zLB:(T 23).k = .struct [(0,3),(1,22)]:=(zap (show T 23 = D23 from rfl)).1
theorem zLC:(T 23).size = 2:=(zap (show T 23 = D23 from rfl)).2.1
theorem zLD:(T 23).bytes = 32:=(zap (show T 23 = D23 from rfl)).2.2.1
theorem zLE:(T 23).zero = [.int .i64 0,.slice none 0 0]:=(zap (show T 23 = D23 from rfl)).2.2.2
theorem zLF:(T 24).k = .struct [(0,3),(1,22)]:=(zap (show T 24 = D24 from rfl)).1
theorem zLG:(T 24).size = 2:=(zap (show T 24 = D24 from rfl)).2.1
theorem zLH:(T 24).bytes = 32:=(zap (show T 24 = D24 from rfl)).2.2.1
theorem zLI:(T 24).zero = [.int .i64 0,.slice none 0 0]:=(zap (show T 24 = D24 from rfl)).2.2.2
theorem zLJ:(T 27).k = .struct [(0,3),(1,22)]:=(zap (show T 27 = D27 from rfl)).1
theorem zLK:(T 27).size = 2:=(zap (show T 27 = D27 from rfl)).2.1
theorem zLL:(T 27).bytes = 32:=(zap (show T 27 = D27 from rfl)).2.2.1
theorem zLM:(T 27).zero = [.int .i64 0,.slice none 0 0]:=(zap (show T 27 = D27 from rfl)).2.2.2
theorem zKM:(T 31).k = .sli 5:=(zap (show T 31 = D31 from rfl)).1
theorem zKN:(T 31).size = 1:=(zap (show T 31 = D31 from rfl)).2.1
theorem zLN:(T 31).bytes = 24:=(zap (show T 31 = D31 from rfl)).2.2.1
theorem zLO:(T 31).zero = [.slice none 0 0]:=(zap (show T 31 = D31 from rfl)).2.2.2
theorem zLP:(T 44).k = .sli 9:=(zap (show T 44 = D44 from rfl)).1
theorem zLQ:(T 44).size = 1:=(zap (show T 44 = D44 from rfl)).2.1
theorem zLR:(T 44).bytes = 24:=(zap (show T 44 = D44 from rfl)).2.2.1
theorem zLS:(T 44).zero = [.slice none 0 0]:=(zap (show T 44 = D44 from rfl)).2.2.2
theorem zLT:(T 65).k = .sli 22:=(zap (show T 65 = D65 from rfl)).1
theorem zLU:(T 65).size = 1:=(zap (show T 65 = D65 from rfl)).2.1
theorem zLV:(T 65).bytes = 24:=(zap (show T 65 = D65 from rfl)).2.2.1
theorem zLW:(T 65).zero = [.slice none 0 0]:=(zap (show T 65 = D65 from rfl)).2.2.2
theorem zKO:(T 70).k = .int .u64:=(zap (show T 70 = D70 from rfl)).1
theorem zKP:(T 70).size = 1:=(zap (show T 70 = D70 from rfl)).2.1
theorem zLX:(T 70).bytes = 8:=(zap (show T 70 = D70 from rfl)).2.2.1
theorem zLY:(T 70).zero = [.int .u64 0]:=(zap (show T 70 = D70 from rfl)).2.2.2
theorem zLZ:(T 76).k = .struct [(0,75),(1,31)]:=(zap (show T 76 = D76 from rfl)).1
theorem zL0:(T 76).size = 2:=(zap (show T 76 = D76 from rfl)).2.1
theorem zL1:(T 76).bytes = 32:=(zap (show T 76 = D76 from rfl)).2.2.1
theorem zL2:(T 76).zero = [.pointer none,.slice none 0 0]:=(zap (show T 76 = D76 from rfl)).2.2.2
theorem zL3:(T 77).k = .struct [(0,75),(1,31)]:=(zap (show T 77 = D77 from rfl)).1
theorem zL4:(T 77).size = 2:=(zap (show T 77 = D77 from rfl)).2.1
theorem zL5:(T 77).bytes = 32:=(zap (show T 77 = D77 from rfl)).2.2.1
theorem zL6:(T 77).zero = [.pointer none,.slice none 0 0]:=(zap (show T 77 = D77 from rfl)).2.2.2
theorem zL7:(T 86).k = .struct [(0,31),(1,3),(2,3)]:=(zap (show T 86 = D86 from rfl)).1
theorem zL8:(T 86).size = 3:=(zap (show T 86 = D86 from rfl)).2.1
theorem zL9:(T 86).bytes = 40:=(zap (show T 86 = D86 from rfl)).2.2.1
theorem zMa:(T 86).zero = [.slice none 0 0,.int .i64 0,.int .i64 0]:=(zap (show T 86 = D86 from rfl)).2.2.2
theorem zMb:(T 87).k = .struct [(0,31),(1,3),(2,3)]:=(zap (show T 87 = D87 from rfl)).1
theorem zMc:(T 87).size = 3:=(zap (show T 87 = D87 from rfl)).2.1
theorem zMd:(T 87).bytes = 40:=(zap (show T 87 = D87 from rfl)).2.2.1
theorem zMe:(T 87).zero = [.slice none 0 0,.int .i64 0,.int .i64 0]:=(zap (show T 87 = D87 from rfl)).2.2.2
theorem zMf:(T 96).k = .int .u64:=(zap (show T 96 = D96 from rfl)).1
theorem zMg:(T 96).size = 1:=(zap (show T 96 = D96 from rfl)).2.1
theorem zMh:(T 96).bytes = 8:=(zap (show T 96 = D96 from rfl)).2.2.1
theorem zMi:(T 96).zero = [.int .u64 0]:=(zap (show T 96 = D96 from rfl)).2.2.2
theorem zM3:(T 101).k = .other:=(zap (show T 101 = zHy from rfl)).1
theorem zM4:(T 101).size = 1:=(zap (show T 101 = zHy from rfl)).2.1
theorem zM5:(T 101).bytes = 8:=(zap (show T 101 = zHy from rfl)).2.2.1
theorem zM6:(T 101).zero = [.nilFunc]:=(zap (show T 101 = zHy from rfl)).2.2.2
theorem zH2:(T 103).k = .map 70 3:=(zap (show T 103 = zHz from rfl)).1
theorem zFV:(T 103).size = 1:=(zap (show T 103 = zHz from rfl)).2.1
theorem zH3:(T 103).bytes = 8:=(zap (show T 103 = zHz from rfl)).2.2.1
theorem zH4:(T 103).zero = [.map none]:=(zap (show T 103 = zHz from rfl)).2.2.2
theorem zH5:(T 104).k = .struct [(0,103)]:=(zap (show T 104 = zHA from rfl)).1
theorem zH6:(T 104).size = 1:=(zap (show T 104 = zHA from rfl)).2.1
theorem zH7:(T 104).bytes = 8:=(zap (show T 104 = zHA from rfl)).2.2.1
theorem zH8:(T 104).zero = [.map none]:=(zap (show T 104 = zHA from rfl)).2.2.2
theorem zH9:(T 105).k = .struct [(0,103)]:=(zap (show T 105 = zHB from rfl)).1
theorem zIa:(T 105).size = 1:=(zap (show T 105 = zHB from rfl)).2.1
theorem zIb:(T 105).bytes = 8:=(zap (show T 105 = zHB from rfl)).2.2.1
theorem zIc:(T 105).zero = [.map none]:=(zap (show T 105 = zHB from rfl)).2.2.2
theorem zId:(T 125).k = .arr 256 4:=(zap (show T 125 = zHC from rfl)).1
theorem zIe:(T 125).size = 256:=(zap (show T 125 = zHC from rfl)).2.1
theorem zIf:(T 125).bytes = 256:=(zap (show T 125 = zHC from rfl)).2.2.1
theorem zIg:(T 125).zero = ((List.replicate 256 (.bool false))):=(zap (show T 125 = zHC from rfl)).2.2.2
theorem zIh:(T 126).k = .struct [(0,22),(1,101),(2,125),(258,22)]:=(zap (show T 126 = zHD from rfl)).1
theorem zIi:(T 126).size = 259:=(zap (show T 126 = zHD from rfl)).2.1
theorem zIj:(T 126).bytes = 312:=(zap (show T 126 = zHD from rfl)).2.2.1
theorem zIk:(T 126).zero = ([.slice none 0 0,.nilFunc] ++ (List.replicate 256 (.bool false)) ++ [.slice none 0 0]):=(zap (show T 126 = zHD from rfl)).2.2.2
theorem zIl:(T 127).k = .struct [(0,22),(1,101),(2,125),(258,22)]:=(zap (show T 127 = zHE from rfl)).1
theorem zIm:(T 127).size = 259:=(zap (show T 127 = zHE from rfl)).2.1
theorem zIn:(T 127).bytes = 312:=(zap (show T 127 = zHE from rfl)).2.2.1
theorem zIo:(T 127).zero = ([.slice none 0 0,.nilFunc] ++ (List.replicate 256 (.bool false)) ++ [.slice none 0 0]):=(zap (show T 127 = zHE from rfl)).2.2.2
theorem zIp:(T 133).k = .sli 4:=(zap (show T 133 = zHF from rfl)).1
theorem zIq:(T 133).size = 1:=(zap (show T 133 = zHF from rfl)).2.1
theorem zIr:(T 133).bytes = 24:=(zap (show T 133 = zHF from rfl)).2.2.1
theorem zIs:(T 133).zero = [.slice none 0 0]:=(zap (show T 133 = zHF from rfl)).2.2.2
theorem zIt:(T 145).k = .int .u32:=(zap (show T 145 = zHG from rfl)).1
theorem zIu:(T 145).size = 1:=(zap (show T 145 = zHG from rfl)).2.1
theorem zIv:(T 145).bytes = 4:=(zap (show T 145 = zHG from rfl)).2.2.1
theorem zIw:(T 145).zero = [.int .u32 0]:=(zap (show T 145 = zHG from rfl)).2.2.2
theorem zIx:(T 146).k = .struct [(0,3),(1,22)]:=(zap (show T 146 = zHH from rfl)).1
theorem zIy:(T 146).size = 2:=(zap (show T 146 = zHH from rfl)).2.1
theorem zIz:(T 146).bytes = 32:=(zap (show T 146 = zHH from rfl)).2.2.1
theorem zIA:(T 146).zero = [.int .i64 0,.slice none 0 0]:=(zap (show T 146 = zHH from rfl)).2.2.2
theorem zIB:(T 147).k = .struct [(0,3),(1,22)]:=(zap (show T 147 = zHI from rfl)).1
theorem zIC:(T 147).size = 2:=(zap (show T 147 = zHI from rfl)).2.1
theorem zID:(T 147).bytes = 32:=(zap (show T 147 = zHI from rfl)).2.2.1
theorem zIE:(T 147).zero = [.int .i64 0,.slice none 0 0]:=(zap (show T 147 = zHI from rfl)).2.2.2
theorem zIF:(T 153).k = .arr 24 5:=(zap (show T 153 = zHJ from rfl)).1
theorem zIG:(T 153).size = 24:=(zap (show T 153 = zHJ from rfl)).2.1
theorem zIH:(T 153).bytes = 24:=(zap (show T 153 = zHJ from rfl)).2.2.1
theorem zII:(T 153).zero = ((List.replicate 24 (.int .u8 0))):=(zap (show T 153 = zHJ from rfl)).2.2.2
theorem zIJ:(T 158).k = .int .i64:=(zap (show T 158 = zHK from rfl)).1
theorem zIK:(T 158).size = 1:=(zap (show T 158 = zHK from rfl)).2.1
theorem zIL:(T 158).bytes = 8:=(zap (show T 158 = zHK from rfl)).2.2.1
theorem zIM:(T 158).zero = [.int .i64 0]:=(zap (show T 158 = zHK from rfl)).2.2.2
theorem zIN:(T 164).k = .arr 20 70:=(zap (show T 164 = zHL from rfl)).1
theorem zIO:(T 164).size = 20:=(zap (show T 164 = zHL from rfl)).2.1
theorem zIP:(T 164).bytes = 160:=(zap (show T 164 = zHL from rfl)).2.2.1
theorem zIQ:(T 164).zero = ((List.replicate 20 (.int .u64 0))):=(zap (show T 164 = zHL from rfl)).2.2.2
theorem zIR:(T 165).k = .arr 65 5:=(zap (show T 165 = zHM from rfl)).1
theorem zIS:(T 165).size = 65:=(zap (show T 165 = zHM from rfl)).2.1
theorem zIT:(T 165).bytes = 65:=(zap (show T 165 = zHM from rfl)).2.2.1
theorem zIU:(T 165).zero = ((List.replicate 65 (.int .u8 0))):=(zap (show T 165 = zHM from rfl)).2.2.2
theorem zIV:(T 166).k = .int .u64:=(zap (show T 166 = zHN from rfl)).1
theorem zIW:(T 166).size = 1:=(zap (show T 166 = zHN from rfl)).2.1
theorem zIX:(T 166).bytes = 8:=(zap (show T 166 = zHN from rfl)).2.2.1
theorem zIY:(T 166).zero = [.int .u64 0]:=(zap (show T 166 = zHN from rfl)).2.2.2
theorem zIZ:(T 175).k = .arr 32 5:=(zap (show T 175 = zHO from rfl)).1
theorem zI0:(T 175).size = 32:=(zap (show T 175 = zHO from rfl)).2.1
theorem zI1:(T 175).bytes = 32:=(zap (show T 175 = zHO from rfl)).2.2.1
theorem zI2:(T 175).zero = ((List.replicate 32 (.int .u8 0))):=(zap (show T 175 = zHO from rfl)).2.2.2
theorem zI3:(T 176).k = .arr 64 5:=(zap (show T 176 = zHP from rfl)).1
theorem zI4:(T 176).size = 64:=(zap (show T 176 = zHP from rfl)).2.1
theorem zI5:(T 176).bytes = 64:=(zap (show T 176 = zHP from rfl)).2.2.1
theorem zI6:(T 176).zero = ((List.replicate 64 (.int .u8 0))):=(zap (show T 176 = zHP from rfl)).2.2.2
theorem gT:type_of% (And.intro @T2k <| And.intro @T2s <| And.intro @T2b <| And.intro @T2z <| And.intro @T3k <| And.intro @T3s <| And.intro @T3b <| And.intro @T3z <| And.intro @T4k <| And.intro @T4s <| And.intro @T4b <| And.intro @T4z <| And.intro @T5k <| And.intro @T5s <| And.intro @T5b <| And.intro @T5z <| And.intro @T9k <| And.intro @T9s <| And.intro @T9b <| And.intro @T9z <| And.intro @zLl <| And.intro @zLm <| And.intro @zLn <| And.intro @zLo <| And.intro @zLp <| And.intro @zLq <| And.intro @zLr <| And.intro @zLs <| And.intro @zLt <| And.intro @zLu <| And.intro @zLv <| And.intro @zLw <| And.intro @zLx <| And.intro @zLy <| And.intro @zLz <| And.intro @zLA <| And.intro @zLB <| And.intro @zLC <| And.intro @zLD <| And.intro @zLE <| And.intro @zLF <| And.intro @zLG <| And.intro @zLH <| And.intro @zLI <| And.intro @zLJ <| And.intro @zLK <| And.intro @zLL <| And.intro @zLM <| And.intro @zKM <| And.intro @zKN <| And.intro @zLN <| And.intro @zLO <| And.intro @zLP <| And.intro @zLQ <| And.intro @zLR <| And.intro @zLS <| And.intro @zLT <| And.intro @zLU <| And.intro @zLV <| And.intro @zLW <| And.intro @zKO <| And.intro @zKP <| And.intro @zLX <| And.intro @zLY <| And.intro @zLZ <| And.intro @zL0 <| And.intro @zL1 <| And.intro @zL2 <| And.intro @zL3 <| And.intro @zL4 <| And.intro @zL5 <| And.intro @zL6 <| And.intro @zL7 <| And.intro @zL8 <| And.intro @zL9 <| And.intro @zMa <| And.intro @zMb <| And.intro @zMc <| And.intro @zMd <| And.intro @zMe <| And.intro @zMf <| And.intro @zMg <| And.intro @zMh <| And.intro @zMi <| And.intro @zH2 <| And.intro @zFV <| And.intro @zH3 <| And.intro @zH4 <| And.intro @zH5 <| And.intro @zH6 <| And.intro @zH7 <| And.intro @zH8 <| And.intro @zH9 <| And.intro @zIa <| And.intro @zIb <| And.intro @zIc <| And.intro @zId <| And.intro @zIe <| And.intro @zIf <| And.intro @zIg <| And.intro @zIh <| And.intro @zIi <| And.intro @zIj <| And.intro @zIk <| And.intro @zIl <| And.intro @zIm <| And.intro @zIn <| And.intro @zIo <| And.intro @zIp <| And.intro @zIq <| And.intro @zIr <| And.intro @zIs <| And.intro @zIt <| And.intro @zIu <| And.intro @zIv <| And.intro @zIw <| And.intro @zIx <| And.intro @zIy <| And.intro @zIz <| And.intro @zIA <| And.intro @zIB <| And.intro @zIC <| And.intro @zID <| And.intro @zIE <| And.intro @zIF <| And.intro @zIG <| And.intro @zIH <| And.intro @zII <| And.intro @zIJ <| And.intro @zIK <| And.intro @zIL <| And.intro @zIM <| And.intro @zIN <| And.intro @zIO <| And.intro @zIP <| And.intro @zIQ <| And.intro @zIR <| And.intro @zIS <| And.intro @zIT <| And.intro @zIU <| And.intro @zIV <| And.intro @zIW <| And.intro @zIX <| And.intro @zIY <| And.intro @zIZ <| And.intro @zI0 <| And.intro @zI1 <| And.intro @zI2 <| And.intro @zI3 <| And.intro @zI4 <| And.intro @zI5 <| @zI6):=And.intro @T2k <| And.intro @T2s <| And.intro @T2b <| And.intro @T2z <| And.intro @T3k <| And.intro @T3s <| And.intro @T3b <| And.intro @T3z <| And.intro @T4k <| And.intro @T4s <| And.intro @T4b <| And.intro @T4z <| And.intro @T5k <| And.intro @T5s <| And.intro @T5b <| And.intro @T5z <| And.intro @T9k <| And.intro @T9s <| And.intro @T9b <| And.intro @T9z <| And.intro @zLl <| And.intro @zLm <| And.intro @zLn <| And.intro @zLo <| And.intro @zLp <| And.intro @zLq <| And.intro @zLr <| And.intro @zLs <| And.intro @zLt <| And.intro @zLu <| And.intro @zLv <| And.intro @zLw <| And.intro @zLx <| And.intro @zLy <| And.intro @zLz <| And.intro @zLA <| And.intro @zLB <| And.intro @zLC <| And.intro @zLD <| And.intro @zLE <| And.intro @zLF <| And.intro @zLG <| And.intro @zLH <| And.intro @zLI <| And.intro @zLJ <| And.intro @zLK <| And.intro @zLL <| And.intro @zLM <| And.intro @zKM <| And.intro @zKN <| And.intro @zLN <| And.intro @zLO <| And.intro @zLP <| And.intro @zLQ <| And.intro @zLR <| And.intro @zLS <| And.intro @zLT <| And.intro @zLU <| And.intro @zLV <| And.intro @zLW <| And.intro @zKO <| And.intro @zKP <| And.intro @zLX <| And.intro @zLY <| And.intro @zLZ <| And.intro @zL0 <| And.intro @zL1 <| And.intro @zL2 <| And.intro @zL3 <| And.intro @zL4 <| And.intro @zL5 <| And.intro @zL6 <| And.intro @zL7 <| And.intro @zL8 <| And.intro @zL9 <| And.intro @zMa <| And.intro @zMb <| And.intro @zMc <| And.intro @zMd <| And.intro @zMe <| And.intro @zMf <| And.intro @zMg <| And.intro @zMh <| And.intro @zMi <| And.intro @zH2 <| And.intro @zFV <| And.intro @zH3 <| And.intro @zH4 <| And.intro @zH5 <| And.intro @zH6 <| And.intro @zH7 <| And.intro @zH8 <| And.intro @zH9 <| And.intro @zIa <| And.intro @zIb <| And.intro @zIc <| And.intro @zId <| And.intro @zIe <| And.intro @zIf <| And.intro @zIg <| And.intro @zIh <| And.intro @zIi <| And.intro @zIj <| And.intro @zIk <| And.intro @zIl <| And.intro @zIm <| And.intro @zIn <| And.intro @zIo <| And.intro @zIp <| And.intro @zIq <| And.intro @zIr <| And.intro @zIs <| And.intro @zIt <| And.intro @zIu <| And.intro @zIv <| And.intro @zIw <| And.intro @zIx <| And.intro @zIy <| And.intro @zIz <| And.intro @zIA <| And.intro @zIB <| And.intro @zIC <| And.intro @zID <| And.intro @zIE <| And.intro @zIF <| And.intro @zIG <| And.intro @zIH <| And.intro @zII <| And.intro @zIJ <| And.intro @zIK <| And.intro @zIL <| And.intro @zIM <| And.intro @zIN <| And.intro @zIO <| And.intro @zIP <| And.intro @zIQ <| And.intro @zIR <| And.intro @zIS <| And.intro @zIT <| And.intro @zIU <| And.intro @zIV <| And.intro @zIW <| And.intro @zIX <| And.intro @zIY <| And.intro @zIZ <| And.intro @zI0 <| And.intro @zI1 <| And.intro @zI2 <| And.intro @zI3 <| And.intro @zI4 <| And.intro @zI5 <| @zI6
theorem zyc:∀ x ∈ zKL,x.2.Fits Tryz.prog x.1:=by
 simp only [zKL,List.forall_mem_cons]
 exact ⟨F2,F3,F4,F5,F9,F12,F13,F21,F22,F23,F24,F27,F31,F44,F65,F70,F76,F77,F86,F87,F96,zML,zMM,zMN,zMO,zMP,zMQ,zMR,zMS,zMT,zMU,zMV,zMW,zMX,zMY,zMZ,zM0,zM1,zM2,fun _ h=>absurd h (by simp)⟩
theorem zCG:∀ x ∈ tab,x.2.Fits Tryz.prog x.1:=by
 simp only [tab]
 exact zyc
theorem zaD:Tab.Ok T Tryz.prog:=by
 intro t ht
 unfold T at ht ⊢
 cases h:tab.find? fun x=>x.1 == t with
 | none=>rw [h] at ht;simp at ht
 | some x =>
   have h1:=List.find?_some h
   have h2:=zCG x (List.mem_of_find?_eq_some h)
   simp at h1
   subst h1
   exact h2
theorem mixed:Tryz.prog.follows .mixedOrders = true:=by kernel_rfl
theorem zKQ:Tryz.prog.globalNamed "internal/strconv.uint64pow10" = some 1:=by kernel_rfl
instance held:zae:=⟨{ Φ:=zhE Tryz.prog,Gl:=fun b=>b = 1,dr:=False,keep:=fun h hb=>ztm zKQ h hb,low:=fun h hb=>zxz zKQ h hb }⟩
end Go.Proofs.YtkledeboboplmaaGreatDoor

/- DERIVED by an AI agent, by a program of its own (mktypes.py). The types of the translation, as the abstract layer reads them. -/
import Derived.Test.YtkledeboboplmaaGreatDoorRows
import Derived.Test.YtkledeboboplmaaGreatDoorA11
import Derived.Test.YtkledeboboplmaaGreatDoorA12
namespace Go.Proofs.YtkledeboboplmaaGreatDoor
open Go.Abs
set_option linter.unusedVariables false
theorem zaH {t:TypeId} {d:TD} {z:Value} (h:d.k.fits Tryz.prog t) (hi:(Tryz.prog.info? t).map (fun i=>(i.zero,i.size,i.bytes)) = some (some z,d.size,d.bytes)) (hz:z.cells.toList = d.zero) (hl:d.zero.length = d.size) (ho:d.k.agg = false->d.size = 1/\∀ z,d.zero = [z]->z.oneCell' = true) (hq:d.k.agg = true \/ d.zero = [z]):d.Fits Tryz.prog t:=by
 cases he:Tryz.prog.info? t with
 | none=>rw [he] at hi;simp at hi
 | some i =>
   rw [he] at hi
   simp at hi
   exact ⟨h,⟨i,z,he,hi.2.1,hi.2.2,hi.1,hz⟩,hl,ho,hq.imp id fun e=>⟨i,z,he,hi.1,e⟩⟩
def D2:TD:=⟨.int .i64,1,8,[.int .i64 0]⟩
theorem F2:D2.Fits Tryz.prog 2:=zaH (z:=.int .i64 0) (show Tryz.prog.underlying 2 = some (TypeDesc.int .i64) by kernel_rfl) (by kernel_rfl) rfl rfl (fun _=>⟨rfl,fun z h=>by cases h;rfl⟩) (.inr rfl)
def D3:TD:=⟨.int .i64,1,8,[.int .i64 0]⟩
theorem F3:D3.Fits Tryz.prog 3:=zaH (z:=.int .i64 0) (show Tryz.prog.underlying 3 = some (TypeDesc.int .i64) by kernel_rfl) (by kernel_rfl) rfl rfl (fun _=>⟨rfl,fun z h=>by cases h;rfl⟩) (.inr rfl)
def D4:TD:=⟨.bool,1,1,[.bool false]⟩
theorem F4:D4.Fits Tryz.prog 4:=zaH (z:=.bool false) (show Tryz.prog.underlying 4 = some (TypeDesc.bool) by kernel_rfl) (by kernel_rfl) rfl rfl (fun _=>⟨rfl,fun z h=>by cases h;rfl⟩) (.inr rfl)
def D5:TD:=⟨.int .u8,1,1,[.int .u8 0]⟩
theorem F5:D5.Fits Tryz.prog 5:=zaH (z:=.int .u8 0) (show Tryz.prog.underlying 5 = some (TypeDesc.int .u8) by kernel_rfl) (by kernel_rfl) rfl rfl (fun _=>⟨rfl,fun z h=>by cases h;rfl⟩) (.inr rfl)
def D9:TD:=⟨.str,1,16,[.string ⟨#[]⟩]⟩
theorem F9:D9.Fits Tryz.prog 9:=zaH (z:=.string ⟨#[]⟩) (show Tryz.prog.underlying 9 = some (TypeDesc.string) by kernel_rfl) (by kernel_rfl) rfl rfl (fun _=>⟨rfl,fun z h=>by cases h;rfl⟩) (.inr rfl)
def D12:TD:=⟨.int .u64,1,8,[.int .u64 0]⟩
theorem F12:D12.Fits Tryz.prog 12:=zaH (z:=.int .u64 0) (show Tryz.prog.underlying 12 = some (TypeDesc.int .u64) by kernel_rfl) (by kernel_rfl) rfl rfl (fun _=>⟨rfl,fun z h=>by cases h;rfl⟩) (.inr rfl)
def D13:TD:=⟨.struct [(0,9),(1,12)],2,24,[.string ⟨#[]⟩,.int .u64 0]⟩
theorem F13:D13.Fits Tryz.prog 13:=zaH (z:=.agg #[.string ⟨#[]⟩,.int .u64 0]) ⟨_,Tryz.underlying13,rfl⟩ (by kernel_rfl) rfl rfl (fun h=>by cases h) (.inl rfl)
def D21:TD:=⟨.int .i32,1,4,[.int .i32 0]⟩
theorem F21:D21.Fits Tryz.prog 21:=zaH (z:=.int .i32 0) (show Tryz.prog.underlying 21 = some (TypeDesc.int .i32) by kernel_rfl) (by kernel_rfl) rfl rfl (fun _=>⟨rfl,fun z h=>by cases h;rfl⟩) (.inr rfl)
def D22:TD:=⟨.sli 3,1,24,[.slice none 0 0]⟩
theorem F22:D22.Fits Tryz.prog 22:=zaH (z:=.slice none 0 0) (show Tryz.prog.underlying 22 = some (TypeDesc.slice 3) by kernel_rfl) (by kernel_rfl) rfl rfl (fun _=>⟨rfl,fun z h=>by cases h;rfl⟩) (.inr rfl)
def D23:TD:=⟨.struct [(0,3),(1,22)],2,32,[.int .i64 0,.slice none 0 0]⟩
theorem F23:D23.Fits Tryz.prog 23:=zaH (z:=.agg #[.int .i64 0,.slice none 0 0]) ⟨_,Tryz.underlying23,rfl⟩ (by kernel_rfl) rfl rfl (fun h=>by cases h) (.inl rfl)
def D24:TD:=⟨.struct [(0,3),(1,22)],2,32,[.int .i64 0,.slice none 0 0]⟩
theorem F24:D24.Fits Tryz.prog 24:=zaH (z:=.agg #[.int .i64 0,.slice none 0 0]) ⟨_,Tryz.underlying24,rfl⟩ (by kernel_rfl) rfl rfl (fun h=>by cases h) (.inl rfl)
def D27:TD:=⟨.struct [(0,3),(1,22)],2,32,[.int .i64 0,.slice none 0 0]⟩
theorem F27:D27.Fits Tryz.prog 27:=zaH (z:=.agg #[.int .i64 0,.slice none 0 0]) ⟨_,Tryz.underlying27,rfl⟩ (by kernel_rfl) rfl rfl (fun h=>by cases h) (.inl rfl)
def D31:TD:=⟨.sli 5,1,24,[.slice none 0 0]⟩
theorem F31:D31.Fits Tryz.prog 31:=zaH (z:=.slice none 0 0) (show Tryz.prog.underlying 31 = some (TypeDesc.slice 5) by kernel_rfl) (by kernel_rfl) rfl rfl (fun _=>⟨rfl,fun z h=>by cases h;rfl⟩) (.inr rfl)
def D44:TD:=⟨.sli 9,1,24,[.slice none 0 0]⟩
theorem F44:D44.Fits Tryz.prog 44:=zaH (z:=.slice none 0 0) (show Tryz.prog.underlying 44 = some (TypeDesc.slice 9) by kernel_rfl) (by kernel_rfl) rfl rfl (fun _=>⟨rfl,fun z h=>by cases h;rfl⟩) (.inr rfl)
def D65:TD:=⟨.sli 22,1,24,[.slice none 0 0]⟩
theorem F65:D65.Fits Tryz.prog 65:=zaH (z:=.slice none 0 0) (show Tryz.prog.underlying 65 = some (TypeDesc.slice 22) by kernel_rfl) (by kernel_rfl) rfl rfl (fun _=>⟨rfl,fun z h=>by cases h;rfl⟩) (.inr rfl)
def D70:TD:=⟨.int .u64,1,8,[.int .u64 0]⟩
theorem F70:D70.Fits Tryz.prog 70:=zaH (z:=.int .u64 0) (show Tryz.prog.underlying 70 = some (TypeDesc.int .u64) by kernel_rfl) (by kernel_rfl) rfl rfl (fun _=>⟨rfl,fun z h=>by cases h;rfl⟩) (.inr rfl)
def D76:TD:=⟨.struct [(0,75),(1,31)],2,32,[.pointer none,.slice none 0 0]⟩
theorem F76:D76.Fits Tryz.prog 76:=zaH (z:=.agg #[.pointer none,.slice none 0 0]) ⟨_,Tryz.underlying76,rfl⟩ (by kernel_rfl) rfl rfl (fun h=>by cases h) (.inl rfl)
def D77:TD:=⟨.struct [(0,75),(1,31)],2,32,[.pointer none,.slice none 0 0]⟩
theorem F77:D77.Fits Tryz.prog 77:=zaH (z:=.agg #[.pointer none,.slice none 0 0]) ⟨_,Tryz.underlying77,rfl⟩ (by kernel_rfl) rfl rfl (fun h=>by cases h) (.inl rfl)
def D86:TD:=⟨.struct [(0,31),(1,3),(2,3)],3,40,[.slice none 0 0,.int .i64 0,.int .i64 0]⟩
theorem F86:D86.Fits Tryz.prog 86:=zaH (z:=.agg #[.slice none 0 0,.int .i64 0,.int .i64 0]) ⟨_,Tryz.underlying86,rfl⟩ (by kernel_rfl) rfl rfl (fun h=>by cases h) (.inl rfl)
def D87:TD:=⟨.struct [(0,31),(1,3),(2,3)],3,40,[.slice none 0 0,.int .i64 0,.int .i64 0]⟩
theorem F87:D87.Fits Tryz.prog 87:=zaH (z:=.agg #[.slice none 0 0,.int .i64 0,.int .i64 0]) ⟨_,Tryz.underlying87,rfl⟩ (by kernel_rfl) rfl rfl (fun h=>by cases h) (.inl rfl)
def D96:TD:=⟨.int .u64,1,8,[.int .u64 0]⟩
theorem F96:D96.Fits Tryz.prog 96:=zaH (z:=.int .u64 0) (show Tryz.prog.underlying 96 = some (TypeDesc.int .u64) by kernel_rfl) (by kernel_rfl) rfl rfl (fun _=>⟨rfl,fun z h=>by cases h;rfl⟩) (.inr rfl)
def zJ4:TD:=⟨.other,1,8,[.nilFunc]⟩
theorem zPn:zJ4.Fits Tryz.prog 101:=zaH (z:=.nilFunc) ⟨_,Tryz.underlying101,trivial⟩ (by kernel_rfl) rfl rfl (fun _=>⟨rfl,fun z h=>by cases h;rfl⟩) (.inr rfl)
def zJ5:TD:=⟨.map 70 3,1,8,[.map none]⟩
theorem zPo:zJ5.Fits Tryz.prog 103:=zaH (z:=.map none) (show Tryz.prog.underlying 103 = some (TypeDesc.map 70 3) by kernel_rfl) (by kernel_rfl) rfl rfl (fun _=>⟨rfl,fun z h=>by cases h;rfl⟩) (.inr rfl)
def zJ6:TD:=⟨.struct [(0,103)],1,8,[.map none]⟩
theorem zPp:zJ6.Fits Tryz.prog 104:=zaH (z:=.agg #[.map none]) ⟨_,Tryz.underlying104,rfl⟩ (by kernel_rfl) rfl rfl (fun h=>by cases h) (.inl rfl)
def zJ7:TD:=⟨.struct [(0,103)],1,8,[.map none]⟩
theorem zPq:zJ7.Fits Tryz.prog 105:=zaH (z:=.agg #[.map none]) ⟨_,Tryz.underlying105,rfl⟩ (by kernel_rfl) rfl rfl (fun h=>by cases h) (.inl rfl)
def zJ8:TD:=⟨.arr 256 4,256,256,((List.replicate 256 (.bool false)))⟩
theorem zPr:zJ8.Fits Tryz.prog 125:=zaH (z:=.agg ⟨((List.replicate 256 (.bool false)))⟩) (show Tryz.prog.underlying 125 = some (TypeDesc.array 256 4) by kernel_rfl) (by kernel_rfl) (by kernel_rfl) (by kernel_rfl) (fun h=>by cases h) (.inl rfl)
def zJ9:TD:=⟨.struct [(0,22),(1,101),(2,125),(258,22)],259,312,([.slice none 0 0,.nilFunc] ++ (List.replicate 256 (.bool false)) ++ [.slice none 0 0])⟩
theorem zPs:zJ9.Fits Tryz.prog 126:=zaH (z:=.agg ⟨([.slice none 0 0,.nilFunc] ++ (List.replicate 256 (.bool false)) ++ [.slice none 0 0])⟩) ⟨_,Tryz.underlying126,rfl⟩ (by kernel_rfl) (by kernel_rfl) (by kernel_rfl) (fun h=>by cases h) (.inl rfl)
def zKa:TD:=⟨.struct [(0,22),(1,101),(2,125),(258,22)],259,312,([.slice none 0 0,.nilFunc] ++ (List.replicate 256 (.bool false)) ++ [.slice none 0 0])⟩
theorem zPt:zKa.Fits Tryz.prog 127:=zaH (z:=.agg ⟨([.slice none 0 0,.nilFunc] ++ (List.replicate 256 (.bool false)) ++ [.slice none 0 0])⟩) ⟨_,Tryz.underlying127,rfl⟩ (by kernel_rfl) (by kernel_rfl) (by kernel_rfl) (fun h=>by cases h) (.inl rfl)
def zKb:TD:=⟨.sli 4,1,24,[.slice none 0 0]⟩
theorem zPu:zKb.Fits Tryz.prog 133:=zaH (z:=.slice none 0 0) (show Tryz.prog.underlying 133 = some (TypeDesc.slice 4) by kernel_rfl) (by kernel_rfl) rfl rfl (fun _=>⟨rfl,fun z h=>by cases h;rfl⟩) (.inr rfl)
def zKc:TD:=⟨.int .u32,1,4,[.int .u32 0]⟩
theorem zPv:zKc.Fits Tryz.prog 145:=zaH (z:=.int .u32 0) (show Tryz.prog.underlying 145 = some (TypeDesc.int .u32) by kernel_rfl) (by kernel_rfl) rfl rfl (fun _=>⟨rfl,fun z h=>by cases h;rfl⟩) (.inr rfl)
def zKd:TD:=⟨.struct [(0,3),(1,22)],2,32,[.int .i64 0,.slice none 0 0]⟩
theorem zPw:zKd.Fits Tryz.prog 146:=zaH (z:=.agg #[.int .i64 0,.slice none 0 0]) ⟨_,Tryz.underlying146,rfl⟩ (by kernel_rfl) rfl rfl (fun h=>by cases h) (.inl rfl)
def zKe:TD:=⟨.struct [(0,3),(1,22)],2,32,[.int .i64 0,.slice none 0 0]⟩
theorem zPx:zKe.Fits Tryz.prog 147:=zaH (z:=.agg #[.int .i64 0,.slice none 0 0]) ⟨_,Tryz.underlying147,rfl⟩ (by kernel_rfl) rfl rfl (fun h=>by cases h) (.inl rfl)
def zKf:TD:=⟨.arr 24 5,24,24,((List.replicate 24 (.int .u8 0)))⟩
theorem zPy:zKf.Fits Tryz.prog 153:=zaH (z:=.agg ⟨((List.replicate 24 (.int .u8 0)))⟩) (show Tryz.prog.underlying 153 = some (TypeDesc.array 24 5) by kernel_rfl) (by kernel_rfl) (by kernel_rfl) (by kernel_rfl) (fun h=>by cases h) (.inl rfl)
def zKg:TD:=⟨.int .i64,1,8,[.int .i64 0]⟩
theorem zPz:zKg.Fits Tryz.prog 158:=zaH (z:=.int .i64 0) (show Tryz.prog.underlying 158 = some (TypeDesc.int .i64) by kernel_rfl) (by kernel_rfl) rfl rfl (fun _=>⟨rfl,fun z h=>by cases h;rfl⟩) (.inr rfl)
def zKh:TD:=⟨.arr 20 70,20,160,((List.replicate 20 (.int .u64 0)))⟩
theorem zPA:zKh.Fits Tryz.prog 164:=zaH (z:=.agg ⟨((List.replicate 20 (.int .u64 0)))⟩) (show Tryz.prog.underlying 164 = some (TypeDesc.array 20 70) by kernel_rfl) (by kernel_rfl) (by kernel_rfl) (by kernel_rfl) (fun h=>by cases h) (.inl rfl)
def zKi:TD:=⟨.arr 65 5,65,65,((List.replicate 65 (.int .u8 0)))⟩
theorem zPB:zKi.Fits Tryz.prog 165:=zaH (z:=.agg ⟨((List.replicate 65 (.int .u8 0)))⟩) (show Tryz.prog.underlying 165 = some (TypeDesc.array 65 5) by kernel_rfl) (by kernel_rfl) (by kernel_rfl) (by kernel_rfl) (fun h=>by cases h) (.inl rfl)
def zKj:TD:=⟨.int .u64,1,8,[.int .u64 0]⟩
theorem zPC:zKj.Fits Tryz.prog 166:=zaH (z:=.int .u64 0) (show Tryz.prog.underlying 166 = some (TypeDesc.int .u64) by kernel_rfl) (by kernel_rfl) rfl rfl (fun _=>⟨rfl,fun z h=>by cases h;rfl⟩) (.inr rfl)
def zKk:TD:=⟨.arr 32 5,32,32,((List.replicate 32 (.int .u8 0)))⟩
theorem zPD:zKk.Fits Tryz.prog 175:=zaH (z:=.agg ⟨((List.replicate 32 (.int .u8 0)))⟩) (show Tryz.prog.underlying 175 = some (TypeDesc.array 32 5) by kernel_rfl) (by kernel_rfl) (by kernel_rfl) (by kernel_rfl) (fun h=>by cases h) (.inl rfl)
def zKl:TD:=⟨.arr 64 5,64,64,((List.replicate 64 (.int .u8 0)))⟩
theorem zPE:zKl.Fits Tryz.prog 176:=zaH (z:=.agg ⟨((List.replicate 64 (.int .u8 0)))⟩) (show Tryz.prog.underlying 176 = some (TypeDesc.array 64 5) by kernel_rfl) (by kernel_rfl) (by kernel_rfl) (by kernel_rfl) (fun h=>by cases h) (.inl rfl)
def zNq:List (Nat × TD):=[(2,D2),(3,D3),(4,D4),(5,D5),(9,D9),(12,D12),(13,D13),(21,D21),(22,D22),(23,D23),(24,D24),(27,D27),(31,D31),(44,D44),(65,D65),(70,D70),(76,D76),(77,D77),(86,D86),(87,D87),(96,D96),(101,zJ4),(103,zJ5),(104,zJ6),(105,zJ7),(125,zJ8),(126,zJ9),(127,zKa),(133,zKb),(145,zKc),(146,zKd),(147,zKe),(153,zKf),(158,zKg),(164,zKh),(165,zKi),(166,zKj),(175,zKk),(176,zKl)]
def tab:List (Nat × TD):=zNq
def T:Tab:=fun t=>((tab.find? fun x=>x.1 == t).map (·.2)).getD ⟨.other,0,0,[]⟩
theorem zan {a b:TD} (h:a = b):a.k = b.k/\a.size = b.size/\a.bytes = b.bytes/\a.zero = b.zero:=by subst h;exact ⟨rfl,rfl,rfl,rfl⟩
theorem T2k:(T 2).k = .int .i64:=(zan (show T 2 = D2 from rfl)).1
theorem T2s:(T 2).size = 1:=(zan (show T 2 = D2 from rfl)).2.1
theorem T2b:(T 2).bytes = 8:=(zan (show T 2 = D2 from rfl)).2.2.1
theorem T2z:(T 2).zero = [.int .i64 0]:=(zan (show T 2 = D2 from rfl)).2.2.2
theorem T3k:(T 3).k = .int .i64:=(zan (show T 3 = D3 from rfl)).1
theorem T3s:(T 3).size = 1:=(zan (show T 3 = D3 from rfl)).2.1
theorem T3b:(T 3).bytes = 8:=(zan (show T 3 = D3 from rfl)).2.2.1
theorem T3z:(T 3).zero = [.int .i64 0]:=(zan (show T 3 = D3 from rfl)).2.2.2
theorem T4k:(T 4).k = .bool:=(zan (show T 4 = D4 from rfl)).1
theorem T4s:(T 4).size = 1:=(zan (show T 4 = D4 from rfl)).2.1
theorem T4b:(T 4).bytes = 1:=(zan (show T 4 = D4 from rfl)).2.2.1
theorem T4z:(T 4).zero = [.bool false]:=(zan (show T 4 = D4 from rfl)).2.2.2
theorem T5k:(T 5).k = .int .u8:=(zan (show T 5 = D5 from rfl)).1
theorem T5s:(T 5).size = 1:=(zan (show T 5 = D5 from rfl)).2.1
theorem T5b:(T 5).bytes = 1:=(zan (show T 5 = D5 from rfl)).2.2.1
theorem T5z:(T 5).zero = [.int .u8 0]:=(zan (show T 5 = D5 from rfl)).2.2.2
theorem T9k:(T 9).k = .str:=(zan (show T 9 = D9 from rfl)).1
theorem T9s:(T 9).size = 1:=(zan (show T 9 = D9 from rfl)).2.1
theorem T9b:(T 9).bytes = 16:=(zan (show T 9 = D9 from rfl)).2.2.1
theorem T9z:(T 9).zero = [.string ⟨#[]⟩]:=(zan (show T 9 = D9 from rfl)).2.2.2
theorem zNT:(T 12).k = .int .u64:=(zan (show T 12 = D12 from rfl)).1
theorem zNU:(T 12).size = 1:=(zan (show T 12 = D12 from rfl)).2.1
theorem zNV:(T 12).bytes = 8:=(zan (show T 12 = D12 from rfl)).2.2.1
theorem zNW:(T 12).zero = [.int .u64 0]:=(zan (show T 12 = D12 from rfl)).2.2.2
theorem zNX:(T 13).k = .struct [(0,9),(1,12)]:=(zan (show T 13 = D13 from rfl)).1
theorem zNY:(T 13).size = 2:=(zan (show T 13 = D13 from rfl)).2.1
theorem zNZ:(T 13).bytes = 24:=(zan (show T 13 = D13 from rfl)).2.2.1
theorem zN0:(T 13).zero = [.string ⟨#[]⟩,.int .u64 0]:=(zan (show T 13 = D13 from rfl)).2.2.2
theorem zN1:(T 21).k = .int .i32:=(zan (show T 21 = D21 from rfl)).1
theorem zN2:(T 21).size = 1:=(zan (show T 21 = D21 from rfl)).2.1
theorem zN3:(T 21).bytes = 4:=(zan (show T 21 = D21 from rfl)).2.2.1
theorem zN4:(T 21).zero = [.int .i32 0]:=(zan (show T 21 = D21 from rfl)).2.2.2
theorem zN5:(T 22).k = .sli 3:=(zan (show T 22 = D22 from rfl)).1
theorem zN6:(T 22).size = 1:=(zan (show T 22 = D22 from rfl)).2.1
theorem zN7:(T 22).bytes = 24:=(zan (show T 22 = D22 from rfl)).2.2.1
theorem zN8:(T 22).zero = [.slice none 0 0]:=(zan (show T 22 = D22 from rfl)).2.2.2
theorem zN9:(T 23).k = .struct [(0,3),(1,22)]:=(zan (show T 23 = D23 from rfl)).1
theorem zOa:(T 23).size = 2:=(zan (show T 23 = D23 from rfl)).2.1
theorem zOb:(T 23).bytes = 32:=(zan (show T 23 = D23 from rfl)).2.2.1
theorem zOc:(T 23).zero = [.int .i64 0,.slice none 0 0]:=(zan (show T 23 = D23 from rfl)).2.2.2
theorem zOd:(T 24).k = .struct [(0,3),(1,22)]:=(zan (show T 24 = D24 from rfl)).1
theorem zOe:(T 24).size = 2:=(zan (show T 24 = D24 from rfl)).2.1
theorem zOf:(T 24).bytes = 32:=(zan (show T 24 = D24 from rfl)).2.2.1
theorem zOg:(T 24).zero = [.int .i64 0,.slice none 0 0]:=(zan (show T 24 = D24 from rfl)).2.2.2
theorem zOh:(T 27).k = .struct [(0,3),(1,22)]:=(zan (show T 27 = D27 from rfl)).1
theorem zOi:(T 27).size = 2:=(zan (show T 27 = D27 from rfl)).2.1
theorem zOj:(T 27).bytes = 32:=(zan (show T 27 = D27 from rfl)).2.2.1
theorem zOk:(T 27).zero = [.int .i64 0,.slice none 0 0]:=(zan (show T 27 = D27 from rfl)).2.2.2
theorem zNr:(T 31).k = .sli 5:=(zan (show T 31 = D31 from rfl)).1
theorem zNs:(T 31).size = 1:=(zan (show T 31 = D31 from rfl)).2.1
theorem zOl:(T 31).bytes = 24:=(zan (show T 31 = D31 from rfl)).2.2.1
theorem zOm:(T 31).zero = [.slice none 0 0]:=(zan (show T 31 = D31 from rfl)).2.2.2
theorem zOn:(T 44).k = .sli 9:=(zan (show T 44 = D44 from rfl)).1
theorem zOo:(T 44).size = 1:=(zan (show T 44 = D44 from rfl)).2.1
theorem zOp:(T 44).bytes = 24:=(zan (show T 44 = D44 from rfl)).2.2.1
theorem zOq:(T 44).zero = [.slice none 0 0]:=(zan (show T 44 = D44 from rfl)).2.2.2
theorem zOr:(T 65).k = .sli 22:=(zan (show T 65 = D65 from rfl)).1
theorem zOs:(T 65).size = 1:=(zan (show T 65 = D65 from rfl)).2.1
theorem zOt:(T 65).bytes = 24:=(zan (show T 65 = D65 from rfl)).2.2.1
theorem zOu:(T 65).zero = [.slice none 0 0]:=(zan (show T 65 = D65 from rfl)).2.2.2
theorem zNt:(T 70).k = .int .u64:=(zan (show T 70 = D70 from rfl)).1
theorem zNu:(T 70).size = 1:=(zan (show T 70 = D70 from rfl)).2.1
theorem zOv:(T 70).bytes = 8:=(zan (show T 70 = D70 from rfl)).2.2.1
theorem zOw:(T 70).zero = [.int .u64 0]:=(zan (show T 70 = D70 from rfl)).2.2.2
theorem zOx:(T 76).k = .struct [(0,75),(1,31)]:=(zan (show T 76 = D76 from rfl)).1
theorem zOy:(T 76).size = 2:=(zan (show T 76 = D76 from rfl)).2.1
theorem zOz:(T 76).bytes = 32:=(zan (show T 76 = D76 from rfl)).2.2.1
theorem zOA:(T 76).zero = [.pointer none,.slice none 0 0]:=(zan (show T 76 = D76 from rfl)).2.2.2
theorem zOB:(T 77).k = .struct [(0,75),(1,31)]:=(zan (show T 77 = D77 from rfl)).1
theorem zOC:(T 77).size = 2:=(zan (show T 77 = D77 from rfl)).2.1
theorem zOD:(T 77).bytes = 32:=(zan (show T 77 = D77 from rfl)).2.2.1
theorem zOE:(T 77).zero = [.pointer none,.slice none 0 0]:=(zan (show T 77 = D77 from rfl)).2.2.2
theorem zOF:(T 86).k = .struct [(0,31),(1,3),(2,3)]:=(zan (show T 86 = D86 from rfl)).1
theorem zOG:(T 86).size = 3:=(zan (show T 86 = D86 from rfl)).2.1
theorem zOH:(T 86).bytes = 40:=(zan (show T 86 = D86 from rfl)).2.2.1
theorem zOI:(T 86).zero = [.slice none 0 0,.int .i64 0,.int .i64 0]:=(zan (show T 86 = D86 from rfl)).2.2.2
theorem zOJ:(T 87).k = .struct [(0,31),(1,3),(2,3)]:=(zan (show T 87 = D87 from rfl)).1
theorem zOK:(T 87).size = 3:=(zan (show T 87 = D87 from rfl)).2.1
theorem zOL:(T 87).bytes = 40:=(zan (show T 87 = D87 from rfl)).2.2.1
theorem zOM:(T 87).zero = [.slice none 0 0,.int .i64 0,.int .i64 0]:=(zan (show T 87 = D87 from rfl)).2.2.2
theorem zON:(T 96).k = .int .u64:=(zan (show T 96 = D96 from rfl)).1
theorem zOO:(T 96).size = 1:=(zan (show T 96 = D96 from rfl)).2.1
theorem zOP:(T 96).bytes = 8:=(zan (show T 96 = D96 from rfl)).2.2.1
theorem zOQ:(T 96).zero = [.int .u64 0]:=(zan (show T 96 = D96 from rfl)).2.2.2
theorem zPF:(T 101).k = .other:=(zan (show T 101 = zJ4 from rfl)).1
theorem zPG:(T 101).size = 1:=(zan (show T 101 = zJ4 from rfl)).2.1
theorem zPH:(T 101).bytes = 8:=(zan (show T 101 = zJ4 from rfl)).2.2.1
theorem zPI:(T 101).zero = [.nilFunc]:=(zan (show T 101 = zJ4 from rfl)).2.2.2
theorem zKI:(T 103).k = .map 70 3:=(zan (show T 103 = zJ5 from rfl)).1
theorem zIq:(T 103).size = 1:=(zan (show T 103 = zJ5 from rfl)).2.1
theorem zKJ:(T 103).bytes = 8:=(zan (show T 103 = zJ5 from rfl)).2.2.1
theorem zKK:(T 103).zero = [.map none]:=(zan (show T 103 = zJ5 from rfl)).2.2.2
theorem zKL:(T 104).k = .struct [(0,103)]:=(zan (show T 104 = zJ6 from rfl)).1
theorem zKM:(T 104).size = 1:=(zan (show T 104 = zJ6 from rfl)).2.1
theorem zKN:(T 104).bytes = 8:=(zan (show T 104 = zJ6 from rfl)).2.2.1
theorem zKO:(T 104).zero = [.map none]:=(zan (show T 104 = zJ6 from rfl)).2.2.2
theorem zKP:(T 105).k = .struct [(0,103)]:=(zan (show T 105 = zJ7 from rfl)).1
theorem zKQ:(T 105).size = 1:=(zan (show T 105 = zJ7 from rfl)).2.1
theorem zKR:(T 105).bytes = 8:=(zan (show T 105 = zJ7 from rfl)).2.2.1
theorem zKS:(T 105).zero = [.map none]:=(zan (show T 105 = zJ7 from rfl)).2.2.2
theorem zKT:(T 125).k = .arr 256 4:=(zan (show T 125 = zJ8 from rfl)).1
theorem zKU:(T 125).size = 256:=(zan (show T 125 = zJ8 from rfl)).2.1
theorem zKV:(T 125).bytes = 256:=(zan (show T 125 = zJ8 from rfl)).2.2.1
theorem zKW:(T 125).zero = ((List.replicate 256 (.bool false))):=(zan (show T 125 = zJ8 from rfl)).2.2.2
theorem zKX:(T 126).k = .struct [(0,22),(1,101),(2,125),(258,22)]:=(zan (show T 126 = zJ9 from rfl)).1
theorem zKY:(T 126).size = 259:=(zan (show T 126 = zJ9 from rfl)).2.1
theorem zKZ:(T 126).bytes = 312:=(zan (show T 126 = zJ9 from rfl)).2.2.1
theorem zK0:(T 126).zero = ([.slice none 0 0,.nilFunc] ++ (List.replicate 256 (.bool false)) ++ [.slice none 0 0]):=(zan (show T 126 = zJ9 from rfl)).2.2.2
theorem zK1:(T 127).k = .struct [(0,22),(1,101),(2,125),(258,22)]:=(zan (show T 127 = zKa from rfl)).1
theorem zK2:(T 127).size = 259:=(zan (show T 127 = zKa from rfl)).2.1
theorem zK3:(T 127).bytes = 312:=(zan (show T 127 = zKa from rfl)).2.2.1
theorem zK4:(T 127).zero = ([.slice none 0 0,.nilFunc] ++ (List.replicate 256 (.bool false)) ++ [.slice none 0 0]):=(zan (show T 127 = zKa from rfl)).2.2.2
theorem zK5:(T 133).k = .sli 4:=(zan (show T 133 = zKb from rfl)).1
theorem zK6:(T 133).size = 1:=(zan (show T 133 = zKb from rfl)).2.1
theorem zK7:(T 133).bytes = 24:=(zan (show T 133 = zKb from rfl)).2.2.1
theorem zK8:(T 133).zero = [.slice none 0 0]:=(zan (show T 133 = zKb from rfl)).2.2.2
theorem zK9:(T 145).k = .int .u32:=(zan (show T 145 = zKc from rfl)).1
theorem zLa:(T 145).size = 1:=(zan (show T 145 = zKc from rfl)).2.1
theorem zLb:(T 145).bytes = 4:=(zan (show T 145 = zKc from rfl)).2.2.1
theorem zLc:(T 145).zero = [.int .u32 0]:=(zan (show T 145 = zKc from rfl)).2.2.2
theorem zLd:(T 146).k = .struct [(0,3),(1,22)]:=(zan (show T 146 = zKd from rfl)).1
theorem zLe:(T 146).size = 2:=(zan (show T 146 = zKd from rfl)).2.1
theorem zLf:(T 146).bytes = 32:=(zan (show T 146 = zKd from rfl)).2.2.1
theorem zLg:(T 146).zero = [.int .i64 0,.slice none 0 0]:=(zan (show T 146 = zKd from rfl)).2.2.2
theorem zLh:(T 147).k = .struct [(0,3),(1,22)]:=(zan (show T 147 = zKe from rfl)).1
theorem zLi:(T 147).size = 2:=(zan (show T 147 = zKe from rfl)).2.1
theorem zLj:(T 147).bytes = 32:=(zan (show T 147 = zKe from rfl)).2.2.1
theorem zLk:(T 147).zero = [.int .i64 0,.slice none 0 0]:=(zan (show T 147 = zKe from rfl)).2.2.2
theorem zLl:(T 153).k = .arr 24 5:=(zan (show T 153 = zKf from rfl)).1
theorem zLm:(T 153).size = 24:=(zan (show T 153 = zKf from rfl)).2.1
theorem zLn:(T 153).bytes = 24:=(zan (show T 153 = zKf from rfl)).2.2.1
theorem zLo:(T 153).zero = ((List.replicate 24 (.int .u8 0))):=(zan (show T 153 = zKf from rfl)).2.2.2
theorem zLp:(T 158).k = .int .i64:=(zan (show T 158 = zKg from rfl)).1
theorem zLq:(T 158).size = 1:=(zan (show T 158 = zKg from rfl)).2.1
theorem zLr:(T 158).bytes = 8:=(zan (show T 158 = zKg from rfl)).2.2.1
theorem zLs:(T 158).zero = [.int .i64 0]:=(zan (show T 158 = zKg from rfl)).2.2.2
theorem zLt:(T 164).k = .arr 20 70:=(zan (show T 164 = zKh from rfl)).1
theorem zLu:(T 164).size = 20:=(zan (show T 164 = zKh from rfl)).2.1
theorem zLv:(T 164).bytes = 160:=(zan (show T 164 = zKh from rfl)).2.2.1
theorem zLw:(T 164).zero = ((List.replicate 20 (.int .u64 0))):=(zan (show T 164 = zKh from rfl)).2.2.2
theorem zLx:(T 165).k = .arr 65 5:=(zan (show T 165 = zKi from rfl)).1
theorem zLy:(T 165).size = 65:=(zan (show T 165 = zKi from rfl)).2.1
theorem zLz:(T 165).bytes = 65:=(zan (show T 165 = zKi from rfl)).2.2.1
theorem zLA:(T 165).zero = ((List.replicate 65 (.int .u8 0))):=(zan (show T 165 = zKi from rfl)).2.2.2
theorem zLB:(T 166).k = .int .u64:=(zan (show T 166 = zKj from rfl)).1
theorem zLC:(T 166).size = 1:=(zan (show T 166 = zKj from rfl)).2.1
theorem zLD:(T 166).bytes = 8:=(zan (show T 166 = zKj from rfl)).2.2.1
theorem zLE:(T 166).zero = [.int .u64 0]:=(zan (show T 166 = zKj from rfl)).2.2.2
theorem zLF:(T 175).k = .arr 32 5:=(zan (show T 175 = zKk from rfl)).1
theorem zLG:(T 175).size = 32:=(zan (show T 175 = zKk from rfl)).2.1
theorem zLH:(T 175).bytes = 32:=(zan (show T 175 = zKk from rfl)).2.2.1
theorem zLI:(T 175).zero = ((List.replicate 32 (.int .u8 0))):=(zan (show T 175 = zKk from rfl)).2.2.2
theorem zLJ:(T 176).k = .arr 64 5:=(zan (show T 176 = zKl from rfl)).1
theorem zLK:(T 176).size = 64:=(zan (show T 176 = zKl from rfl)).2.1
theorem zLL:(T 176).bytes = 64:=(zan (show T 176 = zKl from rfl)).2.2.1
theorem zLM:(T 176).zero = ((List.replicate 64 (.int .u8 0))):=(zan (show T 176 = zKl from rfl)).2.2.2
theorem gT:type_of% (And.intro @T2k <| And.intro @T2s <| And.intro @T2b <| And.intro @T2z <| And.intro @T3k <| And.intro @T3s <| And.intro @T3b <| And.intro @T3z <| And.intro @T4k <| And.intro @T4s <| And.intro @T4b <| And.intro @T4z <| And.intro @T5k <| And.intro @T5s <| And.intro @T5b <| And.intro @T5z <| And.intro @T9k <| And.intro @T9s <| And.intro @T9b <| And.intro @T9z <| And.intro @zNT <| And.intro @zNU <| And.intro @zNV <| And.intro @zNW <| And.intro @zNX <| And.intro @zNY <| And.intro @zNZ <| And.intro @zN0 <| And.intro @zN1 <| And.intro @zN2 <| And.intro @zN3 <| And.intro @zN4 <| And.intro @zN5 <| And.intro @zN6 <| And.intro @zN7 <| And.intro @zN8 <| And.intro @zN9 <| And.intro @zOa <| And.intro @zOb <| And.intro @zOc <| And.intro @zOd <| And.intro @zOe <| And.intro @zOf <| And.intro @zOg <| And.intro @zOh <| And.intro @zOi <| And.intro @zOj <| And.intro @zOk <| And.intro @zNr <| And.intro @zNs <| And.intro @zOl <| And.intro @zOm <| And.intro @zOn <| And.intro @zOo <| And.intro @zOp <| And.intro @zOq <| And.intro @zOr <| And.intro @zOs <| And.intro @zOt <| And.intro @zOu <| And.intro @zNt <| And.intro @zNu <| And.intro @zOv <| And.intro @zOw <| And.intro @zOx <| And.intro @zOy <| And.intro @zOz <| And.intro @zOA <| And.intro @zOB <| And.intro @zOC <| And.intro @zOD <| And.intro @zOE <| And.intro @zOF <| And.intro @zOG <| And.intro @zOH <| And.intro @zOI <| And.intro @zOJ <| And.intro @zOK <| And.intro @zOL <| And.intro @zOM <| And.intro @zON <| And.intro @zOO <| And.intro @zOP <| And.intro @zOQ <| And.intro @zKI <| And.intro @zIq <| And.intro @zKJ <| And.intro @zKK <| And.intro @zKL <| And.intro @zKM <| And.intro @zKN <| And.intro @zKO <| And.intro @zKP <| And.intro @zKQ <| And.intro @zKR <| And.intro @zKS <| And.intro @zKT <| And.intro @zKU <| And.intro @zKV <| And.intro @zKW <| And.intro @zKX <| And.intro @zKY <| And.intro @zKZ <| And.intro @zK0 <| And.intro @zK1 <| And.intro @zK2 <| And.intro @zK3 <| And.intro @zK4 <| And.intro @zK5 <| And.intro @zK6 <| And.intro @zK7 <| And.intro @zK8 <| And.intro @zK9 <| And.intro @zLa <| And.intro @zLb <| And.intro @zLc <| And.intro @zLd <| And.intro @zLe <| And.intro @zLf <| And.intro @zLg <| And.intro @zLh <| And.intro @zLi <| And.intro @zLj <| And.intro @zLk <| And.intro @zLl <| And.intro @zLm <| And.intro @zLn <| And.intro @zLo <| And.intro @zLp <| And.intro @zLq <| And.intro @zLr <| And.intro @zLs <| And.intro @zLt <| And.intro @zLu <| And.intro @zLv <| And.intro @zLw <| And.intro @zLx <| And.intro @zLy <| And.intro @zLz <| And.intro @zLA <| And.intro @zLB <| And.intro @zLC <| And.intro @zLD <| And.intro @zLE <| And.intro @zLF <| And.intro @zLG <| And.intro @zLH <| And.intro @zLI <| And.intro @zLJ <| And.intro @zLK <| And.intro @zLL <| @zLM):=And.intro @T2k <| And.intro @T2s <| And.intro @T2b <| And.intro @T2z <| And.intro @T3k <| And.intro @T3s <| And.intro @T3b <| And.intro @T3z <| And.intro @T4k <| And.intro @T4s <| And.intro @T4b <| And.intro @T4z <| And.intro @T5k <| And.intro @T5s <| And.intro @T5b <| And.intro @T5z <| And.intro @T9k <| And.intro @T9s <| And.intro @T9b <| And.intro @T9z <| And.intro @zNT <| And.intro @zNU <| And.intro @zNV <| And.intro @zNW <| And.intro @zNX <| And.intro @zNY <| And.intro @zNZ <| And.intro @zN0 <| And.intro @zN1 <| And.intro @zN2 <| And.intro @zN3 <| And.intro @zN4 <| And.intro @zN5 <| And.intro @zN6 <| And.intro @zN7 <| And.intro @zN8 <| And.intro @zN9 <| And.intro @zOa <| And.intro @zOb <| And.intro @zOc <| And.intro @zOd <| And.intro @zOe <| And.intro @zOf <| And.intro @zOg <| And.intro @zOh <| And.intro @zOi <| And.intro @zOj <| And.intro @zOk <| And.intro @zNr <| And.intro @zNs <| And.intro @zOl <| And.intro @zOm <| And.intro @zOn <| And.intro @zOo <| And.intro @zOp <| And.intro @zOq <| And.intro @zOr <| And.intro @zOs <| And.intro @zOt <| And.intro @zOu <| And.intro @zNt <| And.intro @zNu <| And.intro @zOv <| And.intro @zOw <| And.intro @zOx <| And.intro @zOy <| And.intro @zOz <| And.intro @zOA <| And.intro @zOB <| And.intro @zOC <| And.intro @zOD <| And.intro @zOE <| And.intro @zOF <| And.intro @zOG <| And.intro @zOH <| And.intro @zOI <| And.intro @zOJ <| And.intro @zOK <| And.intro @zOL <| And.intro @zOM <| And.intro @zON <| And.intro @zOO <| And.intro @zOP <| And.intro @zOQ <| And.intro @zKI <| And.intro @zIq <| And.intro @zKJ <| And.intro @zKK <| And.intro @zKL <| And.intro @zKM <| And.intro @zKN <| And.intro @zKO <| And.intro @zKP <| And.intro @zKQ <| And.intro @zKR <| And.intro @zKS <| And.intro @zKT <| And.intro @zKU <| And.intro @zKV <| And.intro @zKW <| And.intro @zKX <| And.intro @zKY <| And.intro @zKZ <| And.intro @zK0 <| And.intro @zK1 <| And.intro @zK2 <| And.intro @zK3 <| And.intro @zK4 <| And.intro @zK5 <| And.intro @zK6 <| And.intro @zK7 <| And.intro @zK8 <| And.intro @zK9 <| And.intro @zLa <| And.intro @zLb <| And.intro @zLc <| And.intro @zLd <| And.intro @zLe <| And.intro @zLf <| And.intro @zLg <| And.intro @zLh <| And.intro @zLi <| And.intro @zLj <| And.intro @zLk <| And.intro @zLl <| And.intro @zLm <| And.intro @zLn <| And.intro @zLo <| And.intro @zLp <| And.intro @zLq <| And.intro @zLr <| And.intro @zLs <| And.intro @zLt <| And.intro @zLu <| And.intro @zLv <| And.intro @zLw <| And.intro @zLx <| And.intro @zLy <| And.intro @zLz <| And.intro @zLA <| And.intro @zLB <| And.intro @zLC <| And.intro @zLD <| And.intro @zLE <| And.intro @zLF <| And.intro @zLG <| And.intro @zLH <| And.intro @zLI <| And.intro @zLJ <| And.intro @zLK <| And.intro @zLL <| @zLM
theorem zAt:∀ x ∈ zNq,x.2.Fits Tryz.prog x.1:=by
 simp only [zNq,List.forall_mem_cons]
 exact ⟨F2,F3,F4,F5,F9,F12,F13,F21,F22,F23,F24,F27,F31,F44,F65,F70,F76,F77,F86,F87,F96,zPn,zPo,zPp,zPq,zPr,zPs,zPt,zPu,zPv,zPw,zPx,zPy,zPz,zPA,zPB,zPC,zPD,zPE,fun _ h=>absurd h (by simp)⟩
theorem zE2:∀ x ∈ tab,x.2.Fits Tryz.prog x.1:=by
 simp only [tab]
 exact zAt
theorem zzS:Tab.Ok T Tryz.prog:=by
 intro t ht
 unfold T at ht ⊢
 cases h:tab.find? fun x=>x.1 == t with
 | none=>rw [h] at ht;simp at ht
 | some x =>
   have h1:=List.find?_some h
   have h2:=zE2 x (List.mem_of_find?_eq_some h)
   simp at h1
   subst h1
   exact h2
theorem mixed:Tryz.prog.follows .mixedOrders = true:=by kernel_rfl
theorem zNv:Tryz.prog.globalNamed "internal/strconv.uint64pow10" = some 1:=by kernel_rfl
instance held:zae:=⟨{ Φ:=zix Tryz.prog,Gl:=fun b=>b = 1,dr:=False,keep:=fun h hb=>zu0 zNv h hb,low:=fun h hb=>zzg zNv h hb }⟩
theorem xg0 {p q:Prop} (k:q) (h:q->p:=by intro hk;simp -dsimp only [↓gp,gq,simprocAttr,gT];exact hk):p:=h k
theorem xd0 {p:Prop} (h:p:=by simp -dsimp only [↓gp,gq,simprocAttr,gT]):p:=h
theorem xc0 {p:Prop} (h:p:=by and_intros <;> (first | (simp -dsimp only [gr,simprocAttr];first | done | rfl | (simp;done)) | assumption | rfl)):p:=h
theorem xr0 {p:Prop} (h:p:=by simp -dsimp only [gr,simprocAttr]):p:=h
theorem xs0 {p:Prop} (h:p:=by simp -dsimp only [gr,simprocAttr] <;> rfl):p:=h
theorem xg1 {E0 p q:Prop} (e0:E0) (k:q) (h:E0->q->p:=by intro h0 hk;simp -dsimp only [↓gp,gq,simprocAttr,gT,h0];exact hk):p:=h e0 k
theorem xd1 {E0 p:Prop} (e0:E0) (h:E0->p:=by intro h0 ;simp -dsimp only [↓gp,gq,simprocAttr,gT,h0]):p:=h e0
theorem xc1 {E0 p:Prop} (e0:E0) (h:E0->p:=by intro h0 ;and_intros <;> (first | (simp -dsimp only [gr,simprocAttr,h0];first | done | rfl | (simp;done)) | assumption | rfl)):p:=h e0
theorem xr1 {E0 p:Prop} (e0:E0) (h:E0->p:=by intro h0 ;simp -dsimp only [gr,simprocAttr,h0]):p:=h e0
theorem xs1 {E0 p:Prop} (e0:E0) (h:E0->p:=by intro h0 ;simp -dsimp only [gr,simprocAttr,h0] <;> rfl):p:=h e0
theorem xg2 {E0 E1 p q:Prop} (e0:E0) (e1:E1) (k:q) (h:E0->E1->q->p:=by intro h0 h1 hk;simp -dsimp only [↓gp,gq,simprocAttr,gT,h0,h1];exact hk):p:=h e0 e1 k
theorem xd2 {E0 E1 p:Prop} (e0:E0) (e1:E1) (h:E0->E1->p:=by intro h0 h1 ;simp -dsimp only [↓gp,gq,simprocAttr,gT,h0,h1]):p:=h e0 e1
theorem xc2 {E0 E1 p:Prop} (e0:E0) (e1:E1) (h:E0->E1->p:=by intro h0 h1 ;and_intros <;> (first | (simp -dsimp only [gr,simprocAttr,h0,h1];first | done | rfl | (simp;done)) | assumption | rfl)):p:=h e0 e1
theorem xr2 {E0 E1 p:Prop} (e0:E0) (e1:E1) (h:E0->E1->p:=by intro h0 h1 ;simp -dsimp only [gr,simprocAttr,h0,h1]):p:=h e0 e1
theorem xs2 {E0 E1 p:Prop} (e0:E0) (e1:E1) (h:E0->E1->p:=by intro h0 h1 ;simp -dsimp only [gr,simprocAttr,h0,h1] <;> rfl):p:=h e0 e1
theorem xg3 {E0 E1 E2 p q:Prop} (e0:E0) (e1:E1) (e2:E2) (k:q) (h:E0->E1->E2->q->p:=by intro h0 h1 h2 hk;simp -dsimp only [↓gp,gq,simprocAttr,gT,h0,h1,h2];exact hk):p:=h e0 e1 e2 k
theorem xd3 {E0 E1 E2 p:Prop} (e0:E0) (e1:E1) (e2:E2) (h:E0->E1->E2->p:=by intro h0 h1 h2 ;simp -dsimp only [↓gp,gq,simprocAttr,gT,h0,h1,h2]):p:=h e0 e1 e2
theorem xc3 {E0 E1 E2 p:Prop} (e0:E0) (e1:E1) (e2:E2) (h:E0->E1->E2->p:=by intro h0 h1 h2 ;and_intros <;> (first | (simp -dsimp only [gr,simprocAttr,h0,h1,h2];first | done | rfl | (simp;done)) | assumption | rfl)):p:=h e0 e1 e2
theorem xr3 {E0 E1 E2 p:Prop} (e0:E0) (e1:E1) (e2:E2) (h:E0->E1->E2->p:=by intro h0 h1 h2 ;simp -dsimp only [gr,simprocAttr,h0,h1,h2]):p:=h e0 e1 e2
theorem xs3 {E0 E1 E2 p:Prop} (e0:E0) (e1:E1) (e2:E2) (h:E0->E1->E2->p:=by intro h0 h1 h2 ;simp -dsimp only [gr,simprocAttr,h0,h1,h2] <;> rfl):p:=h e0 e1 e2
theorem xg4 {E0 E1 E2 E3 p q:Prop} (e0:E0) (e1:E1) (e2:E2) (e3:E3) (k:q) (h:E0->E1->E2->E3->q->p:=by intro h0 h1 h2 h3 hk;simp -dsimp only [↓gp,gq,simprocAttr,gT,h0,h1,h2,h3];exact hk):p:=h e0 e1 e2 e3 k
theorem xd4 {E0 E1 E2 E3 p:Prop} (e0:E0) (e1:E1) (e2:E2) (e3:E3) (h:E0->E1->E2->E3->p:=by intro h0 h1 h2 h3 ;simp -dsimp only [↓gp,gq,simprocAttr,gT,h0,h1,h2,h3]):p:=h e0 e1 e2 e3
theorem xc4 {E0 E1 E2 E3 p:Prop} (e0:E0) (e1:E1) (e2:E2) (e3:E3) (h:E0->E1->E2->E3->p:=by intro h0 h1 h2 h3 ;and_intros <;> (first | (simp -dsimp only [gr,simprocAttr,h0,h1,h2,h3];first | done | rfl | (simp;done)) | assumption | rfl)):p:=h e0 e1 e2 e3
theorem xr4 {E0 E1 E2 E3 p:Prop} (e0:E0) (e1:E1) (e2:E2) (e3:E3) (h:E0->E1->E2->E3->p:=by intro h0 h1 h2 h3 ;simp -dsimp only [gr,simprocAttr,h0,h1,h2,h3]):p:=h e0 e1 e2 e3
theorem xs4 {E0 E1 E2 E3 p:Prop} (e0:E0) (e1:E1) (e2:E2) (e3:E3) (h:E0->E1->E2->E3->p:=by intro h0 h1 h2 h3 ;simp -dsimp only [gr,simprocAttr,h0,h1,h2,h3] <;> rfl):p:=h e0 e1 e2 e3
theorem xg5 {E0 E1 E2 E3 E4 p q:Prop} (e0:E0) (e1:E1) (e2:E2) (e3:E3) (e4:E4) (k:q) (h:E0->E1->E2->E3->E4->q->p:=by intro h0 h1 h2 h3 h4 hk;simp -dsimp only [↓gp,gq,simprocAttr,gT,h0,h1,h2,h3,h4];exact hk):p:=h e0 e1 e2 e3 e4 k
theorem xd5 {E0 E1 E2 E3 E4 p:Prop} (e0:E0) (e1:E1) (e2:E2) (e3:E3) (e4:E4) (h:E0->E1->E2->E3->E4->p:=by intro h0 h1 h2 h3 h4 ;simp -dsimp only [↓gp,gq,simprocAttr,gT,h0,h1,h2,h3,h4]):p:=h e0 e1 e2 e3 e4
theorem xc5 {E0 E1 E2 E3 E4 p:Prop} (e0:E0) (e1:E1) (e2:E2) (e3:E3) (e4:E4) (h:E0->E1->E2->E3->E4->p:=by intro h0 h1 h2 h3 h4 ;and_intros <;> (first | (simp -dsimp only [gr,simprocAttr,h0,h1,h2,h3,h4];first | done | rfl | (simp;done)) | assumption | rfl)):p:=h e0 e1 e2 e3 e4
theorem xr5 {E0 E1 E2 E3 E4 p:Prop} (e0:E0) (e1:E1) (e2:E2) (e3:E3) (e4:E4) (h:E0->E1->E2->E3->E4->p:=by intro h0 h1 h2 h3 h4 ;simp -dsimp only [gr,simprocAttr,h0,h1,h2,h3,h4]):p:=h e0 e1 e2 e3 e4
theorem xs5 {E0 E1 E2 E3 E4 p:Prop} (e0:E0) (e1:E1) (e2:E2) (e3:E3) (e4:E4) (h:E0->E1->E2->E3->E4->p:=by intro h0 h1 h2 h3 h4 ;simp -dsimp only [gr,simprocAttr,h0,h1,h2,h3,h4] <;> rfl):p:=h e0 e1 e2 e3 e4
theorem xg6 {E0 E1 E2 E3 E4 E5 p q:Prop} (e0:E0) (e1:E1) (e2:E2) (e3:E3) (e4:E4) (e5:E5) (k:q) (h:E0->E1->E2->E3->E4->E5->q->p:=by intro h0 h1 h2 h3 h4 h5 hk;simp -dsimp only [↓gp,gq,simprocAttr,gT,h0,h1,h2,h3,h4,h5];exact hk):p:=h e0 e1 e2 e3 e4 e5 k
theorem xd6 {E0 E1 E2 E3 E4 E5 p:Prop} (e0:E0) (e1:E1) (e2:E2) (e3:E3) (e4:E4) (e5:E5) (h:E0->E1->E2->E3->E4->E5->p:=by intro h0 h1 h2 h3 h4 h5 ;simp -dsimp only [↓gp,gq,simprocAttr,gT,h0,h1,h2,h3,h4,h5]):p:=h e0 e1 e2 e3 e4 e5
theorem xc6 {E0 E1 E2 E3 E4 E5 p:Prop} (e0:E0) (e1:E1) (e2:E2) (e3:E3) (e4:E4) (e5:E5) (h:E0->E1->E2->E3->E4->E5->p:=by intro h0 h1 h2 h3 h4 h5 ;and_intros <;> (first | (simp -dsimp only [gr,simprocAttr,h0,h1,h2,h3,h4,h5];first | done | rfl | (simp;done)) | assumption | rfl)):p:=h e0 e1 e2 e3 e4 e5
theorem xr6 {E0 E1 E2 E3 E4 E5 p:Prop} (e0:E0) (e1:E1) (e2:E2) (e3:E3) (e4:E4) (e5:E5) (h:E0->E1->E2->E3->E4->E5->p:=by intro h0 h1 h2 h3 h4 h5 ;simp -dsimp only [gr,simprocAttr,h0,h1,h2,h3,h4,h5]):p:=h e0 e1 e2 e3 e4 e5
theorem xs6 {E0 E1 E2 E3 E4 E5 p:Prop} (e0:E0) (e1:E1) (e2:E2) (e3:E3) (e4:E4) (e5:E5) (h:E0->E1->E2->E3->E4->E5->p:=by intro h0 h1 h2 h3 h4 h5 ;simp -dsimp only [gr,simprocAttr,h0,h1,h2,h3,h4,h5] <;> rfl):p:=h e0 e1 e2 e3 e4 e5
theorem xg7 {E0 E1 E2 E3 E4 E5 E6 p q:Prop} (e0:E0) (e1:E1) (e2:E2) (e3:E3) (e4:E4) (e5:E5) (e6:E6) (k:q) (h:E0->E1->E2->E3->E4->E5->E6->q->p:=by intro h0 h1 h2 h3 h4 h5 h6 hk;simp -dsimp only [↓gp,gq,simprocAttr,gT,h0,h1,h2,h3,h4,h5,h6];exact hk):p:=h e0 e1 e2 e3 e4 e5 e6 k
theorem xd7 {E0 E1 E2 E3 E4 E5 E6 p:Prop} (e0:E0) (e1:E1) (e2:E2) (e3:E3) (e4:E4) (e5:E5) (e6:E6) (h:E0->E1->E2->E3->E4->E5->E6->p:=by intro h0 h1 h2 h3 h4 h5 h6 ;simp -dsimp only [↓gp,gq,simprocAttr,gT,h0,h1,h2,h3,h4,h5,h6]):p:=h e0 e1 e2 e3 e4 e5 e6
theorem xc7 {E0 E1 E2 E3 E4 E5 E6 p:Prop} (e0:E0) (e1:E1) (e2:E2) (e3:E3) (e4:E4) (e5:E5) (e6:E6) (h:E0->E1->E2->E3->E4->E5->E6->p:=by intro h0 h1 h2 h3 h4 h5 h6 ;and_intros <;> (first | (simp -dsimp only [gr,simprocAttr,h0,h1,h2,h3,h4,h5,h6];first | done | rfl | (simp;done)) | assumption | rfl)):p:=h e0 e1 e2 e3 e4 e5 e6
theorem xr7 {E0 E1 E2 E3 E4 E5 E6 p:Prop} (e0:E0) (e1:E1) (e2:E2) (e3:E3) (e4:E4) (e5:E5) (e6:E6) (h:E0->E1->E2->E3->E4->E5->E6->p:=by intro h0 h1 h2 h3 h4 h5 h6 ;simp -dsimp only [gr,simprocAttr,h0,h1,h2,h3,h4,h5,h6]):p:=h e0 e1 e2 e3 e4 e5 e6
theorem xs7 {E0 E1 E2 E3 E4 E5 E6 p:Prop} (e0:E0) (e1:E1) (e2:E2) (e3:E3) (e4:E4) (e5:E5) (e6:E6) (h:E0->E1->E2->E3->E4->E5->E6->p:=by intro h0 h1 h2 h3 h4 h5 h6 ;simp -dsimp only [gr,simprocAttr,h0,h1,h2,h3,h4,h5,h6] <;> rfl):p:=h e0 e1 e2 e3 e4 e5 e6
theorem xg8 {E0 E1 E2 E3 E4 E5 E6 E7 p q:Prop} (e0:E0) (e1:E1) (e2:E2) (e3:E3) (e4:E4) (e5:E5) (e6:E6) (e7:E7) (k:q) (h:E0->E1->E2->E3->E4->E5->E6->E7->q->p:=by intro h0 h1 h2 h3 h4 h5 h6 h7 hk;simp -dsimp only [↓gp,gq,simprocAttr,gT,h0,h1,h2,h3,h4,h5,h6,h7];exact hk):p:=h e0 e1 e2 e3 e4 e5 e6 e7 k
theorem xd8 {E0 E1 E2 E3 E4 E5 E6 E7 p:Prop} (e0:E0) (e1:E1) (e2:E2) (e3:E3) (e4:E4) (e5:E5) (e6:E6) (e7:E7) (h:E0->E1->E2->E3->E4->E5->E6->E7->p:=by intro h0 h1 h2 h3 h4 h5 h6 h7 ;simp -dsimp only [↓gp,gq,simprocAttr,gT,h0,h1,h2,h3,h4,h5,h6,h7]):p:=h e0 e1 e2 e3 e4 e5 e6 e7
theorem xc8 {E0 E1 E2 E3 E4 E5 E6 E7 p:Prop} (e0:E0) (e1:E1) (e2:E2) (e3:E3) (e4:E4) (e5:E5) (e6:E6) (e7:E7) (h:E0->E1->E2->E3->E4->E5->E6->E7->p:=by intro h0 h1 h2 h3 h4 h5 h6 h7 ;and_intros <;> (first | (simp -dsimp only [gr,simprocAttr,h0,h1,h2,h3,h4,h5,h6,h7];first | done | rfl | (simp;done)) | assumption | rfl)):p:=h e0 e1 e2 e3 e4 e5 e6 e7
theorem xr8 {E0 E1 E2 E3 E4 E5 E6 E7 p:Prop} (e0:E0) (e1:E1) (e2:E2) (e3:E3) (e4:E4) (e5:E5) (e6:E6) (e7:E7) (h:E0->E1->E2->E3->E4->E5->E6->E7->p:=by intro h0 h1 h2 h3 h4 h5 h6 h7 ;simp -dsimp only [gr,simprocAttr,h0,h1,h2,h3,h4,h5,h6,h7]):p:=h e0 e1 e2 e3 e4 e5 e6 e7
theorem xs8 {E0 E1 E2 E3 E4 E5 E6 E7 p:Prop} (e0:E0) (e1:E1) (e2:E2) (e3:E3) (e4:E4) (e5:E5) (e6:E6) (e7:E7) (h:E0->E1->E2->E3->E4->E5->E6->E7->p:=by intro h0 h1 h2 h3 h4 h5 h6 h7 ;simp -dsimp only [gr,simprocAttr,h0,h1,h2,h3,h4,h5,h6,h7] <;> rfl):p:=h e0 e1 e2 e3 e4 e5 e6 e7
theorem xac {f:FuncId} {fn:Func} {c:Code} {args:List PV} {rv:RV} (rs:List ResultVar) (hf:Tryz.prog.funcs[f]? = some fn) (h:zEE args->cwp Tryz.prog T c (zMj T rs rv) (St.init args)) (h1:(fn.name == "runtime.NumGoroutine") = false:=by rfl) (h2:fn.body = some c:=by rfl) (h3:fn.results.toList = rs:=by rfl) (h4:(fits fn.ntmps c && decide (args.length <= fn.ntmps) && decide (fn.results.toList.length <= 4)) = true:=by kernel_rfl):AC Tryz.prog f args rv:=AC.go zzS mixed hf h1 h2 h3 h4 h
theorem kr {p:Prop} (h:p:=by kernel_rfl):p:=h
theorem xag {f:FuncId} {fn:Func} {c:Code} {args:List PV} {R0:Nat->Row} {post:(Nat->Row)->PV->Prop} (rs:List ResultVar) (hf:Tryz.prog.funcs[f]? = some fn) (h:zEE args->(∀ k,zjR (R0 k).kind)->∀ s:St,(∀ i,s.sl i = args.getD i .junk)->(∀ k,s.rw k = R0 k)->cwp Tryz.prog T c (zHA T rs post) s) (h1:(fn.name == "runtime.NumGoroutine") = false:=by rfl) (h2:fn.body = some c:=by rfl) (h3:fn.results.toList = rs:=by rfl) (h4:(fits fn.ntmps c && decide (args.length <= fn.ntmps) && decide (fn.results.toList.length <= 4)) = true:=by kernel_rfl):AG Tryz.prog f args R0 post:=AG.go zzS mixed hf h1 h2 h3 h4 h
end Go.Proofs.YtkledeboboplmaaGreatDoor

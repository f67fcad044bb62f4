/- DERIVED by an AI agent, by a program of its own (mktypes.py). The types of the translation, as the abstract layer reads them. -/
import Derived.Test.YtkledeboboplmaaGreatRows
import Derived.Test.YtkledeboboplmaaGreatA12
namespace Go.Proofs.YtkledeboboplmaaGreat
open Go.Abs
set_option linter.unusedVariables false
theorem zaM {t:TypeId} {d:TD} {z:Value} (h:d.k.fits Tryz.prog t) (hi:(Tryz.prog.info? t).map (fun i=>(i.zero,i.size,i.bytes)) = some (some z,d.size,d.bytes)) (hz:z.cells.toList = d.zero) (hl:d.zero.length = d.size) (ho:d.k.agg = false→d.size = 1∧∀ z,d.zero = [z]→z.oneCell' = true) (hq:d.k.agg = true ∨ d.zero = [z]):d.Fits Tryz.prog t:=by
 cases he:Tryz.prog.info? t with
 | none=>rw [he] at hi;simp at hi
 | some i =>
   rw [he] at hi
   simp at hi
   exact ⟨h,⟨i,z,he,hi.2.1,hi.2.2,hi.1,hz⟩,hl,ho,hq.imp id fun e=>⟨i,z,he,hi.1,e⟩⟩
def D2:TD:=⟨.int .i64,1,8,[.int .i64 0]⟩
theorem F2:D2.Fits Tryz.prog 2:=zaM (z:=.int .i64 0) (show Tryz.prog.underlying 2 = some (TypeDesc.int .i64) by kernel_rfl) (by kernel_rfl) rfl rfl (fun _=>⟨rfl,fun z h=>by cases h;rfl⟩) (.inr rfl)
def D3:TD:=⟨.int .i64,1,8,[.int .i64 0]⟩
theorem F3:D3.Fits Tryz.prog 3:=zaM (z:=.int .i64 0) (show Tryz.prog.underlying 3 = some (TypeDesc.int .i64) by kernel_rfl) (by kernel_rfl) rfl rfl (fun _=>⟨rfl,fun z h=>by cases h;rfl⟩) (.inr rfl)
def D4:TD:=⟨.bool,1,1,[.bool false]⟩
theorem F4:D4.Fits Tryz.prog 4:=zaM (z:=.bool false) (show Tryz.prog.underlying 4 = some (TypeDesc.bool) by kernel_rfl) (by kernel_rfl) rfl rfl (fun _=>⟨rfl,fun z h=>by cases h;rfl⟩) (.inr rfl)
def D5:TD:=⟨.int .u8,1,1,[.int .u8 0]⟩
theorem F5:D5.Fits Tryz.prog 5:=zaM (z:=.int .u8 0) (show Tryz.prog.underlying 5 = some (TypeDesc.int .u8) by kernel_rfl) (by kernel_rfl) rfl rfl (fun _=>⟨rfl,fun z h=>by cases h;rfl⟩) (.inr rfl)
def D9:TD:=⟨.str,1,16,[.string ⟨#[]⟩]⟩
theorem F9:D9.Fits Tryz.prog 9:=zaM (z:=.string ⟨#[]⟩) (show Tryz.prog.underlying 9 = some (TypeDesc.string) by kernel_rfl) (by kernel_rfl) rfl rfl (fun _=>⟨rfl,fun z h=>by cases h;rfl⟩) (.inr rfl)
def D12:TD:=⟨.int .u64,1,8,[.int .u64 0]⟩
theorem F12:D12.Fits Tryz.prog 12:=zaM (z:=.int .u64 0) (show Tryz.prog.underlying 12 = some (TypeDesc.int .u64) by kernel_rfl) (by kernel_rfl) rfl rfl (fun _=>⟨rfl,fun z h=>by cases h;rfl⟩) (.inr rfl)
def D13:TD:=⟨.struct [(0,9),(1,12)],2,24,[.string ⟨#[]⟩,.int .u64 0]⟩
theorem F13:D13.Fits Tryz.prog 13:=zaM (z:=.agg #[.string ⟨#[]⟩,.int .u64 0]) ⟨_,Tryz.underlying13,rfl⟩ (by kernel_rfl) rfl rfl (fun h=>by cases h) (.inl rfl)
def D21:TD:=⟨.int .i32,1,4,[.int .i32 0]⟩
theorem F21:D21.Fits Tryz.prog 21:=zaM (z:=.int .i32 0) (show Tryz.prog.underlying 21 = some (TypeDesc.int .i32) by kernel_rfl) (by kernel_rfl) rfl rfl (fun _=>⟨rfl,fun z h=>by cases h;rfl⟩) (.inr rfl)
def D22:TD:=⟨.sli 3,1,24,[.slice none 0 0]⟩
theorem F22:D22.Fits Tryz.prog 22:=zaM (z:=.slice none 0 0) (show Tryz.prog.underlying 22 = some (TypeDesc.slice 3) by kernel_rfl) (by kernel_rfl) rfl rfl (fun _=>⟨rfl,fun z h=>by cases h;rfl⟩) (.inr rfl)
def D23:TD:=⟨.struct [(0,3),(1,22)],2,32,[.int .i64 0,.slice none 0 0]⟩
theorem F23:D23.Fits Tryz.prog 23:=zaM (z:=.agg #[.int .i64 0,.slice none 0 0]) ⟨_,Tryz.underlying23,rfl⟩ (by kernel_rfl) rfl rfl (fun h=>by cases h) (.inl rfl)
def D24:TD:=⟨.struct [(0,3),(1,22)],2,32,[.int .i64 0,.slice none 0 0]⟩
theorem F24:D24.Fits Tryz.prog 24:=zaM (z:=.agg #[.int .i64 0,.slice none 0 0]) ⟨_,Tryz.underlying24,rfl⟩ (by kernel_rfl) rfl rfl (fun h=>by cases h) (.inl rfl)
def D27:TD:=⟨.struct [(0,3),(1,22)],2,32,[.int .i64 0,.slice none 0 0]⟩
theorem F27:D27.Fits Tryz.prog 27:=zaM (z:=.agg #[.int .i64 0,.slice none 0 0]) ⟨_,Tryz.underlying27,rfl⟩ (by kernel_rfl) rfl rfl (fun h=>by cases h) (.inl rfl)
def D33:TD:=⟨.sli 9,1,24,[.slice none 0 0]⟩
theorem F33:D33.Fits Tryz.prog 33:=zaM (z:=.slice none 0 0) (show Tryz.prog.underlying 33 = some (TypeDesc.slice 9) by kernel_rfl) (by kernel_rfl) rfl rfl (fun _=>⟨rfl,fun z h=>by cases h;rfl⟩) (.inr rfl)
def D49:TD:=⟨.sli 5,1,24,[.slice none 0 0]⟩
theorem F49:D49.Fits Tryz.prog 49:=zaM (z:=.slice none 0 0) (show Tryz.prog.underlying 49 = some (TypeDesc.slice 5) by kernel_rfl) (by kernel_rfl) rfl rfl (fun _=>⟨rfl,fun z h=>by cases h;rfl⟩) (.inr rfl)
def D51:TD:=⟨.map 56 3,1,8,[.map none]⟩
theorem F51:D51.Fits Tryz.prog 51:=zaM (z:=.map none) (show Tryz.prog.underlying 51 = some (TypeDesc.map 56 3) by kernel_rfl) (by kernel_rfl) rfl rfl (fun _=>⟨rfl,fun z h=>by cases h;rfl⟩) (.inr rfl)
def D52:TD:=⟨.struct [(0,51)],1,8,[.map none]⟩
theorem F52:D52.Fits Tryz.prog 52:=zaM (z:=.agg #[.map none]) ⟨_,Tryz.underlying52,rfl⟩ (by kernel_rfl) rfl rfl (fun h=>by cases h) (.inl rfl)
def D53:TD:=⟨.struct [(0,51)],1,8,[.map none]⟩
theorem F53:D53.Fits Tryz.prog 53:=zaM (z:=.agg #[.map none]) ⟨_,Tryz.underlying53,rfl⟩ (by kernel_rfl) rfl rfl (fun h=>by cases h) (.inl rfl)
def D56:TD:=⟨.int .u64,1,8,[.int .u64 0]⟩
theorem F56:D56.Fits Tryz.prog 56:=zaM (z:=.int .u64 0) (show Tryz.prog.underlying 56 = some (TypeDesc.int .u64) by kernel_rfl) (by kernel_rfl) rfl rfl (fun _=>⟨rfl,fun z h=>by cases h;rfl⟩) (.inr rfl)
def D61:TD:=⟨.struct [(0,60),(1,49)],2,32,[.pointer none,.slice none 0 0]⟩
theorem F61:D61.Fits Tryz.prog 61:=zaM (z:=.agg #[.pointer none,.slice none 0 0]) ⟨_,Tryz.underlying61,rfl⟩ (by kernel_rfl) rfl rfl (fun h=>by cases h) (.inl rfl)
def D62:TD:=⟨.struct [(0,60),(1,49)],2,32,[.pointer none,.slice none 0 0]⟩
theorem F62:D62.Fits Tryz.prog 62:=zaM (z:=.agg #[.pointer none,.slice none 0 0]) ⟨_,Tryz.underlying62,rfl⟩ (by kernel_rfl) rfl rfl (fun h=>by cases h) (.inl rfl)
def D69:TD:=⟨.int .u64,1,8,[.int .u64 0]⟩
theorem F69:D69.Fits Tryz.prog 69:=zaM (z:=.int .u64 0) (show Tryz.prog.underlying 69 = some (TypeDesc.int .u64) by kernel_rfl) (by kernel_rfl) rfl rfl (fun _=>⟨rfl,fun z h=>by cases h;rfl⟩) (.inr rfl)
def D70:TD:=⟨.other,1,8,[.nilFunc]⟩
theorem F70:D70.Fits Tryz.prog 70:=zaM (z:=.nilFunc) ⟨_,Tryz.underlying70,trivial⟩ (by kernel_rfl) rfl rfl (fun _=>⟨rfl,fun z h=>by cases h;rfl⟩) (.inr rfl)
def D86:TD:=⟨.sli 22,1,24,[.slice none 0 0]⟩
theorem F86:D86.Fits Tryz.prog 86:=zaM (z:=.slice none 0 0) (show Tryz.prog.underlying 86 = some (TypeDesc.slice 22) by kernel_rfl) (by kernel_rfl) rfl rfl (fun _=>⟨rfl,fun z h=>by cases h;rfl⟩) (.inr rfl)
def D92:TD:=⟨.int .u32,1,4,[.int .u32 0]⟩
theorem F92:D92.Fits Tryz.prog 92:=zaM (z:=.int .u32 0) (show Tryz.prog.underlying 92 = some (TypeDesc.int .u32) by kernel_rfl) (by kernel_rfl) rfl rfl (fun _=>⟨rfl,fun z h=>by cases h;rfl⟩) (.inr rfl)
def D94:TD:=⟨.arr 256 4,256,256,((List.replicate 256 (.bool false)))⟩
theorem F94:D94.Fits Tryz.prog 94:=zaM (z:=.agg ⟨((List.replicate 256 (.bool false)))⟩) (show Tryz.prog.underlying 94 = some (TypeDesc.array 256 4) by kernel_rfl) (by kernel_rfl) (by kernel_rfl) (by kernel_rfl) (fun h=>by cases h) (.inl rfl)
def D95:TD:=⟨.struct [(0,22),(1,70),(2,94),(258,22)],259,312,([.slice none 0 0,.nilFunc] ++ (List.replicate 256 (.bool false)) ++ [.slice none 0 0])⟩
theorem F95:D95.Fits Tryz.prog 95:=zaM (z:=.agg ⟨([.slice none 0 0,.nilFunc] ++ (List.replicate 256 (.bool false)) ++ [.slice none 0 0])⟩) ⟨_,Tryz.underlying95,rfl⟩ (by kernel_rfl) (by kernel_rfl) (by kernel_rfl) (fun h=>by cases h) (.inl rfl)
def D96:TD:=⟨.struct [(0,22),(1,70),(2,94),(258,22)],259,312,([.slice none 0 0,.nilFunc] ++ (List.replicate 256 (.bool false)) ++ [.slice none 0 0])⟩
theorem F96:D96.Fits Tryz.prog 96:=zaM (z:=.agg ⟨([.slice none 0 0,.nilFunc] ++ (List.replicate 256 (.bool false)) ++ [.slice none 0 0])⟩) ⟨_,Tryz.underlying96,rfl⟩ (by kernel_rfl) (by kernel_rfl) (by kernel_rfl) (fun h=>by cases h) (.inl rfl)
def zFb:TD:=⟨.struct [(0,3),(1,22)],2,32,[.int .i64 0,.slice none 0 0]⟩
theorem zJL:zFb.Fits Tryz.prog 100:=zaM (z:=.agg #[.int .i64 0,.slice none 0 0]) ⟨_,Tryz.underlying100,rfl⟩ (by kernel_rfl) rfl rfl (fun h=>by cases h) (.inl rfl)
def zFc:TD:=⟨.struct [(0,3),(1,22)],2,32,[.int .i64 0,.slice none 0 0]⟩
theorem zJM:zFc.Fits Tryz.prog 101:=zaM (z:=.agg #[.int .i64 0,.slice none 0 0]) ⟨_,Tryz.underlying101,rfl⟩ (by kernel_rfl) rfl rfl (fun h=>by cases h) (.inl rfl)
def zFd:TD:=⟨.sli 4,1,24,[.slice none 0 0]⟩
theorem zJN:zFd.Fits Tryz.prog 109:=zaM (z:=.slice none 0 0) (show Tryz.prog.underlying 109 = some (TypeDesc.slice 4) by kernel_rfl) (by kernel_rfl) rfl rfl (fun _=>⟨rfl,fun z h=>by cases h;rfl⟩) (.inr rfl)
def zFe:TD:=⟨.int .i64,1,8,[.int .i64 0]⟩
theorem zJO:zFe.Fits Tryz.prog 119:=zaM (z:=.int .i64 0) (show Tryz.prog.underlying 119 = some (TypeDesc.int .i64) by kernel_rfl) (by kernel_rfl) rfl rfl (fun _=>⟨rfl,fun z h=>by cases h;rfl⟩) (.inr rfl)
def zFf:TD:=⟨.int .u64,1,8,[.int .u64 0]⟩
theorem zJP:zFf.Fits Tryz.prog 128:=zaM (z:=.int .u64 0) (show Tryz.prog.underlying 128 = some (TypeDesc.int .u64) by kernel_rfl) (by kernel_rfl) rfl rfl (fun _=>⟨rfl,fun z h=>by cases h;rfl⟩) (.inr rfl)
def zHt:List (Nat × TD):=[(2,D2),(3,D3),(4,D4),(5,D5),(9,D9),(12,D12),(13,D13),(21,D21),(22,D22),(23,D23),(24,D24),(27,D27),(33,D33),(49,D49),(51,D51),(52,D52),(53,D53),(56,D56),(61,D61),(62,D62),(69,D69),(70,D70),(86,D86),(92,D92),(94,D94),(95,D95),(96,D96),(100,zFb),(101,zFc),(109,zFd),(119,zFe),(128,zFf)]
def tab:List (Nat × TD):=zHt
def T:Tab:=fun t=>((tab.find? fun x=>x.1 == t).map (·.2)).getD ⟨.other,0,0,[]⟩
theorem zaq {a b:TD} (h:a = b):a.k = b.k∧a.size = b.size∧a.bytes = b.bytes∧a.zero = b.zero:=by subst h;exact ⟨rfl,rfl,rfl,rfl⟩
theorem T2k:(T 2).k = .int .i64:=(zaq (show T 2 = D2 from rfl)).1
theorem T2s:(T 2).size = 1:=(zaq (show T 2 = D2 from rfl)).2.1
theorem T2b:(T 2).bytes = 8:=(zaq (show T 2 = D2 from rfl)).2.2.1
theorem T2z:(T 2).zero = [.int .i64 0]:=(zaq (show T 2 = D2 from rfl)).2.2.2
theorem T3k:(T 3).k = .int .i64:=(zaq (show T 3 = D3 from rfl)).1
theorem T3s:(T 3).size = 1:=(zaq (show T 3 = D3 from rfl)).2.1
theorem T3b:(T 3).bytes = 8:=(zaq (show T 3 = D3 from rfl)).2.2.1
theorem T3z:(T 3).zero = [.int .i64 0]:=(zaq (show T 3 = D3 from rfl)).2.2.2
theorem T4k:(T 4).k = .bool:=(zaq (show T 4 = D4 from rfl)).1
theorem T4s:(T 4).size = 1:=(zaq (show T 4 = D4 from rfl)).2.1
theorem T4b:(T 4).bytes = 1:=(zaq (show T 4 = D4 from rfl)).2.2.1
theorem T4z:(T 4).zero = [.bool false]:=(zaq (show T 4 = D4 from rfl)).2.2.2
theorem T5k:(T 5).k = .int .u8:=(zaq (show T 5 = D5 from rfl)).1
theorem T5s:(T 5).size = 1:=(zaq (show T 5 = D5 from rfl)).2.1
theorem T5b:(T 5).bytes = 1:=(zaq (show T 5 = D5 from rfl)).2.2.1
theorem T5z:(T 5).zero = [.int .u8 0]:=(zaq (show T 5 = D5 from rfl)).2.2.2
theorem T9k:(T 9).k = .str:=(zaq (show T 9 = D9 from rfl)).1
theorem T9s:(T 9).size = 1:=(zaq (show T 9 = D9 from rfl)).2.1
theorem T9b:(T 9).bytes = 16:=(zaq (show T 9 = D9 from rfl)).2.2.1
theorem T9z:(T 9).zero = [.string ⟨#[]⟩]:=(zaq (show T 9 = D9 from rfl)).2.2.2
theorem zH2:(T 12).k = .int .u64:=(zaq (show T 12 = D12 from rfl)).1
theorem zH3:(T 12).size = 1:=(zaq (show T 12 = D12 from rfl)).2.1
theorem zH4:(T 12).bytes = 8:=(zaq (show T 12 = D12 from rfl)).2.2.1
theorem zH5:(T 12).zero = [.int .u64 0]:=(zaq (show T 12 = D12 from rfl)).2.2.2
theorem zH6:(T 13).k = .struct [(0,9),(1,12)]:=(zaq (show T 13 = D13 from rfl)).1
theorem zH7:(T 13).size = 2:=(zaq (show T 13 = D13 from rfl)).2.1
theorem zH8:(T 13).bytes = 24:=(zaq (show T 13 = D13 from rfl)).2.2.1
theorem zH9:(T 13).zero = [.string ⟨#[]⟩,.int .u64 0]:=(zaq (show T 13 = D13 from rfl)).2.2.2
theorem zIa:(T 21).k = .int .i32:=(zaq (show T 21 = D21 from rfl)).1
theorem zIb:(T 21).size = 1:=(zaq (show T 21 = D21 from rfl)).2.1
theorem zIc:(T 21).bytes = 4:=(zaq (show T 21 = D21 from rfl)).2.2.1
theorem zId:(T 21).zero = [.int .i32 0]:=(zaq (show T 21 = D21 from rfl)).2.2.2
theorem zIe:(T 22).k = .sli 3:=(zaq (show T 22 = D22 from rfl)).1
theorem zIf:(T 22).size = 1:=(zaq (show T 22 = D22 from rfl)).2.1
theorem zIg:(T 22).bytes = 24:=(zaq (show T 22 = D22 from rfl)).2.2.1
theorem zIh:(T 22).zero = [.slice none 0 0]:=(zaq (show T 22 = D22 from rfl)).2.2.2
theorem zIi:(T 23).k = .struct [(0,3),(1,22)]:=(zaq (show T 23 = D23 from rfl)).1
theorem zIj:(T 23).size = 2:=(zaq (show T 23 = D23 from rfl)).2.1
theorem zIk:(T 23).bytes = 32:=(zaq (show T 23 = D23 from rfl)).2.2.1
theorem zIl:(T 23).zero = [.int .i64 0,.slice none 0 0]:=(zaq (show T 23 = D23 from rfl)).2.2.2
theorem zIm:(T 24).k = .struct [(0,3),(1,22)]:=(zaq (show T 24 = D24 from rfl)).1
theorem zIn:(T 24).size = 2:=(zaq (show T 24 = D24 from rfl)).2.1
theorem zIo:(T 24).bytes = 32:=(zaq (show T 24 = D24 from rfl)).2.2.1
theorem zIp:(T 24).zero = [.int .i64 0,.slice none 0 0]:=(zaq (show T 24 = D24 from rfl)).2.2.2
theorem zIq:(T 27).k = .struct [(0,3),(1,22)]:=(zaq (show T 27 = D27 from rfl)).1
theorem zIr:(T 27).size = 2:=(zaq (show T 27 = D27 from rfl)).2.1
theorem zIs:(T 27).bytes = 32:=(zaq (show T 27 = D27 from rfl)).2.2.1
theorem zIt:(T 27).zero = [.int .i64 0,.slice none 0 0]:=(zaq (show T 27 = D27 from rfl)).2.2.2
theorem zIu:(T 33).k = .sli 9:=(zaq (show T 33 = D33 from rfl)).1
theorem zIv:(T 33).size = 1:=(zaq (show T 33 = D33 from rfl)).2.1
theorem zIw:(T 33).bytes = 24:=(zaq (show T 33 = D33 from rfl)).2.2.1
theorem zIx:(T 33).zero = [.slice none 0 0]:=(zaq (show T 33 = D33 from rfl)).2.2.2
theorem zHu:(T 49).k = .sli 5:=(zaq (show T 49 = D49 from rfl)).1
theorem zHv:(T 49).size = 1:=(zaq (show T 49 = D49 from rfl)).2.1
theorem zIy:(T 49).bytes = 24:=(zaq (show T 49 = D49 from rfl)).2.2.1
theorem zIz:(T 49).zero = [.slice none 0 0]:=(zaq (show T 49 = D49 from rfl)).2.2.2
theorem zIA:(T 51).k = .map 56 3:=(zaq (show T 51 = D51 from rfl)).1
theorem zHw:(T 51).size = 1:=(zaq (show T 51 = D51 from rfl)).2.1
theorem zIB:(T 51).bytes = 8:=(zaq (show T 51 = D51 from rfl)).2.2.1
theorem zIC:(T 51).zero = [.map none]:=(zaq (show T 51 = D51 from rfl)).2.2.2
theorem zID:(T 52).k = .struct [(0,51)]:=(zaq (show T 52 = D52 from rfl)).1
theorem zIE:(T 52).size = 1:=(zaq (show T 52 = D52 from rfl)).2.1
theorem zIF:(T 52).bytes = 8:=(zaq (show T 52 = D52 from rfl)).2.2.1
theorem zIG:(T 52).zero = [.map none]:=(zaq (show T 52 = D52 from rfl)).2.2.2
theorem zIH:(T 53).k = .struct [(0,51)]:=(zaq (show T 53 = D53 from rfl)).1
theorem zII:(T 53).size = 1:=(zaq (show T 53 = D53 from rfl)).2.1
theorem zIJ:(T 53).bytes = 8:=(zaq (show T 53 = D53 from rfl)).2.2.1
theorem zIK:(T 53).zero = [.map none]:=(zaq (show T 53 = D53 from rfl)).2.2.2
theorem zHx:(T 56).k = .int .u64:=(zaq (show T 56 = D56 from rfl)).1
theorem zHy:(T 56).size = 1:=(zaq (show T 56 = D56 from rfl)).2.1
theorem zIL:(T 56).bytes = 8:=(zaq (show T 56 = D56 from rfl)).2.2.1
theorem zIM:(T 56).zero = [.int .u64 0]:=(zaq (show T 56 = D56 from rfl)).2.2.2
theorem zIN:(T 61).k = .struct [(0,60),(1,49)]:=(zaq (show T 61 = D61 from rfl)).1
theorem zIO:(T 61).size = 2:=(zaq (show T 61 = D61 from rfl)).2.1
theorem zIP:(T 61).bytes = 32:=(zaq (show T 61 = D61 from rfl)).2.2.1
theorem zIQ:(T 61).zero = [.pointer none,.slice none 0 0]:=(zaq (show T 61 = D61 from rfl)).2.2.2
theorem zIR:(T 62).k = .struct [(0,60),(1,49)]:=(zaq (show T 62 = D62 from rfl)).1
theorem zIS:(T 62).size = 2:=(zaq (show T 62 = D62 from rfl)).2.1
theorem zIT:(T 62).bytes = 32:=(zaq (show T 62 = D62 from rfl)).2.2.1
theorem zIU:(T 62).zero = [.pointer none,.slice none 0 0]:=(zaq (show T 62 = D62 from rfl)).2.2.2
theorem zIV:(T 69).k = .int .u64:=(zaq (show T 69 = D69 from rfl)).1
theorem zIW:(T 69).size = 1:=(zaq (show T 69 = D69 from rfl)).2.1
theorem zIX:(T 69).bytes = 8:=(zaq (show T 69 = D69 from rfl)).2.2.1
theorem zIY:(T 69).zero = [.int .u64 0]:=(zaq (show T 69 = D69 from rfl)).2.2.2
theorem zJT:(T 70).k = .other:=(zaq (show T 70 = D70 from rfl)).1
theorem zJU:(T 70).size = 1:=(zaq (show T 70 = D70 from rfl)).2.1
theorem zJV:(T 70).bytes = 8:=(zaq (show T 70 = D70 from rfl)).2.2.1
theorem zJW:(T 70).zero = [.nilFunc]:=(zaq (show T 70 = D70 from rfl)).2.2.2
theorem zIZ:(T 86).k = .sli 22:=(zaq (show T 86 = D86 from rfl)).1
theorem zI0:(T 86).size = 1:=(zaq (show T 86 = D86 from rfl)).2.1
theorem zI1:(T 86).bytes = 24:=(zaq (show T 86 = D86 from rfl)).2.2.1
theorem zI2:(T 86).zero = [.slice none 0 0]:=(zaq (show T 86 = D86 from rfl)).2.2.2
theorem zI3:(T 92).k = .int .u32:=(zaq (show T 92 = D92 from rfl)).1
theorem zI4:(T 92).size = 1:=(zaq (show T 92 = D92 from rfl)).2.1
theorem zI5:(T 92).bytes = 4:=(zaq (show T 92 = D92 from rfl)).2.2.1
theorem zI6:(T 92).zero = [.int .u32 0]:=(zaq (show T 92 = D92 from rfl)).2.2.2
theorem zI7:(T 94).k = .arr 256 4:=(zaq (show T 94 = D94 from rfl)).1
theorem zI8:(T 94).size = 256:=(zaq (show T 94 = D94 from rfl)).2.1
theorem zI9:(T 94).bytes = 256:=(zaq (show T 94 = D94 from rfl)).2.2.1
theorem zJa:(T 94).zero = ((List.replicate 256 (.bool false))):=(zaq (show T 94 = D94 from rfl)).2.2.2
theorem zJb:(T 95).k = .struct [(0,22),(1,70),(2,94),(258,22)]:=(zaq (show T 95 = D95 from rfl)).1
theorem zJc:(T 95).size = 259:=(zaq (show T 95 = D95 from rfl)).2.1
theorem zJd:(T 95).bytes = 312:=(zaq (show T 95 = D95 from rfl)).2.2.1
theorem zJe:(T 95).zero = ([.slice none 0 0,.nilFunc] ++ (List.replicate 256 (.bool false)) ++ [.slice none 0 0]):=(zaq (show T 95 = D95 from rfl)).2.2.2
theorem zJf:(T 96).k = .struct [(0,22),(1,70),(2,94),(258,22)]:=(zaq (show T 96 = D96 from rfl)).1
theorem zJg:(T 96).size = 259:=(zaq (show T 96 = D96 from rfl)).2.1
theorem zJh:(T 96).bytes = 312:=(zaq (show T 96 = D96 from rfl)).2.2.1
theorem zJi:(T 96).zero = ([.slice none 0 0,.nilFunc] ++ (List.replicate 256 (.bool false)) ++ [.slice none 0 0]):=(zaq (show T 96 = D96 from rfl)).2.2.2
theorem zFu:(T 100).k = .struct [(0,3),(1,22)]:=(zaq (show T 100 = zFb from rfl)).1
theorem zFv:(T 100).size = 2:=(zaq (show T 100 = zFb from rfl)).2.1
theorem zFw:(T 100).bytes = 32:=(zaq (show T 100 = zFb from rfl)).2.2.1
theorem zFx:(T 100).zero = [.int .i64 0,.slice none 0 0]:=(zaq (show T 100 = zFb from rfl)).2.2.2
theorem zFy:(T 101).k = .struct [(0,3),(1,22)]:=(zaq (show T 101 = zFc from rfl)).1
theorem zFz:(T 101).size = 2:=(zaq (show T 101 = zFc from rfl)).2.1
theorem zFA:(T 101).bytes = 32:=(zaq (show T 101 = zFc from rfl)).2.2.1
theorem zFB:(T 101).zero = [.int .i64 0,.slice none 0 0]:=(zaq (show T 101 = zFc from rfl)).2.2.2
theorem zFC:(T 109).k = .sli 4:=(zaq (show T 109 = zFd from rfl)).1
theorem zFD:(T 109).size = 1:=(zaq (show T 109 = zFd from rfl)).2.1
theorem zFE:(T 109).bytes = 24:=(zaq (show T 109 = zFd from rfl)).2.2.1
theorem zFF:(T 109).zero = [.slice none 0 0]:=(zaq (show T 109 = zFd from rfl)).2.2.2
theorem zFG:(T 119).k = .int .i64:=(zaq (show T 119 = zFe from rfl)).1
theorem zFH:(T 119).size = 1:=(zaq (show T 119 = zFe from rfl)).2.1
theorem zFI:(T 119).bytes = 8:=(zaq (show T 119 = zFe from rfl)).2.2.1
theorem zFJ:(T 119).zero = [.int .i64 0]:=(zaq (show T 119 = zFe from rfl)).2.2.2
theorem zFK:(T 128).k = .int .u64:=(zaq (show T 128 = zFf from rfl)).1
theorem zFL:(T 128).size = 1:=(zaq (show T 128 = zFf from rfl)).2.1
theorem zFM:(T 128).bytes = 8:=(zaq (show T 128 = zFf from rfl)).2.2.1
theorem zFN:(T 128).zero = [.int .u64 0]:=(zaq (show T 128 = zFf from rfl)).2.2.2
theorem gT:type_of% (And.intro @T2k <| And.intro @T2s <| And.intro @T2b <| And.intro @T2z <| And.intro @T3k <| And.intro @T3s <| And.intro @T3b <| And.intro @T3z <| And.intro @T4k <| And.intro @T4s <| And.intro @T4b <| And.intro @T4z <| And.intro @T5k <| And.intro @T5s <| And.intro @T5b <| And.intro @T5z <| And.intro @T9k <| And.intro @T9s <| And.intro @T9b <| And.intro @T9z <| And.intro @zH2 <| And.intro @zH3 <| And.intro @zH4 <| And.intro @zH5 <| And.intro @zH6 <| And.intro @zH7 <| And.intro @zH8 <| And.intro @zH9 <| And.intro @zIa <| And.intro @zIb <| And.intro @zIc <| And.intro @zId <| And.intro @zIe <| And.intro @zIf <| And.intro @zIg <| And.intro @zIh <| And.intro @zIi <| And.intro @zIj <| And.intro @zIk <| And.intro @zIl <| And.intro @zIm <| And.intro @zIn <| And.intro @zIo <| And.intro @zIp <| And.intro @zIq <| And.intro @zIr <| And.intro @zIs <| And.intro @zIt <| And.intro @zIu <| And.intro @zIv <| And.intro @zIw <| And.intro @zIx <| And.intro @zHu <| And.intro @zHv <| And.intro @zIy <| And.intro @zIz <| And.intro @zIA <| And.intro @zHw <| And.intro @zIB <| And.intro @zIC <| And.intro @zID <| And.intro @zIE <| And.intro @zIF <| And.intro @zIG <| And.intro @zIH <| And.intro @zII <| And.intro @zIJ <| And.intro @zIK <| And.intro @zHx <| And.intro @zHy <| And.intro @zIL <| And.intro @zIM <| And.intro @zIN <| And.intro @zIO <| And.intro @zIP <| And.intro @zIQ <| And.intro @zIR <| And.intro @zIS <| And.intro @zIT <| And.intro @zIU <| And.intro @zIV <| And.intro @zIW <| And.intro @zIX <| And.intro @zIY <| And.intro @zIZ <| And.intro @zI0 <| And.intro @zI1 <| And.intro @zI2 <| And.intro @zI3 <| And.intro @zI4 <| And.intro @zI5 <| And.intro @zI6 <| And.intro @zI7 <| And.intro @zI8 <| And.intro @zI9 <| And.intro @zJa <| And.intro @zJb <| And.intro @zJc <| And.intro @zJd <| And.intro @zJe <| And.intro @zJf <| And.intro @zJg <| And.intro @zJh <| And.intro @zJi <| And.intro @zFu <| And.intro @zFv <| And.intro @zFw <| And.intro @zFx <| And.intro @zFy <| And.intro @zFz <| And.intro @zFA <| And.intro @zFB <| And.intro @zFC <| And.intro @zFD <| And.intro @zFE <| And.intro @zFF <| And.intro @zFG <| And.intro @zFH <| And.intro @zFI <| And.intro @zFJ <| And.intro @zFK <| And.intro @zFL <| And.intro @zFM <| @zFN):=And.intro @T2k <| And.intro @T2s <| And.intro @T2b <| And.intro @T2z <| And.intro @T3k <| And.intro @T3s <| And.intro @T3b <| And.intro @T3z <| And.intro @T4k <| And.intro @T4s <| And.intro @T4b <| And.intro @T4z <| And.intro @T5k <| And.intro @T5s <| And.intro @T5b <| And.intro @T5z <| And.intro @T9k <| And.intro @T9s <| And.intro @T9b <| And.intro @T9z <| And.intro @zH2 <| And.intro @zH3 <| And.intro @zH4 <| And.intro @zH5 <| And.intro @zH6 <| And.intro @zH7 <| And.intro @zH8 <| And.intro @zH9 <| And.intro @zIa <| And.intro @zIb <| And.intro @zIc <| And.intro @zId <| And.intro @zIe <| And.intro @zIf <| And.intro @zIg <| And.intro @zIh <| And.intro @zIi <| And.intro @zIj <| And.intro @zIk <| And.intro @zIl <| And.intro @zIm <| And.intro @zIn <| And.intro @zIo <| And.intro @zIp <| And.intro @zIq <| And.intro @zIr <| And.intro @zIs <| And.intro @zIt <| And.intro @zIu <| And.intro @zIv <| And.intro @zIw <| And.intro @zIx <| And.intro @zHu <| And.intro @zHv <| And.intro @zIy <| And.intro @zIz <| And.intro @zIA <| And.intro @zHw <| And.intro @zIB <| And.intro @zIC <| And.intro @zID <| And.intro @zIE <| And.intro @zIF <| And.intro @zIG <| And.intro @zIH <| And.intro @zII <| And.intro @zIJ <| And.intro @zIK <| And.intro @zHx <| And.intro @zHy <| And.intro @zIL <| And.intro @zIM <| And.intro @zIN <| And.intro @zIO <| And.intro @zIP <| And.intro @zIQ <| And.intro @zIR <| And.intro @zIS <| And.intro @zIT <| And.intro @zIU <| And.intro @zIV <| And.intro @zIW <| And.intro @zIX <| And.intro @zIY <| And.intro @zIZ <| And.intro @zI0 <| And.intro @zI1 <| And.intro @zI2 <| And.intro @zI3 <| And.intro @zI4 <| And.intro @zI5 <| And.intro @zI6 <| And.intro @zI7 <| And.intro @zI8 <| And.intro @zI9 <| And.intro @zJa <| And.intro @zJb <| And.intro @zJc <| And.intro @zJd <| And.intro @zJe <| And.intro @zJf <| And.intro @zJg <| And.intro @zJh <| And.intro @zJi <| And.intro @zFu <| And.intro @zFv <| And.intro @zFw <| And.intro @zFx <| And.intro @zFy <| And.intro @zFz <| And.intro @zFA <| And.intro @zFB <| And.intro @zFC <| And.intro @zFD <| And.intro @zFE <| And.intro @zFF <| And.intro @zFG <| And.intro @zFH <| And.intro @zFI <| And.intro @zFJ <| And.intro @zFK <| And.intro @zFL <| And.intro @zFM <| @zFN
theorem zwG:∀ x ∈ zHt,x.2.Fits Tryz.prog x.1:=by
 simp only [zHt,List.forall_mem_cons]
 exact ⟨F2,F3,F4,F5,F9,F12,F13,F21,F22,F23,F24,F27,F33,F49,F51,F52,F53,F56,F61,F62,F69,F70,F86,F92,F94,F95,F96,zJL,zJM,zJN,zJO,zJP,fun _ h=>absurd h (by simp)⟩
theorem zAW:∀ x ∈ tab,x.2.Fits Tryz.prog x.1:=by
 simp only [tab]
 exact zwG
theorem zaL:Tab.Ok T Tryz.prog:=by
 intro t ht
 unfold T at ht ⊢
 cases h:tab.find? fun x=>x.1 == t with
 | none=>rw [h] at ht;simp at ht
 | some x =>
   have h1:=List.find?_some h
   have h2:=zAW x (List.mem_of_find?_eq_some h)
   simp at h1
   subst h1
   exact h2
theorem mixed:Tryz.prog.follows .mixedOrders = true:=by kernel_rfl
instance held:zae:=⟨{ Φ:=fun _=>True,Gl:=fun _=>False,dr:=False,keep:=fun _ _=>trivial,low:=fun _ h=>h.elim }⟩
end Go.Proofs.YtkledeboboplmaaGreat

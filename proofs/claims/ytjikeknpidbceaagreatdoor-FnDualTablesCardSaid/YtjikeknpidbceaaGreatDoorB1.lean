/- DERIVED by an AI agent, by a program of its own (mktypes.py). The types of the translation, as the abstract layer reads them. -/
import Derived.Test.YtjikeknpidbceaaGreatDoorRows
import Derived.Test.YtjikeknpidbceaaGreatDoorA12
import Derived.Test.YtjikeknpidbceaaGreatDoorA13
namespace Go.Proofs.YtjikeknpidbceaaGreatDoor
open Go.Abs
set_option linter.unusedVariables false
theorem zaU {t:TypeId} {d:TD} {z:Value} (h:d.k.fits Tryz.prog t) (hi:(Tryz.prog.info? t).map (fun i=>(i.zero,i.size,i.bytes)) = some (some z,d.size,d.bytes)) (hz:z.cells.toList = d.zero) (hl:d.zero.length = d.size) (ho:d.k.agg = false→d.size = 1∧∀ z,d.zero = [z]→z.oneCell' = true):d.Fits Tryz.prog t:=by
 refine ⟨h,?_,hl,ho⟩
 cases hq:Tryz.prog.info? t with
 | none=>rw [hq] at hi;simp at hi
 | some i =>
   rw [hq] at hi
   simp at hi
   exact ⟨i,z,rfl,hi.2.1,hi.2.2,hi.1,hz⟩
def D2:TD:=⟨.int .i64,1,8,[.int .i64 0]⟩
theorem F2:D2.Fits Tryz.prog 2:=zaU (z:=.int .i64 0) (show Tryz.prog.underlying 2 = some (TypeDesc.int .i64) by kernel_rfl) (by kernel_rfl) rfl rfl (fun _=>⟨rfl,fun z h=>by cases h;rfl⟩)
def D3:TD:=⟨.int .i64,1,8,[.int .i64 0]⟩
theorem F3:D3.Fits Tryz.prog 3:=zaU (z:=.int .i64 0) (show Tryz.prog.underlying 3 = some (TypeDesc.int .i64) by kernel_rfl) (by kernel_rfl) rfl rfl (fun _=>⟨rfl,fun z h=>by cases h;rfl⟩)
def D4:TD:=⟨.bool,1,1,[.bool false]⟩
theorem F4:D4.Fits Tryz.prog 4:=zaU (z:=.bool false) (show Tryz.prog.underlying 4 = some (TypeDesc.bool) by kernel_rfl) (by kernel_rfl) rfl rfl (fun _=>⟨rfl,fun z h=>by cases h;rfl⟩)
def D5:TD:=⟨.int .u8,1,1,[.int .u8 0]⟩
theorem F5:D5.Fits Tryz.prog 5:=zaU (z:=.int .u8 0) (show Tryz.prog.underlying 5 = some (TypeDesc.int .u8) by kernel_rfl) (by kernel_rfl) rfl rfl (fun _=>⟨rfl,fun z h=>by cases h;rfl⟩)
def D9:TD:=⟨.str,1,16,[.string ⟨#[]⟩]⟩
theorem F9:D9.Fits Tryz.prog 9:=zaU (z:=.string ⟨#[]⟩) (show Tryz.prog.underlying 9 = some (TypeDesc.string) by kernel_rfl) (by kernel_rfl) rfl rfl (fun _=>⟨rfl,fun z h=>by cases h;rfl⟩)
def D12:TD:=⟨.int .u64,1,8,[.int .u64 0]⟩
theorem F12:D12.Fits Tryz.prog 12:=zaU (z:=.int .u64 0) (show Tryz.prog.underlying 12 = some (TypeDesc.int .u64) by kernel_rfl) (by kernel_rfl) rfl rfl (fun _=>⟨rfl,fun z h=>by cases h;rfl⟩)
def D13:TD:=⟨.struct [(0,9),(1,12)],2,24,[.string ⟨#[]⟩,.int .u64 0]⟩
theorem F13:D13.Fits Tryz.prog 13:=zaU (z:=.agg #[.string ⟨#[]⟩,.int .u64 0]) ⟨_,Tryz.underlying13,rfl⟩ (by kernel_rfl) rfl rfl (fun h=>by cases h)
def D21:TD:=⟨.int .i32,1,4,[.int .i32 0]⟩
theorem F21:D21.Fits Tryz.prog 21:=zaU (z:=.int .i32 0) (show Tryz.prog.underlying 21 = some (TypeDesc.int .i32) by kernel_rfl) (by kernel_rfl) rfl rfl (fun _=>⟨rfl,fun z h=>by cases h;rfl⟩)
def D22:TD:=⟨.sli 5,1,24,[.slice none 0 0]⟩
theorem F22:D22.Fits Tryz.prog 22:=zaU (z:=.slice none 0 0) (show Tryz.prog.underlying 22 = some (TypeDesc.slice 5) by kernel_rfl) (by kernel_rfl) rfl rfl (fun _=>⟨rfl,fun z h=>by cases h;rfl⟩)
def D24:TD:=⟨.sli 3,1,24,[.slice none 0 0]⟩
theorem F24:D24.Fits Tryz.prog 24:=zaU (z:=.slice none 0 0) (show Tryz.prog.underlying 24 = some (TypeDesc.slice 3) by kernel_rfl) (by kernel_rfl) rfl rfl (fun _=>⟨rfl,fun z h=>by cases h;rfl⟩)
def D25:TD:=⟨.struct [(0,3),(1,24)],2,32,[.int .i64 0,.slice none 0 0]⟩
theorem F25:D25.Fits Tryz.prog 25:=zaU (z:=.agg #[.int .i64 0,.slice none 0 0]) ⟨_,Tryz.underlying25,rfl⟩ (by kernel_rfl) rfl rfl (fun h=>by cases h)
def D26:TD:=⟨.struct [(0,3),(1,24)],2,32,[.int .i64 0,.slice none 0 0]⟩
theorem F26:D26.Fits Tryz.prog 26:=zaU (z:=.agg #[.int .i64 0,.slice none 0 0]) ⟨_,Tryz.underlying26,rfl⟩ (by kernel_rfl) rfl rfl (fun h=>by cases h)
def D32:TD:=⟨.sli 24,1,24,[.slice none 0 0]⟩
theorem F32:D32.Fits Tryz.prog 32:=zaU (z:=.slice none 0 0) (show Tryz.prog.underlying 32 = some (TypeDesc.slice 24) by kernel_rfl) (by kernel_rfl) rfl rfl (fun _=>⟨rfl,fun z h=>by cases h;rfl⟩)
def D49:TD:=⟨.int .u64,1,8,[.int .u64 0]⟩
theorem F49:D49.Fits Tryz.prog 49:=zaU (z:=.int .u64 0) (show Tryz.prog.underlying 49 = some (TypeDesc.int .u64) by kernel_rfl) (by kernel_rfl) rfl rfl (fun _=>⟨rfl,fun z h=>by cases h;rfl⟩)
def D59:TD:=⟨.sli 9,1,24,[.slice none 0 0]⟩
theorem F59:D59.Fits Tryz.prog 59:=zaU (z:=.slice none 0 0) (show Tryz.prog.underlying 59 = some (TypeDesc.slice 9) by kernel_rfl) (by kernel_rfl) rfl rfl (fun _=>⟨rfl,fun z h=>by cases h;rfl⟩)
def D70:TD:=⟨.int .u64,1,8,[.int .u64 0]⟩
theorem F70:D70.Fits Tryz.prog 70:=zaU (z:=.int .u64 0) (show Tryz.prog.underlying 70 = some (TypeDesc.int .u64) by kernel_rfl) (by kernel_rfl) rfl rfl (fun _=>⟨rfl,fun z h=>by cases h;rfl⟩)
def D72:TD:=⟨.struct [(0,22),(1,3),(2,3)],3,40,[.slice none 0 0,.int .i64 0,.int .i64 0]⟩
theorem F72:D72.Fits Tryz.prog 72:=zaU (z:=.agg #[.slice none 0 0,.int .i64 0,.int .i64 0]) ⟨_,Tryz.underlying72,rfl⟩ (by kernel_rfl) rfl rfl (fun h=>by cases h)
def D73:TD:=⟨.struct [(0,22),(1,3),(2,3)],3,40,[.slice none 0 0,.int .i64 0,.int .i64 0]⟩
theorem F73:D73.Fits Tryz.prog 73:=zaU (z:=.agg #[.slice none 0 0,.int .i64 0,.int .i64 0]) ⟨_,Tryz.underlying73,rfl⟩ (by kernel_rfl) rfl rfl (fun h=>by cases h)
def D85:TD:=⟨.struct [(0,84),(1,22)],2,32,[.pointer none,.slice none 0 0]⟩
theorem F85:D85.Fits Tryz.prog 85:=zaU (z:=.agg #[.pointer none,.slice none 0 0]) ⟨_,Tryz.underlying85,rfl⟩ (by kernel_rfl) rfl rfl (fun h=>by cases h)
def D86:TD:=⟨.struct [(0,84),(1,22)],2,32,[.pointer none,.slice none 0 0]⟩
theorem F86:D86.Fits Tryz.prog 86:=zaU (z:=.agg #[.pointer none,.slice none 0 0]) ⟨_,Tryz.underlying86,rfl⟩ (by kernel_rfl) rfl rfl (fun h=>by cases h)
def D95:TD:=⟨.int .u32,1,4,[.int .u32 0]⟩
theorem F95:D95.Fits Tryz.prog 95:=zaU (z:=.int .u32 0) (show Tryz.prog.underlying 95 = some (TypeDesc.int .u32) by kernel_rfl) (by kernel_rfl) rfl rfl (fun _=>⟨rfl,fun z h=>by cases h;rfl⟩)
def D99:TD:=⟨.sli 4,1,24,[.slice none 0 0]⟩
theorem F99:D99.Fits Tryz.prog 99:=zaU (z:=.slice none 0 0) (show Tryz.prog.underlying 99 = some (TypeDesc.slice 4) by kernel_rfl) (by kernel_rfl) rfl rfl (fun _=>⟨rfl,fun z h=>by cases h;rfl⟩)
def zFs:TD:=⟨.arr 24 5,24,24,((List.replicate 24 (.int .u8 0)))⟩
theorem zJf:zFs.Fits Tryz.prog 114:=zaU (z:=.agg ⟨((List.replicate 24 (.int .u8 0)))⟩) (show Tryz.prog.underlying 114 = some (TypeDesc.array 24 5) by kernel_rfl) (by kernel_rfl) (by kernel_rfl) (by kernel_rfl) (fun h=>by cases h)
def zFt:TD:=⟨.arr 20 49,20,160,((List.replicate 20 (.int .u64 0)))⟩
theorem zJg:zFt.Fits Tryz.prog 120:=zaU (z:=.agg ⟨((List.replicate 20 (.int .u64 0)))⟩) (show Tryz.prog.underlying 120 = some (TypeDesc.array 20 49) by kernel_rfl) (by kernel_rfl) (by kernel_rfl) (by kernel_rfl) (fun h=>by cases h)
def zFu:TD:=⟨.arr 65 5,65,65,((List.replicate 65 (.int .u8 0)))⟩
theorem zJh:zFu.Fits Tryz.prog 121:=zaU (z:=.agg ⟨((List.replicate 65 (.int .u8 0)))⟩) (show Tryz.prog.underlying 121 = some (TypeDesc.array 65 5) by kernel_rfl) (by kernel_rfl) (by kernel_rfl) (by kernel_rfl) (fun h=>by cases h)
def zFv:TD:=⟨.arr 32 5,32,32,((List.replicate 32 (.int .u8 0)))⟩
theorem zJi:zFv.Fits Tryz.prog 122:=zaU (z:=.agg ⟨((List.replicate 32 (.int .u8 0)))⟩) (show Tryz.prog.underlying 122 = some (TypeDesc.array 32 5) by kernel_rfl) (by kernel_rfl) (by kernel_rfl) (by kernel_rfl) (fun h=>by cases h)
def zFw:TD:=⟨.arr 64 5,64,64,((List.replicate 64 (.int .u8 0)))⟩
theorem zJj:zFw.Fits Tryz.prog 123:=zaU (z:=.agg ⟨((List.replicate 64 (.int .u8 0)))⟩) (show Tryz.prog.underlying 123 = some (TypeDesc.array 64 5) by kernel_rfl) (by kernel_rfl) (by kernel_rfl) (by kernel_rfl) (fun h=>by cases h)
def zHn:List (Nat × TD):=[(2,D2),(3,D3),(4,D4),(5,D5),(9,D9),(12,D12),(13,D13),(21,D21),(22,D22),(24,D24),(25,D25),(26,D26),(32,D32),(49,D49),(59,D59),(70,D70),(72,D72),(73,D73),(85,D85),(86,D86),(95,D95),(99,D99),(114,zFs),(120,zFt),(121,zFu),(122,zFv),(123,zFw)]
def tab:List (Nat × TD):=zHn
def T:Tab:=fun t=>((tab.find? fun x=>x.1 == t).map (·.2)).getD ⟨.other,0,0,[]⟩
theorem zaq {a b:TD} (h:a = b):a.k = b.k∧a.size = b.size∧a.bytes = b.bytes∧a.zero = b.zero:=by subst h;exact ⟨rfl,rfl,rfl,rfl⟩
theorem T2k:(T 2).k = .int .i64:=(zaq (show T 2 = D2 from rfl)).1
theorem T2s:(T 2).size = 1:=(zaq (show T 2 = D2 from rfl)).2.1
theorem T2b:(T 2).bytes = 8:=(zaq (show T 2 = D2 from rfl)).2.2.1
theorem T2z:(T 2).zero = [.int .i64 0]:=(zaq (show T 2 = D2 from rfl)).2.2.2
theorem T3k:(T 3).k = .int .i64:=(zaq (show T 3 = D3 from rfl)).1
theorem T3s:(T 3).size = 1:=(zaq (show T 3 = D3 from rfl)).2.1
theorem T3b:(T 3).bytes = 8:=(zaq (show T 3 = D3 from rfl)).2.2.1
theorem T3z:(T 3).zero = [.int .i64 0]:=(zaq (show T 3 = D3 from rfl)).2.2.2
theorem T4k:(T 4).k = .bool:=(zaq (show T 4 = D4 from rfl)).1
theorem T4s:(T 4).size = 1:=(zaq (show T 4 = D4 from rfl)).2.1
theorem T4b:(T 4).bytes = 1:=(zaq (show T 4 = D4 from rfl)).2.2.1
theorem T4z:(T 4).zero = [.bool false]:=(zaq (show T 4 = D4 from rfl)).2.2.2
theorem T5k:(T 5).k = .int .u8:=(zaq (show T 5 = D5 from rfl)).1
theorem T5s:(T 5).size = 1:=(zaq (show T 5 = D5 from rfl)).2.1
theorem T5b:(T 5).bytes = 1:=(zaq (show T 5 = D5 from rfl)).2.2.1
theorem T5z:(T 5).zero = [.int .u8 0]:=(zaq (show T 5 = D5 from rfl)).2.2.2
theorem T9k:(T 9).k = .str:=(zaq (show T 9 = D9 from rfl)).1
theorem T9s:(T 9).size = 1:=(zaq (show T 9 = D9 from rfl)).2.1
theorem T9b:(T 9).bytes = 16:=(zaq (show T 9 = D9 from rfl)).2.2.1
theorem T9z:(T 9).zero = [.string ⟨#[]⟩]:=(zaq (show T 9 = D9 from rfl)).2.2.2
theorem zHK:(T 12).k = .int .u64:=(zaq (show T 12 = D12 from rfl)).1
theorem zHL:(T 12).size = 1:=(zaq (show T 12 = D12 from rfl)).2.1
theorem zHM:(T 12).bytes = 8:=(zaq (show T 12 = D12 from rfl)).2.2.1
theorem zHN:(T 12).zero = [.int .u64 0]:=(zaq (show T 12 = D12 from rfl)).2.2.2
theorem zHO:(T 13).k = .struct [(0,9),(1,12)]:=(zaq (show T 13 = D13 from rfl)).1
theorem zHP:(T 13).size = 2:=(zaq (show T 13 = D13 from rfl)).2.1
theorem zHQ:(T 13).bytes = 24:=(zaq (show T 13 = D13 from rfl)).2.2.1
theorem zHR:(T 13).zero = [.string ⟨#[]⟩,.int .u64 0]:=(zaq (show T 13 = D13 from rfl)).2.2.2
theorem zHS:(T 21).k = .int .i32:=(zaq (show T 21 = D21 from rfl)).1
theorem zHT:(T 21).size = 1:=(zaq (show T 21 = D21 from rfl)).2.1
theorem zHU:(T 21).bytes = 4:=(zaq (show T 21 = D21 from rfl)).2.2.1
theorem zHV:(T 21).zero = [.int .i32 0]:=(zaq (show T 21 = D21 from rfl)).2.2.2
theorem zHo:(T 22).k = .sli 5:=(zaq (show T 22 = D22 from rfl)).1
theorem zHp:(T 22).size = 1:=(zaq (show T 22 = D22 from rfl)).2.1
theorem zHW:(T 22).bytes = 24:=(zaq (show T 22 = D22 from rfl)).2.2.1
theorem zHX:(T 22).zero = [.slice none 0 0]:=(zaq (show T 22 = D22 from rfl)).2.2.2
theorem zHY:(T 24).k = .sli 3:=(zaq (show T 24 = D24 from rfl)).1
theorem zHZ:(T 24).size = 1:=(zaq (show T 24 = D24 from rfl)).2.1
theorem zH0:(T 24).bytes = 24:=(zaq (show T 24 = D24 from rfl)).2.2.1
theorem zH1:(T 24).zero = [.slice none 0 0]:=(zaq (show T 24 = D24 from rfl)).2.2.2
theorem zH2:(T 25).k = .struct [(0,3),(1,24)]:=(zaq (show T 25 = D25 from rfl)).1
theorem zH3:(T 25).size = 2:=(zaq (show T 25 = D25 from rfl)).2.1
theorem zH4:(T 25).bytes = 32:=(zaq (show T 25 = D25 from rfl)).2.2.1
theorem zH5:(T 25).zero = [.int .i64 0,.slice none 0 0]:=(zaq (show T 25 = D25 from rfl)).2.2.2
theorem zH6:(T 26).k = .struct [(0,3),(1,24)]:=(zaq (show T 26 = D26 from rfl)).1
theorem zH7:(T 26).size = 2:=(zaq (show T 26 = D26 from rfl)).2.1
theorem zH8:(T 26).bytes = 32:=(zaq (show T 26 = D26 from rfl)).2.2.1
theorem zH9:(T 26).zero = [.int .i64 0,.slice none 0 0]:=(zaq (show T 26 = D26 from rfl)).2.2.2
theorem zIa:(T 32).k = .sli 24:=(zaq (show T 32 = D32 from rfl)).1
theorem zIb:(T 32).size = 1:=(zaq (show T 32 = D32 from rfl)).2.1
theorem zIc:(T 32).bytes = 24:=(zaq (show T 32 = D32 from rfl)).2.2.1
theorem zId:(T 32).zero = [.slice none 0 0]:=(zaq (show T 32 = D32 from rfl)).2.2.2
theorem zIe:(T 49).k = .int .u64:=(zaq (show T 49 = D49 from rfl)).1
theorem zIf:(T 49).size = 1:=(zaq (show T 49 = D49 from rfl)).2.1
theorem zIg:(T 49).bytes = 8:=(zaq (show T 49 = D49 from rfl)).2.2.1
theorem zIh:(T 49).zero = [.int .u64 0]:=(zaq (show T 49 = D49 from rfl)).2.2.2
theorem zIi:(T 59).k = .sli 9:=(zaq (show T 59 = D59 from rfl)).1
theorem zIj:(T 59).size = 1:=(zaq (show T 59 = D59 from rfl)).2.1
theorem zIk:(T 59).bytes = 24:=(zaq (show T 59 = D59 from rfl)).2.2.1
theorem zIl:(T 59).zero = [.slice none 0 0]:=(zaq (show T 59 = D59 from rfl)).2.2.2
theorem zIm:(T 70).k = .int .u64:=(zaq (show T 70 = D70 from rfl)).1
theorem zIn:(T 70).size = 1:=(zaq (show T 70 = D70 from rfl)).2.1
theorem zIo:(T 70).bytes = 8:=(zaq (show T 70 = D70 from rfl)).2.2.1
theorem zIp:(T 70).zero = [.int .u64 0]:=(zaq (show T 70 = D70 from rfl)).2.2.2
theorem zIq:(T 72).k = .struct [(0,22),(1,3),(2,3)]:=(zaq (show T 72 = D72 from rfl)).1
theorem zIr:(T 72).size = 3:=(zaq (show T 72 = D72 from rfl)).2.1
theorem zIs:(T 72).bytes = 40:=(zaq (show T 72 = D72 from rfl)).2.2.1
theorem zIt:(T 72).zero = [.slice none 0 0,.int .i64 0,.int .i64 0]:=(zaq (show T 72 = D72 from rfl)).2.2.2
theorem zIu:(T 73).k = .struct [(0,22),(1,3),(2,3)]:=(zaq (show T 73 = D73 from rfl)).1
theorem zIv:(T 73).size = 3:=(zaq (show T 73 = D73 from rfl)).2.1
theorem zIw:(T 73).bytes = 40:=(zaq (show T 73 = D73 from rfl)).2.2.1
theorem zIx:(T 73).zero = [.slice none 0 0,.int .i64 0,.int .i64 0]:=(zaq (show T 73 = D73 from rfl)).2.2.2
theorem zIy:(T 85).k = .struct [(0,84),(1,22)]:=(zaq (show T 85 = D85 from rfl)).1
theorem zIz:(T 85).size = 2:=(zaq (show T 85 = D85 from rfl)).2.1
theorem zIA:(T 85).bytes = 32:=(zaq (show T 85 = D85 from rfl)).2.2.1
theorem zIB:(T 85).zero = [.pointer none,.slice none 0 0]:=(zaq (show T 85 = D85 from rfl)).2.2.2
theorem zIC:(T 86).k = .struct [(0,84),(1,22)]:=(zaq (show T 86 = D86 from rfl)).1
theorem zID:(T 86).size = 2:=(zaq (show T 86 = D86 from rfl)).2.1
theorem zIE:(T 86).bytes = 32:=(zaq (show T 86 = D86 from rfl)).2.2.1
theorem zIF:(T 86).zero = [.pointer none,.slice none 0 0]:=(zaq (show T 86 = D86 from rfl)).2.2.2
theorem zIG:(T 95).k = .int .u32:=(zaq (show T 95 = D95 from rfl)).1
theorem zIH:(T 95).size = 1:=(zaq (show T 95 = D95 from rfl)).2.1
theorem zII:(T 95).bytes = 4:=(zaq (show T 95 = D95 from rfl)).2.2.1
theorem zIJ:(T 95).zero = [.int .u32 0]:=(zaq (show T 95 = D95 from rfl)).2.2.2
theorem zIK:(T 99).k = .sli 4:=(zaq (show T 99 = D99 from rfl)).1
theorem zIL:(T 99).size = 1:=(zaq (show T 99 = D99 from rfl)).2.1
theorem zIM:(T 99).bytes = 24:=(zaq (show T 99 = D99 from rfl)).2.2.1
theorem zIN:(T 99).zero = [.slice none 0 0]:=(zaq (show T 99 = D99 from rfl)).2.2.2
theorem zFH:(T 114).k = .arr 24 5:=(zaq (show T 114 = zFs from rfl)).1
theorem zFI:(T 114).size = 24:=(zaq (show T 114 = zFs from rfl)).2.1
theorem zFJ:(T 114).bytes = 24:=(zaq (show T 114 = zFs from rfl)).2.2.1
theorem zFK:(T 114).zero = ((List.replicate 24 (.int .u8 0))):=(zaq (show T 114 = zFs from rfl)).2.2.2
theorem zFL:(T 120).k = .arr 20 49:=(zaq (show T 120 = zFt from rfl)).1
theorem zFM:(T 120).size = 20:=(zaq (show T 120 = zFt from rfl)).2.1
theorem zFN:(T 120).bytes = 160:=(zaq (show T 120 = zFt from rfl)).2.2.1
theorem zFO:(T 120).zero = ((List.replicate 20 (.int .u64 0))):=(zaq (show T 120 = zFt from rfl)).2.2.2
theorem zFP:(T 121).k = .arr 65 5:=(zaq (show T 121 = zFu from rfl)).1
theorem zFQ:(T 121).size = 65:=(zaq (show T 121 = zFu from rfl)).2.1
theorem zFR:(T 121).bytes = 65:=(zaq (show T 121 = zFu from rfl)).2.2.1
theorem zFS:(T 121).zero = ((List.replicate 65 (.int .u8 0))):=(zaq (show T 121 = zFu from rfl)).2.2.2
theorem zFT:(T 122).k = .arr 32 5:=(zaq (show T 122 = zFv from rfl)).1
theorem zFU:(T 122).size = 32:=(zaq (show T 122 = zFv from rfl)).2.1
theorem zFV:(T 122).bytes = 32:=(zaq (show T 122 = zFv from rfl)).2.2.1
theorem zFW:(T 122).zero = ((List.replicate 32 (.int .u8 0))):=(zaq (show T 122 = zFv from rfl)).2.2.2
theorem zFX:(T 123).k = .arr 64 5:=(zaq (show T 123 = zFw from rfl)).1
theorem zFY:(T 123).size = 64:=(zaq (show T 123 = zFw from rfl)).2.1
theorem zFZ:(T 123).bytes = 64:=(zaq (show T 123 = zFw from rfl)).2.2.1
theorem zF0:(T 123).zero = ((List.replicate 64 (.int .u8 0))):=(zaq (show T 123 = zFw from rfl)).2.2.2
theorem gT:type_of% (And.intro @T2k <| And.intro @T2s <| And.intro @T2b <| And.intro @T2z <| And.intro @T3k <| And.intro @T3s <| And.intro @T3b <| And.intro @T3z <| And.intro @T4k <| And.intro @T4s <| And.intro @T4b <| And.intro @T4z <| And.intro @T5k <| And.intro @T5s <| And.intro @T5b <| And.intro @T5z <| And.intro @T9k <| And.intro @T9s <| And.intro @T9b <| And.intro @T9z <| And.intro @zHK <| And.intro @zHL <| And.intro @zHM <| And.intro @zHN <| And.intro @zHO <| And.intro @zHP <| And.intro @zHQ <| And.intro @zHR <| And.intro @zHS <| And.intro @zHT <| And.intro @zHU <| And.intro @zHV <| And.intro @zHo <| And.intro @zHp <| And.intro @zHW <| And.intro @zHX <| And.intro @zHY <| And.intro @zHZ <| And.intro @zH0 <| And.intro @zH1 <| And.intro @zH2 <| And.intro @zH3 <| And.intro @zH4 <| And.intro @zH5 <| And.intro @zH6 <| And.intro @zH7 <| And.intro @zH8 <| And.intro @zH9 <| And.intro @zIa <| And.intro @zIb <| And.intro @zIc <| And.intro @zId <| And.intro @zIe <| And.intro @zIf <| And.intro @zIg <| And.intro @zIh <| And.intro @zIi <| And.intro @zIj <| And.intro @zIk <| And.intro @zIl <| And.intro @zIm <| And.intro @zIn <| And.intro @zIo <| And.intro @zIp <| And.intro @zIq <| And.intro @zIr <| And.intro @zIs <| And.intro @zIt <| And.intro @zIu <| And.intro @zIv <| And.intro @zIw <| And.intro @zIx <| And.intro @zIy <| And.intro @zIz <| And.intro @zIA <| And.intro @zIB <| And.intro @zIC <| And.intro @zID <| And.intro @zIE <| And.intro @zIF <| And.intro @zIG <| And.intro @zIH <| And.intro @zII <| And.intro @zIJ <| And.intro @zIK <| And.intro @zIL <| And.intro @zIM <| And.intro @zIN <| And.intro @zFH <| And.intro @zFI <| And.intro @zFJ <| And.intro @zFK <| And.intro @zFL <| And.intro @zFM <| And.intro @zFN <| And.intro @zFO <| And.intro @zFP <| And.intro @zFQ <| And.intro @zFR <| And.intro @zFS <| And.intro @zFT <| And.intro @zFU <| And.intro @zFV <| And.intro @zFW <| And.intro @zFX <| And.intro @zFY <| And.intro @zFZ <| @zF0):=And.intro @T2k <| And.intro @T2s <| And.intro @T2b <| And.intro @T2z <| And.intro @T3k <| And.intro @T3s <| And.intro @T3b <| And.intro @T3z <| And.intro @T4k <| And.intro @T4s <| And.intro @T4b <| And.intro @T4z <| And.intro @T5k <| And.intro @T5s <| And.intro @T5b <| And.intro @T5z <| And.intro @T9k <| And.intro @T9s <| And.intro @T9b <| And.intro @T9z <| And.intro @zHK <| And.intro @zHL <| And.intro @zHM <| And.intro @zHN <| And.intro @zHO <| And.intro @zHP <| And.intro @zHQ <| And.intro @zHR <| And.intro @zHS <| And.intro @zHT <| And.intro @zHU <| And.intro @zHV <| And.intro @zHo <| And.intro @zHp <| And.intro @zHW <| And.intro @zHX <| And.intro @zHY <| And.intro @zHZ <| And.intro @zH0 <| And.intro @zH1 <| And.intro @zH2 <| And.intro @zH3 <| And.intro @zH4 <| And.intro @zH5 <| And.intro @zH6 <| And.intro @zH7 <| And.intro @zH8 <| And.intro @zH9 <| And.intro @zIa <| And.intro @zIb <| And.intro @zIc <| And.intro @zId <| And.intro @zIe <| And.intro @zIf <| And.intro @zIg <| And.intro @zIh <| And.intro @zIi <| And.intro @zIj <| And.intro @zIk <| And.intro @zIl <| And.intro @zIm <| And.intro @zIn <| And.intro @zIo <| And.intro @zIp <| And.intro @zIq <| And.intro @zIr <| And.intro @zIs <| And.intro @zIt <| And.intro @zIu <| And.intro @zIv <| And.intro @zIw <| And.intro @zIx <| And.intro @zIy <| And.intro @zIz <| And.intro @zIA <| And.intro @zIB <| And.intro @zIC <| And.intro @zID <| And.intro @zIE <| And.intro @zIF <| And.intro @zIG <| And.intro @zIH <| And.intro @zII <| And.intro @zIJ <| And.intro @zIK <| And.intro @zIL <| And.intro @zIM <| And.intro @zIN <| And.intro @zFH <| And.intro @zFI <| And.intro @zFJ <| And.intro @zFK <| And.intro @zFL <| And.intro @zFM <| And.intro @zFN <| And.intro @zFO <| And.intro @zFP <| And.intro @zFQ <| And.intro @zFR <| And.intro @zFS <| And.intro @zFT <| And.intro @zFU <| And.intro @zFV <| And.intro @zFW <| And.intro @zFX <| And.intro @zFY <| And.intro @zFZ <| @zF0
theorem zxq:∀ x ∈ zHn,x.2.Fits Tryz.prog x.1:=by
 simp only [zHn,List.forall_mem_cons]
 exact ⟨F2,F3,F4,F5,F9,F12,F13,F21,F22,F24,F25,F26,F32,F49,F59,F70,F72,F73,F85,F86,F95,F99,zJf,zJg,zJh,zJi,zJj,fun _ h=>absurd h (by simp)⟩
theorem zBt:∀ x ∈ tab,x.2.Fits Tryz.prog x.1:=by
 simp only [tab]
 exact zxq
theorem za0:Tab.Ok T Tryz.prog:=by
 intro t ht
 unfold T at ht ⊢
 cases h:tab.find? fun x=>x.1 == t with
 | none=>rw [h] at ht;simp at ht
 | some x =>
   have h1:=List.find?_some h
   have h2:=zBt x (List.mem_of_find?_eq_some h)
   simp at h1
   subst h1
   exact h2
theorem mixed:Tryz.prog.follows .mixedOrders = true:=by kernel_rfl
theorem zHq:Tryz.prog.globalNamed "internal/strconv.uint64pow10" = some 1:=by kernel_rfl
instance held:zad:=⟨{ Φ:=zhh Tryz.prog,Gl:=fun b=>b = 1,dr:=False,keep:=fun h hb=>zsv zHq h hb,low:=fun h hb=>zwE zHq h hb }⟩
end Go.Proofs.YtjikeknpidbceaaGreatDoor

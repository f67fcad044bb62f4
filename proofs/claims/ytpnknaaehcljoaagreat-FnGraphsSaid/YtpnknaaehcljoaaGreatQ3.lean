/- DERIVED by an AI agent. -/
import Derived.Test.YtpnknaaehcljoaaGreatQ1
import Derived.Test.YtpnknaaehcljoaaGreatP1
import Derived.Test.YtpnknaaehcljoaaGreatQ2
namespace Go.Proofs.YtpnknaaehcljoaaGreat
open Go.Abs
open Nat (reduceEqDiff reduceMod reduceAdd reduceLT reduceLeDiff reduceSub reduceMul)
set_option linter.unusedSimpArgs false
set_option linter.unusedVariables false
theorem zeG (n:Int) (xs:List Int):AC Tryz.prog 112 [.ag [int n,zbj xs]] (.im (bool (zef n xs))):=by
 refine AC.go (rs:=[.tmp 2]) zbg zay Tryz.func112 rfl rfl rfl (by kernel_rfl) fun hl=>?_
 simp (maxSteps:=5000000) -dsimp only [↓gp,gq,reduceCtorEq,reduceEqDiff,reduceLT,reduceLeDiff,reduceAdd,reduceMul,reduceSub,Nat.reduceBEq,Int.reduceToNat,Int.reduceLE,Int.reduceLT,Int.reduceNeg,reduceMod,zac,zad,zab,zaa,gT,TK.isInt,TK.agg,Array.toList]
 refine zaf (zgw n xs) ?_
 simp (maxSteps:=5000000) -dsimp only [↓gp,gq,reduceCtorEq,reduceEqDiff,reduceLT,reduceLeDiff,reduceAdd,reduceMul,reduceSub,Nat.reduceBEq,Int.reduceToNat,Int.reduceLE,Int.reduceLT,Int.reduceNeg,reduceMod,zac,zad,zab,zaa,gT,TK.isInt,TK.agg,Array.toList]
theorem zeH (t:ByteArray) (b:Nat) (ht:t.size ≤ 1000):AC Tryz.prog 161 [str t,.v (.int .u8 b)] (.fr 9 1 (sL (zig t b))):=by
 refine AC.go (rs:=[.tmp 4]) zbg zay Tryz.func161 rfl rfl rfl (by kernel_rfl) fun hl=>?_
 simp (maxSteps:=5000000) -dsimp only [↓gp,gq,reduceCtorEq,reduceEqDiff,reduceLT,reduceLeDiff,reduceAdd,reduceMul,reduceSub,Nat.reduceBEq,Int.reduceToNat,Int.reduceLE,Int.reduceLT,Int.reduceNeg,reduceMod,zac,zad,zab,zaa,gT,TK.isInt,TK.agg,Array.toList]
 refine zaq (fun (za:Nat × Nat × List ByteArray × Nat) s=>match za with | (i,v,out,st)=>s.sl 0 = str t∧s.sl 1 = .v (.int .u8 b)∧s.sl 5 = .own 8 v∧s.rw 8 = ⟨v,.sli 9 1 false (sL out)⟩∧s.sl 6 = int st∧s.sl 7 = int i∧(i ≤ t.size + 1∧(i ≤ t.size→out = (zkV t b i).1∧st = (zkV t b i).2)∧(t.size < i→out = zig t b))) (fun (i,v,out,st)=>t.size + 1 - i) ((0,1,[],0)) (by refine ⟨?_,?_,?_,?_,?_,?_,⟨by simp,by simp [zkV],by simp⟩⟩ <;> (first | (simp (maxSteps:=5000000) -dsimp only [gr,reduceEqDiff,reduceLT,reduceAdd,reduceMod,Nat.reduceBEq,zaa,zac,zad,zab];first | done | rfl | (simp;done)) | assumption | rfl)) ?_
 intro (i,v,out,st) sa ⟨h0a,h1a,h5a,r8a,h6a,h7a,hIa⟩
 obtain ⟨hi,h1,h2⟩:=hIa
 have hle:=zDu t b i
 simp (maxSteps:=5000000) -dsimp only [↓gp,gq,reduceCtorEq,reduceEqDiff,reduceLT,reduceLeDiff,reduceAdd,reduceMul,reduceSub,Nat.reduceBEq,Int.reduceToNat,Int.reduceLE,Int.reduceLT,Int.reduceNeg,reduceMod,zac,zad,zab,zaa,gT,TK.isInt,TK.agg,Array.toList,h0a,h1a,h5a,r8a,h6a,h7a,zce]
 refine ⟨fun h=>?_,fun h=>by rw [h2 (by omega)]⟩
 obtain ⟨rfl,rfl⟩:=h1 h
 refine ⟨fun hne=>?_,fun he=>?_⟩
 ·have hne:=beq_eq_false_iff_ne.1 hne
  have hlt:i < t.size:=by omega
  refine ⟨hlt,fun he=>⟨hle.1,by omega,by omega,?_⟩,fun he=>?_⟩
  ·have he:byt t i = b:=by have:=beq_iff_eq.1 he;unfold byt;omega
   exact zag ((i + 1,v + 1,(zkV t b (i + 1)).1,(zkV t b (i + 1)).2)) (by refine ⟨?_,?_,?_,?_,?_,?_,⟨by omega,fun _=>⟨by rw [zi5 he],by rw [zi5 he]⟩,by omega⟩⟩ <;> (first | (simp (maxSteps:=5000000) -dsimp only [gr,reduceEqDiff,reduceLT,reduceAdd,reduceMod,Nat.reduceBEq,zaa,zac,zad,zab,h0a,h1a,h5a,r8a,h6a,h7a,zae hlt (by omega),zi5 he,zmN];first | done | rfl | (simp;done)) | assumption | rfl)) (by first | omega | (simp only;omega) | (dsimp only;omega) | (show _ < _;simp;omega))
  ·have he:¬ byt t i = b:=by have:=beq_eq_false_iff_ne.1 he;unfold byt;omega
   exact zag ((i + 1,v,(zkV t b i).1,(zkV t b i).2)) (by refine ⟨?_,?_,?_,?_,?_,?_,⟨by omega,fun _=>⟨by rw [zrH he],by rw [zrH he]⟩,by omega⟩⟩ <;> (first | (simp (maxSteps:=5000000) -dsimp only [gr,reduceEqDiff,reduceLT,reduceAdd,reduceMod,Nat.reduceBEq,zaa,zac,zad,zab,h0a,h1a,h5a,r8a,h6a,h7a,zae hlt (by omega)];first | done | rfl | (simp;done)) | assumption | rfl)) (by first | omega | (simp only;omega) | (dsimp only;omega) | (show _ < _;simp;omega))
 ·have he:=beq_iff_eq.1 he
  obtain rfl:i = t.size:=by omega
  refine ⟨hle.1,by omega,by omega,?_⟩
  have hw:IntKind.i64.wrap ((t.size:Int) + 1) = ((t.size + 1:Nat):Int):=zae (n:=t.size + 1) (by omega) (by omega)
  exact zag ((t.size + 1,v + 1,zig t b,t.size + 1)) (by refine ⟨?_,?_,?_,?_,?_,?_,⟨by omega,by omega,fun _=>rfl⟩⟩ <;> (first | (simp (maxSteps:=5000000) -dsimp only [gr,reduceEqDiff,reduceLT,reduceAdd,reduceMod,Nat.reduceBEq,zaa,zac,zad,zab,h0a,h1a,h5a,r8a,h6a,h7a,hw,zmN,zig];first | done | rfl | (simp;done)) | assumption | rfl)) (by first | omega | (simp only;omega) | (dsimp only;omega) | (show _ < _;simp;omega))
theorem zfj (t:ByteArray) (h:OkSet t):AC Tryz.prog 163 [str t] (.tup [.im (int (znT t t.size:Nat)),.im (bool true)]):=by
 refine AC.go (rs:=[.tmp 2,.tmp 3]) zbg zay Tryz.func163 rfl rfl rfl (by kernel_rfl) fun hl=>?_
 simp (maxSteps:=5000000) -dsimp only [↓gp,gq,reduceCtorEq,reduceEqDiff,reduceLT,reduceLeDiff,reduceAdd,reduceMul,reduceSub,Nat.reduceBEq,Int.reduceToNat,Int.reduceLE,Int.reduceLT,Int.reduceNeg,reduceMod,zac,zad,zab,zaa,gT,TK.isInt,TK.agg,Array.toList]
 refine zaq (fun (i:Nat) s=>s.sl 0 = str t∧s.sl 4 = int (znT t i:Nat)∧s.sl 5 = int i∧(i ≤ t.size)) (fun i=>t.size - i) (0) (by refine ⟨?_,?_,?_,by simp⟩ <;> (first | (simp (maxSteps:=5000000) -dsimp only [gr,reduceEqDiff,reduceLT,reduceAdd,reduceMod,Nat.reduceBEq,zaa,zac,zad,zab,zkF];first | done | rfl | (simp;done)) | assumption | rfl)) ?_
 intro i sa ⟨h0a,h4a,h5a,hIa⟩
 rcases Nat.lt_or_ge i t.size with hi | hi
 ·have hlt:((i:Int) < (t.size:Int)) = True:=eq_true (by omega)
  have hb:byt t i = (t.data.toList.getD i 0).toNat:=rfl
  have hl1:=h.letter i hi
  have hhi:=h.hi
  have hv:=zDw h i (by omega)
  have hvl:=zy7 h i hi
  have hw1:IntKind.i64.wrap (IntKind.i64.wrap (((t.data.toList.getD i 0).toNat:Nat):Int) - 97) = ((byt t i - 97:Nat):Int):=by
   have e1:IntKind.i64.wrap ((byt t i:Nat):Int) = ((byt t i:Nat):Int):=zat (by omega) (by omega)
   rw [← hb,e1,zat (by omega) (by omega)];omega
  simp (maxSteps:=5000000) -dsimp only [↓gp,gq,reduceCtorEq,reduceEqDiff,reduceLT,reduceLeDiff,reduceAdd,reduceMul,reduceSub,Nat.reduceBEq,Int.reduceToNat,Int.reduceLE,Int.reduceLT,Int.reduceNeg,reduceMod,zac,zad,zab,zaa,gT,TK.isInt,TK.agg,Array.toList,h0a,h4a,h5a,h.dash,h.empty,hlt,hw1]
  refine ⟨hi,zaf (zbo _ _ _) ?_⟩
  have hd:(decide ((0:Int) ≤ ((byt t i - 97:Nat):Int)) && decide (((byt t i - 97:Nat):Int) ≤ 5)) = true:=by simp;omega
  have hw64:IntKind.u64.wrap ((byt t i - 97:Nat):Int) = ((byt t i - 97:Nat):Int):=zaL (by omega)
  have hsh:zne .i64 ((znT t i:Nat):Int) ((byt t i - 97:Nat):Int) = 0:=by
   rw [zCn (by omega),Nat.shiftRight_eq_div_pow,Nat.div_eq_of_lt hvl];rfl
  have h2k:2 ^ (byt t i - 97) < 64:=by have:2 ^ (byt t i - 97) < 2 ^ 6:=Nat.pow_lt_pow_right (by omega) (by omega);omega
  have hadd:IntKind.i64.wrap (((znT t i:Nat):Int) + zgs .i64 1 ((byt t i - 97:Nat):Int)) = ((znT t (i + 1):Nat):Int):=by
   rw [zaJ (by omega),zat (by omega) (by omega),← zAW h hi];rfl
  simp (maxSteps:=5000000) -dsimp only [↓gp,gq,reduceCtorEq,reduceEqDiff,reduceLT,reduceLeDiff,reduceAdd,reduceMul,reduceSub,Nat.reduceBEq,Int.reduceToNat,Int.reduceLE,Int.reduceLT,Int.reduceNeg,reduceMod,zac,zad,zab,zaa,gT,TK.isInt,TK.agg,Array.toList,h0a,h4a,h5a,hlt,hw1,hd,hw64,hsh,hadd]
  have hd2:(!(decide True && decide (((byt t i - 97:Nat):Int) ≤ 5))) = false:=by simp;omega
  refine ⟨fun _=>⟨fun hc=>(by simp at hc),fun _=>zag (i + 1) (by refine ⟨?_,?_,?_,by omega⟩ <;> (first | (simp (maxSteps:=5000000) -dsimp only [gr,reduceEqDiff,reduceLT,reduceAdd,reduceMod,Nat.reduceBEq,zaa,zac,zad,zab,h0a,h4a,h5a,hw1,hw64,hadd,zae hi (by omega)];first | done | rfl | (simp;done)) | assumption | rfl)) (by first | omega | (simp only;omega) | (dsimp only;omega) | (show _ < _;simp;omega))⟩,fun hc=>by rw [hd2] at hc;cases hc⟩
 ·obtain rfl:i = t.size:=by omega
  have hlt:((t.size:Int) < (t.size:Int)) = False:=eq_false (by omega)
  simp (maxSteps:=5000000) -dsimp only [↓gp,gq,reduceCtorEq,reduceEqDiff,reduceLT,reduceLeDiff,reduceAdd,reduceMul,reduceSub,Nat.reduceBEq,Int.reduceToNat,Int.reduceLE,Int.reduceLT,Int.reduceNeg,reduceMod,zac,zad,zab,zaa,gT,TK.isInt,TK.agg,Array.toList,h0a,h4a,h5a,h.dash,h.empty,hlt]
def zrQ (ps:List ByteArray):List Int:=ps.map fun p=>((znT p p.size:Nat):Int)
theorem zqA {ps:List ByteArray} {k:Nat} (h:k < ps.length):zrQ (ps.take (k + 1)) = zrQ (ps.take k) ++ [((znT (ps.getD k ⟨#[]⟩) (ps.getD k ⟨#[]⟩).size:Nat):Int)]:=by
 unfold zrQ
 rw [zaT ⟨#[]⟩ h,List.map_append];rfl
def chr (n:Nat):ByteArray:=⟨#[UInt8.ofNat (48 + n)]⟩
structure OkText (t:ByteArray) (n:Nat) (rest:ByteArray) (ps:List ByteArray):Prop where
 size:2 ≤ t.size∧t.size ≤ 1000
 pts:1 ≤ n∧n ≤ 6
 b0:byt t 0 = 48 + n
 b1:byt t 1 = 58
 tail:t.extract 2 t.size = rest
 rsize:rest.size ≤ 1000
 full:(rest.toList == (⟨#[]⟩:ByteArray).toList) = false
 parts:zig rest 44 = ps
 plen:ps.length ≤ 1000
 pne:0 < ps.length
 sets:∀ p ∈ ps,OkSet p
 head:zig t 58 = [chr n,rest]
 cx:cxP n (zrQ ps)
def zA1 (r:Row) (ver:Nat) (Kp:PV→Prop):Prop:=r.ver = ver∧match r.kind with
 | .nil=>∃ bs:List Int,[] = bs.map (fun n=>PV.v (.int .u8 n))∧Kp (.v (.string (bs.foldl (fun r n=>r.push (UInt8.ofNat n.toNat)) ByteArray.empty)))
 | .sli _ sz _ c=>sz = 1∧∃ bs:List Int,c = bs.map (fun n=>PV.v (.int .u8 n))∧Kp (.v (.string (bs.foldl (fun r n=>r.push (UInt8.ofNat n.toNat)) ByteArray.empty)))
 | _=>False
theorem zA2 (rw:Nat→Row) (j ver:Nat) {Kp:PV→Prop}:zfL T rw 22 9 (.own j ver) Kp = zA1 (rw j) ver Kp:=by
 have ha:(T 22).k = .sli 5:=zGo
 have hb:(T 9).k = .str:=T9k
 have he:(T 5).k = .int .u8:=T5k
 have s1:(T 22).size = 1:=zGp
 have s2:(T 9).size = 1:=T9s
 have s3:(T 5).size = 1:=T5s
 unfold zfL zA1
 simp only [ha,hb,he,s1,s2,s3,slK]
 cases h:(rw j).kind <;> simp
theorem zzu (ver e:Nat) (fz:Bool) (n:Int) {Kp:PV→Prop}:zA1 ⟨ver,.sli e 1 fz [.v (.int .u8 n)]⟩ ver Kp = Kp (.v (.string ([n].foldl (fun r n=>r.push (UInt8.ofNat n.toNat)) ByteArray.empty))):=by
 unfold zA1
 simp only [true_and]
 refine propext ⟨fun ⟨bs,hb,h⟩=>?_,fun h=>⟨[n],rfl,h⟩⟩
 match bs,hb with
 | [m],hb=>simp at hb;subst hb;exact h
theorem zF2 (n:Int):lit [.v (.int .u8 n)] = [.v (.int .u8 n)]:=rfl
theorem zi8 (n:Nat):(chr n).size = 1:=rfl
theorem zF3 {n:Nat} (h:n ≤ 9):((chr n).data.toList.getD 0 0).toNat = 48 + n:=by
 show (UInt8.ofNat (48 + n)).toNat = 48 + n
 simp
 omega
theorem zF4 {n:Nat} (h:n ≤ 9):([(48 + n:Int)].foldl (fun r n=>r.push (UInt8.ofNat n.toNat)) ByteArray.empty) ++ ⟨#[]⟩ = chr n:=by
 have:∀ m:Fin 10,([(48 + (m.val:Nat):Int)].foldl (fun r n=>r.push (UInt8.ofNat n.toNat)) ByteArray.empty) ++ ⟨#[]⟩ = chr m.val:=by decide +kernel
 exact this ⟨n,by omega⟩
theorem zix {n:Nat} (h1:1 ≤ n) (h9:n ≤ 9):AC Tryz.prog 222 [int n] (.im (str (chr n))):=by
 refine AC.go (rs:=[.tmp 2]) zbg zay Tryz.func222 rfl rfl rfl (by kernel_rfl) fun hl=>?_
 have e0:((n:Int) == 0) = false:=beq_eq_false_iff_ne.2 (by omega)
 simp (maxSteps:=5000000) -dsimp only [↓gp,gq,reduceCtorEq,reduceEqDiff,reduceLT,reduceLeDiff,reduceAdd,reduceMul,reduceSub,Nat.reduceBEq,Int.reduceToNat,Int.reduceLE,Int.reduceLT,Int.reduceNeg,reduceMod,zac,zad,zab,zaa,gT,TK.isInt,TK.agg,Array.toList,e0]
 refine zaq (fun (za:Nat × ByteArray) s=>match za with | (m,o)=>s.sl 0 = int m∧s.sl 3 = bool false∧s.sl 4 = str o∧((m = n∧o = ⟨#[]⟩) ∨ (m = 0∧o = chr n))) (fun (m,o)=>m) ((n,⟨#[]⟩)) (by refine ⟨?_,?_,?_,Or.inl ⟨rfl,rfl⟩⟩ <;> (first | (simp (maxSteps:=5000000) -dsimp only [gr,reduceEqDiff,reduceLT,reduceAdd,reduceMod,Nat.reduceBEq,zaa,zac,zad,zab,decide_eq_false (show ¬ ((n:Int) < 0) by omega)];first | done | rfl | (simp;done)) | assumption | rfl)) ?_
 intro (m,o) sa ⟨h0a,h3a,h4a,hIa⟩
 rcases hIa with ⟨rfl,rfl⟩ | ⟨rfl,rfl⟩
 ·have ht:((m:Int)).tmod 10 = (m:Int):=Int.tmod_eq_of_lt (by omega) (by omega)
  have hw:IntKind.i64.wrap (48 + (m:Int)) = 48 + (m:Int):=zat (by omega) (by omega)
  have hw8:IntKind.u8.wrap (48 + (m:Int)) = 48 + (m:Int):=by
   simp [IntKind.wrap,IntKind.bits,IntKind.signed]
   omega
  have hq:((m:Int)).tdiv 10 = 0:=Int.tdiv_eq_zero_of_lt (by omega) (by omega)
  have hc:=zF4 h9
  simp (maxSteps:=5000000) -dsimp only [↓gp,gq,reduceCtorEq,reduceEqDiff,reduceLT,reduceLeDiff,reduceAdd,reduceMul,reduceSub,Nat.reduceBEq,Int.reduceToNat,Int.reduceLE,Int.reduceLT,Int.reduceNeg,reduceMod,zac,zad,zab,zaa,gT,TK.isInt,TK.agg,Array.toList,h0a,h3a,h4a,zA2,zzu,zF2,ht,hw,hw8,hq,hc]
  refine ⟨fun _=>⟨by decide,fun h=>absurd h (by omega),fun _=>⟨?_,by decide,zag ((0,chr m)) (by refine ⟨?_,?_,?_,Or.inr ⟨rfl,rfl⟩⟩ <;> (first | (simp (maxSteps:=5000000) -dsimp only [gr,reduceEqDiff,reduceLT,reduceAdd,reduceMod,Nat.reduceBEq,zaa,zac,zad,zab,h0a,h3a,h4a,ht,hw,hw8,hq,hc];first | done | rfl | (simp;done)) | assumption | rfl)) (by first | omega | (simp only;omega) | (dsimp only;omega) | (show _ < _;simp;omega))⟩⟩,fun h=>?_⟩
  ·show 1 + 0 ≤ 9223372036854775807
   omega
  ·simp at h
   omega
 ·simp (maxSteps:=5000000) -dsimp only [↓gp,gq,reduceCtorEq,reduceEqDiff,reduceLT,reduceLeDiff,reduceAdd,reduceMul,reduceSub,Nat.reduceBEq,Int.reduceToNat,Int.reduceLE,Int.reduceLT,Int.reduceNeg,reduceMod,zac,zad,zab,zaa,gT,TK.isInt,TK.agg,Array.toList,h0a,h3a,h4a,show (((0:Nat):Int) != 0) = false from rfl]
theorem znD {n:Nat} (h1:1 ≤ n) (h9:n ≤ 9):AC Tryz.prog 200 [str (chr n),int 12] (.tup [.im (int n),.im (bool true)]):=by
 refine AC.go (rs:=[.tmp 4,.tmp 5]) zbg zay Tryz.func200 rfl rfl rfl (by kernel_rfl) fun hl=>?_
 have hc:=zF3 h9
 have e45:(((48 + n:Nat):Int) == 45) = false:=beq_eq_false_iff_ne.2 (by omega)
 have hz1:((1:Nat):Int) = 1:=rfl
 simp (maxSteps:=5000000) -dsimp only [↓gp,gq,reduceCtorEq,reduceEqDiff,reduceLT,reduceLeDiff,reduceAdd,reduceMul,reduceSub,Nat.reduceBEq,Int.reduceToNat,Int.reduceLE,Int.reduceLT,Int.reduceNeg,reduceMod,zac,zad,zab,zaa,gT,TK.isInt,TK.agg,Array.toList,zi8,hc,e45,hz1]
 refine zaq (fun (i:Nat) s=>s.sl 0 = str (chr n)∧s.sl 6 = bool false∧s.sl 7 = str (chr n)∧s.sl 8 = int (if i = 0 then 0 else n:Nat)∧s.sl 9 = int i∧(i ≤ 1)) (fun i=>1 - i) (0) (by refine ⟨?_,?_,?_,?_,?_,by simp⟩ <;> (first | (simp (maxSteps:=5000000) -dsimp only [gr,reduceEqDiff,reduceLT,reduceAdd,reduceMod,Nat.reduceBEq,zaa,zac,zad,zab];first | done | rfl | (simp;done)) | assumption | rfl)) ?_
 intro i sa ⟨h0a,h6a,h7a,h8a,h9a,hIa⟩
 have hi:i = 0 ∨ i = 1:=by omega
 rcases hi with rfl | rfl
 ·have z0:((0:Nat):Int) = 0:=rfl
  have hw8:IntKind.u8.wrap (((48 + n:Nat):Int) - 48) = (n:Int):=by
   simp [IntKind.wrap,IntKind.bits,IntKind.signed]
   omega
  have hw:IntKind.i64.wrap (n:Int) = (n:Int):=zat (by omega) (by omega)
  have hm:IntKind.i64.wrap (10 * 0) = 0:=by decide
  have ha:IntKind.i64.wrap (0 + (n:Int)) = (n:Int):=by rw [Int.zero_add];exact hw
  have h01:IntKind.i64.wrap (0 + 1) = 1:=by decide
  simp (maxSteps:=5000000) -dsimp only [↓gp,gq,reduceCtorEq,reduceEqDiff,reduceLT,reduceLeDiff,reduceAdd,reduceMul,reduceSub,Nat.reduceBEq,Int.reduceToNat,Int.reduceLE,Int.reduceLT,Int.reduceNeg,reduceMod,zac,zad,zab,zaa,gT,TK.isInt,TK.agg,Array.toList,h0a,h6a,h7a,h8a,h9a,zi8,hc,hz1,z0]
  refine ⟨fun _=>⟨fun hx=>absurd hx (by omega),fun _=>zag (1) (by refine ⟨?_,?_,?_,?_,?_,by omega⟩ <;> (first | (simp (maxSteps:=5000000) -dsimp only [gr,reduceEqDiff,reduceLT,reduceAdd,reduceMod,Nat.reduceBEq,zaa,zac,zad,zab,h0a,h6a,h7a,h8a,h9a,hw8,hw,hm,ha,h01];first | done | rfl | (simp;done)) | assumption | rfl)) (by first | omega | (simp only;omega) | (dsimp only;omega) | (show _ < _;simp;omega))⟩,fun hx=>absurd hx (by omega)⟩
 ·simp (maxSteps:=5000000) -dsimp only [↓gp,gq,reduceCtorEq,reduceEqDiff,reduceLT,reduceLeDiff,reduceAdd,reduceMul,reduceSub,Nat.reduceBEq,Int.reduceToNat,Int.reduceLE,Int.reduceLT,Int.reduceNeg,reduceMod,zac,zad,zab,zaa,gT,TK.isInt,TK.agg,Array.toList,h0a,h6a,h7a,h8a,h9a,zi8,hc,hz1]
  refine zaf (zix h1 h9) ?_
  simp (maxSteps:=5000000) -dsimp only [↓gp,gq,reduceCtorEq,reduceEqDiff,reduceLT,reduceLeDiff,reduceAdd,reduceMul,reduceSub,Nat.reduceBEq,Int.reduceToNat,Int.reduceLE,Int.reduceLT,Int.reduceNeg,reduceMod,zac,zad,zab,zaa,gT,TK.isInt,TK.agg,Array.toList,h0a,h6a,h7a,h8a,h9a,zi8,beq_self_eq_true]
theorem zkL {n:Nat} (h1:1 ≤ n) (h9:n ≤ 9):AC Tryz.prog 162 [str (chr n)] (.tup [.im (int n),.im (bool true)]):=by
 refine AC.go (rs:=[.tmp 2,.tmp 3]) zbg zay Tryz.func162 rfl rfl rfl (by kernel_rfl) fun hl=>?_
 simp (maxSteps:=5000000) -dsimp only [↓gp,gq,reduceCtorEq,reduceEqDiff,reduceLT,reduceLeDiff,reduceAdd,reduceMul,reduceSub,Nat.reduceBEq,Int.reduceToNat,Int.reduceLE,Int.reduceLT,Int.reduceNeg,reduceMod,zac,zad,zab,zaa,gT,TK.isInt,TK.agg,Array.toList]
 refine zaf (znD h1 h9) ?_
 simp (maxSteps:=5000000) -dsimp only [↓gp,gq,reduceCtorEq,reduceEqDiff,reduceLT,reduceLeDiff,reduceAdd,reduceMul,reduceSub,Nat.reduceBEq,Int.reduceToNat,Int.reduceLE,Int.reduceLT,Int.reduceNeg,reduceMod,zac,zad,zab,zaa,gT,TK.isInt,TK.agg,Array.toList]
theorem zgo {t rest:ByteArray} {n:Nat} {ps:List ByteArray} (h:OkText t n rest ps):AC Tryz.prog 84 [str t] (.tup [.ag [.im (int n),.fr 3 1 (iL (zrQ ps))],.im (bool true)]):=by
 refine AC.go (rs:=[.cell 2 27,.tmp 3]) zbg zay Tryz.func84 rfl rfl rfl (by kernel_rfl) fun hl=>?_
 simp (maxSteps:=5000000) -dsimp only [↓gp,gq,reduceCtorEq,reduceEqDiff,reduceLT,reduceLeDiff,reduceAdd,reduceMul,reduceSub,Nat.reduceBEq,Int.reduceToNat,Int.reduceLE,Int.reduceLT,Int.reduceNeg,reduceMod,zac,zad,zab,zaa,gT,TK.isInt,TK.agg,Array.toList]
 refine zaf (zeH t 58 h.size.2) ?_
 rw [h.head]
 have hz2:(((2:Nat):Int) != 2) = false:=rfl
 simp (maxSteps:=5000000) -dsimp only [↓gp,gq,reduceCtorEq,reduceEqDiff,reduceLT,reduceLeDiff,reduceAdd,reduceMul,reduceSub,Nat.reduceBEq,Int.reduceToNat,Int.reduceLE,Int.reduceLT,Int.reduceNeg,reduceMod,zac,zad,zab,zaa,gT,TK.isInt,TK.agg,Array.toList,zce,hz2]
 refine ⟨by omega,zaf (zkL h.pts.1 (by have:=h.pts;omega)) ?_⟩
 simp (maxSteps:=5000000) -dsimp only [↓gp,gq,reduceCtorEq,reduceEqDiff,reduceLT,reduceLeDiff,reduceAdd,reduceMul,reduceSub,Nat.reduceBEq,Int.reduceToNat,Int.reduceLE,Int.reduceLT,Int.reduceNeg,reduceMod,zac,zad,zab,zaa,gT,TK.isInt,TK.agg,Array.toList]
 refine ⟨by omega,zaf (zeH rest 44 h.rsize) ?_⟩
 rw [h.parts]
 simp (maxSteps:=5000000) -dsimp only [↓gp,gq,reduceCtorEq,reduceEqDiff,reduceLT,reduceLeDiff,reduceAdd,reduceMul,reduceSub,Nat.reduceBEq,Int.reduceToNat,Int.reduceLE,Int.reduceLT,Int.reduceNeg,reduceMod,zac,zad,zab,zaa,gT,TK.isInt,TK.agg,Array.toList,zce]
 refine zaq (fun (za:Nat × Nat × PV × RK × Nat × Nat × Nat) s=>match za with | (k,u,fc,kd,v,y,z)=>s.sl 2 = .ref 2 1 0∧s.rw 2 = ⟨1,.box 27 [int 0,.v (.slice none 0 0)]⟩∧s.sl 7 = .ref 7 y 0∧s.rw 7 = ⟨y,.box 27 [int n,fc]⟩∧s.rw 58 = ⟨u,kd⟩∧s.sl 4 = .own 13 z∧s.rw 13 = ⟨z,.sli 9 1 false (sL [chr n,rest])⟩∧s.sl 6 = bool true∧s.sl 8 = .own 30 v∧s.rw 30 = ⟨v,.sli 9 1 false (sL ps)⟩∧s.sl 9 = int k∧(k ≤ ps.length∧((k = 0∧fc = .v (.slice none 0 0)) ∨ (0 < k∧fc = .own 58 u∧kd = .sli 3 1 false (iL (zrQ (ps.take k))))))) (fun (k,u,fc,kd,v,y,z)=>ps.length - k) ((0,0,.v (.slice none 0 0),.dead,1,1,1)) (by refine ⟨?_,?_,?_,?_,?_,?_,?_,?_,?_,?_,?_,by simp⟩ <;> (first | (simp (maxSteps:=5000000) -dsimp only [gr,reduceEqDiff,reduceLT,reduceAdd,reduceMod,Nat.reduceBEq,zaa,zac,zad,zab,zce];first | done | rfl | (simp;done)) | assumption | rfl)) ?_
 intro (k,u,fc,kd,v,y,z) sa ⟨h2a,r2a,h7a,r7a,r58a,h4a,r13a,h6a,h8a,r30a,h9a,hIa⟩
 obtain ⟨hk,hfc⟩:=hIa
 have hfl:(zrQ (ps.take k)).length = k:=by unfold zrQ;simp;omega
 have hr1:[chr n,rest].getD 1 ⟨#[]⟩ = rest:=rfl
 rcases hfc with ⟨rfl,rfl⟩ | ⟨h0,rfl,rfl⟩
 ·simp (maxSteps:=5000000) -dsimp only [↓gp,gq,reduceCtorEq,reduceEqDiff,reduceLT,reduceLeDiff,reduceAdd,reduceMul,reduceSub,Nat.reduceBEq,Int.reduceToNat,Int.reduceLE,Int.reduceLT,Int.reduceNeg,reduceMod,zac,zad,zab,zaa,gT,TK.isInt,TK.agg,Array.toList,h2a,r2a,h7a,r7a,r58a,h4a,r13a,h6a,h8a,r30a,h9a,zce,hr1,h.full]
  refine ⟨fun hlt=>⟨by omega,hlt,hlt,zaf (zfj _ (h.sets _ (zax ⟨#[]⟩ hlt))) ?_⟩,fun hge=>absurd h.pne hge⟩
  simp (maxSteps:=5000000) -dsimp only [↓gp,gq,reduceCtorEq,reduceEqDiff,reduceLT,reduceLeDiff,reduceAdd,reduceMul,reduceSub,Nat.reduceBEq,Int.reduceToNat,Int.reduceLE,Int.reduceLT,Int.reduceNeg,reduceMod,zac,zad,zab,zaa,gT,TK.isInt,TK.agg,Array.toList,h2a,r2a,h7a,r7a,r58a,h4a,r13a,h6a,h8a,r30a,h9a,zce]
  have hf1:zrQ (ps.take 1) = [((znT (ps.getD 0 ⟨#[]⟩) (ps.getD 0 ⟨#[]⟩).size:Nat):Int)]:=zqA hlt
  exact zag ((1,u + 1,.own 58 (u + 1),.sli 3 1 false (iL (zrQ (ps.take 1))),v,y,z)) (by refine ⟨?_,?_,?_,?_,?_,?_,?_,?_,?_,?_,?_,⟨by omega,Or.inr ⟨by omega,rfl,rfl⟩⟩⟩ <;> (first | (simp (maxSteps:=5000000) -dsimp only [gr,reduceEqDiff,reduceLT,reduceAdd,reduceMod,Nat.reduceBEq,zaa,zac,zad,zab,h2a,r2a,h7a,r7a,r58a,h4a,r13a,h6a,h8a,r30a,h9a,hf1];first | done | rfl | (simp;done)) | assumption | rfl)) (by first | omega | (simp only;omega) | (dsimp only;omega) | (show _ < _;simp;omega))
 ·simp (maxSteps:=5000000) -dsimp only [↓gp,gq,reduceCtorEq,reduceEqDiff,reduceLT,reduceLeDiff,reduceAdd,reduceMul,reduceSub,Nat.reduceBEq,Int.reduceToNat,Int.reduceLE,Int.reduceLT,Int.reduceNeg,reduceMod,zac,zad,zab,zaa,gT,TK.isInt,TK.agg,Array.toList,h2a,r2a,h7a,r7a,r58a,h4a,r13a,h6a,h8a,r30a,h9a,zce,zjg,hfl,hr1,h.full]
  refine ⟨fun hlt=>⟨by omega,hlt,hlt,zaf (zfj _ (h.sets _ (zax ⟨#[]⟩ hlt))) ?_⟩,fun hge=>?_⟩
  ·simp (maxSteps:=5000000) -dsimp only [↓gp,gq,reduceCtorEq,reduceEqDiff,reduceLT,reduceLeDiff,reduceAdd,reduceMul,reduceSub,Nat.reduceBEq,Int.reduceToNat,Int.reduceLE,Int.reduceLT,Int.reduceNeg,reduceMod,zac,zad,zab,zaa,gT,TK.isInt,TK.agg,Array.toList,h2a,r2a,h7a,r7a,r58a,h4a,r13a,h6a,h8a,r30a,h9a,zce,hfl]
   have hpl:=h.plen
   refine ⟨by omega,?_⟩
   exact zag ((k + 1,u + 1,.own 58 (u + 1),.sli 3 1 false (iL (zrQ (ps.take (k + 1)))),v,y,z)) (by refine ⟨?_,?_,?_,?_,?_,?_,?_,?_,?_,?_,?_,⟨by omega,Or.inr ⟨by omega,rfl,rfl⟩⟩⟩ <;> (first | (simp (maxSteps:=5000000) -dsimp only [gr,reduceEqDiff,reduceLT,reduceAdd,reduceMod,Nat.reduceBEq,zaa,zac,zad,zab,h2a,r2a,h7a,r7a,r58a,h4a,r13a,h6a,h8a,r30a,h9a,zqA hlt,zae hlt (by omega)];first | done | rfl | (simp;done)) | assumption | rfl)) (by first | omega | (simp only;omega) | (dsimp only;omega) | (show _ < _;simp;omega))
  ·obtain rfl:k = ps.length:=by omega
   rw [List.take_length]
   have hcx:=ziE h.cx
   refine zaf (zbi n (zrQ ps)) ?_
   simp (maxSteps:=5000000) -dsimp only [↓gp,gq,reduceCtorEq,reduceEqDiff,reduceLT,reduceLeDiff,reduceAdd,reduceMul,reduceSub,Nat.reduceBEq,Int.reduceToNat,Int.reduceLE,Int.reduceLT,Int.reduceNeg,reduceMod,zac,zad,zab,zaa,gT,TK.isInt,TK.agg,Array.toList,h2a,r2a,h7a,r7a,r58a,h4a,r13a,h6a,h8a,r30a,h9a,hcx,hfl,List.take_length]
noncomputable def zhc (n:Int) (xs:List Int) (s:Nat):Bool:=zef n xs && (zch n s && !zaZ xs s)
noncomputable def zkW (n:Int) (xs:List Int):List Nat:=zfz (zhc n xs) false
theorem zzs {n:Int} {xs:List Int} {s:Nat} (h:zhc n xs s = true):s < 64:=by
 unfold zhc at h
 simp only [Bool.and_eq_true] at h
 have:=zcm h.2.1
 omega
theorem zAZ (n:Int) (xs:List Int):inF (ofN ((List.range 64).filter (zhc n xs))) = zhc n xs:=by
 funext s
 rw [znC]
 refine Bool.eq_iff_iff.2 ?_
 rw [decide_eq_true_iff,List.mem_filter,List.mem_range]
 exact ⟨fun h=>h.2,fun h=>⟨zzs h,h⟩⟩
theorem zzt {n:Int} {xs:List Int} (h:zef n xs = false) (s:Nat):zhc n xs s = false:=by unfold zhc;rw [h];rfl
theorem zA0 (n:Int) (xs:List Int):(zkW n xs).length ≤ 448:=zuv _ _
theorem zdP (n:Int) (xs:List Int):AC Tryz.prog 120 [.ag [int n,zbj xs]] (.fr 3 1 (iL (ofN (zkW n xs)))):=by
 refine AC.go (rs:=[.tmp 2]) zbg zay Tryz.func120 rfl rfl rfl (by kernel_rfl) fun hl=>?_
 simp (maxSteps:=5000000) -dsimp only [↓gp,gq,reduceCtorEq,reduceEqDiff,reduceLT,reduceLeDiff,reduceAdd,reduceMul,reduceSub,Nat.reduceBEq,Int.reduceToNat,Int.reduceLE,Int.reduceLT,Int.reduceNeg,reduceMod,zac,zad,zab,zaa,gT,TK.isInt,TK.agg,Array.toList]
 refine zaq (fun (za:Nat × Nat) s=>match za with | (t,v)=>s.sl 1 = .ref 1 1 0∧s.rw 1 = ⟨1,.box 27 [int n,zbj xs]⟩∧s.sl 3 = .own 5 v∧s.rw 5 = ⟨v,.sli 3 1 false (iL (ofN ((List.range t).filter (zhc n xs))))⟩∧s.sl 4 = int t∧(t ≤ 64)) (fun (t,v)=>64 - t) ((0,1)) (by refine ⟨?_,?_,?_,?_,?_,by simp⟩ <;> (first | (simp (maxSteps:=5000000) -dsimp only [gr,reduceEqDiff,reduceLT,reduceAdd,reduceMod,Nat.reduceBEq,zaa,zac,zad,zab];first | done | rfl | (simp;done)) | assumption | rfl)) ?_
 intro (t,v) sa ⟨h1a,r1a,h3a,r5a,h4a,hIa⟩
 have hfl:((List.range t).filter (zhc n xs)).length ≤ 64:=by
  have:=List.length_filter_le (zhc n xs) (List.range t)
  rw [List.length_range] at this
  omega
 have hend:(t = 64 ∨ zef n xs = false)→inF (ofN ((List.range t).filter (zhc n xs))) = zhc n xs:=fun h=>by
  rcases h with rfl | h
  ·exact zAZ n xs
  ·funext i
   rw [znC,zzt h]
   exact decide_eq_false fun hm=>by rw [List.mem_filter,zzt h] at hm;cases hm.2
 have hext:(t = 64 ∨ zef n xs = false)→AC Tryz.prog 184 [zbj (ofN ((List.range t).filter (zhc n xs))),bool false] (.fr 3 1 (iL (ofN (zkW n xs)))):=fun h=>by
  have:=zeE false _ (zqz (l:=(List.range t).filter (zhc n xs)) fun i hi=>zzs (List.mem_filter.1 hi).2)
  rwa [hend h] at this
 simp (maxSteps:=5000000) -dsimp only [↓gp,gq,reduceCtorEq,reduceEqDiff,reduceLT,reduceLeDiff,reduceAdd,reduceMul,reduceSub,Nat.reduceBEq,Int.reduceToNat,Int.reduceLE,Int.reduceLT,Int.reduceNeg,reduceMod,zac,zad,zab,zaa,gT,TK.isInt,TK.agg,Array.toList,h1a,r1a,h3a,r5a,h4a]
 refine ⟨fun h=>zaf (zbi n xs) ?_,fun h=>zaf (hext (.inl (by omega))) ?_⟩
 ·simp (maxSteps:=5000000) -dsimp only [↓gp,gq,reduceCtorEq,reduceEqDiff,reduceLT,reduceLeDiff,reduceAdd,reduceMul,reduceSub,Nat.reduceBEq,Int.reduceToNat,Int.reduceLE,Int.reduceLT,Int.reduceNeg,reduceMod,zac,zad,zab,zaa,gT,TK.isInt,TK.agg,Array.toList,h1a,r1a,h3a,r5a,h4a]
  refine ⟨fun hc=>zaf (zeS _ _) ?_,fun hc=>zaf (hext (.inr hc)) ?_⟩
  ·have hx:=zrO hc
   have h:t < 64:=by omega
   have hms:zhc n xs t = (zch n t && !zaZ xs t):=by unfold zhc;rw [hc];rfl
   have hyes:zhc n xs t = true→ofN ((List.range (t + 1)).filter (zhc n xs)) = ofN ((List.range t).filter (zhc n xs)) ++ [(t:Int)]:=fun h=>by
    rw [List.range_succ,List.filter_append,zaR]
    simp [h,ofN]
   have hno:zhc n xs t = false→ofN ((List.range (t + 1)).filter (zhc n xs)) = ofN ((List.range t).filter (zhc n xs)):=fun h=>by
    rw [List.range_succ,List.filter_append,zaR]
    simp [h,ofN]
   simp (maxSteps:=5000000) -dsimp only [↓gp,gq,reduceCtorEq,reduceEqDiff,reduceLT,reduceLeDiff,reduceAdd,reduceMul,reduceSub,Nat.reduceBEq,Int.reduceToNat,Int.reduceLE,Int.reduceLT,Int.reduceNeg,reduceMod,zac,zad,zab,zaa,gT,TK.isInt,TK.agg,Array.toList,h1a,r1a,h3a,r5a,h4a]
   refine ⟨fun hs=>zaf (zii n xs t hx h) ?_,fun hs=>?_⟩
   ·simp (maxSteps:=5000000) -dsimp only [↓gp,gq,reduceCtorEq,reduceEqDiff,reduceLT,reduceLeDiff,reduceAdd,reduceMul,reduceSub,Nat.reduceBEq,Int.reduceToNat,Int.reduceLE,Int.reduceLT,Int.reduceNeg,reduceMod,zac,zad,zab,zaa,gT,TK.isInt,TK.agg,Array.toList,h1a,r1a,h3a,r5a,h4a]
    refine ⟨fun hf=>?_,fun hf=>?_⟩
    ·have e:=hyes (by rw [hms,hs,hf];rfl)
     refine ⟨by rw [zaj];omega,zag ((t + 1,v + 1)) (by refine ⟨?_,?_,?_,?_,?_,by dsimp only;omega⟩ <;> (first | (simp (maxSteps:=5000000) -dsimp only [gr,reduceEqDiff,reduceLT,reduceAdd,reduceMod,Nat.reduceBEq,zaa,zac,zad,zab,h1a,r1a,h3a,r5a,h4a,zae h (by omega),e];first | done | rfl | (simp;done)) | assumption | rfl)) (by first | omega | (simp only;omega) | (dsimp only;omega) | (show _ < _;simp;omega))⟩
    ·have e:=hno (by rw [hms,hf];simp)
     exact zag ((t + 1,v)) (by refine ⟨?_,?_,?_,?_,?_,by dsimp only;omega⟩ <;> (first | (simp (maxSteps:=5000000) -dsimp only [gr,reduceEqDiff,reduceLT,reduceAdd,reduceMod,Nat.reduceBEq,zaa,zac,zad,zab,h1a,r1a,h3a,r5a,h4a,zae h (by omega),e];first | done | rfl | (simp;done)) | assumption | rfl)) (by first | omega | (simp only;omega) | (dsimp only;omega) | (show _ < _;simp;omega))
   ·have e:=hno (by rw [hms,hs];rfl)
    exact zag ((t + 1,v)) (by refine ⟨?_,?_,?_,?_,?_,by dsimp only;omega⟩ <;> (first | (simp (maxSteps:=5000000) -dsimp only [gr,reduceEqDiff,reduceLT,reduceAdd,reduceMod,Nat.reduceBEq,zaa,zac,zad,zab,h1a,r1a,h3a,r5a,h4a,zae h (by omega),e];first | done | rfl | (simp;done)) | assumption | rfl)) (by first | omega | (simp only;omega) | (dsimp only;omega) | (show _ < _;simp;omega))
  ·simp (maxSteps:=5000000) -dsimp only [↓gp,gq,reduceCtorEq,reduceEqDiff,reduceLT,reduceLeDiff,reduceAdd,reduceMul,reduceSub,Nat.reduceBEq,Int.reduceToNat,Int.reduceLE,Int.reduceLT,Int.reduceNeg,reduceMod,zac,zad,zab,zaa,gT,TK.isInt,TK.agg,Array.toList,h1a,r1a,h3a,r5a,h4a]
 ·simp (maxSteps:=5000000) -dsimp only [↓gp,gq,reduceCtorEq,reduceEqDiff,reduceLT,reduceLeDiff,reduceAdd,reduceMul,reduceSub,Nat.reduceBEq,Int.reduceToNat,Int.reduceLE,Int.reduceLT,Int.reduceNeg,reduceMod,zac,zad,zab,zaa,gT,TK.isInt,TK.agg,Array.toList,h1a,r1a,h3a,r5a,h4a]
theorem zdA (p:Int):AC Tryz.prog 61 [int p] (.im (bool (isP p))):=by
 refine AC.go (rs:=[.tmp 2]) zbg zay Tryz.func61 rfl rfl rfl (by kernel_rfl) fun hl=>?_
 simp (maxSteps:=5000000) -dsimp only [↓gp,gq,reduceCtorEq,reduceEqDiff,reduceLT,reduceLeDiff,reduceAdd,reduceMul,reduceSub,Nat.reduceBEq,Int.reduceToNat,Int.reduceLE,Int.reduceLT,Int.reduceNeg,reduceMod,zac,zad,zab,zaa,gT,TK.isInt,TK.agg,Array.toList]
 unfold isP
 exact ⟨fun h=>⟨fun h2=>by simp [h,h2],fun h2=>by simp [h,h2]⟩,fun h=>by simp [h]⟩
theorem zvM {a p:Int} (hp:0 < p):-p < a.tmod p∧a.tmod p < p:=⟨Int.lt_tmod_of_pos a hp,Int.tmod_lt_of_pos a hp⟩
theorem zeA (a p:Int) (hp:isP p = true):AC Tryz.prog 213 [int a,int p] (.im (int (a % p))):=by
 refine AC.go (rs:=[.tmp 4]) zbg zay Tryz.func213 rfl rfl rfl (by kernel_rfl) fun hl=>?_
 have hp:=zdw hp
 have h1:=zvM (a:=a) (by omega:0 < p)
 have hw:IntKind.i64.wrap (a.tmod p + p) = a.tmod p + p:=zat (by omega) (by omega)
 have hm:=zDt a p (by omega)
 simp (maxSteps:=5000000) -dsimp only [↓gp,gq,reduceCtorEq,reduceEqDiff,reduceLT,reduceLeDiff,reduceAdd,reduceMul,reduceSub,Nat.reduceBEq,Int.reduceToNat,Int.reduceLE,Int.reduceLT,Int.reduceNeg,reduceMod,zac,zad,zab,zaa,gT,TK.isInt,TK.agg,Array.toList,hw,hm]
 omega
theorem zuF {p r b:Int} (h:b < p):zdx p r b (p - b).toNat = if r * b % p = 1 then b else zdx p r (b + 1) (p - (b + 1)).toNat:=by
 have e:(p - b).toNat = (p - (b + 1)).toNat + 1:=by omega
 rw [e,zdx]
theorem zhJ (a p:Int) (hp:isP p = true):AC Tryz.prog 227 [int a,int p] (.im (int (zqM p a))):=by
 refine AC.go (rs:=[.tmp 4]) zbg zay Tryz.func227 rfl rfl rfl (by kernel_rfl) fun hl=>?_
 have hp2:=zdw hp
 simp (maxSteps:=5000000) -dsimp only [↓gp,gq,reduceCtorEq,reduceEqDiff,reduceLT,reduceLeDiff,reduceAdd,reduceMul,reduceSub,Nat.reduceBEq,Int.reduceToNat,Int.reduceLE,Int.reduceLT,Int.reduceNeg,reduceMod,zac,zad,zab,zaa,gT,TK.isInt,TK.agg,Array.toList]
 refine zaf (zdA p) ?_
 simp (maxSteps:=5000000) -dsimp only [↓gp,gq,reduceCtorEq,reduceEqDiff,reduceLT,reduceLeDiff,reduceAdd,reduceMul,reduceSub,Nat.reduceBEq,Int.reduceToNat,Int.reduceLE,Int.reduceLT,Int.reduceNeg,reduceMod,zac,zad,zab,zaa,gT,TK.isInt,TK.agg,Array.toList,hp]
 have hr:=Int.emod_nonneg a (by omega:p ≠ 0)
 have hr2:=Int.emod_lt_of_pos a (by omega:0 < p)
 refine zaq (fun (b:Int) s=>s.sl 0 = int a∧s.sl 1 = int p∧s.sl 5 = int b∧(1 ≤ b∧b ≤ p∧zqM p a = zdx p (a % p) b (p - b).toNat)) (fun b=>(p - b).toNat) (1) (by refine ⟨?_,?_,?_,⟨by omega,by omega,rfl⟩⟩ <;> (first | (simp (maxSteps:=5000000) -dsimp only [gr,reduceEqDiff,reduceLT,reduceAdd,reduceMod,Nat.reduceBEq,zaa,zac,zad,zab];first | done | rfl | (simp;done)) | assumption | rfl)) ?_
 intro b sa ⟨h0a,h1a,h5a,hIa⟩
 obtain ⟨hb,hb2,hv⟩:=hIa
 simp (maxSteps:=5000000) -dsimp only [↓gp,gq,reduceCtorEq,reduceEqDiff,reduceLT,reduceLeDiff,reduceAdd,reduceMul,reduceSub,Nat.reduceBEq,Int.reduceToNat,Int.reduceLE,Int.reduceLT,Int.reduceNeg,reduceMod,zac,zad,zab,zaa,gT,TK.isInt,TK.agg,Array.toList,h0a,h1a,h5a]
 refine ⟨fun h=>zaf (zeA a p hp) ?_,fun h=>?_⟩
 ·have hm:0 ≤ a % p * b∧a % p * b ≤ 20:=by
   refine ⟨Int.mul_nonneg hr (by omega),?_⟩
   have:=Int.mul_le_mul (show a % p ≤ 4 by omega) (show b ≤ 5 by omega) (by omega) (by omega)
   omega
  have hw:IntKind.i64.wrap (a % p * b) = a % p * b:=zat (by omega) (by omega)
  have hw2:IntKind.i64.wrap (b + 1) = b + 1:=zat (by omega) (by omega)
  simp (maxSteps:=5000000) -dsimp only [↓gp,gq,reduceCtorEq,reduceEqDiff,reduceLT,reduceLeDiff,reduceAdd,reduceMul,reduceSub,Nat.reduceBEq,Int.reduceToNat,Int.reduceLE,Int.reduceLT,Int.reduceNeg,reduceMod,zac,zad,zab,zaa,gT,TK.isInt,TK.agg,Array.toList,h0a,h1a,h5a,hw,hw2,zkD hm.1]
  refine ⟨by omega,fun h1=>?_,fun h1=>zag (b + 1) ⟨(by (first | (simp (maxSteps:=5000000) -dsimp only [gr,reduceEqDiff,reduceLT,reduceAdd,reduceMod,Nat.reduceBEq,zaa,zac,zad,zab,h0a,h1a,h5a,hw2];first | done | rfl | (simp;done)) | assumption | rfl)),(by (first | (simp (maxSteps:=5000000) -dsimp only [gr,reduceEqDiff,reduceLT,reduceAdd,reduceMod,Nat.reduceBEq,zaa,zac,zad,zab,h0a,h1a,h5a,hw2];first | done | rfl | (simp;done)) | assumption | rfl)),(by (first | (simp (maxSteps:=5000000) -dsimp only [gr,reduceEqDiff,reduceLT,reduceAdd,reduceMod,Nat.reduceBEq,zaa,zac,zad,zab,h0a,h1a,h5a,hw2];first | done | rfl | (simp;done)) | assumption | rfl)),⟨by omega,by omega,?_⟩⟩ (by first | omega | (simp only;omega) | (dsimp only;omega) | (show _ < _;simp;omega))⟩
  ·have h1:=beq_iff_eq.1 h1
   rw [hv,zuF h,if_pos h1]
  ·have h1:¬ a % p * b % p = 1:=by simpa using h1
   rw [hv,zuF h,if_neg h1]
 ·have:(p - b).toNat = 0:=by omega
  rw [hv,this];rfl
theorem zA5 (p:Int) {r:List Int} {j:Nat} (h:j < r.length):(r.map fun x=>x % p).getD j 0 = r.getD j 0 % p:=by simp [List.getD,h]
theorem zzx (p:Int) {M:Mat} {i:Nat} (h:i < M.length):zkU p (M.take i) ++ [(M.getD i []).map fun x=>x % p] = zkU p (M.take (i + 1)):=by
 rw [zaT [] h];simp [zkU]
theorem znF (p:Int) {M:Mat} {i:Nat} (h:i ≤ M.length):(zkU p (M.take i)).length = i:=by simp [zkU];omega
theorem zqD {a b p:Int} (h1:0 ≤ a∧a < p) (h2:0 ≤ b∧b ≤ 5) (hp:p ≤ 5):0 ≤ a * b∧a * b ≤ 25:=by
 refine ⟨Int.mul_nonneg h1.1 h2.1,?_⟩
 have:=Int.mul_le_mul (show a ≤ 5 by omega) h2.2 h2.1 (by omega)
 omega
theorem zA4 (l:List Int) (j:Nat):prt l l j = l:=by simp [prt]
theorem zkN (M:Mat) (n a c:Nat) (p:Int) (hp:isP p = true) (hM:MatOk p n M) (ha:a < M.length) (hc:c < n) (hn:n ≤ 1000):AT Tryz.prog 214 [.own 1000000 1,int a,int c,int p] 25 3 (M.map iL) ((zeF p a c M).map iL) .self:=by
 refine AT.goI (rs:=[.tmp 8]) zbg zay Tryz.func214 rfl rfl rfl (by kernel_rfl) (zbm p a c M) fun hl s hs hlow ht=>?_
 have hp2:=zdw hp
 have hlen:=hM.len a ha
 have hres:=hM.res a ha
 have hac:=hres c
 have hra:=ht.row ha
 have hq:∀ i,i < M.length→(List.range M.length).getD i 0 = i:=fun i hi=>by simp [List.getD,hi]
 rw [hq a ha] at hra
 simp (maxSteps:=5000000) -dsimp only [↓gp,gq,reduceCtorEq,reduceEqDiff,reduceLT,reduceLeDiff,reduceAdd,reduceMul,reduceSub,Nat.reduceBEq,Int.reduceToNat,Int.reduceLE,Int.reduceLT,Int.reduceNeg,reduceMod,zac,zad,zab,zaa,gT,TK.isInt,TK.agg,Array.toList,hs,hlow,ht.top,hra,hq a ha]
 refine ⟨ha,ha,by omega,by omega,zaf (zhJ _ p hp) ?_⟩
 generalize hb:zqM p ((M.getD a []).getD c 0) = b at *
 have hbb:=zDo hp ((M.getD a []).getD c 0)
 rw [hb] at hbb
 simp (maxSteps:=5000000) -dsimp only [↓gp,gq,reduceCtorEq,reduceEqDiff,reduceLT,reduceLeDiff,reduceAdd,reduceMul,reduceSub,Nat.reduceBEq,Int.reduceToNat,Int.reduceLE,Int.reduceLT,Int.reduceNeg,reduceMod,zac,zad,zab,zaa,gT,TK.isInt,TK.agg,Array.toList,hs,hlow]
 generalize hold:M.getD a [] = old at *
 refine zaq (fun (j:Nat) s=>s.sl 0 = .own 1000000 1∧s.sl 1 = int a∧s.sl 2 = int c∧s.sl 3 = int p∧s.sl 9 = int b∧s.sl 10 = int j∧(j ≤ n∧TabI s.rw 1000000 1 25 3 (List.range M.length) (M.set a (prt (scl p b old) old j)))) (fun j=>n - j) (0) (by refine ⟨?_,?_,?_,?_,?_,?_,⟨by omega,by rw [zux,← hold,zha];exact ht.same (by simp (maxSteps:=5000000) -dsimp only [gr,reduceEqDiff,reduceLT,reduceAdd,reduceMod,Nat.reduceBEq,zaa,zac,zad,zab]) (fun x=>by simp (maxSteps:=5000000) -dsimp only [gr,reduceEqDiff,reduceLT,reduceAdd,reduceMod,Nat.reduceBEq,zaa,zac,zad,zab])⟩⟩ <;> (first | (simp (maxSteps:=5000000) -dsimp only [gr,reduceEqDiff,reduceLT,reduceAdd,reduceMod,Nat.reduceBEq,zaa,zac,zad,zab,hs];first | done | rfl | (simp;done)) | assumption | rfl)) ?_
 intro j sa ⟨h0a,h1a,h2a,h3a,h9a,h10a,hIa⟩
 obtain ⟨hj,ht1⟩:=hIa
 have hset:a < (M.set a (prt (scl p b old) old j)).length:=by simpa using ha
 have hr1:=ht1.row hset
 have hpl:(prt (scl p b old) old j).length = n:=by rw [zmz (zdh p b old)];exact hlen
 rw [zbe ha,hq a ha] at hr1
 have hpj:=zuy (zdh p b old) (Nat.le_refl j)
 have hoj:=hres j
 have hmb:=zqD hoj ⟨hbb.1,by omega⟩ hp2.2
 have hw:IntKind.i64.wrap (old.getD j 0 * b) = old.getD j 0 * b:=zat (by omega) (by omega)
 simp (maxSteps:=5000000) -dsimp only [↓gp,gq,reduceCtorEq,reduceEqDiff,reduceLT,reduceLeDiff,reduceAdd,reduceMul,reduceSub,Nat.reduceBEq,Int.reduceToNat,Int.reduceLE,Int.reduceLT,Int.reduceNeg,reduceMod,zac,zad,zab,zaa,gT,TK.isInt,TK.agg,Array.toList,h0a,h1a,h2a,h3a,h9a,h10a,ht1.top,hr1,hq a ha,hpl,hpj,hw,zkD hmb.1]
 refine ⟨ha,ha,fun h=>⟨by kernel_rfl,ha,ha,ha,ha,h,h,by omega,h,by omega,by kernel_rfl,?_⟩,fun h=>?_⟩
 ·refine zag (j + 1) ⟨(by (first | (simp (maxSteps:=5000000) -dsimp only [gr,reduceEqDiff,reduceLT,reduceAdd,reduceMod,Nat.reduceBEq,zaa,zac,zad,zab,h0a,h1a,h2a,h3a,h9a,h10a,zae h (by omega)];first | done | rfl | (simp;done)) | assumption | rfl)),(by (first | (simp (maxSteps:=5000000) -dsimp only [gr,reduceEqDiff,reduceLT,reduceAdd,reduceMod,Nat.reduceBEq,zaa,zac,zad,zab,h0a,h1a,h2a,h3a,h9a,h10a,zae h (by omega)];first | done | rfl | (simp;done)) | assumption | rfl)),(by (first | (simp (maxSteps:=5000000) -dsimp only [gr,reduceEqDiff,reduceLT,reduceAdd,reduceMod,Nat.reduceBEq,zaa,zac,zad,zab,h0a,h1a,h2a,h3a,h9a,h10a,zae h (by omega)];first | done | rfl | (simp;done)) | assumption | rfl)),(by (first | (simp (maxSteps:=5000000) -dsimp only [gr,reduceEqDiff,reduceLT,reduceAdd,reduceMod,Nat.reduceBEq,zaa,zac,zad,zab,h0a,h1a,h2a,h3a,h9a,h10a,zae h (by omega)];first | done | rfl | (simp;done)) | assumption | rfl)),(by (first | (simp (maxSteps:=5000000) -dsimp only [gr,reduceEqDiff,reduceLT,reduceAdd,reduceMod,Nat.reduceBEq,zaa,zac,zad,zab,h0a,h1a,h2a,h3a,h9a,h10a,zae h (by omega)];first | done | rfl | (simp;done)) | assumption | rfl)),(by (first | (simp (maxSteps:=5000000) -dsimp only [gr,reduceEqDiff,reduceLT,reduceAdd,reduceMod,Nat.reduceBEq,zaa,zac,zad,zab,h0a,h1a,h2a,h3a,h9a,h10a,zae h (by omega)];first | done | rfl | (simp;done)) | assumption | rfl)),⟨by omega,?_⟩⟩ (by first | omega | (simp only;omega) | (dsimp only;omega) | (show _ < _;simp;omega))
  have e:M.set a (prt (scl p b old) old (j + 1)) = (M.set a (prt (scl p b old) old j)).set a ((prt (scl p b old) old j).set j (old.getD j 0 * b % p)):=by
   rw [zyZ,← zyY (zdh p b old) (by omega),zhb p b (by omega)]
  rw [e]
  refine ht1.set hset (by simp (maxSteps:=5000000) -dsimp only [gr,reduceEqDiff,reduceLT,reduceAdd,reduceMod,Nat.reduceBEq,zaa,zac,zad,zab,h0a,h1a,h2a,h3a,h9a,h10a]) ?_ (fun x hx=>?_)
  ·rw [hq a ha];simp (maxSteps:=5000000) -dsimp only [gr,reduceEqDiff,reduceLT,reduceAdd,reduceMod,Nat.reduceBEq,zaa,zac,zad,zab,h0a,h1a,h2a,h3a,h9a,h10a]
  ·rw [hq a ha] at hx
   simp (maxSteps:=5000000) -dsimp only [gr,reduceEqDiff,reduceLT,reduceAdd,reduceMod,Nat.reduceBEq,zaa,zac,zad,zab,h0a,h1a,h2a,h3a,h9a,h10a,hx]
 have:j = n:=by omega
 subst this
 have hend:prt (scl p b old) old j = scl p b old:=by rw [← hlen];exact zyX (zdh p b old)
 rw [hend] at ht1
 have hclr:M.set a (scl p b old) = zvW p a c M:=by unfold zvW;rw [hold,hb]
 rw [hclr] at ht1
 have hM1:=zy4 (p:=p) (n:=j) (at':=a) (col:=c) (by omega) hM ha
 have hl1:(zvW p a c M).length = M.length:=zdy p a c M
 have hgoal:zeF p a c M = zmB p a c (zvW p a c M) M.length:=rfl
 rw [hgoal]
 generalize zvW p a c M = M1 at *
 refine zaq (fun (i:Nat) s=>s.sl 0 = .own 1000000 1∧s.sl 1 = int a∧s.sl 2 = int c∧s.sl 3 = int p∧s.sl 11 = int i∧(i ≤ M.length∧TabI s.rw 1000000 1 25 3 (List.range M.length) (zmB p a c M1 i))) (fun i=>M.length - i) (0) (by refine ⟨?_,?_,?_,?_,?_,⟨by omega,by rw [zy2];exact ht1.same (by simp (maxSteps:=5000000) -dsimp only [gr,reduceEqDiff,reduceLT,reduceAdd,reduceMod,Nat.reduceBEq,zaa,zac,zad,zab]) (fun x=>by simp (maxSteps:=5000000) -dsimp only [gr,reduceEqDiff,reduceLT,reduceAdd,reduceMod,Nat.reduceBEq,zaa,zac,zad,zab])⟩⟩ <;> (first | (simp (maxSteps:=5000000) -dsimp only [gr,reduceEqDiff,reduceLT,reduceAdd,reduceMod,Nat.reduceBEq,zaa,zac,zad,zab,h0a,h1a,h2a,h3a,h9a,h10a];first | done | rfl | (simp;done)) | assumption | rfl)) ?_
 intro i sb ⟨h0b,h1b,h2b,h3b,h11b,hIb⟩
 obtain ⟨hi,ht2⟩:=hIb
 have hlN:(zmB p a c M1 i).length = M.length:=by rw [zcq,hl1]
 simp (maxSteps:=5000000) -dsimp only [↓gp,gq,reduceCtorEq,reduceEqDiff,reduceLT,reduceLeDiff,reduceAdd,reduceMul,reduceSub,Nat.reduceBEq,Int.reduceToNat,Int.reduceLE,Int.reduceLT,Int.reduceNeg,reduceMod,zac,zad,zab,zaa,gT,TK.isInt,TK.agg,Array.toList,h0b,h1b,h2b,h3b,h11b,ht2.top]
 refine ⟨fun h=>?_,fun h=>?_⟩
 ·have hi1:i < M1.length:=by omega
  have hr2:=ht2.row (i:=i) (by omega)
  rw [zy3 p a c hi1 (Nat.le_refl i),hq i h] at hr2
  have hl2:=hM1.len i hi1
  have hres2:=hM1.res i hi1
  generalize hold2:M1.getD i [] = old2 at *
  simp (maxSteps:=5000000) -dsimp only [↓gp,gq,reduceCtorEq,reduceEqDiff,reduceLT,reduceLeDiff,reduceAdd,reduceMul,reduceSub,Nat.reduceBEq,Int.reduceToNat,Int.reduceLE,Int.reduceLT,Int.reduceNeg,reduceMod,zac,zad,zab,zaa,gT,TK.isInt,TK.agg,Array.toList,h0b,h1b,h2b,h3b,h11b,ht2.top,hr2,hq i h]
  refine ⟨h,h,by omega,by omega,?_⟩
  have hf:=hres2 c
  generalize hfe:old2.getD c 0 = f at *
  have hra1:a < M1.length:=by omega
  have hnew:(zns p a c M1 i).length = old2.length:=by
   rw [(zrF (p:=p) (by omega) hM1 hi1).1,hl2]
  refine zaq (fun (t:Nat) s=>s.sl 0 = .own 1000000 1∧s.sl 1 = int a∧s.sl 2 = int c∧s.sl 3 = int p∧s.sl 11 = int i∧s.sl 12 = int f∧s.sl 13 = int t∧(t ≤ old2.length∧TabI s.rw 1000000 1 25 3 (List.range M.length) ((zmB p a c M1 i).set i (prt (zns p a c M1 i) old2 t)))) (fun t=>old2.length - t) (0) (by refine ⟨?_,?_,?_,?_,?_,?_,?_,⟨by omega,(ht2.same (by simp (maxSteps:=5000000) -dsimp only [gr,reduceEqDiff,reduceLT,reduceAdd,reduceMod,Nat.reduceBEq,zaa,zac,zad,zab]) (fun x=>by simp (maxSteps:=5000000) -dsimp only [gr,reduceEqDiff,reduceLT,reduceAdd,reduceMod,Nat.reduceBEq,zaa,zac,zad,zab])).to (by rw [zux,← hold2,← zy3 p a c hi1 (Nat.le_refl i),zha])⟩⟩ <;> (first | (simp (maxSteps:=5000000) -dsimp only [gr,reduceEqDiff,reduceLT,reduceAdd,reduceMod,Nat.reduceBEq,zaa,zac,zad,zab,h0b,h1b,h2b,h3b,h11b];first | done | rfl | (simp;done)) | assumption | rfl)) ?_
  intro t sc ⟨h0c,h1c,h2c,h3c,h11c,h12c,h13c,hIc⟩
  obtain ⟨ht',ht3⟩:=hIc
  have hls:((zmB p a c M1 i).set i (prt (zns p a c M1 i) old2 t)).length = M.length:=by rw [List.length_set,hlN]
  have hr3:=ht3.row (i:=i) (by omega)
  rw [zbe (by omega),hq i h] at hr3
  have hpl3:(prt (zns p a c M1 i) old2 t).length = old2.length:=zmz hnew t
  have hpj3:=zuy hnew (Nat.le_refl t)
  simp (maxSteps:=5000000) -dsimp only [↓gp,gq,reduceCtorEq,reduceEqDiff,reduceLT,reduceLeDiff,reduceAdd,reduceMul,reduceSub,Nat.reduceBEq,Int.reduceToNat,Int.reduceLE,Int.reduceLT,Int.reduceNeg,reduceMod,zac,zad,zab,zaa,gT,TK.isInt,TK.agg,Array.toList,h0c,h1c,h2c,h3c,h11c,h12c,h13c,ht3.top,hr3,hq i h,hpl3]
  refine ⟨h,h,fun h2=>⟨fun hne=>?_,fun heq=>?_⟩,fun h2=>?_⟩
  ·have hia:¬ i = a:=by
    intro e
    simp [e] at hne
   have hr4:=ht3.row (i:=a) (by omega)
   rw [zb7 hia,zDr p a c i hra1,hq a ha] at hr4
   have hla:=hM1.len a hra1
   have hresa:=hM1.res a hra1
   have hcI:zns p a c M1 i = sbt p f (M1.getD a []) old2:=by unfold zns;rw [if_neg hia,hold2,hfe]
   generalize hpiv:M1.getD a [] = piv at *
   have hft:=zqD hf ⟨(hresa t).1,by have:=(hresa t).2;omega⟩ hp2.2
   have hot:=hres2 t
   have hw3:IntKind.i64.wrap (f * piv.getD t 0) = f * piv.getD t 0:=zat (by omega) (by omega)
   have hw4:IntKind.i64.wrap (old2.getD t 0 - f * piv.getD t 0) = old2.getD t 0 - f * piv.getD t 0:=zat (by omega) (by omega)
   simp (maxSteps:=5000000) -dsimp only [↓gp,gq,reduceCtorEq,reduceEqDiff,reduceLT,reduceLeDiff,reduceAdd,reduceMul,reduceSub,Nat.reduceBEq,Int.reduceToNat,Int.reduceLE,Int.reduceLT,Int.reduceNeg,reduceMod,zac,zad,zab,zaa,gT,TK.isInt,TK.agg,Array.toList,h0c,h1c,h2c,h3c,h11c,h12c,h13c,ht3.top,hr3,hq i h,hpl3,hr4,hq a ha,hpj3,hw3,hw4]
   refine ⟨by kernel_rfl,h,h,h,h,h2,h2,ha,ha,by omega,by omega,zaf (zeA _ p hp) ?_⟩
   simp (maxSteps:=5000000) -dsimp only [↓gp,gq,reduceCtorEq,reduceEqDiff,reduceLT,reduceLeDiff,reduceAdd,reduceMul,reduceSub,Nat.reduceBEq,Int.reduceToNat,Int.reduceLE,Int.reduceLT,Int.reduceNeg,reduceMod,zac,zad,zab,zaa,gT,TK.isInt,TK.agg,Array.toList,h0c,h1c,h2c,h3c,h11c,h12c,h13c,ht3.top,hr3,hq i h,hpl3,hr4,hq a ha,hpj3,hw3,hw4]
   refine ⟨h2,by omega,by kernel_rfl,zag (t + 1) ⟨(by (first | (simp (maxSteps:=5000000) -dsimp only [gr,reduceEqDiff,reduceLT,reduceAdd,reduceMod,Nat.reduceBEq,zaa,zac,zad,zab,h0c,h1c,h2c,h3c,h11c,h12c,h13c,zae h2 (by omega)];first | done | rfl | (simp;done)) | assumption | rfl)),(by (first | (simp (maxSteps:=5000000) -dsimp only [gr,reduceEqDiff,reduceLT,reduceAdd,reduceMod,Nat.reduceBEq,zaa,zac,zad,zab,h0c,h1c,h2c,h3c,h11c,h12c,h13c,zae h2 (by omega)];first | done | rfl | (simp;done)) | assumption | rfl)),(by (first | (simp (maxSteps:=5000000) -dsimp only [gr,reduceEqDiff,reduceLT,reduceAdd,reduceMod,Nat.reduceBEq,zaa,zac,zad,zab,h0c,h1c,h2c,h3c,h11c,h12c,h13c,zae h2 (by omega)];first | done | rfl | (simp;done)) | assumption | rfl)),(by (first | (simp (maxSteps:=5000000) -dsimp only [gr,reduceEqDiff,reduceLT,reduceAdd,reduceMod,Nat.reduceBEq,zaa,zac,zad,zab,h0c,h1c,h2c,h3c,h11c,h12c,h13c,zae h2 (by omega)];first | done | rfl | (simp;done)) | assumption | rfl)),(by (first | (simp (maxSteps:=5000000) -dsimp only [gr,reduceEqDiff,reduceLT,reduceAdd,reduceMod,Nat.reduceBEq,zaa,zac,zad,zab,h0c,h1c,h2c,h3c,h11c,h12c,h13c,zae h2 (by omega)];first | done | rfl | (simp;done)) | assumption | rfl)),(by (first | (simp (maxSteps:=5000000) -dsimp only [gr,reduceEqDiff,reduceLT,reduceAdd,reduceMod,Nat.reduceBEq,zaa,zac,zad,zab,h0c,h1c,h2c,h3c,h11c,h12c,h13c,zae h2 (by omega)];first | done | rfl | (simp;done)) | assumption | rfl)),(by (first | (simp (maxSteps:=5000000) -dsimp only [gr,reduceEqDiff,reduceLT,reduceAdd,reduceMod,Nat.reduceBEq,zaa,zac,zad,zab,h0c,h1c,h2c,h3c,h11c,h12c,h13c,zae h2 (by omega)];first | done | rfl | (simp;done)) | assumption | rfl)),⟨by omega,?_⟩⟩ (by first | omega | (simp only;omega) | (dsimp only;omega) | (show _ < _;simp;omega))⟩
   have e:(zmB p a c M1 i).set i (prt (zns p a c M1 i) old2 (t + 1)) = ((zmB p a c M1 i).set i (prt (zns p a c M1 i) old2 t)).set i ((prt (zns p a c M1 i) old2 t).set t ((old2.getD t 0 - f * piv.getD t 0) % p)):=by
    rw [zyZ,← zyY hnew h2,← zev p f (piv:=piv) h2,hcI]
   rw [e]
   refine ht3.set (by omega) (by simp (maxSteps:=5000000) -dsimp only [gr,reduceEqDiff,reduceLT,reduceAdd,reduceMod,Nat.reduceBEq,zaa,zac,zad,zab,h0c,h1c,h2c,h3c,h11c,h12c,h13c]) ?_ (fun x hx=>?_)
   ·rw [hq i h];simp (maxSteps:=5000000) -dsimp only [gr,reduceEqDiff,reduceLT,reduceAdd,reduceMod,Nat.reduceBEq,zaa,zac,zad,zab,h0c,h1c,h2c,h3c,h11c,h12c,h13c]
   ·rw [hq i h] at hx
    simp (maxSteps:=5000000) -dsimp only [gr,reduceEqDiff,reduceLT,reduceAdd,reduceMod,Nat.reduceBEq,zaa,zac,zad,zab,h0c,h1c,h2c,h3c,h11c,h12c,h13c,hx]
  ·have hia:i = a:=by
    have h9:(i:Int) = a:=by simpa using heq
    omega
   have hcI:zns p a c M1 i = old2:=by unfold zns;rw [if_pos hia,hold2]
   have ht4:=ht3
   rw [hcI,zA4,← hcI,zqm p a c hi1] at ht4
   exact zag (i + 1) (by refine ⟨?_,?_,?_,?_,?_,⟨by omega,ht4.same (by simp (maxSteps:=5000000) -dsimp only [gr,reduceEqDiff,reduceLT,reduceAdd,reduceMod,Nat.reduceBEq,zaa,zac,zad,zab]) (fun x=>by simp (maxSteps:=5000000) -dsimp only [gr,reduceEqDiff,reduceLT,reduceAdd,reduceMod,Nat.reduceBEq,zaa,zac,zad,zab])⟩⟩ <;> (first | (simp (maxSteps:=5000000) -dsimp only [gr,reduceEqDiff,reduceLT,reduceAdd,reduceMod,Nat.reduceBEq,zaa,zac,zad,zab,h0b,h1b,h2b,h3b,h11b,h0c,h1c,h2c,h3c,h11c,h12c,h13c,zae h (by omega)];first | done | rfl | (simp;done)) | assumption | rfl)) (by first | omega | (simp only;omega) | (dsimp only;omega) | (show _ < _;simp;omega))
  ·have:t = old2.length:=by omega
   have ht4:=ht3
   rw [this,zyX hnew,zqm p a c hi1] at ht4
   exact zag (i + 1) (by refine ⟨?_,?_,?_,?_,?_,⟨by omega,ht4.same (by simp (maxSteps:=5000000) -dsimp only [gr,reduceEqDiff,reduceLT,reduceAdd,reduceMod,Nat.reduceBEq,zaa,zac,zad,zab]) (fun x=>by simp (maxSteps:=5000000) -dsimp only [gr,reduceEqDiff,reduceLT,reduceAdd,reduceMod,Nat.reduceBEq,zaa,zac,zad,zab])⟩⟩ <;> (first | (simp (maxSteps:=5000000) -dsimp only [gr,reduceEqDiff,reduceLT,reduceAdd,reduceMod,Nat.reduceBEq,zaa,zac,zad,zab,h0b,h1b,h2b,h3b,h11b,h0c,h1c,h2c,h3c,h11c,h12c,h13c,zae h (by omega)];first | done | rfl | (simp;done)) | assumption | rfl)) (by first | omega | (simp only;omega) | (dsimp only;omega) | (show _ < _;simp;omega))
 ·have:i = M.length:=by omega
  rw [this] at ht2
  exact zyH (ht2.same (by simp (maxSteps:=5000000) -dsimp only [gr,reduceEqDiff,reduceLT,reduceAdd,reduceMod,Nat.reduceBEq,zaa,zac,zad,zab]) (fun x=>by simp (maxSteps:=5000000) -dsimp only [gr,reduceEqDiff,reduceLT,reduceAdd,reduceMod,Nat.reduceBEq,zaa,zac,zad,zab])) (List.Perm.refl _)
theorem zqC {M:Mat} {col a m:Nat} (h:a < m):zbx M col a (m - a) = if (M.getD a []).getD col 0 = 0 then zbx M col (a + 1) (m - (a + 1)) else a:=by
 have e:m - a = (m - (a + 1)) + 1:=by omega
 rw [e,zbx]
theorem zA3 {p:Int} {M:Mat} {piv:List Nat} {col n:Nat} (h:col < n) (h2:piv.length < M.length):zkB p M piv col (n - col) = zkB p (zbX p M col piv).1 (zbX p M col piv).2 (col + 1) (n - (col + 1)):=by
 have e:n - col = (n - (col + 1)) + 1:=by omega
 rw [e,zkB,if_pos h2]
theorem ziz (M:Mat) (p:Int) (hp:isP p = true) (hM:M.length ≤ 900) (hr:∀ i,i < M.length→(M.getD i []).length = (M.getD 0 []).length) (hn:(M.getD 0 []).length ≤ 1000) :
 AC Tryz.prog 186 [zGb M,int p] (.tup [.tb 25 3 ((zkB p (zkU p M) [] 0 (M.getD 0 []).length).1.map iL),.fr 3 1 (iL (ofN (zkB p (zkU p M) [] 0 (M.getD 0 []).length).2))]):=by
 refine AC.go (rs:=[.tmp 4,.tmp 5]) zbg zay Tryz.func186 rfl rfl rfl (by kernel_rfl) fun hl=>?_
 have hp2:=zdw hp
 generalize hne:(M.getD 0 []).length = n at *
 simp (maxSteps:=5000000) -dsimp only [↓gp,gq,reduceCtorEq,reduceEqDiff,reduceLT,reduceLeDiff,reduceAdd,reduceMul,reduceSub,Nat.reduceBEq,Int.reduceToNat,Int.reduceLE,Int.reduceLT,Int.reduceNeg,reduceMod,zac,zad,zab,zaa,gT,TK.isInt,TK.agg,Array.toList]
 refine zAF (k:=15) (v:=1) (e:=25) (e2:=3) (by simp (maxSteps:=5000000) -dsimp only [gr,reduceEqDiff,reduceLT,reduceAdd,reduceMod,Nat.reduceBEq,zaa,zac,zad,zab]) (fun j=>by simp (maxSteps:=5000000) -dsimp only [gr,reduceEqDiff,reduceLT,reduceAdd,reduceMod,Nat.reduceBEq,zaa,zac,zad,zab]) (fun (i:Nat) s=>s.sl 0 = zGb M∧s.sl 1 = int p∧s.sl 6 = .own 15 (i + 1)∧s.sl 7 = int i∧(i ≤ M.length∧TabG s.rw 15 (i + 1) 25 3 i (zkU p (M.take i)))) (fun i=>M.length - i) (0) (fun sX htX hslX hoX=>(by refine ⟨?_,?_,?_,?_,⟨by omega,htX⟩⟩ <;> (first | (simp (maxSteps:=5000000) -dsimp only [gr,reduceEqDiff,reduceLT,reduceAdd,reduceMod,Nat.reduceBEq,zaa,zac,zad,zab,hslX,hoX];first | done | rfl | (simp;done)) | assumption | rfl))) ?_
 intro i sa ⟨h0a,h1a,h6a,h7a,hIa⟩
 obtain ⟨hi,ht⟩:=hIa
 simp (maxSteps:=5000000) -dsimp only [↓gp,gq,reduceCtorEq,reduceEqDiff,reduceLT,reduceLeDiff,reduceAdd,reduceMul,reduceSub,Nat.reduceBEq,Int.reduceToNat,Int.reduceLE,Int.reduceLT,Int.reduceNeg,reduceMod,zac,zad,zab,zaa,gT,TK.isInt,TK.agg,Array.toList,h0a,h1a,h6a,h7a]
 refine ⟨fun h=>?_,fun h=>?_⟩
 ·have hri:=hr i h
  have hlen:=znF p hi
  refine zrA (fun (zb:Nat × Nat) s=>match zb with | (j,u)=>s.sl 0 = zGb M∧s.sl 1 = int p∧s.sl 6 = .own 15 (i + 1)∧s.sl 7 = int i∧s.sl 8 = .own 22 u∧s.rw 22 = ⟨u,.tab 3 (iL (((M.getD i []).map fun x=>x % p).take j))⟩∧s.sl 9 = int j∧(j ≤ n∧TabG s.rw 15 (i + 1) 25 3 i (zkU p (M.take i)))) (fun (j,u)=>n - j) ((0,(sa.rw 22).ver + 1)) (Wk.tab (k:=22) (v:=(sa.rw 22).ver + 1) (e:=3) (c:=[]) (by simp (maxSteps:=5000000) -dsimp only [gr,reduceEqDiff,reduceLT,reduceAdd,reduceMod,Nat.reduceBEq,zaa,zac,zad,zab]) (fun p hp=>by cases hp)) (by refine ⟨?_,?_,?_,?_,?_,?_,?_,⟨by omega,ht.same (by simp (maxSteps:=5000000) -dsimp only [gr,reduceEqDiff,reduceLT,reduceAdd,reduceMod,Nat.reduceBEq,zaa,zac,zad,zab]) (fun x=>by simp (maxSteps:=5000000) -dsimp only [gr,reduceEqDiff,reduceLT,reduceAdd,reduceMod,Nat.reduceBEq,zaa,zac,zad,zab])⟩⟩ <;> (first | (simp (maxSteps:=5000000) -dsimp only [gr,reduceEqDiff,reduceLT,reduceAdd,reduceMod,Nat.reduceBEq,zaa,zac,zad,zab,h0a,h1a,h6a,h7a];first | done | rfl | (simp;done)) | assumption | rfl)) ?_
  intro (j,u) sb ⟨h0b,h1b,h6b,h7b,h8b,r22b,h9b,hIb⟩
  obtain ⟨hj,ht2⟩:=hIb
  simp (maxSteps:=5000000) -dsimp only [↓gp,gq,reduceCtorEq,reduceEqDiff,reduceLT,reduceLeDiff,reduceAdd,reduceMul,reduceSub,Nat.reduceBEq,Int.reduceToNat,Int.reduceLE,Int.reduceLT,Int.reduceNeg,reduceMod,zac,zad,zab,zaa,gT,TK.isInt,TK.agg,Array.toList,h0b,h1b,h6b,h7b,h8b,r22b,h9b]
  refine ⟨h,h,fun h2=>⟨h,h,by omega,by omega,zaf (zeA _ p hp) ?_⟩,fun h2=>?_⟩
  ·simp (maxSteps:=5000000) -dsimp only [↓gp,gq,reduceCtorEq,reduceEqDiff,reduceLT,reduceLeDiff,reduceAdd,reduceMul,reduceSub,Nat.reduceBEq,Int.reduceToNat,Int.reduceLE,Int.reduceLT,Int.reduceNeg,reduceMod,zac,zad,zab,zaa,gT,TK.isInt,TK.agg,Array.toList,h0b,h1b,h6b,h7b,h8b,r22b,h9b]
   have h2':j < n:=by omega
   have hts:((M.getD i []).map fun x=>x % p).take (j + 1) = ((M.getD i []).map fun x=>x % p).take j ++ [(M.getD i []).getD j 0 % p]:=by
    rw [zaT 0 (by simpa using h2),zA5 p h2]
   have htl:(((M.getD i []).map fun x=>x % p).take j).length ≤ 1000:=by simp;omega
   refine ⟨by omega,zag ((j + 1,u + 1)) (by refine ⟨?_,?_,?_,?_,?_,?_,?_,⟨by dsimp only;omega,ht2.same (by simp (maxSteps:=5000000) -dsimp only [gr,reduceEqDiff,reduceLT,reduceAdd,reduceMod,Nat.reduceBEq,zaa,zac,zad,zab]) (fun x=>by simp (maxSteps:=5000000) -dsimp only [gr,reduceEqDiff,reduceLT,reduceAdd,reduceMod,Nat.reduceBEq,zaa,zac,zad,zab])⟩⟩ <;> (first | (simp (maxSteps:=5000000) -dsimp only [gr,reduceEqDiff,reduceLT,reduceAdd,reduceMod,Nat.reduceBEq,zaa,zac,zad,zab,h0b,h1b,h6b,h7b,h8b,r22b,h9b,zae h2' (by omega),hts];first | done | rfl | (simp;done)) | assumption | rfl)) (by first | omega | (simp only;omega) | (dsimp only;omega) | (show _ < _;simp;omega))⟩
  ·have hjn:((M.getD i []).map fun x=>x % p).take j = (M.getD i []).map fun x=>x % p:=List.take_of_length_le (by rw [List.length_map,hri];omega)
   rw [hjn] at r22b
   simp (maxSteps:=5000000) -dsimp only [↓gp,gq,reduceCtorEq,reduceEqDiff,reduceLT,reduceLeDiff,reduceAdd,reduceMul,reduceSub,Nat.reduceBEq,Int.reduceToNat,Int.reduceLE,Int.reduceLT,Int.reduceNeg,reduceMod,zac,zad,zab,zaa,gT,TK.isInt,TK.agg,Array.toList,h0b,h1b,h6b,h7b,h8b,r22b,h9b,ht2.top]
   refine ⟨by omega,zvw (k:=15) (v:=i + 1 + 1) (e:=25) (e2:=3) (n:=i) (d:=22) (vd:=u) (M:=zkU p (M.take i)) (r:=(M.getD i []).map fun x=>x % p) (by simp (maxSteps:=5000000) -dsimp only [gr,reduceEqDiff,reduceLT,reduceAdd,reduceMod,Nat.reduceBEq,zaa,zac,zad,zab,ht2.top]) hlen (fun j hj=>by simp (maxSteps:=5000000) -dsimp only [gr,reduceEqDiff,reduceLT,reduceAdd,reduceMod,Nat.reduceBEq,zaa,zac,zad,zab,ht2.row j hj]) (fun j hj=>by simp (maxSteps:=5000000) -dsimp only [gr,reduceEqDiff,reduceLT,reduceAdd,reduceMod,Nat.reduceBEq,zaa,zac,zad,zab,ht2.rest j hj]) (by simp (maxSteps:=5000000) -dsimp only [gr,reduceEqDiff,reduceLT,reduceAdd,reduceMod,Nat.reduceBEq,zaa,zac,zad,zab,h0b,h1b,h6b,h7b,h8b,r22b,h9b]) (by decide) (by decide) (i + 1) (fun sX htX hslX hoX=>(by refine ⟨?_,?_,?_,?_,⟨by omega,(zzx p h ▸ htX:TabG _ _ _ _ _ _ _)⟩⟩ <;> (first | (simp (maxSteps:=5000000) -dsimp only [gr,reduceEqDiff,reduceLT,reduceAdd,reduceMod,Nat.reduceBEq,zaa,zac,zad,zab,hslX,hoX,h0a,h1a,h6a,h7a,h0b,h1b,h6b,h7b,h8b,r22b,h9b,zae h (by omega)];first | done | rfl | (simp;done)) | assumption | rfl))) (by first | omega | (simp only;omega) | (dsimp only;omega) | (show _ < _;simp;omega))⟩
 ·have:i = M.length:=by omega
  subst this
  rw [List.take_length] at ht
  have htI:=ht.done
  have hmok:=zy6 (p:=p) (by omega) hr
  have hml:=zew p M
  generalize zkU p M = R at *
  refine zaq (fun (zc:Mat × List Nat × Nat × List Nat × Nat) s=>match zc with | (cur,piv,col,q,v)=>s.sl 1 = int p∧s.sl 6 = .own 15 (M.length + 1)∧s.sl 10 = .own 48 v∧s.rw 48 = ⟨v,.sli 3 1 false (iL (ofN piv))⟩∧s.sl 11 = int col∧(col ≤ n∧MatOk p n cur∧cur.length = M.length∧piv.length ≤ M.length∧TabI s.rw 15 (M.length + 1) 25 3 q cur∧q.Perm (List.range M.length)∧zkB p R [] 0 n = zkB p cur piv col (n - col))) (fun (cur,piv,col,q,v)=>n - col) ((R,[],0,List.range M.length,(sa.rw 48).ver + 1)) (by refine ⟨?_,?_,?_,?_,?_,⟨by omega,hmok,hml,by simp,htI.same (by simp (maxSteps:=5000000) -dsimp only [gr,reduceEqDiff,reduceLT,reduceAdd,reduceMod,Nat.reduceBEq,zaa,zac,zad,zab]) (fun x=>by simp (maxSteps:=5000000) -dsimp only [gr,reduceEqDiff,reduceLT,reduceAdd,reduceMod,Nat.reduceBEq,zaa,zac,zad,zab]),List.Perm.refl _,rfl⟩⟩ <;> (first | (simp (maxSteps:=5000000) -dsimp only [gr,reduceEqDiff,reduceLT,reduceAdd,reduceMod,Nat.reduceBEq,zaa,zac,zad,zab,h0a,h1a,h6a,h7a];first | done | rfl | (simp;done)) | assumption | rfl)) ?_
  intro (cur,piv,col,q,v) sc ⟨h1c,h6c,h10c,r48c,h11c,hIc⟩
  obtain ⟨hcol,hcur,hlc,hpl,htc,hperm,hred⟩:=hIc
  have hlq:q.length = cur.length:=htc.len
  simp (maxSteps:=5000000) -dsimp only [↓gp,gq,reduceCtorEq,reduceEqDiff,reduceLT,reduceLeDiff,reduceAdd,reduceMul,reduceSub,Nat.reduceBEq,Int.reduceToNat,Int.reduceLE,Int.reduceLT,Int.reduceNeg,reduceMod,zac,zad,zab,zaa,gT,TK.isInt,TK.agg,Array.toList,h1c,h6c,h10c,r48c,h11c,htc.top,hlq,zaj]
  refine ⟨fun h0=>?_,fun h0=>?_⟩
  ·have h0:0 < cur.length:=by omega
   have hr0:=htc.row h0
   have hl0:=hcur.len 0 h0
   simp (maxSteps:=5000000) -dsimp only [↓gp,gq,reduceCtorEq,reduceEqDiff,reduceLT,reduceLeDiff,reduceAdd,reduceMul,reduceSub,Nat.reduceBEq,Int.reduceToNat,Int.reduceLE,Int.reduceLT,Int.reduceNeg,reduceMod,zac,zad,zab,zaa,gT,TK.isInt,TK.agg,Array.toList,h1c,h6c,h10c,r48c,h11c,htc.top,hlq,zaj,hr0,hl0]
   refine ⟨by omega,h0,fun h1=>⟨fun h2=>?_,fun h2=>?_⟩,fun h1=>?_⟩
   ·rw [zA3 h1 h2] at hred
    refine zaq (fun (a:Nat) s=>s.sl 1 = int p∧s.sl 6 = .own 15 (M.length + 1)∧s.sl 10 = .own 48 v∧s.rw 48 = ⟨v,.sli 3 1 false (iL (ofN piv))⟩∧s.sl 11 = int col∧s.sl 12 = int piv.length∧s.sl 13 = int a∧(piv.length ≤ a∧a ≤ cur.length∧zbx cur col piv.length (cur.length - piv.length) = zbx cur col a (cur.length - a)∧TabI s.rw 15 (M.length + 1) 25 3 q cur)) (fun a=>cur.length - a) (piv.length) (by refine ⟨?_,?_,?_,?_,?_,?_,?_,⟨by omega,by omega,rfl,htc.same (by simp (maxSteps:=5000000) -dsimp only [gr,reduceEqDiff,reduceLT,reduceAdd,reduceMod,Nat.reduceBEq,zaa,zac,zad,zab]) (fun x=>by simp (maxSteps:=5000000) -dsimp only [gr,reduceEqDiff,reduceLT,reduceAdd,reduceMod,Nat.reduceBEq,zaa,zac,zad,zab])⟩⟩ <;> (first | (simp (maxSteps:=5000000) -dsimp only [gr,reduceEqDiff,reduceLT,reduceAdd,reduceMod,Nat.reduceBEq,zaa,zac,zad,zab,h1c,h6c,h10c,r48c,h11c];first | done | rfl | (simp;done)) | assumption | rfl)) ?_
    intro a sd ⟨h1d,h6d,h10d,r48d,h11d,h12d,h13d,hId⟩
    obtain ⟨ha1,ha2,hfind,htb⟩:=hId
    have stop:(¬ a < cur.length ∨ ¬ (cur.getD a []).getD col 0 = 0)→zbx cur col piv.length (cur.length - piv.length) = a:=fun h=>by
     rw [hfind]
     by_cases hlt:a < cur.length
     ·rw [zqC hlt,if_neg (h.resolve_left (by omega))]
     ·rw [show cur.length - a = 0 by omega];rfl
    simp (maxSteps:=5000000) -dsimp only [↓gp,gq,reduceCtorEq,reduceEqDiff,reduceLT,reduceLeDiff,reduceAdd,reduceMul,reduceSub,Nat.reduceBEq,Int.reduceToNat,Int.reduceLE,Int.reduceLT,Int.reduceNeg,reduceMod,zac,zad,zab,zaa,gT,TK.isInt,TK.agg,Array.toList,h1d,h6d,h10d,r48d,h11d,h12d,h13d,htb.top,hlq]
    refine ⟨fun h3=>?_,fun h3=>?_⟩
    ·have hra:=htb.row h3
     have hlen:=hcur.len a h3
     simp (maxSteps:=5000000) -dsimp only [↓gp,gq,reduceCtorEq,reduceEqDiff,reduceLT,reduceLeDiff,reduceAdd,reduceMul,reduceSub,Nat.reduceBEq,Int.reduceToNat,Int.reduceLE,Int.reduceLT,Int.reduceNeg,reduceMod,zac,zad,zab,zaa,gT,TK.isInt,TK.agg,Array.toList,h1d,h6d,h10d,r48d,h11d,h12d,h13d,htb.top,hlq,hra]
     refine ⟨h3,h3,by omega,by omega,fun hz=>?_,fun hz=>?_⟩
     ·have hz:=beq_iff_eq.1 hz
      rw [zqC h3,if_pos hz] at hfind
      exact zag (a + 1) (by refine ⟨?_,?_,?_,?_,?_,?_,?_,⟨by omega,by omega,hfind,htb.same (by simp (maxSteps:=5000000) -dsimp only [gr,reduceEqDiff,reduceLT,reduceAdd,reduceMod,Nat.reduceBEq,zaa,zac,zad,zab]) (fun x=>by simp (maxSteps:=5000000) -dsimp only [gr,reduceEqDiff,reduceLT,reduceAdd,reduceMod,Nat.reduceBEq,zaa,zac,zad,zab])⟩⟩ <;> (first | (simp (maxSteps:=5000000) -dsimp only [gr,reduceEqDiff,reduceLT,reduceAdd,reduceMod,Nat.reduceBEq,zaa,zac,zad,zab,h1d,h6d,h10d,r48d,h11d,h12d,h13d,zae h3 (by omega)];first | done | rfl | (simp;done)) | assumption | rfl)) (by first | omega | (simp only;omega) | (dsimp only;omega) | (show _ < _;simp;omega))
     ·have hz:¬ (cur.getD a []).getD col 0 = 0:=by simpa using hz
      have hfa:=stop (.inr hz)
      have hne':((a:Int) == (cur.length:Int)) = false:=by simp;omega
      have hst:zbX p cur col piv = (zeF p piv.length col (swp cur piv.length a),piv ++ [col]):=by unfold zbX;rw [hfa,if_neg (by omega)]
      rw [hst] at hred
      have hrd:=htb.row h2
      simp (maxSteps:=5000000) -dsimp only [↓gp,gq,reduceCtorEq,reduceEqDiff,reduceLT,reduceLeDiff,reduceAdd,reduceMul,reduceSub,Nat.reduceBEq,Int.reduceToNat,Int.reduceLE,Int.reduceLT,Int.reduceNeg,reduceMod,zac,zad,zab,zaa,gT,TK.isInt,TK.agg,Array.toList,h1d,h6d,h10d,r48d,h11d,h12d,h13d,htb.top,hlq,hra,hne',hrd]
      have hsw:=zy5 hcur h2 h3
      have hswl:(swp cur piv.length a).length = cur.length:=zcu _ _ _
      have hqp:((q.set a (q.getD piv.length 0)).set piv.length (q.getD a 0)).Perm q:=by
       have e1:q.getD piv.length 0 = q[piv.length]'(by omega):=by simp [List.getD,(by omega:piv.length < q.length)]
       have e2:q.getD a 0 = q[a]'(by omega):=by simp [List.getD,(by omega:a < q.length)]
       rw [e1,e2];exact List.set_set_perm (by omega) (by omega)
      have hclr:=zkN (swp cur piv.length a) n piv.length col p hp hsw (by omega) h1 hn
      refine ⟨h3,h3,h2,h2,h3,by omega,h2,by omega,zCL hclr (by repeat (first | exact GiveL.nil | refine GiveL.v ?_ | refine GiveL.clo ?_ | refine GiveL.own 0 rfl ?_ | refine GiveL.own 1 rfl ?_ | refine GiveL.ag ?_ ?_)) ((htb.swap h3 h2 (by simp (maxSteps:=5000000) -dsimp only [gr,reduceEqDiff,reduceLT,reduceAdd,reduceMod,Nat.reduceBEq,zaa,zac,zad,zab,h1d,h6d,h10d,r48d,h11d,h12d,h13d]) (fun x=>by simp (maxSteps:=5000000) -dsimp only [gr,reduceEqDiff,reduceLT,reduceAdd,reduceMod,Nat.reduceBEq,zaa,zac,zad,zab,h1d,h6d,h10d,r48d,h11d,h12d,h13d])).1.to (zAT cur a piv.length)).is (hqp.nodup_iff.2 htb.nd) (fun p' hp'=>?_)⟩
      simp (maxSteps:=5000000) -dsimp only [↓gp,gq,reduceCtorEq,reduceEqDiff,reduceLT,reduceLeDiff,reduceAdd,reduceMul,reduceSub,Nat.reduceBEq,Int.reduceToNat,Int.reduceLE,Int.reduceLT,Int.reduceNeg,reduceMod,zac,zad,zab,zaa,gT,TK.isInt,TK.agg,Array.toList,h1d,h6d,h10d,r48d,h11d,h12d,h13d,zaj]
      refine ⟨by omega,?_⟩
      have hnd':p'.Nodup:=hp'.nodup_iff.2 (hqp.nodup_iff.2 htb.nd)
      have hcl:=zqn (p:=p) (at':=piv.length) (col:=col) (by omega) hsw (by omega)
      have hcll:=zbm p piv.length col (swp cur piv.length a)
      have hp'l:p'.length = cur.length:=by rw [hp'.length_eq,hqp.length_eq,hlq]
      exact zag ((zeF p piv.length col (swp cur piv.length a),piv ++ [col],col + 1,p',v + 1)) (by refine ⟨?_,?_,?_,?_,?_,⟨by dsimp only;omega,hcl,by dsimp only;rw [hcll,hswl,hlc],by simp;omega,⟨⟨by simp (maxSteps:=5000000) -dsimp only [gr,reduceEqDiff,reduceLT,reduceAdd,reduceMod,Nat.reduceBEq,zaa,zac,zad,zab],by simp [hp'l,hcll,hswl],fun i hi=>by simp (maxSteps:=5000000) -dsimp only [gr,reduceEqDiff,reduceLT,reduceAdd,reduceMod,Nat.reduceBEq,zaa,zac,zad,zab,zvx hnd' hi,zck]⟩,hnd'⟩,hp'.trans (hqp.trans hperm),hred⟩⟩ <;> (first | (simp (maxSteps:=5000000) -dsimp only [gr,reduceEqDiff,reduceLT,reduceAdd,reduceMod,Nat.reduceBEq,zaa,zac,zad,zab,h1c,h6c,h10c,r48c,h11c,h1d,h6d,h10d,r48d,h11d,h12d,h13d,zae h1 (by omega),zaR,zcK];first | done | rfl | (simp;done)) | assumption | rfl)) (by first | omega | (simp only;omega) | (dsimp only;omega) | (show _ < _;simp;omega))
    ·have hfa:=stop (.inl (by omega))
     have:a = cur.length:=by omega
     subst this
     have hst:zbX p cur col piv = (cur,piv):=by unfold zbX;rw [if_pos hfa]
     rw [hst] at hred
     simp (maxSteps:=5000000) -dsimp only [↓gp,gq,reduceCtorEq,reduceEqDiff,reduceLT,reduceLeDiff,reduceAdd,reduceMul,reduceSub,Nat.reduceBEq,Int.reduceToNat,Int.reduceLE,Int.reduceLT,Int.reduceNeg,reduceMod,zac,zad,zab,zaa,gT,TK.isInt,TK.agg,Array.toList,h1d,h6d,h10d,r48d,h11d,h12d,h13d,htb.top,hlq]
     exact zag ((cur,piv,col + 1,q,v)) (by refine ⟨?_,?_,?_,?_,?_,⟨by dsimp only;omega,hcur,hlc,by dsimp only;omega,htb.same (by simp (maxSteps:=5000000) -dsimp only [gr,reduceEqDiff,reduceLT,reduceAdd,reduceMod,Nat.reduceBEq,zaa,zac,zad,zab]) (fun x=>by simp (maxSteps:=5000000) -dsimp only [gr,reduceEqDiff,reduceLT,reduceAdd,reduceMod,Nat.reduceBEq,zaa,zac,zad,zab]),hperm,hred⟩⟩ <;> (first | (simp (maxSteps:=5000000) -dsimp only [gr,reduceEqDiff,reduceLT,reduceAdd,reduceMod,Nat.reduceBEq,zaa,zac,zad,zab,h1c,h6c,h10c,r48c,h11c,h1d,h6d,h10d,r48d,h11d,h12d,h13d,zae h1 (by omega)];first | done | rfl | (simp;done)) | assumption | rfl)) (by first | omega | (simp only;omega) | (dsimp only;omega) | (show _ < _;simp;omega))
   ·have hf:zkB p cur piv col (n - col) = (cur,piv):=zqo p cur piv col (n - col) h2
    rw [hf] at hred
    rw [hred]
    simp (maxSteps:=5000000) -dsimp only [↓gp,gq,reduceCtorEq,reduceEqDiff,reduceLT,reduceLeDiff,reduceAdd,reduceMul,reduceSub,Nat.reduceBEq,Int.reduceToNat,Int.reduceLE,Int.reduceLT,Int.reduceNeg,reduceMod,zac,zad,zab,zaa,gT,TK.isInt,TK.agg,Array.toList,h1c,h6c,h10c,r48c,h11c]
    have hq9:∀ j ∈ q,j < 998:=fun j hj=>by have:=List.mem_range.1 (hperm.mem_iff.1 hj);omega
    refine zkv htc (by decide) hq9 ?_
    simp (maxSteps:=5000000) -dsimp only [↓gp,gq,reduceCtorEq,reduceEqDiff,reduceLT,reduceLeDiff,reduceAdd,reduceMul,reduceSub,Nat.reduceBEq,Int.reduceToNat,Int.reduceLE,Int.reduceLT,Int.reduceNeg,reduceMod,zac,zad,zab,zaa,gT,TK.isInt,TK.agg,Array.toList,h1c,h6c,h10c,r48c,h11c]
    exact zkw htc.nd (fun j hj=>by rw [zbM];omega) (by decide)
   ·have hf:zkB p cur piv col (n - col) = (cur,piv):=by rw [show n - col = 0 by omega];rfl
    rw [hf] at hred
    rw [hred]
    simp (maxSteps:=5000000) -dsimp only [↓gp,gq,reduceCtorEq,reduceEqDiff,reduceLT,reduceLeDiff,reduceAdd,reduceMul,reduceSub,Nat.reduceBEq,Int.reduceToNat,Int.reduceLE,Int.reduceLT,Int.reduceNeg,reduceMod,zac,zad,zab,zaa,gT,TK.isInt,TK.agg,Array.toList,h1c,h6c,h10c,r48c,h11c]
    have hq9:∀ j ∈ q,j < 998:=fun j hj=>by have:=List.mem_range.1 (hperm.mem_iff.1 hj);omega
    refine zkv htc (by decide) hq9 ?_
    simp (maxSteps:=5000000) -dsimp only [↓gp,gq,reduceCtorEq,reduceEqDiff,reduceLT,reduceLeDiff,reduceAdd,reduceMul,reduceSub,Nat.reduceBEq,Int.reduceToNat,Int.reduceLE,Int.reduceLT,Int.reduceNeg,reduceMod,zac,zad,zab,zaa,gT,TK.isInt,TK.agg,Array.toList,h1c,h6c,h10c,r48c,h11c]
    exact zkw htc.nd (fun j hj=>by rw [zbM];omega) (by decide)
  ·have hf:zkB p cur piv col (n - col) = (cur,piv):=zqo p cur piv col (n - col) (by omega)
   rw [hf] at hred
   rw [hred]
   simp (maxSteps:=5000000) -dsimp only [↓gp,gq,reduceCtorEq,reduceEqDiff,reduceLT,reduceLeDiff,reduceAdd,reduceMul,reduceSub,Nat.reduceBEq,Int.reduceToNat,Int.reduceLE,Int.reduceLT,Int.reduceNeg,reduceMod,zac,zad,zab,zaa,gT,TK.isInt,TK.agg,Array.toList,h1c,h6c,h10c,r48c,h11c]
   have hq9:∀ j ∈ q,j < 998:=fun j hj=>by have:=List.mem_range.1 (hperm.mem_iff.1 hj);omega
   refine zkv htc (by decide) hq9 ?_
   simp (maxSteps:=5000000) -dsimp only [↓gp,gq,reduceCtorEq,reduceEqDiff,reduceLT,reduceLeDiff,reduceAdd,reduceMul,reduceSub,Nat.reduceBEq,Int.reduceToNat,Int.reduceLE,Int.reduceLT,Int.reduceNeg,reduceMod,zac,zad,zab,zaa,gT,TK.isInt,TK.agg,Array.toList,h1c,h6c,h10c,r48c,h11c]
   exact zkw htc.nd (fun j hj=>by rw [zbM];omega) (by decide)
theorem zzw (s:St) (d e e2 e' sz:Nat) (rows:List (List PV)) (c:List PV):(zal s d (.tup [.tb e e2 rows,.fr e' sz c])).sl d = .tup [.own d ((s.rw d).ver + 1),.own (sid d rows.length) ((s.rw (sid d rows.length)).ver + 1)] ∧
 (zal s d (.tup [.tb e e2 rows,.fr e' sz c])).rw (sid d rows.length) = ⟨(s.rw (sid d rows.length)).ver + 1,.sli e' sz false c⟩:=by
 have hl:(leaves (.tb e e2 rows)).length = rows.length + 1:=by rw [leaves];simp
 have hd:zak d 0 = d:=by unfold zak;omega
 have hs:zak d (0 + (rows.length + 1)) = sid d rows.length:=by rw [Nat.zero_add];rfl
 constructor
 ·unfold zal
  rw [zaQ]
  simp only [za5,zb0,zbq,zbS,hl,hd,hs]
 ·have hrw:(zal s d (.tup [.tb e e2 rows,.fr e' sz c])).rw = zhs s.rw d (zbu s.rw d (leaves (.tup [.tb e e2 rows,.fr e' sz c])) 0) 0:=by
   unfold zal;rw [zfN];exact zcG _ _ _ _
  have hlv:leaves (.tup [.tb e e2 rows,.fr e' sz c]) = leaves (.tb e e2 rows) ++ [(e',some sz,c)]:=by rw [zbW];simp [leaves]
  have h2:rows.length + 1 < (leaves (.tup [.tb e e2 rows,.fr e' sz c])).length:=by rw [hlv];simp [hl]
  have h1:rows.length + 1 < (zbu s.rw d (leaves (.tup [.tb e e2 rows,.fr e' sz c])) 0).length:=by rw [zbd];exact h2
  have:=zdp s.rw d (zbu s.rw d (leaves (.tup [.tb e e2 rows,.fr e' sz c])) 0) 0 (rows.length + 1) h1
  rw [hs] at this
  rw [hrw,this,zdg _ _ _ _ _ h2,hs]
  have h3:(leaves (.tup [.tb e e2 rows,.fr e' sz c]))[rows.length + 1] = (e',some sz,c):=by
   simp only [hlv]
   rw [List.getElem_append_right (by omega)]
   simp [hl]
  rw [h3]
  rfl
theorem zlb (M:Mat) (p:Int) (hp:isP p = true) (hM:M.length ≤ 900) (hr:∀ i,i < M.length→(M.getD i []).length = (M.getD 0 []).length) (hn:(M.getD 0 []).length ≤ 1000):AC Tryz.prog 124 [zGb M,int p] (.im (int (zrG p M))):=by
 refine AC.go (rs:=[.tmp 4]) zbg zay Tryz.func124 rfl rfl rfl (by kernel_rfl) fun hl=>?_
 simp (maxSteps:=5000000) -dsimp only [↓gp,gq,reduceCtorEq,reduceEqDiff,reduceLT,reduceLeDiff,reduceAdd,reduceMul,reduceSub,Nat.reduceBEq,Int.reduceToNat,Int.reduceLE,Int.reduceLT,Int.reduceNeg,reduceMod,zac,zad,zab,zaa,gT,TK.isInt,TK.agg,Array.toList]
 refine zaf (ziz M p hp hM hr hn) ?_
 simp (maxSteps:=5000000) -dsimp only [↓gp,gq,reduceCtorEq,reduceEqDiff,reduceLT,reduceLeDiff,reduceAdd,reduceMul,reduceSub,Nat.reduceBEq,Int.reduceToNat,Int.reduceLE,Int.reduceLT,Int.reduceNeg,reduceMod,zac,zad,zab,zaa,gT,TK.isInt,TK.agg,Array.toList,zzw,zaj]
 rfl
end Go.Proofs.YtpnknaaehcljoaaGreat

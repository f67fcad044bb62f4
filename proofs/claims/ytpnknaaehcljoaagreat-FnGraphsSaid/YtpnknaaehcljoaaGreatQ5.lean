/- DERIVED by an AI agent. -/
import Derived.Test.YtpnknaaehcljoaaGreatQ1
import Derived.Test.YtpnknaaehcljoaaGreatP1
import Derived.Test.YtpnknaaehcljoaaGreatA13
import Derived.Test.YtpnknaaehcljoaaGreatQ4
import Derived.Test.YtpnknaaehcljoaaGreatQ2
namespace Go.Proofs.YtpnknaaehcljoaaGreat
open Go.Abs
open Nat (reduceEqDiff reduceMod reduceAdd reduceLT reduceLeDiff reduceSub reduceMul)
set_option linter.unusedSimpArgs false
set_option linter.unusedVariables false
theorem zA6 (x:Int):0 ≤ zdL .i64 x 255∧zdL .i64 x 255 < 256:=by
 have h2:(BitVec.ofInt 64 (255:Int)).toNat = 255:=by decide
 have e:zdL .i64 x 255 = IntKind.i64.wrap (((BitVec.ofInt 64 x &&& BitVec.ofInt 64 255).toNat:Nat):Int):=rfl
 have:(BitVec.ofInt 64 x &&& BitVec.ofInt 64 255).toNat ≤ 255:=by
  rw [BitVec.toNat_and,h2];exact Nat.and_le_right
 rw [e,zat (by omega) (by omega)]
 omega
abbrev TC:TypeId:=113
def zGE (P:Int→Prop) (rv:RV):Prop:=∃ x,rv = .im (int x)∧P x
def crH (h:Int):Int:=IntKind.i64.wrap (IntKind.i64.wrap (h * 6364136223846793005) + 1442695040888963407)
def zGF (rv:RV):Prop:=∃ b,rv = .im (bool b)
theorem zfl (bs:List Int):zzA Tryz.prog 82 TC bs:=by
 refine AG.go (rs:=[.tmp 2]) zbg zay Tryz.func82 rfl rfl rfl (by kernel_rfl) fun hl _ s hs hR=>?_
 simp only [zbk,zbD,and_true] at hl
 have hbl:bs.length ≤ 9223372036854775807:=by
  have:=hl.1
  simpa [kL] using this
 simp (maxSteps:=5000000) -dsimp only [↓gp,gq,reduceCtorEq,reduceEqDiff,reduceLT,reduceLeDiff,reduceAdd,reduceMul,reduceSub,Nat.reduceBEq,Int.reduceToNat,Int.reduceLE,Int.reduceLT,Int.reduceNeg,reduceMod,zac,zad,zab,zaa,gT,TK.isInt,TK.agg,Array.toList,hs,hR,zle]
 refine zaq (fun (za:Nat × Int) s=>match za with | (i,h)=>s.sl 0 = .sl false 1 (kL .u8 bs)∧s.sl 3 = int h∧s.sl 4 = int i∧(i ≤ bs.length)) (fun (i,h)=>bs.length - i) ((0,IntKind.i64.wrap (26583 + (bs.length:Int)))) (by refine ⟨?_,?_,?_,by simp⟩ <;> (first | (simp (maxSteps:=5000000) -dsimp only [gr,reduceEqDiff,reduceLT,reduceAdd,reduceMod,Nat.reduceBEq,zaa,zac,zad,zab,hs];first | done | rfl | (simp;done)) | assumption | rfl)) ?_
 intro (i,h) sa ⟨h0a,h3a,h4a,hIa⟩
 simp (maxSteps:=5000000) -dsimp only [↓gp,gq,reduceCtorEq,reduceEqDiff,reduceLT,reduceLeDiff,reduceAdd,reduceMul,reduceSub,Nat.reduceBEq,Int.reduceToNat,Int.reduceLE,Int.reduceLT,Int.reduceNeg,reduceMod,zac,zad,zab,zaa,gT,TK.isInt,TK.agg,Array.toList,h0a,h3a,h4a]
 have hw:∀ hk:i < bs.length,IntKind.i64.wrap ((i:Int) + 1) = ((i + 1:Nat):Int):=fun hk=>zae hk hbl
 refine ⟨fun hk=>⟨fun h4=>⟨hk,hk,?_⟩,fun h4=>?_⟩,fun hk=>?_⟩
 ·exact zag ((i + 1,zdL .i64 (IntKind.i64.wrap (IntKind.i64.wrap (IntKind.i64.wrap (h * 131) + IntKind.i64.wrap (bs.getD i 0)) + 7)) 1073741823)) (by refine ⟨?_,?_,?_,by dsimp only;omega⟩ <;> (first | (simp (maxSteps:=5000000) -dsimp only [gr,reduceEqDiff,reduceLT,reduceAdd,reduceMod,Nat.reduceBEq,zaa,zac,zad,zab,h0a,h3a,h4a,hw hk];first | done | rfl | (simp;done)) | assumption | rfl)) (by first | omega | (simp only;omega) | (dsimp only;omega) | (show _ < _;simp;omega))
 ·exact ⟨31,_,h,rfl,by simp (maxSteps:=5000000) -dsimp only [gr,reduceEqDiff,reduceLT,reduceAdd,reduceMod,Nat.reduceBEq,zaa,zac,zad,zab];rfl⟩
 ·exact ⟨31,_,h,rfl,by simp (maxSteps:=5000000) -dsimp only [gr,reduceEqDiff,reduceLT,reduceAdd,reduceMod,Nat.reduceBEq,zaa,zac,zad,zab];rfl⟩
def byF (bs:List Int) (i:Nat) (h:Int):Int :=
 if i < bs.length then zdL .i64 (IntKind.i64.wrap (zdL .i64 (zC8 .i64 (zne .i64 (crH h) 33) (zne .i64 (crH h) 45)) 255 + IntKind.i64.wrap (bs.getD i 0))) 255
 else zdL .i64 (zC8 .i64 (zne .i64 (crH h) 33) (zne .i64 (crH h) 45)) 255
def nxI (bs:List Int) (i:Nat):Nat:=if i < bs.length then i + 1 else i
theorem zil (bs:List Int) (i:Nat) (h:Int):0 ≤ byF bs i h∧byF bs i h < 256:=by
 unfold byF
 split <;> exact zA6 _
set_option maxRecDepth 100000 in
theorem znG (bs:List Int) (hbs:bs.length ≤ 9223372036854775806):znJ Tryz.prog 157 TC bs [] fun i h=>(.int .i64 (byF bs i h),nxI bs i,crH h):=by
 intro i h
 refine AG.go (rs:=[.tmp 2]) zbg zay Tryz.func157 rfl rfl rfl (by kernel_rfl) fun hl _ s hs hR=>?_
 have e0:s.rw 1000000 = ⟨1,.box TC [.sl false 1 (kL .u8 bs),int i,int h]⟩:=by rw [hR];rfl
 have e1:s.rw 1000500 = ⟨0,.dead⟩:=by rw [hR];rfl
 simp (maxSteps:=5000000) -dsimp only [↓gp,gq,reduceCtorEq,reduceEqDiff,reduceLT,reduceLeDiff,reduceAdd,reduceMul,reduceSub,Nat.reduceBEq,Int.reduceToNat,Int.reduceLE,Int.reduceLT,Int.reduceNeg,reduceMod,zac,zad,zab,zaa,gT,TK.isInt,TK.agg,Array.toList,hs,e0]
 refine ⟨by kernel_rfl,by kernel_rfl,fun hi=>⟨by kernel_rfl,hi,hi,?_⟩,fun hi=>?_⟩
 ·have hw:IntKind.i64.wrap ((i:Int) + 1) = ((i + 1:Nat):Int):=zae hi (by omega)
  rw [hw]
  refine ⟨by simp only [byF,if_pos hi];rfl,?_,by simp (maxSteps:=5000000) -dsimp only [gr,reduceEqDiff,reduceLT,reduceAdd,reduceMod,Nat.reduceBEq,zaa,zac,zad,zab,e1]⟩
  simp (maxSteps:=5000000) -dsimp only [gr,reduceEqDiff,reduceLT,reduceAdd,reduceMod,Nat.reduceBEq,zaa,zac,zad,zab,e0]
  simp only [nxI,if_pos hi]
  rfl
 ·refine ⟨by simp only [byF,if_neg hi];rfl,?_,by simp (maxSteps:=5000000) -dsimp only [gr,reduceEqDiff,reduceLT,reduceAdd,reduceMod,Nat.reduceBEq,zaa,zac,zad,zab,e1]⟩
  simp (maxSteps:=5000000) -dsimp only [gr,reduceEqDiff,reduceLT,reduceAdd,reduceMod,Nat.reduceBEq,zaa,zac,zad,zab,e0]
  simp only [nxI,if_neg hi]
  rfl
def zEb (n x:Int):Prop:=0 ≤ x∧(x < n ∨ (n ≤ 0∧x = 0))
theorem zzy {n x:Int} (hn:0 < n) (hx:0 ≤ x):zEb n (x.tmod n):=by
 rw [zkD hx]
 exact ⟨Int.emod_nonneg _ (by omega),.inl (Int.emod_lt_of_pos _ hn)⟩
theorem zgp {n:Nat} {x:Int} (hn:0 < n) (hx:zEb n x):∃ m:Nat,x = m∧m < n:=by
 obtain ⟨h1,h2 | ⟨h2,h3⟩⟩:=hx
 ·exact ⟨x.toNat,by omega,by omega⟩
 ·omega
def beF (bs:List Int) (n:Int) (i:Nat) (h:Int):Value × Nat × Int :=
 if n ≤ 0 then (.int .i64 0,i,h)
 else if n ≤ 256 then (.int .i64 ((byF bs i h).tmod n),nxI bs i,crH h)
 else (.int .i64 ((byF bs i h * 16777216 + byF bs (nxI bs i) (crH h) * 65536 + byF bs (nxI bs (nxI bs i)) (crH (crH h)) * 256 + byF bs (nxI bs (nxI bs (nxI bs i))) (crH (crH (crH h)))).tmod n),nxI bs (nxI bs (nxI bs (nxI bs i))),crH (crH (crH (crH h))))
theorem zzz (bs:List Int) (n:Int) (i:Nat) (h:Int):zGE (zEb n) (.im (.v (beF bs n i h).1)):=by
 unfold beF
 have b1:=zil bs i h
 have b2:=zil bs (nxI bs i) (crH h)
 have b3:=zil bs (nxI bs (nxI bs i)) (crH (crH h))
 have b4:=zil bs (nxI bs (nxI bs (nxI bs i))) (crH (crH (crH h)))
 split
 ·rename_i h0
  exact ⟨0,rfl,Int.le_refl _,.inr ⟨h0,rfl⟩⟩
 ·split
  ·exact ⟨_,rfl,zzy (by omega) (by omega)⟩
  ·exact ⟨_,rfl,zzy (by omega) (by omega)⟩
theorem zkO (bs:List Int) (n:Int) (i:Nat) (h:Int):∃ (x:Int) (j:Nat) (g:Int),beF bs n i h = (.int .i64 x,j,g)∧zEb n x:=by
 obtain ⟨x,hx,hq⟩:=zzz bs n i h
 injection hx with hx
 injection hx with hx
 exact ⟨x,(beF bs n i h).2.1,(beF bs n i h).2.2,by rw [← hx],hq⟩
theorem zfm (n:Int):zco [int n]:=fun p hp=>by rw [List.mem_singleton.1 hp];rfl
set_option maxRecDepth 100000 in
theorem zbL (bs:List Int) (hbs:bs.length ≤ 9223372036854775806) (n:Int) (hn:n ≤ 1000000):znJ Tryz.prog 81 TC bs [int n] (beF bs n):=by
 intro i h
 refine AG.go (rs:=[.tmp 4]) zbg zay Tryz.func81 rfl rfl rfl (by kernel_rfl) fun hl _ s hs hR=>?_
 have e0:s.rw 1000000 = ⟨1,.box TC [.sl false 1 (kL .u8 bs),int i,int h]⟩:=by rw [hR];rfl
 have e1:s.rw 1000500 = ⟨0,.dead⟩:=by rw [hR];rfl
 have hc:=znG bs hbs
 have hp:zco []:=fun _ h=>absurd h (by simp)
 have b1:=zil bs i h
 have b2:=zil bs (nxI bs i) (crH h)
 have b3:=zil bs (nxI bs (nxI bs i)) (crH (crH h))
 have b4:=zil bs (nxI bs (nxI bs (nxI bs i))) (crH (crH (crH h)))
 simp (maxSteps:=5000000) -dsimp only [↓gp,gq,reduceCtorEq,reduceEqDiff,reduceLT,reduceLeDiff,reduceAdd,reduceMul,reduceSub,Nat.reduceBEq,Int.reduceToNat,Int.reduceLE,Int.reduceLT,Int.reduceNeg,reduceMod,zac,zad,zab,zaa,gT,TK.isInt,TK.agg,Array.toList,hs,e0]
 refine ⟨fun h0=>?_,fun h0=>⟨fun h1=>?_,fun h1=>?_⟩⟩
 ·unfold beF;rw [if_pos h0]
  exact ⟨rfl,by simp (maxSteps:=5000000) -dsimp only [gr,reduceEqDiff,reduceLT,reduceAdd,reduceMod,Nat.reduceBEq,zaa,zac,zad,zab,e0] <;> rfl,by simp (maxSteps:=5000000) -dsimp only [gr,reduceEqDiff,reduceLT,reduceAdd,reduceMod,Nat.reduceBEq,zaa,zac,zad,zab,e1]⟩
 ·refine zeB hc hp (i:=i) (h:=h) (by simp (maxSteps:=5000000) -dsimp only [gr,reduceEqDiff,reduceLT,reduceAdd,reduceMod,Nat.reduceBEq,zaa,zac,zad,zab,e0] <;> rfl) rfl ?_
  simp (maxSteps:=5000000) -dsimp only [↓gp,gq,reduceCtorEq,reduceEqDiff,reduceLT,reduceLeDiff,reduceAdd,reduceMul,reduceSub,Nat.reduceBEq,Int.reduceToNat,Int.reduceLE,Int.reduceLT,Int.reduceNeg,reduceMod,zac,zad,zab,zaa,gT,TK.isInt,TK.agg,Array.toList,hs,e0]
  unfold beF;rw [if_neg h0,if_pos h1]
  exact ⟨by omega,rfl,by simp (maxSteps:=5000000) -dsimp only [gr,reduceEqDiff,reduceLT,reduceAdd,reduceMod,Nat.reduceBEq,zaa,zac,zad,zab,e0] <;> rfl,by simp (maxSteps:=5000000) -dsimp only [gr,reduceEqDiff,reduceLT,reduceAdd,reduceMod,Nat.reduceBEq,zaa,zac,zad,zab,e1]⟩
 ·refine zeB hc hp (i:=i) (h:=h) (by simp (maxSteps:=5000000) -dsimp only [gr,reduceEqDiff,reduceLT,reduceAdd,reduceMod,Nat.reduceBEq,zaa,zac,zad,zab,e0] <;> rfl) rfl ?_
  simp (maxSteps:=5000000) -dsimp only [↓gp,gq,reduceCtorEq,reduceEqDiff,reduceLT,reduceLeDiff,reduceAdd,reduceMul,reduceSub,Nat.reduceBEq,Int.reduceToNat,Int.reduceLE,Int.reduceLT,Int.reduceNeg,reduceMod,zac,zad,zab,zaa,gT,TK.isInt,TK.agg,Array.toList,hs,e0]
  refine zeB hc hp (i:=nxI bs i) (h:=crH h) (by simp (maxSteps:=5000000) -dsimp only [gr,reduceEqDiff,reduceLT,reduceAdd,reduceMod,Nat.reduceBEq,zaa,zac,zad,zab,e0] <;> rfl) rfl ?_
  simp (maxSteps:=5000000) -dsimp only [↓gp,gq,reduceCtorEq,reduceEqDiff,reduceLT,reduceLeDiff,reduceAdd,reduceMul,reduceSub,Nat.reduceBEq,Int.reduceToNat,Int.reduceLE,Int.reduceLT,Int.reduceNeg,reduceMod,zac,zad,zab,zaa,gT,TK.isInt,TK.agg,Array.toList,hs,e0]
  refine zeB hc hp (i:=nxI bs (nxI bs i)) (h:=crH (crH h)) (by simp (maxSteps:=5000000) -dsimp only [gr,reduceEqDiff,reduceLT,reduceAdd,reduceMod,Nat.reduceBEq,zaa,zac,zad,zab,e0] <;> rfl) rfl ?_
  simp (maxSteps:=5000000) -dsimp only [↓gp,gq,reduceCtorEq,reduceEqDiff,reduceLT,reduceLeDiff,reduceAdd,reduceMul,reduceSub,Nat.reduceBEq,Int.reduceToNat,Int.reduceLE,Int.reduceLT,Int.reduceNeg,reduceMod,zac,zad,zab,zaa,gT,TK.isInt,TK.agg,Array.toList,hs,e0]
  refine zeB hc hp (i:=nxI bs (nxI bs (nxI bs i))) (h:=crH (crH (crH h))) (by simp (maxSteps:=5000000) -dsimp only [gr,reduceEqDiff,reduceLT,reduceAdd,reduceMod,Nat.reduceBEq,zaa,zac,zad,zab,e0] <;> rfl) rfl ?_
  generalize hx:byF bs i h = x at *
  generalize hy:byF bs (nxI bs i) (crH h) = y at *
  generalize hz:byF bs (nxI bs (nxI bs i)) (crH (crH h)) = z at *
  generalize hw:byF bs (nxI bs (nxI bs (nxI bs i))) (crH (crH (crH h))) = w at *
  have w1:IntKind.i64.wrap (x * 16777216) = x * 16777216:=zat (by omega) (by omega)
  have w2:IntKind.i64.wrap (y * 65536) = y * 65536:=zat (by omega) (by omega)
  have w3:IntKind.i64.wrap (x * 16777216 + y * 65536) = x * 16777216 + y * 65536:=zat (by omega) (by omega)
  have w4:IntKind.i64.wrap (z * 256) = z * 256:=zat (by omega) (by omega)
  have w5:IntKind.i64.wrap (x * 16777216 + y * 65536 + z * 256) = x * 16777216 + y * 65536 + z * 256:=zat (by omega) (by omega)
  have w6:IntKind.i64.wrap (x * 16777216 + y * 65536 + z * 256 + w) = x * 16777216 + y * 65536 + z * 256 + w:=zat (by omega) (by omega)
  simp (maxSteps:=5000000) -dsimp only [↓gp,gq,reduceCtorEq,reduceEqDiff,reduceLT,reduceLeDiff,reduceAdd,reduceMul,reduceSub,Nat.reduceBEq,Int.reduceToNat,Int.reduceLE,Int.reduceLT,Int.reduceNeg,reduceMod,zac,zad,zab,zaa,gT,TK.isInt,TK.agg,Array.toList,hs,e0,w1,w2,w3,w4,w5,w6]
  unfold beF;rw [if_neg h0,if_neg h1,hx,hy,hz,hw]
  exact ⟨by omega,rfl,by simp (maxSteps:=5000000) -dsimp only [gr,reduceEqDiff,reduceLT,reduceAdd,reduceMod,Nat.reduceBEq,zaa,zac,zad,zab,e0] <;> rfl,by simp (maxSteps:=5000000) -dsimp only [gr,reduceEqDiff,reduceLT,reduceAdd,reduceMod,Nat.reduceBEq,zaa,zac,zad,zab,e1]⟩
theorem za0 (bs:List Int) (hbs:bs.length ≤ 9223372036854775806) (n:Int) (hn:n ≤ 1000000):zuI Tryz.prog 81 TC bs ⟨0,.dead⟩ [int n] (zGE (zEb n)) :=
 (zbL bs hbs n hn).toCur fun i h=>zzz bs n i h
def onF (bs:List Int) (n:Int) (i:Nat) (h:Int):Value × Nat × Int:=((match (beF bs n i h).1 with | .int _ x=>.bool (x == 0) | _=>.bool false),(beF bs n i h).2)
theorem zld (bs:List Int) (hbs:bs.length ≤ 9223372036854775806) (n:Int) (hn:n ≤ 1000000):znJ Tryz.prog 85 TC bs [int n] (onF bs n):=by
 intro i h
 refine AG.go (rs:=[.tmp 4]) zbg zay Tryz.func85 rfl rfl rfl (by kernel_rfl) fun hl _ s hs hR=>?_
 have e0:s.rw 1000000 = ⟨1,.box TC [.sl false 1 (kL .u8 bs),int i,int h]⟩:=by rw [hR];rfl
 have e1:s.rw 1000500 = ⟨0,.dead⟩:=by rw [hR];rfl
 simp (maxSteps:=5000000) -dsimp only [↓gp,gq,reduceCtorEq,reduceEqDiff,reduceLT,reduceLeDiff,reduceAdd,reduceMul,reduceSub,Nat.reduceBEq,Int.reduceToNat,Int.reduceLE,Int.reduceLT,Int.reduceNeg,reduceMod,zac,zad,zab,zaa,gT,TK.isInt,TK.agg,Array.toList,hs,e0]
 refine zeB (zbL bs hbs n hn) (zfm n) (i:=i) (h:=h) (by simp (maxSteps:=5000000) -dsimp only [gr,reduceEqDiff,reduceLT,reduceAdd,reduceMod,Nat.reduceBEq,zaa,zac,zad,zab,e0] <;> rfl) rfl ?_
 unfold onF
 obtain ⟨y,j3,g3,hr,hy⟩:=zkO bs n i h
 rw [hr]
 simp (maxSteps:=5000000) -dsimp only [↓gp,gq,reduceCtorEq,reduceEqDiff,reduceLT,reduceLeDiff,reduceAdd,reduceMul,reduceSub,Nat.reduceBEq,Int.reduceToNat,Int.reduceLE,Int.reduceLT,Int.reduceNeg,reduceMod,zac,zad,zab,zaa,gT,TK.isInt,TK.agg,Array.toList,hs,e0]
 exact ⟨rfl,by simp (maxSteps:=5000000) -dsimp only [gr,reduceEqDiff,reduceLT,reduceAdd,reduceMod,Nat.reduceBEq,zaa,zac,zad,zab,e0] <;> rfl,by simp (maxSteps:=5000000) -dsimp only [gr,reduceEqDiff,reduceLT,reduceAdd,reduceMod,Nat.reduceBEq,zaa,zac,zad,zab,e1]⟩
theorem zF7 (bs:List Int) (n:Int) (i:Nat) (h:Int):∃ (x:Bool) (j:Nat) (g:Int),onF bs n i h = (.bool x,j,g):=by
 obtain ⟨y,j3,g3,hr,hy⟩:=zkO bs n i h
 unfold onF
 rw [hr]
 exact ⟨_,_,_,rfl⟩
theorem zhe (bs:List Int) (hbs:bs.length ≤ 9223372036854775806) (n:Int) (hn:n ≤ 1000000):zuI Tryz.prog 85 TC bs ⟨0,.dead⟩ [int n] zGF :=
 (zld bs hbs n hn).toCur fun i h=>by obtain ⟨x,j,g,e⟩:=zF7 bs n i h;rw [e];exact ⟨x,rfl⟩
def piF (bs:List Int) (l:List Int) (i:Nat) (h:Int):Value × Nat × Int:=((match (beF bs l.length i h).1 with | .int _ x=>.int .i64 (l.getD x.toNat 0) | _=>.int .i64 0),(beF bs l.length i h).2)
theorem zF8 (bs:List Int) {l:List Int} (hl:0 < l.length) (i:Nat) (h:Int):∃ (x:Int) (j:Nat) (g:Int),piF bs l i h = (.int .i64 x,j,g)∧x ∈ l:=by
 obtain ⟨y,j3,g3,hr,hy⟩:=zkO bs l.length i h
 obtain ⟨m,rfl,hm⟩:=zgp hl hy
 unfold piF
 rw [hr]
 exact ⟨_,_,_,rfl,zax 0 hm⟩
theorem zhL (bs:List Int) (hbs:bs.length ≤ 9223372036854775806) (l:List Int) (hl0:0 < l.length) (hl1:l.length ≤ 1000000):zzB Tryz.prog 126 TC bs 3 (iL l) (piF bs l):=by
 intro i h
 refine AG.go (rs:=[.tmp 4]) zbg zay Tryz.func126 rfl rfl rfl (by kernel_rfl) fun hl _ s hs hR=>?_
 have e0:s.rw 1000000 = ⟨1,.box TC [.sl false 1 (kL .u8 bs),int i,int h]⟩:=by rw [hR];rfl
 have e1:s.rw 1000500 = ⟨1,.sli 3 1 false (iL l)⟩:=by rw [hR];rfl
 simp (maxSteps:=5000000) -dsimp only [↓gp,gq,reduceCtorEq,reduceEqDiff,reduceLT,reduceLeDiff,reduceAdd,reduceMul,reduceSub,Nat.reduceBEq,Int.reduceToNat,Int.reduceLE,Int.reduceLT,Int.reduceNeg,reduceMod,zac,zad,zab,zaa,gT,TK.isInt,TK.agg,Array.toList,hs,e0,e1]
 refine zeB (zbL bs hbs l.length (by omega)) (zfm _) (i:=i) (h:=h) (by simp (maxSteps:=5000000) -dsimp only [gr,reduceEqDiff,reduceLT,reduceAdd,reduceMod,Nat.reduceBEq,zaa,zac,zad,zab,e0] <;> rfl) rfl ?_
 unfold piF
 obtain ⟨y,j3,g3,hr,hy⟩:=zkO bs l.length i h
 obtain ⟨m,rfl,hm⟩:=zgp hl0 hy
 rw [hr]
 simp (maxSteps:=5000000) -dsimp only [↓gp,gq,reduceCtorEq,reduceEqDiff,reduceLT,reduceLeDiff,reduceAdd,reduceMul,reduceSub,Nat.reduceBEq,Int.reduceToNat,Int.reduceLE,Int.reduceLT,Int.reduceNeg,reduceMod,zac,zad,zab,zaa,gT,TK.isInt,TK.agg,Array.toList,hs,e0,e1]
 exact ⟨by omega,hm,rfl,by simp (maxSteps:=5000000) -dsimp only [gr,reduceEqDiff,reduceLT,reduceAdd,reduceMod,Nat.reduceBEq,zaa,zac,zad,zab,e0] <;> rfl,by simp (maxSteps:=5000000) -dsimp only [gr,reduceEqDiff,reduceLT,reduceAdd,reduceMod,Nat.reduceBEq,zaa,zac,zad,zab,e1] <;> rfl⟩
theorem zbU (bs:List Int) (hbs:bs.length ≤ 9223372036854775806) (l:List Int) (hl0:0 < l.length) (hl1:l.length ≤ 1000000):zuI Tryz.prog 126 TC bs ⟨1,.sli 3 1 false (iL l)⟩ [.own 1000500 1] (zGE fun x=>x ∈ l) :=
 (zhL bs hbs l hl0 hl1).toCur fun i h=>by obtain ⟨x,j,g,e,hx⟩:=zF8 bs hl0 i h;rw [e];exact ⟨x,rfl,hx⟩
theorem znH (bs:List Int) (hbs:bs.length ≤ 9223372036854775806) (l:List ByteArray) (hl0:0 < l.length) (hl1:l.length ≤ 1000000):zuI Tryz.prog 202 TC bs ⟨1,.sli 9 1 false (sL l)⟩ [.own 1000500 1] (fun rv=>∃ x,rv = .im (str x)∧x ∈ l):=by
 intro i h
 refine AG.go (rs:=[.tmp 4]) zbg zay Tryz.func202 rfl rfl rfl (by kernel_rfl) fun hl _ s hs hR=>?_
 have e0:s.rw 1000000 = ⟨1,.box TC [.sl false 1 (kL .u8 bs),int i,int h]⟩:=by rw [hR];rfl
 have e1:s.rw 1000500 = ⟨1,.sli 9 1 false (sL l)⟩:=by rw [hR];rfl
 have hsl:(sL l).length = l.length:=by simp [sL]
 simp (maxSteps:=5000000) -dsimp only [↓gp,gq,reduceCtorEq,reduceEqDiff,reduceLT,reduceLeDiff,reduceAdd,reduceMul,reduceSub,Nat.reduceBEq,Int.reduceToNat,Int.reduceLE,Int.reduceLT,Int.reduceNeg,reduceMod,zac,zad,zab,zaa,gT,TK.isInt,TK.agg,Array.toList,hs,e0,e1,hsl]
 refine zaK (za0 bs hbs l.length (by omega)) .none (by simp (maxSteps:=5000000) -dsimp only [gr,reduceEqDiff,reduceLT,reduceAdd,reduceMod,Nat.reduceBEq,zaa,zac,zad,zab,e0,e1,hsl] <;> rfl) (GvL.one (zbN (by simp (maxSteps:=5000000) -dsimp only [gr,reduceEqDiff,reduceLT,reduceAdd,reduceMod,Nat.reduceBEq,zaa,zac,zad,zab,e0,e1,hsl] <;> rfl)) (by repeat (first | exact GvL.nil | refine GvL.one (GvA.v _) ?_ | refine GvL.one (GvA.sl _ _ _) ?_))) rfl (fun _ h=>by cases h) fun rv i1 g1 ⟨x,hrv,hx⟩=>?_
 subst hrv
 obtain ⟨m,rfl,hm⟩:=zgp hl0 hx
 simp (maxSteps:=5000000) -dsimp only [↓gp,gq,reduceCtorEq,reduceEqDiff,reduceLT,reduceLeDiff,reduceAdd,reduceMul,reduceSub,Nat.reduceBEq,Int.reduceToNat,Int.reduceLE,Int.reduceLT,Int.reduceNeg,reduceMod,zac,zad,zab,zaa,gT,TK.isInt,TK.agg,Array.toList,hs,e0,e1,hsl]
 refine ⟨by omega,hm,?_⟩
 exact ⟨_,i1,g1,[],⟨_,rfl,zax _ hm⟩,.one (.lf (.im _)),List.nodup_nil,by simp (maxSteps:=5000000) -dsimp only [gr,reduceEqDiff,reduceLT,reduceAdd,reduceMod,Nat.reduceBEq,zaa,zac,zad,zab,e0] <;> rfl,by simp (maxSteps:=5000000) -dsimp only [gr,reduceEqDiff,reduceLT,reduceAdd,reduceMod,Nat.reduceBEq,zaa,zac,zad,zab,e1] <;> rfl⟩
theorem zvN (bs:List Int):AC Tryz.prog 7 [.sl false 1 (kL .u8 bs)] (.im (bool (decide (1048576 < (bs.length:Int))))):=by
 refine AC.go (rs:=[.tmp 2]) zbg zay Tryz.func7 rfl rfl rfl (by kernel_rfl) fun hl=>?_
 simp (maxSteps:=5000000) -dsimp only [↓gp,gq,reduceCtorEq,reduceEqDiff,reduceLT,reduceLeDiff,reduceAdd,reduceMul,reduceSub,Nat.reduceBEq,Int.reduceToNat,Int.reduceLE,Int.reduceLT,Int.reduceNeg,reduceMod,zac,zad,zab,zaa,gT,TK.isInt,TK.agg,Array.toList]
theorem zfk (xs ys:List Int):AC Tryz.prog 54 [zbj xs,zbj ys] (.im (bool (decide (xs = ys)))):=by
 refine AC.go (rs:=[.tmp 4]) zbg zay Tryz.func54 rfl rfl rfl (by kernel_rfl) fun hl=>?_
 simp only [zbk,zc5,zbD,and_true] at hl
 simp (maxSteps:=5000000) -dsimp only [↓gp,gq,reduceCtorEq,reduceEqDiff,reduceLT,reduceLeDiff,reduceAdd,reduceMul,reduceSub,Nat.reduceBEq,Int.reduceToNat,Int.reduceLE,Int.reduceLT,Int.reduceNeg,reduceMod,zac,zad,zab,zaa,gT,TK.isInt,TK.agg,Array.toList]
 refine ⟨fun h=>?_,fun h=>?_⟩
 ·intro e
  simp [e] at h
 ·have hn:xs.length = ys.length:=by simp at h;omega
  refine zaq (fun (i:Nat) s=>s.sl 0 = zbj xs∧s.sl 1 = zbj ys∧s.sl 5 = int i∧i ≤ xs.length∧xs.take i = ys.take i) (fun i=>xs.length - i) 0 ⟨by simp (maxSteps:=5000000) -dsimp only [gr,reduceEqDiff,reduceLT,reduceAdd,reduceMod,Nat.reduceBEq,zaa,zac,zad,zab],by simp (maxSteps:=5000000) -dsimp only [gr,reduceEqDiff,reduceLT,reduceAdd,reduceMod,Nat.reduceBEq,zaa,zac,zad,zab],by simp (maxSteps:=5000000) -dsimp only [gr,reduceEqDiff,reduceLT,reduceAdd,reduceMod,Nat.reduceBEq,zaa,zac,zad,zab];rfl,by simp,by simp⟩ ?_
  intro i s1 ⟨h0,h1,h5,hi,hall⟩
  simp (maxSteps:=5000000) -dsimp only [↓gp,gq,reduceCtorEq,reduceEqDiff,reduceLT,reduceLeDiff,reduceAdd,reduceMul,reduceSub,Nat.reduceBEq,Int.reduceToNat,Int.reduceLE,Int.reduceLT,Int.reduceNeg,reduceMod,zac,zad,zab,zaa,gT,TK.isInt,TK.agg,Array.toList,h0,h1,h5]
  refine ⟨fun h=>⟨by kernel_rfl,h,h,by omega,by omega,fun ha=>?_,fun ha=>?_⟩,fun h=>?_⟩
  ·intro e
   simp [e] at ha
  ·refine zag (i + 1) ⟨by simp (maxSteps:=5000000) -dsimp only [gr,reduceEqDiff,reduceLT,reduceAdd,reduceMod,Nat.reduceBEq,zaa,zac,zad,zab,h0],by simp (maxSteps:=5000000) -dsimp only [gr,reduceEqDiff,reduceLT,reduceAdd,reduceMod,Nat.reduceBEq,zaa,zac,zad,zab,h1],by simp (maxSteps:=5000000) -dsimp only [gr,reduceEqDiff,reduceLT,reduceAdd,reduceMod,Nat.reduceBEq,zaa,zac,zad,zab];rw [zae h hl.1],h,?_⟩ (by omega)
   rw [zaT 0 h,zaT 0 (show i < ys.length by omega),hall]
   simp at ha
   simpa using ha
  ·rw [List.take_of_length_le (by omega),List.take_of_length_le (by omega)] at hall
   exact hall
theorem zaB (a:Int) (l:List Int):decide (a = a∧l = l) = true:=by simp
def kcx (P:Int→List Int→Prop) (rv:RV):Prop:=∃ n xs,rv = .ag [.im (int n),.fr 3 1 (iL xs)]∧P n xs
def cxQ (n:Int) (xs:List Int):Prop:=0 ≤ n∧n ≤ 7∧xs.length ≤ 449
theorem zrT {n:Nat} (hn:n ≤ 6) (f:Nat→Bool) (g:Bool):kcx cxQ (.ag [.im (int n),.fr 3 1 (iL (ofN (zfz f g)))]) :=
 ⟨_,_,rfl,by omega,by omega,by rw [zaj];exact Nat.le_succ_of_le (zuv f g)⟩
theorem zDT {a b:Int} (ha:0 ≤ a∧a < 64) (hb:0 ≤ b∧b < 64):0 ≤ zdL .i64 a b∧zdL .i64 a b < 64:=zDf ha hb
theorem znN {L:List Int} {x:Int} (h:okS L) (hx:0 ≤ x∧x < 64):okS (L ++ [x]):=fun y hy=>by
 rw [List.mem_append,List.mem_singleton] at hy
 exact hy.elim (h y) (fun e=>e ▸ hx)
theorem zCB {n:Nat} (hn:n ≤ 6) {x:Int} (h:zEb ((2 ^ n:Nat):Int) x):0 ≤ x∧x < 64:=by
 have h64:=zam hn
 have hp:0 < 2 ^ n:=Nat.pow_pos (by omega)
 obtain ⟨m,rfl,hm⟩:=zgp hp h
 omega
theorem znO (bs:List Int) (hbs:bs.length ≤ 9223372036854775806) (n:Nat) (hn1:1 ≤ n) (hn:n ≤ 6):zuI Tryz.prog 204 TC bs ⟨0,.dead⟩ [int n] (kcx cxQ):=by
 intro i h
 refine AG.go (rs:=[.cell 4 27]) zbg zay Tryz.func204 rfl rfl rfl (by kernel_rfl) fun hl _ s hs hR=>?_
 have e0:s.rw 1000000 = ⟨1,.box TC [.sl false 1 (kL .u8 bs),int i,int h]⟩:=by rw [hR];rfl
 have e1:s.rw 1000500 = ⟨0,.dead⟩:=by rw [hR];rfl
 have elo:∀ k,k < 1000000→s.rw k = ⟨0,.dead⟩:=fun k hk=>by rw [hR];exact zhM hk
 simp (maxSteps:=5000000) -dsimp only [↓gp,gq,reduceCtorEq,reduceEqDiff,reduceLT,reduceLeDiff,reduceAdd,reduceMul,reduceSub,Nat.reduceBEq,Int.reduceToNat,Int.reduceLE,Int.reduceLT,Int.reduceNeg,reduceMod,zac,zad,zab,zaa,gT,TK.isInt,TK.agg,Array.toList,hs,e0,elo]
 refine zaK (zbU bs hbs [0,1,2,3,4,4,5,6] (by decide) (by decide)) (.some (j:=11) (by simp (maxSteps:=5000000) -dsimp only [gr,reduceEqDiff,reduceLT,reduceAdd,reduceMod,Nat.reduceBEq,zaa,zac,zad,zab,elo] <;> rfl) (zdF _)) (by simp (maxSteps:=5000000) -dsimp only [gr,reduceEqDiff,reduceLT,reduceAdd,reduceMod,Nat.reduceBEq,zaa,zac,zad,zab,e0] <;> rfl) (.one (zbN (by simp (maxSteps:=5000000) -dsimp only [gr,reduceEqDiff,reduceLT,reduceAdd,reduceMod,Nat.reduceBEq,zaa,zac,zad,zab,e0] <;> rfl)) (.one (zgq (by simp (maxSteps:=5000000) -dsimp only [gr,reduceEqDiff,reduceLT,reduceAdd,reduceMod,Nat.reduceBEq,zaa,zac,zad,zab,elo])) .nil)) rfl (fun j hj=>by cases hj;exact ⟨rfl,rfl⟩) fun rv i1 g1 ⟨cnt,hrv,hc⟩=>?_
 subst hrv
 simp (maxSteps:=5000000) -dsimp only [↓gp,gq,reduceCtorEq,reduceEqDiff,reduceLT,reduceLeDiff,reduceAdd,reduceMul,reduceSub,Nat.reduceBEq,Int.reduceToNat,Int.reduceLE,Int.reduceLT,Int.reduceNeg,reduceMod,zac,zad,zab,zaa,gT,TK.isInt,TK.agg,Array.toList,hs,e0,elo]
 have hcn:0 ≤ cnt∧cnt ≤ 6:=by
  have hc:cnt ∈ [0,1,2,3,4,4,5,6]:=hc
  simp at hc;omega
 have h64:=zam hn
 have hsh:zgs .i64 1 (n:Int) = ((2 ^ n:Nat):Int):=zaJ (by omega)
 have hun:IntKind.u64.wrap (n:Int) = (n:Int):=zaL (by omega)
 refine zaq (fun (za:Nat × Nat × Nat × Int × List Int) s=>match za with | (k,v,j,g,L)=>s.sl 0 = .ref 1000000 1 0∧s.rw 1000000 = ⟨1,.box TC [.sl false 1 (kL .u8 bs),int j,int g]⟩∧s.rw 1000500 = ⟨0,.dead⟩∧s.sl 1 = int n∧s.sl 4 = .ref 4 1 0∧s.rw 4 = ⟨1,.box 27 [int 0,.v (.slice none 0 0)]⟩∧s.sl 5 = .own 9 v∧s.rw 9 = ⟨v,.sli 3 1 false (iL L)⟩∧s.sl 6 = int cnt∧s.sl 7 = int k∧(k ≤ 6∧L.length = k∧okS L)) (fun (k,v,j,g,L)=>6 - k) ((0,1,i1,g1,[])) (by refine ⟨?_,?_,?_,?_,?_,?_,?_,?_,?_,?_,⟨by decide,rfl,fun x hx=>absurd hx (by simp)⟩⟩ <;> (first | (simp (maxSteps:=5000000) -dsimp only [gr,reduceEqDiff,reduceLT,reduceAdd,reduceMod,Nat.reduceBEq,zaa,zac,zad,zab,hs,e0,e1,elo];first | done | rfl | (simp;done)) | assumption | rfl)) ?_
 intro (k,v,j,g,L) sa ⟨h0a,r1000000a,r1000500a,h1a,h4a,r4a,h5a,r9a,h6a,h7a,hIa⟩
 obtain ⟨hk,hL,hok⟩:=hIa
 simp (maxSteps:=5000000) -dsimp only [↓gp,gq,reduceCtorEq,reduceEqDiff,reduceLT,reduceLeDiff,reduceAdd,reduceMul,reduceSub,Nat.reduceBEq,Int.reduceToNat,Int.reduceLE,Int.reduceLT,Int.reduceNeg,reduceMod,zac,zad,zab,zaa,gT,TK.isInt,TK.agg,Array.toList,h0a,r1000000a,r1000500a,h1a,h4a,r4a,h5a,r9a,h6a,h7a,hsh,hun]
 refine ⟨fun hlt=>?_,fun hlt=>?_⟩
 ·refine zaK (za0 bs hbs ((2 ^ n:Nat):Int) (by omega)) .none (by simp (maxSteps:=5000000) -dsimp only [gr,reduceEqDiff,reduceLT,reduceAdd,reduceMod,Nat.reduceBEq,zaa,zac,zad,zab,h0a,r1000000a,r1000500a,h1a,h4a,r4a,h5a,r9a,h6a,h7a] <;> rfl) (GvL.one (zbN (by simp (maxSteps:=5000000) -dsimp only [gr,reduceEqDiff,reduceLT,reduceAdd,reduceMod,Nat.reduceBEq,zaa,zac,zad,zab,h0a,r1000000a,r1000500a,h1a,h4a,r4a,h5a,r9a,h6a,h7a] <;> rfl)) (by repeat (first | exact GvL.nil | refine GvL.one (GvA.v _) ?_ | refine GvL.one (GvA.sl _ _ _) ?_))) rfl (fun _ h=>by cases h) fun rv i2 g2 ⟨x,hrv,hx⟩=>?_
  subst hrv
  have hx6:=zCB hn hx
  simp (maxSteps:=5000000) -dsimp only [↓gp,gq,reduceCtorEq,reduceEqDiff,reduceLT,reduceLeDiff,reduceAdd,reduceMul,reduceSub,Nat.reduceBEq,Int.reduceToNat,Int.reduceLE,Int.reduceLT,Int.reduceNeg,reduceMod,zac,zad,zab,zaa,gT,TK.isInt,TK.agg,Array.toList,h0a,r1000000a,r1000500a,h1a,h4a,r4a,h5a,r9a,h6a,h7a,hsh,hun]
  refine zaK (zhe bs hbs 2 (by decide)) .none (by simp (maxSteps:=5000000) -dsimp only [gr,reduceEqDiff,reduceLT,reduceAdd,reduceMod,Nat.reduceBEq,zaa,zac,zad,zab,h0a,r1000000a,r1000500a,h1a,h4a,r4a,h5a,r9a,h6a,h7a] <;> rfl) (GvL.one (zbN (by simp (maxSteps:=5000000) -dsimp only [gr,reduceEqDiff,reduceLT,reduceAdd,reduceMod,Nat.reduceBEq,zaa,zac,zad,zab,h0a,r1000000a,r1000500a,h1a,h4a,r4a,h5a,r9a,h6a,h7a] <;> rfl)) (by repeat (first | exact GvL.nil | refine GvL.one (GvA.v _) ?_ | refine GvL.one (GvA.sl _ _ _) ?_))) rfl (fun _ h=>by cases h) fun rv i3 g3 ⟨b,hrv⟩=>?_
  subst hrv
  simp (maxSteps:=5000000) -dsimp only [↓gp,gq,reduceCtorEq,reduceEqDiff,reduceLT,reduceLeDiff,reduceAdd,reduceMul,reduceSub,Nat.reduceBEq,Int.reduceToNat,Int.reduceLE,Int.reduceLT,Int.reduceNeg,reduceMod,zac,zad,zab,zaa,gT,TK.isInt,TK.agg,Array.toList,h0a,r1000000a,r1000500a,h1a,h4a,r4a,h5a,r9a,h6a,h7a,hsh,hun]
  refine ⟨fun hb=>?_,fun hb=>?_⟩
  ·refine zaK (za0 bs hbs ((2 ^ n:Nat):Int) (by omega)) .none (by simp (maxSteps:=5000000) -dsimp only [gr,reduceEqDiff,reduceLT,reduceAdd,reduceMod,Nat.reduceBEq,zaa,zac,zad,zab,h0a,r1000000a,r1000500a,h1a,h4a,r4a,h5a,r9a,h6a,h7a] <;> rfl) (GvL.one (zbN (by simp (maxSteps:=5000000) -dsimp only [gr,reduceEqDiff,reduceLT,reduceAdd,reduceMod,Nat.reduceBEq,zaa,zac,zad,zab,h0a,r1000000a,r1000500a,h1a,h4a,r4a,h5a,r9a,h6a,h7a] <;> rfl)) (by repeat (first | exact GvL.nil | refine GvL.one (GvA.v _) ?_ | refine GvL.one (GvA.sl _ _ _) ?_))) rfl (fun _ h=>by cases h) fun rv i4 g4 ⟨y,hrv,hy⟩=>?_
   subst hrv
   have hy6:=zCB hn hy
   simp (maxSteps:=5000000) -dsimp only [↓gp,gq,reduceCtorEq,reduceEqDiff,reduceLT,reduceLeDiff,reduceAdd,reduceMul,reduceSub,Nat.reduceBEq,Int.reduceToNat,Int.reduceLE,Int.reduceLT,Int.reduceNeg,reduceMod,zac,zad,zab,zaa,gT,TK.isInt,TK.agg,Array.toList,h0a,r1000000a,r1000500a,h1a,h4a,r4a,h5a,r9a,h6a,h7a,hsh,hun]
   refine ⟨by omega,?_⟩
   exact zag ((k + 1,v + 1,i4,g4,L ++ [zdL .i64 x y])) (by refine ⟨?_,?_,?_,?_,?_,?_,?_,?_,?_,?_,⟨by dsimp only;omega,by simp [hL],znN hok (zDT hx6 hy6)⟩⟩ <;> (first | (simp (maxSteps:=5000000) -dsimp only [gr,reduceEqDiff,reduceLT,reduceAdd,reduceMod,Nat.reduceBEq,zaa,zac,zad,zab,h0a,r1000000a,r1000500a,h1a,h4a,r4a,h5a,r9a,h6a,h7a,zae (show k < 6 by omega) (by omega)];first | done | rfl | (simp;done)) | assumption | rfl)) (by first | omega | (simp only;omega) | (dsimp only;omega) | (show _ < _;simp;omega))
  ·refine ⟨by omega,?_⟩
   exact zag ((k + 1,v + 1,i3,g3,L ++ [x])) (by refine ⟨?_,?_,?_,?_,?_,?_,?_,?_,?_,?_,⟨by dsimp only;omega,by simp [hL],znN hok hx6⟩⟩ <;> (first | (simp (maxSteps:=5000000) -dsimp only [gr,reduceEqDiff,reduceLT,reduceAdd,reduceMod,Nat.reduceBEq,zaa,zac,zad,zab,h0a,r1000000a,r1000500a,h1a,h4a,r4a,h5a,r9a,h6a,h7a,zae (show k < 6 by omega) (by omega)];first | done | rfl | (simp;done)) | assumption | rfl)) (by first | omega | (simp only;omega) | (dsimp only;omega) | (show _ < _;simp;omega))
 ·refine zaf (zdd n L hok) ?_
  simp (maxSteps:=5000000) -dsimp only [↓gp,gq,reduceCtorEq,reduceEqDiff,reduceLT,reduceLeDiff,reduceAdd,reduceMul,reduceSub,Nat.reduceBEq,Int.reduceToNat,Int.reduceLE,Int.reduceLT,Int.reduceNeg,reduceMod,zac,zad,zab,zaa,gT,TK.isInt,TK.agg,Array.toList,h0a,r1000000a,r1000500a,h1a,h4a,r4a,h5a,r9a,h6a,h7a]
  exact ⟨_,j,g,_,zrT hn _ _,.one (.ag (.cons (.im _) (.cons (.fr (by simp (maxSteps:=5000000) -dsimp only [gr,reduceEqDiff,reduceLT,reduceAdd,reduceMod,Nat.reduceBEq,zaa,zac,zad,zab,h0a,r1000000a,r1000500a,h1a,h4a,r4a,h5a,r9a,h6a,h7a] <;> rfl) (by decide)) .nil))),by simp,by simp (maxSteps:=5000000) -dsimp only [gr,reduceEqDiff,reduceLT,reduceAdd,reduceMod,Nat.reduceBEq,zaa,zac,zad,zab,h0a,r1000000a,r1000500a,h1a,h4a,r4a,h5a,r9a,h6a,h7a] <;> rfl,by simp (maxSteps:=5000000) -dsimp only [gr,reduceEqDiff,reduceLT,reduceAdd,reduceMod,Nat.reduceBEq,zaa,zac,zad,zab,h0a,r1000000a,r1000500a,h1a,h4a,r4a,h5a,r9a,h6a,h7a]⟩
def szQ (z m:Nat):List Nat:=(List.range m).filter fun s=>zaD s == z
theorem zBa (z m:Nat):szQ z (m + 1) = if zaD m = z then szQ z m ++ [m] else szQ z m:=by
 unfold szQ
 rw [List.range_succ,List.filter_append]
 by_cases h:zaD m = z <;> simp [h]
theorem zDR (z m:Nat):(szQ z m).length ≤ m:=by
 unfold szQ
 exact Nat.le_trans (List.length_filter_le _ _) (by simp)
theorem zDS:∀ n,n < 7→∀ z,z < n + 1→0 < (szQ z (2 ^ n)).length:=by decide +kernel
theorem zGa (z m:Nat) (hm:m ≤ 64):okS (ofN (szQ z m)):=fun x hx=>by
 obtain ⟨s,hs,rfl⟩:=List.mem_map.1 hx
 have:=List.mem_range.1 (List.mem_filter.1 hs).1
 omega
theorem znM (bs:List Int) (hbs:bs.length ≤ 9223372036854775806) (n:Nat) (hn1:1 ≤ n) (hn:n ≤ 6):zuI Tryz.prog 203 TC bs ⟨0,.dead⟩ [int n] (kcx cxQ):=by
 intro i h
 refine AG.go (rs:=[.cell 4 27]) zbg zay Tryz.func203 rfl rfl rfl (by kernel_rfl) fun hl _ s hs hR=>?_
 have e0:s.rw 1000000 = ⟨1,.box TC [.sl false 1 (kL .u8 bs),int i,int h]⟩:=by rw [hR];rfl
 have e1:s.rw 1000500 = ⟨0,.dead⟩:=by rw [hR];rfl
 have elo:∀ k,k < 1000000→s.rw k = ⟨0,.dead⟩:=fun k hk=>by rw [hR];exact zhM hk
 have h64:=zam hn
 have hsh:zgs .i64 1 (n:Int) = ((2 ^ n:Nat):Int):=zaJ (by omega)
 have hun:IntKind.u64.wrap (n:Int) = (n:Int):=zaL (by omega)
 simp (maxSteps:=5000000) -dsimp only [↓gp,gq,reduceCtorEq,reduceEqDiff,reduceLT,reduceLeDiff,reduceAdd,reduceMul,reduceSub,Nat.reduceBEq,Int.reduceToNat,Int.reduceLE,Int.reduceLT,Int.reduceNeg,reduceMod,zac,zad,zab,zaa,gT,TK.isInt,TK.agg,Array.toList,hs,e0,elo]
 refine zaK (za0 bs hbs n (by omega)) .none (by simp (maxSteps:=5000000) -dsimp only [gr,reduceEqDiff,reduceLT,reduceAdd,reduceMod,Nat.reduceBEq,zaa,zac,zad,zab,e0,elo] <;> rfl) (GvL.one (zbN (by simp (maxSteps:=5000000) -dsimp only [gr,reduceEqDiff,reduceLT,reduceAdd,reduceMod,Nat.reduceBEq,zaa,zac,zad,zab,e0,elo] <;> rfl)) (by repeat (first | exact GvL.nil | refine GvL.one (GvA.v _) ?_ | refine GvL.one (GvA.sl _ _ _) ?_))) rfl (fun _ h=>by cases h) fun rv i1 g1 ⟨x,hrv,hx⟩=>?_
 subst hrv
 obtain ⟨z0,rfl,hz0⟩:=zgp hn1 hx
 have hw1:IntKind.i64.wrap (1 + (z0:Int)) = ((z0 + 1:Nat):Int):=by rw [zat (by omega) (by omega)];omega
 generalize hz:z0 + 1 = z at *
 simp (maxSteps:=5000000) -dsimp only [↓gp,gq,reduceCtorEq,reduceEqDiff,reduceLT,reduceLeDiff,reduceAdd,reduceMul,reduceSub,Nat.reduceBEq,Int.reduceToNat,Int.reduceLE,Int.reduceLT,Int.reduceNeg,reduceMod,zac,zad,zab,zaa,gT,TK.isInt,TK.agg,Array.toList,hs,e0,elo,hw1]
 refine zaq (fun (za:Nat × Nat) s=>match za with | (m,v)=>s.sl 0 = .ref 1000000 1 0∧s.rw 1000000 = ⟨1,.box TC [.sl false 1 (kL .u8 bs),int i1,int g1]⟩∧s.rw 1000500 = ⟨0,.dead⟩∧s.sl 1 = int n∧s.sl 4 = .ref 4 1 0∧s.rw 4 = ⟨1,.box 27 [int 0,.v (.slice none 0 0)]⟩∧s.sl 5 = int z∧s.sl 6 = .own 15 v∧s.rw 15 = ⟨v,.sli 3 1 false (iL (ofN (szQ z m)))⟩∧s.rw 31 = ⟨0,.dead⟩∧s.sl 7 = int m∧(m ≤ 2 ^ n)) (fun (m,v)=>2 ^ n - m) ((0,1)) (by refine ⟨?_,?_,?_,?_,?_,?_,?_,?_,?_,?_,?_,Nat.zero_le _⟩ <;> (first | (simp (maxSteps:=5000000) -dsimp only [gr,reduceEqDiff,reduceLT,reduceAdd,reduceMod,Nat.reduceBEq,zaa,zac,zad,zab,hs,e0,e1,elo];first | done | rfl | (simp;done)) | assumption | rfl)) ?_
 intro (m,v) sa ⟨h0a,r1000000a,r1000500a,h1a,h4a,r4a,h5a,h6a,r15a,r31a,h7a,hIa⟩
 simp (maxSteps:=5000000) -dsimp only [↓gp,gq,reduceCtorEq,reduceEqDiff,reduceLT,reduceLeDiff,reduceAdd,reduceMul,reduceSub,Nat.reduceBEq,Int.reduceToNat,Int.reduceLE,Int.reduceLT,Int.reduceNeg,reduceMod,zac,zad,zab,zaa,gT,TK.isInt,TK.agg,Array.toList,h0a,r1000000a,r1000500a,h1a,h4a,r4a,h5a,h6a,r15a,r31a,h7a,hsh,hun]
 have hzl:=zDR z m
 refine ⟨fun hlt=>zaf (zaP m (by omega)) ?_,fun hlt=>?_⟩
 ·simp (maxSteps:=5000000) -dsimp only [↓gp,gq,reduceCtorEq,reduceEqDiff,reduceLT,reduceLeDiff,reduceAdd,reduceMul,reduceSub,Nat.reduceBEq,Int.reduceToNat,Int.reduceLE,Int.reduceLT,Int.reduceNeg,reduceMod,zac,zad,zab,zaa,gT,TK.isInt,TK.agg,Array.toList,h0a,r1000000a,r1000500a,h1a,h4a,r4a,h5a,h6a,r15a,r31a,h7a,hsh,hun]
  have hsu:=zBa z m
  refine ⟨fun he=>?_,fun he=>?_⟩
  ·have he:zaD m = z:=by
    have:((zaD m:Nat):Int) = z:=by simpa using he
    omega
   rw [if_pos he] at hsu
   simp (maxSteps:=5000000) -dsimp only [↓gp,gq,reduceCtorEq,reduceEqDiff,reduceLT,reduceLeDiff,reduceAdd,reduceMul,reduceSub,Nat.reduceBEq,Int.reduceToNat,Int.reduceLE,Int.reduceLT,Int.reduceNeg,reduceMod,zac,zad,zab,zaa,gT,TK.isInt,TK.agg,Array.toList,h0a,r1000000a,r1000500a,h1a,h4a,r4a,h5a,h6a,r15a,r31a,h7a,hsh,hun,zaj]
   refine ⟨by omega,?_⟩
   exact zag ((m + 1,v + 1)) (by refine ⟨?_,?_,?_,?_,?_,?_,?_,?_,?_,?_,?_,by dsimp only;omega⟩ <;> (first | (simp (maxSteps:=5000000) -dsimp only [gr,reduceEqDiff,reduceLT,reduceAdd,reduceMod,Nat.reduceBEq,zaa,zac,zad,zab,h0a,r1000000a,r1000500a,h1a,h4a,r4a,h5a,h6a,r15a,r31a,h7a,hsu,zaR,zcK,zae hlt (by omega)];first | done | rfl | (simp;done)) | assumption | rfl)) (by first | omega | (simp only;omega) | (dsimp only;omega) | (show _ < _;simp;omega))
  ·have he:¬ zaD m = z:=fun e=>by rw [e] at he;simp at he
   rw [if_neg he] at hsu
   exact zag ((m + 1,v)) (by refine ⟨?_,?_,?_,?_,?_,?_,?_,?_,?_,?_,?_,by dsimp only;omega⟩ <;> (first | (simp (maxSteps:=5000000) -dsimp only [gr,reduceEqDiff,reduceLT,reduceAdd,reduceMod,Nat.reduceBEq,zaa,zac,zad,zab,h0a,r1000000a,r1000500a,h1a,h4a,r4a,h5a,h6a,r15a,r31a,h7a,hsu,zae hlt (by omega)];first | done | rfl | (simp;done)) | assumption | rfl)) (by first | omega | (simp only;omega) | (dsimp only;omega) | (show _ < _;simp;omega))
 ·have hm:m = 2 ^ n:=by omega
  subst hm
  have hpos:=zDS n (by omega) z (by omega)
  have hAok:=zGa z (2 ^ n) h64
  generalize hA:szQ z (2 ^ n) = A at *
  have hAl:(ofN A).length = A.length:=zaj A
  refine zaK (za0 bs hbs 7 (by decide)) .none (by simp (maxSteps:=5000000) -dsimp only [gr,reduceEqDiff,reduceLT,reduceAdd,reduceMod,Nat.reduceBEq,zaa,zac,zad,zab,h0a,r1000000a,r1000500a,h1a,h4a,r4a,h5a,h6a,r15a,r31a,h7a] <;> rfl) (GvL.one (zbN (by simp (maxSteps:=5000000) -dsimp only [gr,reduceEqDiff,reduceLT,reduceAdd,reduceMod,Nat.reduceBEq,zaa,zac,zad,zab,h0a,r1000000a,r1000500a,h1a,h4a,r4a,h5a,h6a,r15a,r31a,h7a] <;> rfl)) (by repeat (first | exact GvL.nil | refine GvL.one (GvA.v _) ?_ | refine GvL.one (GvA.sl _ _ _) ?_))) rfl (fun _ h=>by cases h) fun rv i2 g2 ⟨x,hrv,hx⟩=>?_
  subst hrv
  have hx7:0 ≤ x∧x < 7:=by obtain ⟨a,b⟩:=hx;omega
  have hw2:IntKind.i64.wrap (1 + x) = 1 + x:=zat (by omega) (by omega)
  simp (maxSteps:=5000000) -dsimp only [↓gp,gq,reduceCtorEq,reduceEqDiff,reduceLT,reduceLeDiff,reduceAdd,reduceMul,reduceSub,Nat.reduceBEq,Int.reduceToNat,Int.reduceLE,Int.reduceLT,Int.reduceNeg,reduceMod,zac,zad,zab,zaa,gT,TK.isInt,TK.agg,Array.toList,h0a,r1000000a,r1000500a,h1a,h4a,r4a,h5a,h6a,r15a,r31a,h7a,hw2]
  refine zaq (fun (zb:Nat × Nat × Nat × Int × List Int) s=>match zb with | (k,u,j,g,L)=>s.sl 0 = .ref 1000000 1 0∧s.rw 1000000 = ⟨1,.box TC [.sl false 1 (kL .u8 bs),int j,int g]⟩∧s.rw 1000500 = ⟨0,.dead⟩∧s.sl 1 = int n∧s.sl 4 = .ref 4 1 0∧s.rw 4 = ⟨1,.box 27 [int 0,.v (.slice none 0 0)]⟩∧s.sl 6 = .own 15 v∧s.rw 15 = ⟨v,.sli 3 1 false (iL (ofN A))⟩∧s.sl 8 = .own 31 u∧s.rw 31 = ⟨u,.sli 3 1 false (iL L)⟩∧s.sl 9 = int (1 + x)∧s.sl 10 = int k∧(k ≤ 7∧L.length = k∧okS L)) (fun (k,u,j,g,L)=>7 - k) ((0,1,i2,g2,[])) (by refine ⟨?_,?_,?_,?_,?_,?_,?_,?_,?_,?_,?_,?_,⟨by decide,rfl,fun x hx=>absurd hx (by simp)⟩⟩ <;> (first | (simp (maxSteps:=5000000) -dsimp only [gr,reduceEqDiff,reduceLT,reduceAdd,reduceMod,Nat.reduceBEq,zaa,zac,zad,zab,h0a,r1000000a,r1000500a,h1a,h4a,r4a,h5a,h6a,r15a,r31a,h7a];first | done | rfl | (simp;done)) | assumption | rfl)) ?_
  intro (k,u,j,g,L) sb ⟨h0b,r1000000b,r1000500b,h1b,h4b,r4b,h6b,r15b,h8b,r31b,h9b,h10b,hIb⟩
  obtain ⟨hk,hL,hok⟩:=hIb
  simp (maxSteps:=5000000) -dsimp only [↓gp,gq,reduceCtorEq,reduceEqDiff,reduceLT,reduceLeDiff,reduceAdd,reduceMul,reduceSub,Nat.reduceBEq,Int.reduceToNat,Int.reduceLE,Int.reduceLT,Int.reduceNeg,reduceMod,zac,zad,zab,zaa,gT,TK.isInt,TK.agg,Array.toList,h0b,r1000000b,r1000500b,h1b,h4b,r4b,h6b,r15b,h8b,r31b,h9b,h10b,hAl]
  refine ⟨fun hlt2=>?_,fun hlt2=>?_⟩
  ·refine zaK (za0 bs hbs (A.length:Int) (by omega)) .none (by simp (maxSteps:=5000000) -dsimp only [gr,reduceEqDiff,reduceLT,reduceAdd,reduceMod,Nat.reduceBEq,zaa,zac,zad,zab,h0b,r1000000b,r1000500b,h1b,h4b,r4b,h6b,r15b,h8b,r31b,h9b,h10b] <;> rfl) (GvL.one (zbN (by simp (maxSteps:=5000000) -dsimp only [gr,reduceEqDiff,reduceLT,reduceAdd,reduceMod,Nat.reduceBEq,zaa,zac,zad,zab,h0b,r1000000b,r1000500b,h1b,h4b,r4b,h6b,r15b,h8b,r31b,h9b,h10b] <;> rfl)) (by repeat (first | exact GvL.nil | refine GvL.one (GvA.v _) ?_ | refine GvL.one (GvA.sl _ _ _) ?_))) rfl (fun _ h=>by cases h) fun rv i3 g3 ⟨y,hrv,hy⟩=>?_
   subst hrv
   obtain ⟨t,rfl,ht⟩:=zgp hpos hy
   have hgt:=hAok _ (zax 0 (show t < (ofN A).length by omega))
   simp (maxSteps:=5000000) -dsimp only [↓gp,gq,reduceCtorEq,reduceEqDiff,reduceLT,reduceLeDiff,reduceAdd,reduceMul,reduceSub,Nat.reduceBEq,Int.reduceToNat,Int.reduceLE,Int.reduceLT,Int.reduceNeg,reduceMod,zac,zad,zab,zaa,gT,TK.isInt,TK.agg,Array.toList,h0b,r1000000b,r1000500b,h1b,h4b,r4b,h6b,r15b,h8b,r31b,h9b,h10b,hAl]
   refine ⟨by omega,by omega,by omega,?_⟩
   exact zag ((k + 1,u + 1,i3,g3,L ++ [(ofN A).getD t 0])) (by refine ⟨?_,?_,?_,?_,?_,?_,?_,?_,?_,?_,?_,?_,⟨by dsimp only;omega,by simp [hL],znN hok hgt⟩⟩ <;> (first | (simp (maxSteps:=5000000) -dsimp only [gr,reduceEqDiff,reduceLT,reduceAdd,reduceMod,Nat.reduceBEq,zaa,zac,zad,zab,h0b,r1000000b,r1000500b,h1b,h4b,r4b,h6b,r15b,h8b,r31b,h9b,h10b,zae (show k < 7 by omega) (by omega)];first | done | rfl | (simp;done)) | assumption | rfl)) (by first | omega | (simp only;omega) | (dsimp only;omega) | (show _ < _;simp;omega))
  ·refine zaf (zdd n L hok) ?_
   simp (maxSteps:=5000000) -dsimp only [↓gp,gq,reduceCtorEq,reduceEqDiff,reduceLT,reduceLeDiff,reduceAdd,reduceMul,reduceSub,Nat.reduceBEq,Int.reduceToNat,Int.reduceLE,Int.reduceLT,Int.reduceNeg,reduceMod,zac,zad,zab,zaa,gT,TK.isInt,TK.agg,Array.toList,h0b,r1000000b,r1000500b,h1b,h4b,r4b,h6b,r15b,h8b,r31b,h9b,h10b]
   exact ⟨_,j,g,_,zrT hn _ _,.one (.ag (.cons (.im _) (.cons (.fr (by simp (maxSteps:=5000000) -dsimp only [gr,reduceEqDiff,reduceLT,reduceAdd,reduceMod,Nat.reduceBEq,zaa,zac,zad,zab,h0b,r1000000b,r1000500b,h1b,h4b,r4b,h6b,r15b,h8b,r31b,h9b,h10b] <;> rfl) (by decide)) .nil))),by simp,by simp (maxSteps:=5000000) -dsimp only [gr,reduceEqDiff,reduceLT,reduceAdd,reduceMod,Nat.reduceBEq,zaa,zac,zad,zab,h0b,r1000000b,r1000500b,h1b,h4b,r4b,h6b,r15b,h8b,r31b,h9b,h10b] <;> rfl,by simp (maxSteps:=5000000) -dsimp only [gr,reduceEqDiff,reduceLT,reduceAdd,reduceMod,Nat.reduceBEq,zaa,zac,zad,zab,h0b,r1000000b,r1000500b,h1b,h4b,r4b,h6b,r15b,h8b,r31b,h9b,h10b]⟩
def dx1:ByteArray:=⟨#[54,58,97,98,100,44,97,98,101,44,97,99,101,44,98,99,101,44,99,100,101,44,97,99,102,44,98,99,102,44,97,100,102,44,98,100,102]⟩
theorem zIf:OkText dx1 6 ⟨#[97,98,100,44,97,98,101,44,97,99,101,44,98,99,101,44,99,100,101,44,97,99,102,44,98,99,102,44,97,100,102,44,98,100,102]⟩ [⟨#[97,98,100]⟩,⟨#[97,98,101]⟩,⟨#[97,99,101]⟩,⟨#[98,99,101]⟩,⟨#[99,100,101]⟩,⟨#[97,99,102]⟩,⟨#[98,99,102]⟩,⟨#[97,100,102]⟩,⟨#[98,100,102]⟩]:=zik (by kernel_rfl) (by kernel_rfl) (by kernel_rfl) (by kernel_rfl) (by kernel_rfl) (by kernel_rfl) (by kernel_rfl) (by kernel_rfl) (by kernel_rfl) (by kernel_rfl) (by kernel_rfl) (by kernel_rfl)
def dx2:ByteArray:=⟨#[52,58,97,98,99,44,97,98,100]⟩
theorem zIg:OkText dx2 4 ⟨#[97,98,99,44,97,98,100]⟩ [⟨#[97,98,99]⟩,⟨#[97,98,100]⟩]:=zik (by kernel_rfl) (by kernel_rfl) (by kernel_rfl) (by kernel_rfl) (by kernel_rfl) (by kernel_rfl) (by kernel_rfl) (by kernel_rfl) (by kernel_rfl) (by kernel_rfl) (by kernel_rfl) (by kernel_rfl)
def dxL:List ByteArray:=[ex5,ex2,dx1,ex3,ex7,ex6,ex4,dx2]
theorem zF9 {t:ByteArray} (h:t ∈ dxL):∃ n rest ps,OkText t n rest ps∧n ≤ 6∧ps.length ≤ 10:=by
 simp only [dxL,List.mem_cons,List.not_mem_nil,or_false] at h
 rcases h with rfl | rfl | rfl | rfl | rfl | rfl | rfl | rfl
 ·exact ⟨_,_,_,zIc,by decide,by decide⟩
 ·exact ⟨_,_,_,zH9,by decide,by decide⟩
 ·exact ⟨_,_,_,zIf,by decide,by decide⟩
 ·exact ⟨_,_,_,zIa,by decide,by decide⟩
 ·exact ⟨_,_,_,zIe,by decide,by decide⟩
 ·exact ⟨_,_,_,zId,by decide,by decide⟩
 ·exact ⟨_,_,_,zIb,by decide,by decide⟩
 ·exact ⟨_,_,_,zIg,by decide,by decide⟩
theorem zzC {m:Nat} {ps:List ByteArray} (hm:m ≤ 6) (hps:ps.length ≤ 10):kcx cxQ (.ag [.im (int m),.fr 3 1 (iL (zrQ ps))]) :=
 ⟨_,_,rfl,by omega,by omega,by rw [zuG,zaj,List.length_map];omega⟩
theorem zfM (n:Nat) (hn1:1 ≤ n) (hn:n ≤ 6):AC Tryz.prog 201 [int n] (.tup [.ag [.im (int n),.fr 3 1 (iL (ofN (zfz (inF (ofN (List.range (2 ^ n - 1)))) true)))],.im (bool true)]):=by
 refine AC.go (rs:=[.cell 2 27,.tmp 3]) zbg zay Tryz.func201 rfl rfl rfl (by kernel_rfl) fun hl=>?_
 have h64:=zam hn
 have hp:0 < 2 ^ n:=Nat.pow_pos (by omega)
 have hsh:zgs .i64 1 (n:Int) = ((2 ^ n:Nat):Int):=zaJ (by omega)
 have hun:IntKind.u64.wrap (n:Int) = (n:Int):=zaL (by omega)
 have hw:IntKind.i64.wrap (((2 ^ n:Nat):Int) - 1) = ((2 ^ n - 1:Nat):Int):=by rw [zat (by omega) (by omega)];omega
 simp (maxSteps:=5000000) -dsimp only [↓gp,gq,reduceCtorEq,reduceEqDiff,reduceLT,reduceLeDiff,reduceAdd,reduceMul,reduceSub,Nat.reduceBEq,Int.reduceToNat,Int.reduceLE,Int.reduceLT,Int.reduceNeg,reduceMod,zac,zad,zab,zaa,gT,TK.isInt,TK.agg,Array.toList]
 refine zaf (zbo _ _ _) ?_
 have hin:(decide (1 ≤ (n:Int)) && decide ((n:Int) ≤ 6)) = true:=by rw [decide_eq_true (by omega),decide_eq_true (by omega)];rfl
 simp (maxSteps:=5000000) -dsimp only [↓gp,gq,reduceCtorEq,reduceEqDiff,reduceLT,reduceLeDiff,reduceAdd,reduceMul,reduceSub,Nat.reduceBEq,Int.reduceToNat,Int.reduceLE,Int.reduceLT,Int.reduceNeg,reduceMod,zac,zad,zab,zaa,gT,TK.isInt,TK.agg,Array.toList,hin]
 refine zaq (fun (za:Nat × Nat) s=>match za with | (k,v)=>s.sl 0 = int n∧s.sl 2 = .ref 2 1 0∧s.rw 2 = ⟨1,.box 27 [int 0,.v (.slice none 0 0)]⟩∧s.sl 4 = .own 10 v∧s.rw 10 = ⟨v,.sli 3 1 false (iL (ofN (List.range k)))⟩∧s.sl 5 = int k∧(k ≤ 2 ^ n - 1)) (fun (k,v)=>2 ^ n - 1 - k) ((0,1)) (by refine ⟨?_,?_,?_,?_,?_,?_,Nat.zero_le _⟩ <;> (first | (simp (maxSteps:=5000000) -dsimp only [gr,reduceEqDiff,reduceLT,reduceAdd,reduceMod,Nat.reduceBEq,zaa,zac,zad,zab];first | done | rfl | (simp;done)) | assumption | rfl)) ?_
 intro (k,v) sa ⟨h0a,h2a,r2a,h4a,r10a,h5a,hIa⟩
 simp (maxSteps:=5000000) -dsimp only [↓gp,gq,reduceCtorEq,reduceEqDiff,reduceLT,reduceLeDiff,reduceAdd,reduceMul,reduceSub,Nat.reduceBEq,Int.reduceToNat,Int.reduceLE,Int.reduceLT,Int.reduceNeg,reduceMod,zac,zad,zab,zaa,gT,TK.isInt,TK.agg,Array.toList,h0a,h2a,r2a,h4a,r10a,h5a,hsh,hun,hw]
 refine ⟨fun h=>?_,fun h=>?_⟩
 ·simp (maxSteps:=5000000) -dsimp only [↓gp,gq,reduceCtorEq,reduceEqDiff,reduceLT,reduceLeDiff,reduceAdd,reduceMul,reduceSub,Nat.reduceBEq,Int.reduceToNat,Int.reduceLE,Int.reduceLT,Int.reduceNeg,reduceMod,zac,zad,zab,zaa,gT,TK.isInt,TK.agg,Array.toList,h0a,h2a,r2a,h4a,r10a,h5a,zaj,List.length_range]
  refine ⟨by omega,?_⟩
  exact zag ((k + 1,v + 1)) (by refine ⟨?_,?_,?_,?_,?_,?_,by dsimp only;omega⟩ <;> (first | (simp (maxSteps:=5000000) -dsimp only [gr,reduceEqDiff,reduceLT,reduceAdd,reduceMod,Nat.reduceBEq,zaa,zac,zad,zab,h0a,h2a,r2a,h4a,r10a,h5a,List.range_succ,zaR,zcK,zae h (by omega)];first | done | rfl | (simp;done)) | assumption | rfl)) (by first | omega | (simp only;omega) | (dsimp only;omega) | (show _ < _;simp;omega))
 ·have hk:k = 2 ^ n - 1:=by omega
  rw [hk] at r10a ⊢
  have hok:okS (ofN (List.range (2 ^ n - 1))):=fun x hx=>by
   obtain ⟨s,hs,rfl⟩:=List.mem_map.1 hx
   have:=List.mem_range.1 hs
   omega
  refine zaf (zdd n _ hok) ?_
  simp (maxSteps:=5000000) -dsimp only [↓gp,gq,reduceCtorEq,reduceEqDiff,reduceLT,reduceLeDiff,reduceAdd,reduceMul,reduceSub,Nat.reduceBEq,Int.reduceToNat,Int.reduceLE,Int.reduceLT,Int.reduceNeg,reduceMod,zac,zad,zab,zaa,gT,TK.isInt,TK.agg,Array.toList,h0a,h2a,r2a,h4a,r10a,h5a]
theorem znK (bs:List Int) (hbs:bs.length ≤ 9223372036854775806):zuI Tryz.prog 166 TC bs ⟨0,.dead⟩ [] (kcx cxQ):=by
 intro i h
 refine AG.go (rs:=[.cell 2 27]) zbg zay Tryz.func166 rfl rfl rfl (by kernel_rfl) fun hl _ s hs hR=>?_
 have e0:s.rw 1000000 = ⟨1,.box TC [.sl false 1 (kL .u8 bs),int i,int h]⟩:=by rw [hR];rfl
 have e1:s.rw 1000500 = ⟨0,.dead⟩:=by rw [hR];rfl
 have elo:∀ k,k < 1000000→s.rw k = ⟨0,.dead⟩:=fun k hk=>by rw [hR];exact zhM hk
 simp (maxSteps:=5000000) -dsimp only [↓gp,gq,reduceCtorEq,reduceEqDiff,reduceLT,reduceLeDiff,reduceAdd,reduceMul,reduceSub,Nat.reduceBEq,Int.reduceToNat,Int.reduceLE,Int.reduceLT,Int.reduceNeg,reduceMod,zac,zad,zab,zaa,gT,TK.isInt,TK.agg,Array.toList,hs,e0,elo]
 refine zaK (zbU bs hbs [1,2,3,4,4,5,5,6] (by decide) (by decide)) (.some (j:=9) (by simp (maxSteps:=5000000) -dsimp only [gr,reduceEqDiff,reduceLT,reduceAdd,reduceMod,Nat.reduceBEq,zaa,zac,zad,zab,elo] <;> rfl) (zdF _)) (by simp (maxSteps:=5000000) -dsimp only [gr,reduceEqDiff,reduceLT,reduceAdd,reduceMod,Nat.reduceBEq,zaa,zac,zad,zab,e0] <;> rfl) (.one (zbN (by simp (maxSteps:=5000000) -dsimp only [gr,reduceEqDiff,reduceLT,reduceAdd,reduceMod,Nat.reduceBEq,zaa,zac,zad,zab,e0] <;> rfl)) (.one (zgq (by simp (maxSteps:=5000000) -dsimp only [gr,reduceEqDiff,reduceLT,reduceAdd,reduceMod,Nat.reduceBEq,zaa,zac,zad,zab,elo])) .nil)) rfl (fun j hj=>by cases hj;exact ⟨rfl,rfl⟩) fun rv i1 g1 ⟨n0,hrv,hc⟩=>?_
 subst hrv
 obtain ⟨n,rfl,hn1,hn⟩:∃ n:Nat,n0 = n∧1 ≤ n∧n ≤ 6:=by
  have hc:n0 ∈ [1,2,3,4,4,5,5,6]:=hc
  simp at hc
  exact ⟨n0.toNat,by omega,by omega,by omega⟩
 simp (maxSteps:=5000000) -dsimp only [↓gp,gq,reduceCtorEq,reduceEqDiff,reduceLT,reduceLeDiff,reduceAdd,reduceMul,reduceSub,Nat.reduceBEq,Int.reduceToNat,Int.reduceLE,Int.reduceLT,Int.reduceNeg,reduceMod,zac,zad,zab,zaa,gT,TK.isInt,TK.agg,Array.toList,hs,e0,elo]
 refine zaK (za0 bs hbs 8 (by decide)) .none (by simp (maxSteps:=5000000) -dsimp only [gr,reduceEqDiff,reduceLT,reduceAdd,reduceMod,Nat.reduceBEq,zaa,zac,zad,zab,e0,elo] <;> rfl) (GvL.one (zbN (by simp (maxSteps:=5000000) -dsimp only [gr,reduceEqDiff,reduceLT,reduceAdd,reduceMod,Nat.reduceBEq,zaa,zac,zad,zab,e0,elo] <;> rfl)) (by repeat (first | exact GvL.nil | refine GvL.one (GvA.v _) ?_ | refine GvL.one (GvA.sl _ _ _) ?_))) rfl (fun _ h=>by cases h) fun rv i2 g2 ⟨x,hrv,hx⟩=>?_
 subst hrv
 simp (maxSteps:=5000000) -dsimp only [↓gp,gq,reduceCtorEq,reduceEqDiff,reduceLT,reduceLeDiff,reduceAdd,reduceMul,reduceSub,Nat.reduceBEq,Int.reduceToNat,Int.reduceLE,Int.reduceLT,Int.reduceNeg,reduceMod,zac,zad,zab,zaa,gT,TK.isInt,TK.agg,Array.toList,hs,e0,elo]
 refine ⟨fun h0=>zaf (zfM n hn1 hn) ?_,fun h0=>⟨fun h1=>?_,fun h1=>?_⟩⟩
 ·simp (maxSteps:=5000000) -dsimp only [↓gp,gq,reduceCtorEq,reduceEqDiff,reduceLT,reduceLeDiff,reduceAdd,reduceMul,reduceSub,Nat.reduceBEq,Int.reduceToNat,Int.reduceLE,Int.reduceLT,Int.reduceNeg,reduceMod,zac,zad,zab,zaa,gT,TK.isInt,TK.agg,Array.toList,e0,elo]
  exact ⟨_,i2,g2,_,zrT hn _ _,.one (.ag (.cons (.im _) (.cons (.fr (by simp (maxSteps:=5000000) -dsimp only [gr,reduceEqDiff,reduceLT,reduceAdd,reduceMod,Nat.reduceBEq,zaa,zac,zad,zab] <;> rfl) (by decide)) .nil))),by simp,by simp (maxSteps:=5000000) -dsimp only [gr,reduceEqDiff,reduceLT,reduceAdd,reduceMod,Nat.reduceBEq,zaa,zac,zad,zab] <;> rfl,by simp (maxSteps:=5000000) -dsimp only [gr,reduceEqDiff,reduceLT,reduceAdd,reduceMod,Nat.reduceBEq,zaa,zac,zad,zab,e1]⟩
 ·refine zaK (znH bs hbs dxL (by decide) (by decide)) (.some (j:=25) (by simp (maxSteps:=5000000) -dsimp only [gr,reduceEqDiff,reduceLT,reduceAdd,reduceMod,Nat.reduceBEq,zaa,zac,zad,zab,elo] <;> rfl) (zAb _)) (by simp (maxSteps:=5000000) -dsimp only [gr,reduceEqDiff,reduceLT,reduceAdd,reduceMod,Nat.reduceBEq,zaa,zac,zad,zab,e0] <;> rfl) (.one (zbN (by simp (maxSteps:=5000000) -dsimp only [gr,reduceEqDiff,reduceLT,reduceAdd,reduceMod,Nat.reduceBEq,zaa,zac,zad,zab,e0] <;> rfl)) (.one (zgq (by simp (maxSteps:=5000000) -dsimp only [gr,reduceEqDiff,reduceLT,reduceAdd,reduceMod,Nat.reduceBEq,zaa,zac,zad,zab,elo])) .nil)) rfl (fun j hj=>by cases hj;exact ⟨rfl,rfl⟩) fun rv i3 g3 ⟨t,hrv,ht⟩=>?_
  subst hrv
  obtain ⟨m,rest,ps,hok,hm,hps⟩:=zF9 ht
  simp (maxSteps:=5000000) -dsimp only [↓gp,gq,reduceCtorEq,reduceEqDiff,reduceLT,reduceLeDiff,reduceAdd,reduceMul,reduceSub,Nat.reduceBEq,Int.reduceToNat,Int.reduceLE,Int.reduceLT,Int.reduceNeg,reduceMod,zac,zad,zab,zaa,gT,TK.isInt,TK.agg,Array.toList,hs,e0,elo]
  refine zaf (zgo hok) ?_
  simp (maxSteps:=5000000) -dsimp only [↓gp,gq,reduceCtorEq,reduceEqDiff,reduceLT,reduceLeDiff,reduceAdd,reduceMul,reduceSub,Nat.reduceBEq,Int.reduceToNat,Int.reduceLE,Int.reduceLT,Int.reduceNeg,reduceMod,zac,zad,zab,zaa,gT,TK.isInt,TK.agg,Array.toList,e0,elo]
  exact ⟨_,i3,g3,_,zzC hm hps,.one (.ag (.cons (.im _) (.cons (.fr (by simp (maxSteps:=5000000) -dsimp only [gr,reduceEqDiff,reduceLT,reduceAdd,reduceMod,Nat.reduceBEq,zaa,zac,zad,zab] <;> rfl) (by decide)) .nil))),by simp,by simp (maxSteps:=5000000) -dsimp only [gr,reduceEqDiff,reduceLT,reduceAdd,reduceMod,Nat.reduceBEq,zaa,zac,zad,zab] <;> rfl,by simp (maxSteps:=5000000) -dsimp only [gr,reduceEqDiff,reduceLT,reduceAdd,reduceMod,Nat.reduceBEq,zaa,zac,zad,zab,e1]⟩
 ·have hP:∀ (S:St) (K:St→Prop) (u1:Dm S) (u2:Dm K) (lents:List PV) (Ka:RV→Prop) (d:Nat) (g:FuncId),zuI Tryz.prog g TC bs ⟨0,.dead⟩ [int n] (kcx cxQ)→S.rw 1000000 = ⟨1,.box TC [.sl false 1 (kL .u8 bs),int i2,int g2]⟩→(d % 1000 == 0) = false →
   (∀ (j:Nat) (y m:Int) (xs:List Int),cxQ m xs→K (zal (S.row 1000000 ⟨1,.box TC [.sl false 1 (kL .u8 bs),int j,int y]⟩) d (.ag [.im (int m),.fr 3 1 (iL xs)])))→zjq Tryz.prog g lents Ka (zsM Tryz.prog g lents [.ref 1000000 1 0,int n] (some d) (kk S u1) (kk K u2)):=fun S K u1 u2 lents Ka d g hg hS hd hK =>
   zaK hg .none hS (GvL.one (zbN (by rw [hS])) (by repeat (first | exact GvL.nil | refine GvL.one (GvA.v _) ?_ | refine GvL.one (GvA.sl _ _ _) ?_))) hd (fun _ h=>by cases h) fun rv i3 g3 ⟨m,xs,hrv,hq⟩=>by subst hrv;exact hK i3 g3 m xs hq
  have hp:=znM bs hbs n hn1 hn
  have hz:=znO bs hbs n hn1 hn
  refine ⟨fun h2=>⟨fun h3=>hP _ _ _ _ _ _ _ _ hp (by simp (maxSteps:=5000000) -dsimp only [gr,reduceEqDiff,reduceLT,reduceAdd,reduceMod,Nat.reduceBEq,zaa,zac,zad,zab]) rfl fun i3 g3 m xs hq=>?_,fun h3=>hP _ _ _ _ _ _ _ _ hz (by simp (maxSteps:=5000000) -dsimp only [gr,reduceEqDiff,reduceLT,reduceAdd,reduceMod,Nat.reduceBEq,zaa,zac,zad,zab]) rfl fun i3 g3 m xs hq=>?_⟩,fun h2=>⟨fun h3=>hP _ _ _ _ _ _ _ _ hp (by simp (maxSteps:=5000000) -dsimp only [gr,reduceEqDiff,reduceLT,reduceAdd,reduceMod,Nat.reduceBEq,zaa,zac,zad,zab]) rfl fun i3 g3 m xs hq=>?_,fun h3=>hP _ _ _ _ _ _ _ _ hz (by simp (maxSteps:=5000000) -dsimp only [gr,reduceEqDiff,reduceLT,reduceAdd,reduceMod,Nat.reduceBEq,zaa,zac,zad,zab]) rfl fun i3 g3 m xs hq=>?_⟩⟩
  all_goals
   simp (maxSteps:=5000000) -dsimp only [↓gp,gq,reduceCtorEq,reduceEqDiff,reduceLT,reduceLeDiff,reduceAdd,reduceMul,reduceSub,Nat.reduceBEq,Int.reduceToNat,Int.reduceLE,Int.reduceLT,Int.reduceNeg,reduceMod,zac,zad,zab,zaa,gT,TK.isInt,TK.agg,Array.toList,e0,elo]
   exact ⟨_,i3,g3,_,⟨_,_,rfl,hq⟩,.one (.ag (.cons (.im _) (.cons (.fr (by simp (maxSteps:=5000000) -dsimp only [gr,reduceEqDiff,reduceLT,reduceAdd,reduceMod,Nat.reduceBEq,zaa,zac,zad,zab] <;> rfl) (by decide)) .nil))),by simp,by simp (maxSteps:=5000000) -dsimp only [gr,reduceEqDiff,reduceLT,reduceAdd,reduceMod,Nat.reduceBEq,zaa,zac,zad,zab] <;> rfl,by simp (maxSteps:=5000000) -dsimp only [gr,reduceEqDiff,reduceLT,reduceAdd,reduceMod,Nat.reduceBEq,zaa,zac,zad,zab,e1]⟩
theorem znL (bs:List Int) (hbs:bs.length ≤ 9223372036854775806):zuI Tryz.prog 88 TC bs ⟨0,.dead⟩ [] (kcx fun n xs=>0 ≤ n∧n ≤ 7∧xs.length ≤ 450):=by
 intro i h
 refine AG.go (rs:=[.cell 2 27]) zbg zay Tryz.func88 rfl rfl rfl (by kernel_rfl) fun hl _ s hs hR=>?_
 have e0:s.rw 1000000 = ⟨1,.box TC [.sl false 1 (kL .u8 bs),int i,int h]⟩:=by rw [hR];rfl
 have e1:s.rw 1000500 = ⟨0,.dead⟩:=by rw [hR];rfl
 have elo:∀ k,k < 1000000→s.rw k = ⟨0,.dead⟩:=fun k hk=>by rw [hR];exact zhM hk
 simp (maxSteps:=5000000) -dsimp only [↓gp,gq,reduceCtorEq,reduceEqDiff,reduceLT,reduceLeDiff,reduceAdd,reduceMul,reduceSub,Nat.reduceBEq,Int.reduceToNat,Int.reduceLE,Int.reduceLT,Int.reduceNeg,reduceMod,zac,zad,zab,zaa,gT,TK.isInt,TK.agg,Array.toList,hs,e0,elo]
 refine zaK (znK bs hbs) .none (by simp (maxSteps:=5000000) -dsimp only [gr,reduceEqDiff,reduceLT,reduceAdd,reduceMod,Nat.reduceBEq,zaa,zac,zad,zab,e0,elo] <;> rfl) (GvL.one (zbN (by simp (maxSteps:=5000000) -dsimp only [gr,reduceEqDiff,reduceLT,reduceAdd,reduceMod,Nat.reduceBEq,zaa,zac,zad,zab,e0,elo] <;> rfl)) (by repeat (first | exact GvL.nil | refine GvL.one (GvA.v _) ?_ | refine GvL.one (GvA.sl _ _ _) ?_))) rfl (fun _ h=>by cases h) fun rv i1 g1 ⟨n,xs,hrv,hq⟩=>?_
 subst hrv
 obtain ⟨hn0,hn7,hxl⟩:=hq
 simp (maxSteps:=5000000) -dsimp only [↓gp,gq,reduceCtorEq,reduceEqDiff,reduceLT,reduceLeDiff,reduceAdd,reduceMul,reduceSub,Nat.reduceBEq,Int.reduceToNat,Int.reduceLE,Int.reduceLT,Int.reduceNeg,reduceMod,zac,zad,zab,zaa,gT,TK.isInt,TK.agg,Array.toList,hs,e0,elo]
 refine zaK (za0 bs hbs 14 (by decide)) .none (by simp (maxSteps:=5000000) -dsimp only [gr,reduceEqDiff,reduceLT,reduceAdd,reduceMod,Nat.reduceBEq,zaa,zac,zad,zab,e0,elo] <;> rfl) (GvL.one (zbN (by simp (maxSteps:=5000000) -dsimp only [gr,reduceEqDiff,reduceLT,reduceAdd,reduceMod,Nat.reduceBEq,zaa,zac,zad,zab,e0,elo] <;> rfl)) (by repeat (first | exact GvL.nil | refine GvL.one (GvA.v _) ?_ | refine GvL.one (GvA.sl _ _ _) ?_))) rfl (fun _ h=>by cases h) fun rv i2 g2 ⟨x,hrv,hx⟩=>?_
 subst hrv
 simp (maxSteps:=5000000) -dsimp only [↓gp,gq,reduceCtorEq,reduceEqDiff,reduceLT,reduceLeDiff,reduceAdd,reduceMul,reduceSub,Nat.reduceBEq,Int.reduceToNat,Int.reduceLE,Int.reduceLT,Int.reduceNeg,reduceMod,zac,zad,zab,zaa,gT,TK.isInt,TK.agg,Array.toList,hs,e0,elo]
 refine ⟨fun h0=>?_,fun h0=>⟨fun h1=>?_,fun h1=>?_⟩⟩
 ·refine zaK (zbU bs hbs [0,7,2] (by decide) (by decide)) (.some (j:=11) (by simp (maxSteps:=5000000) -dsimp only [gr,reduceEqDiff,reduceLT,reduceAdd,reduceMod,Nat.reduceBEq,zaa,zac,zad,zab,elo] <;> rfl) (zdF _)) (by simp (maxSteps:=5000000) -dsimp only [gr,reduceEqDiff,reduceLT,reduceAdd,reduceMod,Nat.reduceBEq,zaa,zac,zad,zab,e0] <;> rfl) (.one (zbN (by simp (maxSteps:=5000000) -dsimp only [gr,reduceEqDiff,reduceLT,reduceAdd,reduceMod,Nat.reduceBEq,zaa,zac,zad,zab,e0] <;> rfl)) (.one (zgq (by simp (maxSteps:=5000000) -dsimp only [gr,reduceEqDiff,reduceLT,reduceAdd,reduceMod,Nat.reduceBEq,zaa,zac,zad,zab,elo])) .nil)) rfl (fun j hj=>by cases hj;exact ⟨rfl,rfl⟩) fun rv i3 g3 ⟨m,hrv,hc⟩=>?_
  subst hrv
  have hm:0 ≤ m∧m ≤ 7:=by
   have hc:m ∈ [0,7,2]:=hc
   simp at hc;omega
  simp (maxSteps:=5000000) -dsimp only [↓gp,gq,reduceCtorEq,reduceEqDiff,reduceLT,reduceLeDiff,reduceAdd,reduceMul,reduceSub,Nat.reduceBEq,Int.reduceToNat,Int.reduceLE,Int.reduceLT,Int.reduceNeg,reduceMod,zac,zad,zab,zaa,gT,TK.isInt,TK.agg,Array.toList,e0,elo]
  exact ⟨_,i3,g3,_,⟨m,xs,rfl,hm.1,hm.2,by omega⟩,.one (.ag (.cons (.im _) (.cons (.fr (by simp (maxSteps:=5000000) -dsimp only [gr,reduceEqDiff,reduceLT,reduceAdd,reduceMod,Nat.reduceBEq,zaa,zac,zad,zab] <;> rfl) (by decide)) .nil))),by simp,by simp (maxSteps:=5000000) -dsimp only [gr,reduceEqDiff,reduceLT,reduceAdd,reduceMod,Nat.reduceBEq,zaa,zac,zad,zab] <;> rfl,by simp (maxSteps:=5000000) -dsimp only [gr,reduceEqDiff,reduceLT,reduceAdd,reduceMod,Nat.reduceBEq,zaa,zac,zad,zab,e1]⟩
 ·refine ⟨by kernel_rfl,zhN (zbL bs hbs 66 (by decide)) (zfm _) (i:=i2) (h:=g2) (by simp (maxSteps:=5000000) -dsimp only [gr,reduceEqDiff,reduceLT,reduceAdd,reduceMod,Nat.reduceBEq,zaa,zac,zad,zab] <;> rfl) rfl ?_⟩
  obtain ⟨y,j3,g3,hr,hy⟩:=zkO bs 66 i2 g2
  rw [hr]
  have hy66:0 ≤ y∧y < 66:=by obtain ⟨a,b⟩:=hy;omega
  have hw:IntKind.i64.wrap (y - 1) = y - 1:=zat (by omega) (by omega)
  simp (maxSteps:=5000000) -dsimp only [↓gp,gq,reduceCtorEq,reduceEqDiff,reduceLT,reduceLeDiff,reduceAdd,reduceMul,reduceSub,Nat.reduceBEq,Int.reduceToNat,Int.reduceLE,Int.reduceLT,Int.reduceNeg,reduceMod,zac,zad,zab,zaa,gT,TK.isInt,TK.agg,Array.toList,e0,elo,hw]
  refine ⟨by omega,by kernel_rfl,?_⟩
  exact ⟨_,j3,g3,_,⟨n,xs ++ [y - 1],rfl,hn0,hn7,by simp;omega⟩,.one (.ag (.cons (.im _) (.cons (.fr (by simp (maxSteps:=5000000) -dsimp only [gr,reduceEqDiff,reduceLT,reduceAdd,reduceMod,Nat.reduceBEq,zaa,zac,zad,zab] <;> rfl) (by decide)) .nil))),by simp,by simp (maxSteps:=5000000) -dsimp only [gr,reduceEqDiff,reduceLT,reduceAdd,reduceMod,Nat.reduceBEq,zaa,zac,zad,zab] <;> rfl,by simp (maxSteps:=5000000) -dsimp only [gr,reduceEqDiff,reduceLT,reduceAdd,reduceMod,Nat.reduceBEq,zaa,zac,zad,zab,e1]⟩
 ·exact ⟨_,i2,g2,_,⟨n,xs,rfl,hn0,hn7,by omega⟩,.one (.ag (.cons (.im _) (.cons (.fr (by simp (maxSteps:=5000000) -dsimp only [gr,reduceEqDiff,reduceLT,reduceAdd,reduceMod,Nat.reduceBEq,zaa,zac,zad,zab] <;> rfl) (by decide)) .nil))),by simp,by simp (maxSteps:=5000000) -dsimp only [gr,reduceEqDiff,reduceLT,reduceAdd,reduceMod,Nat.reduceBEq,zaa,zac,zad,zab] <;> rfl,by simp (maxSteps:=5000000) -dsimp only [gr,reduceEqDiff,reduceLT,reduceAdd,reduceMod,Nat.reduceBEq,zaa,zac,zad,zab,e1]⟩
theorem zjc:∀ s,s < 64→zaD s = 2→((List.range 6).any fun u=>(List.range u).any fun v=>s == 2 ^ u ||| 2 ^ v) = true:=by decide +kernel
theorem zzU:∀ u,u < 6→∀ v,v < 6→∀ x,x < 64→(!(zaD x == 2) || u == v || !((2 ^ u ||| 2 ^ v) &&& x == x) || x == 2 ^ u ||| 2 ^ v) = true:=by decide +kernel
theorem ziC:∀ i,i < 6→∀ k,k < i→2 ^ i + 2 ^ k = 2 ^ i ||| 2 ^ k:=by decide
theorem zmK:∀ i,i < 6→∀ k,k < 6→(i == k || zaD (2 ^ i ||| 2 ^ k) == 2) = true:=by decide +kernel
noncomputable def grF (m:Nat) (xs:List Int):Nat→Bool:=zaZ (apL m xs)
section
variable {m:Nat} {xs:List Int}
theorem zqT (hg:zap (m:Int) xs = true) {x:Int} (hx:x ∈ xs):∃ u v,u < m∧v < u∧x = ((2 ^ u ||| 2 ^ v:Nat):Int):=by
 obtain ⟨m',e,h1,h6,h⟩:=zaS (zao.1 hg)
 have e:=Int.ofNat.inj e
 subst e
 obtain ⟨a,b,c⟩:=h x hx
 have h64:=zam h6
 have hp:=zjc x.toNat (by omega) c
 simp only [List.any_eq_true,List.mem_range,beq_iff_eq] at hp
 obtain ⟨u,hu,v,hv,e⟩:=hp
 have hxn:x.toNat < 2 ^ m:=by omega
 refine ⟨u,v,zbh hxn (by rw [e,za4];simp),hv,by omega⟩
theorem zjd (hg:zap (m:Int) xs = true) { F:Nat} (hF:F < 64):grF m xs F = true ↔ F < 2 ^ m∧∀ x ∈ xs,¬ F &&& x.toNat = x.toNat:=by
 obtain ⟨_,h6,_⟩:=zao.1 hg
 have h64:=zam (m:=m) (by omega)
 have hav:∀ s:Nat,apF m xs s = true ↔ s < 2 ^ m∧∀ x ∈ xs,¬ s &&& x.toNat = x.toNat:=fun s=>by
  unfold apF zbK
  rw [Int.toNat_natCast,Bool.and_eq_true,decide_eq_true_eq,List.all_eq_true]
  refine and_congr Iff.rfl ⟨fun h x hx=>?_,fun h x hx=>?_⟩
  ·have:=h x hx
   rw [Nat.and_comm];simpa using this
  ·have:=h x hx
   rw [Nat.and_comm] at this;simpa using this
 have e:apL (m:Int) xs = ofN (zfz (apF m xs) true):=if_pos hg
 unfold grF
 rw [e,zqi,List.any_eq_true]
 constructor
 ·rintro ⟨s,hs,h⟩
  rw [Bool.and_eq_true,beq_iff_eq,hav] at h
  obtain ⟨⟨h1,h2⟩,h3⟩:=h
  exact ⟨Nat.lt_of_le_of_lt (by rw [← h3];exact Nat.and_le_left) h1,fun x hx hc=>h2 x hx (zqp h3 hc)⟩
 ·intro h
  exact ⟨F,List.mem_range.2 hF,by rw [(hav F).2 h,Nat.and_self];simp⟩
theorem zqU (hg:zap (m:Int) xs = true) {i j:Nat} (hi:i < m) (hj:j < m) (hij:i ≠ j):grF m xs (2 ^ i ||| 2 ^ j) = true ↔ ¬ ((2 ^ i ||| 2 ^ j:Nat):Int) ∈ xs:=by
 obtain ⟨_,h6,_⟩:=zao.1 hg
 have h6:m ≤ 6:=by omega
 have h64:=zam h6
 have hlt:2 ^ i ||| 2 ^ j < 2 ^ m:=Nat.or_lt_two_pow (Nat.pow_lt_pow_right (by decide) hi) (Nat.pow_lt_pow_right (by decide) hj)
 rw [zjd hg (by omega)]
 refine ⟨fun h hm=>h.2 _ hm (by rw [Int.toNat_natCast,Nat.and_self]),fun h=>⟨hlt,fun x hx hc=>h ?_⟩⟩
 obtain ⟨u,v,hu,hv,rfl⟩:=zqT hg hx
 rw [Int.toNat_natCast] at hc
 have h1:=zmK u (by omega) v (by omega)
 have h2:=zzU i (by omega) j (by omega) (2 ^ u ||| 2 ^ v) (Nat.lt_of_lt_of_le (Nat.or_lt_two_pow (Nat.pow_lt_pow_right (by decide) hu) (Nat.pow_lt_pow_right (by decide) (show v < m by omega))) h64)
 rw [beq_false_of_ne (show u ≠ v by omega),Bool.false_or] at h1
 rw [h1,beq_false_of_ne hij,hc] at h2
 simp only [beq_self_eq_true,Bool.not_true,Bool.false_or,beq_iff_eq] at h2
 rw [← h2];exact hx
theorem znW (hg:zap (m:Int) xs = true):Flg (grF m xs) m:=by
 obtain ⟨_,h6,_⟩:=zao.1 hg
 have h6:m ≤ 6:=by omega
 have h64:=zam h6
 refine ⟨fun s t hs ht=>zmx hs ht,fun s hs hp=>?_,fun s hs hf=>((zjd hg hs).1 hf).1,fun v hv=>?_,h6⟩
 ·rw [zjd hg (by omega)]
  refine ⟨hs,fun x hx hc=>?_⟩
  obtain ⟨u,v,hu,hv,rfl⟩:=zqT hg hx
  rw [Int.toNat_natCast] at hc
  have hb:=za3.1 hc
  have:=hp u v (hb u (by rw [za4];simp)) (hb v (by rw [za4];simp))
  exact (zqU hg hu (by omega) (by omega)).1 this hx
 ·have h2:(2:Nat) ^ v < 2 ^ m:=Nat.pow_lt_pow_right (by decide) hv
  rw [zjd hg (by omega)]
  refine ⟨h2,fun x hx hc=>?_⟩
  obtain ⟨u,w,hu,hw,rfl⟩:=zqT hg hx
  rw [Int.toNat_natCast] at hc
  have hb:=za3.1 hc
  have a:=hb u (by rw [za4];simp)
  have b:=hb w (by rw [za4];simp)
  rw [zcW,decide_eq_true_eq] at a b
  omega
theorem zEl (hg:zap (m:Int) xs = true):zDL m (apL m xs) = true:=by
 obtain ⟨h1,h6,_⟩:=zao.1 hg
 have h64:=zam (m:=m) (by omega)
 have e:apL (m:Int) xs = ofN (zfz (apF m xs) true):=if_pos hg
 refine zdQ.2 ⟨?_,?_⟩
 ·rw [e]
  refine zCA (by omega) (by omega) fun s hs h=>?_
  unfold apF at h
  rw [Int.toNat_natCast,Bool.and_eq_true,decide_eq_true_eq] at h
  exact h.1
 ·have h0:=(znW hg).face0
  unfold grF at h0
  cases hx:apL (m:Int) xs with
  | nil=>rw [hx] at h0;cases h0
  | cons a l=>simp
theorem znX (e:Int) (xs:List Int) (c:Int):zeN xs c ≤ zeN (e :: xs) c:=by
 show _ ≤ ite _ _ _
 split
 ·exact Int.le_max_left _ _
 ·exact Int.le_refl _
def ptd (M:List Int) (c:Nat):Prop:=M.Pairwise (fun a b=>a.toNat &&& b.toNat = 0)∧∀ x ∈ M,x.toNat &&& c = 0
theorem zqV:∀ (xs:List Int) (c:Nat),(∀ x ∈ xs,0 ≤ x∧x < 64)→c < 64→∀ M:List Int,M.Sublist xs→ptd M c→(M.length:Int) ≤ zeN xs c
 | [],c,_,_,M,hs,_=>by rw [List.sublist_nil.1 hs];exact Int.le_refl _
 | e :: xs,c,hx,hc,M,hs,hd=>by
   have hx':∀ x ∈ xs,0 ≤ x∧x < 64:=fun x h=>hx x (by simp [h])
   cases hs with
   | cons _ hs=>exact Int.le_trans (zqV xs c hx' hc M hs hd) (znX e xs c)
   | @cons_cons M' _ _ hs =>
     obtain ⟨h1,h2⟩:=hd
     obtain ⟨h3,h4⟩:=List.pairwise_cons.1 h1
     have he:=hx e (by simp)
     obtain ⟨e',rfl⟩:∃ e':Nat,e = e':=⟨e.toNat,by omega⟩
     have hec:zdL .i64 (e':Int) (c:Int) = 0:=by
      rw [zbt (by omega) (by omega)]
      have:=h2 _ (List.mem_cons_self ..)
      rw [Int.toNat_natCast] at this
      rw [this];rfl
     have hor:ior .i64 (c:Int) (e':Int) = ((c ||| e':Nat):Int):=zhz (by omega) (by omega)
     have ih:=zqV xs (c ||| e') hx' (zAM hc (by omega)) M' hs ⟨h4,fun x hxm=>by
      rw [Nat.and_or_distrib_left,h2 x (by simp [hxm]),Nat.zero_or]
      have:=h3 x hxm
      rw [Int.toNat_natCast] at this
      rw [Nat.and_comm];exact this⟩
     show _ ≤ ite _ _ _
     rw [if_pos hec,hor,List.length_cons]
     have:=Int.le_max_right (zeN xs c) (1 + zeN xs ((c ||| e':Nat):Int))
     omega
theorem zqW:∀ (xs:List Int) (c:Nat),(∀ x ∈ xs,0 ≤ x∧x < 64)→c < 64→∃ M:List Int,M.Sublist xs∧ptd M c∧(M.length:Int) = zeN xs c
 | [],c,_,_=>⟨[],List.Sublist.slnil,⟨.nil,fun x hx=>by simp at hx⟩,rfl⟩
 | e :: xs,c,hx,hc=>by
   have hx':∀ x ∈ xs,0 ≤ x∧x < 64:=fun x h=>hx x (by simp [h])
   have he:=hx e (by simp)
   obtain ⟨e',rfl⟩:∃ e':Nat,e = e':=⟨e.toNat,by omega⟩
   have hor:ior .i64 (c:Int) (e':Int) = ((c ||| e':Nat):Int):=zhz (by omega) (by omega)
   obtain ⟨M,a,b,d⟩:=zqW xs c hx' hc
   obtain ⟨M2,a2,b2,d2⟩:=zqW xs (c ||| e') hx' (zAM hc (by omega))
   have hun:zeN ((e':Int) :: xs) c = if zdL .i64 (e':Int) (c:Int) = 0 then max (zeN xs c) (1 + zeN xs (ior .i64 (c:Int) (e':Int))) else zeN xs c:=rfl
   rw [hun,hor]
   by_cases hec:zdL .i64 (e':Int) (c:Int) = 0
   ·rw [if_pos hec]
    rw [zbt (by omega) (by omega)] at hec
    have hec:e' &&& c = 0:=by omega
    by_cases hm:zeN xs c ≤ 1 + zeN xs ((c ||| e':Nat):Int)
    ·have hz:∀ x ∈ M2,x.toNat &&& c = 0∧x.toNat &&& e' = 0:=fun x hxm=>by
      have:=b2.2 x hxm
      rw [Nat.and_or_distrib_left,Nat.or_eq_zero_iff] at this
      exact this
     refine ⟨(e':Int) :: M2,a2.cons_cons _,⟨List.pairwise_cons.2 ⟨fun b hb=>by rw [Int.toNat_natCast,Nat.and_comm];exact (hz b hb).2,b2.1⟩,fun x hxm=>?_⟩,by rw [List.length_cons,Int.max_eq_right hm];omega⟩
     rcases List.mem_cons.1 hxm with rfl | hxm
     ·rw [Int.toNat_natCast];exact hec
     ·exact (hz x hxm).1
    ·exact ⟨M,a.cons _,b,by rw [Int.max_eq_left (by omega)];exact d⟩
   ·rw [if_neg hec];exact ⟨M,a.cons _,b,d⟩
end
theorem zBj {α:Type} {R:α→α→Prop} (hs:∀ a b,R a b→R b a):∀ {l:List α},l.Pairwise R→∀ a ∈ l,∀ b ∈ l,a ≠ b→R a b
 | [],_,a,ha,_,_,_=>by simp at ha
 | x :: l,h,a,ha,b,hb,hab=>by
   obtain ⟨h1,h2⟩:=List.pairwise_cons.1 h
   rcases List.mem_cons.1 ha with e1 | e1 <;> rcases List.mem_cons.1 hb with e2 | e2
   ·exact absurd (e1.trans e2.symm) hab
   ·rw [e1];exact h1 b e2
   ·rw [e2];exact hs _ _ (h1 a e1)
   ·exact zBj hs h2 a e1 b e2 hab
section
variable {m:Nat} {xs:List Int} {p:Nat} [NeZero p]
theorem zr5 (hg:zap (m:Int) xs = true):xs.Nodup:=by
 obtain ⟨_,_,h⟩:=zao.1 hg
 have hlt:∀ j,j < xs.length→∀ i,i < j→xs.getD i 0 < xs.getD j 0:=by
  intro j
  induction j with
  | zero=>intro _ i hi;omega
  | succ j ih =>
    intro hj i hi
    have h1:=(h (j + 1) hj).2.2 (by omega)
    rw [Nat.add_sub_cancel] at h1
    by_cases e:i = j
    ·rw [e];exact h1
    ·have:=ih (by omega) i (by omega);omega
 refine List.pairwise_iff_getElem.2 fun i j hi hj hij=>?_
 have:=hlt j hj i hij
 have a:xs.getD i 0 = xs[i]:=by simp [List.getD,hi]
 have b:xs.getD j 0 = xs[j]:=by simp [List.getD,hj]
 rw [a,b] at this
 omega
theorem zEk (hg:zap (m:Int) xs = true):∀ x ∈ xs,0 ≤ x∧x < 64:=zgv (zao.1 hg)
end
section
variable {m:Nat} {xs:List Int}
theorem zeR (s:Nat):(s:Int) ∈ ofN (zdS xs (2 ^ m)) ↔ s < 2 ^ m∧zaD s = 2∧¬ (s:Int) ∈ xs:=by
 unfold ofN
 rw [List.mem_map]
 constructor
 ·rintro ⟨t,ht,e⟩
  have e:t = s:=Int.ofNat.inj e
  subst e
  unfold zdS at ht
  obtain ⟨a,b⟩:=List.mem_filter.1 ht
  rw [Bool.and_eq_true,beq_iff_eq] at b
  exact ⟨List.mem_range.1 a,b.1,by simpa using b.2⟩
 ·rintro ⟨a,b,c⟩
  refine ⟨s,List.mem_filter.2 ⟨List.mem_range.2 a,?_⟩,rfl⟩
  rw [b,decide_eq_false c];rfl
theorem zEj (h6:m ≤ 6):∀ x ∈ ofN (zdS xs (2 ^ m)),x.toNat < 64:=fun x hx=>by
 obtain ⟨t,ht,rfl⟩:=List.mem_map.1 hx
 have:=List.mem_range.1 (List.mem_filter.1 ht).1
 have:=zam h6
 exact Nat.lt_of_lt_of_le ‹t < 2 ^ m› this
theorem zcc (h1:1 ≤ m) (h6:m ≤ 6):zap (m:Int) (ofN (zdS xs (2 ^ m))) = true:=by
 refine zdk ⟨by omega,by omega,fun k hk=>?_⟩
 rw [zaj] at hk
 have hpw:(zdS xs (2 ^ m)).Pairwise (· < ·):=List.Pairwise.filter _ List.pairwise_lt_range
 have hm:=zax 0 hk
 have hmi:=(zeR (m:=m) (xs:=xs) ((zdS xs (2 ^ m)).getD k 0)).1 (List.mem_map.2 ⟨_,hm,rfl⟩)
 refine ⟨?_,by rw [zaM hk,Int.toNat_natCast];exact hmi.2.1,fun h0=>?_⟩
 ·rw [zaM hk]
  unfold zch
  rw [decide_eq_true_iff,zdZ]
  exact ⟨by omega,by omega,by omega,by exact_mod_cast hmi.1⟩
 ·rw [zaM hk,zaM (by omega)]
  have:=List.pairwise_iff_getElem.1 hpw (k - 1) k (by omega) hk (by omega)
  have a:(zdS xs (2 ^ m)).getD (k - 1) 0 = (zdS xs (2 ^ m))[k - 1]'(by omega):=by simp [List.getD,show k - 1 < (zdS xs (2 ^ m)).length by omega]
  have b:(zdS xs (2 ^ m)).getD k 0 = (zdS xs (2 ^ m))[k]:=by simp [List.getD,hk]
  rw [a,b];omega
theorem ziB (hg:zap (m:Int) xs = true) {i j:Nat} (hi:i < m) (hj:j < m) (hij:i ≠ j):((2 ^ i ||| 2 ^ j:Nat):Int) ∈ ofN (zdS xs (2 ^ m)) ↔ grF m xs (2 ^ i ||| 2 ^ j) = true:=by
 have h6:=(znW hg).n6
 rw [zeR,zqU hg hi hj hij]
 have hp:=zmK i (by omega) j (by omega)
 rw [beq_false_of_ne hij,Bool.false_or,beq_iff_eq] at hp
 exact ⟨fun h=>h.2.2,fun h=>⟨Nat.or_lt_two_pow (Nat.pow_lt_pow_right (by decide) hi) (Nat.pow_lt_pow_right (by decide) hj),hp,h⟩⟩
theorem zCH (hg:zap (m:Int) xs = true) {v:Nat} (hv:v < m):nbr (ofN (zdS xs (2 ^ m))) v = zif (grF m xs) v:=by
 have hf:=znW hg
 have h6:=hf.n6
 have h64:=zam h6
 refine Nat.eq_of_testBit_eq fun j=>?_
 rw [zrx _ _ _ (zEj h6),Bool.eq_iff_iff,zcE]
 unfold adj
 rw [List.any_eq_true]
 constructor
 ·rintro ⟨e,he,h⟩
  obtain ⟨s,hs,rfl⟩:=List.mem_map.1 he
  have hm:=(zeR (m:=m) (xs:=xs) s).1 he
  rw [Bool.and_eq_true,Bool.and_eq_true,decide_eq_true_eq] at h
  have h:s.testBit v = true∧s.testBit j = true∧v ≠ j:=h
  have hjm:=zbh hm.1 h.2.1
  have hsp:s = 2 ^ j ||| 2 ^ v:=by
   have h2:=zjc s (by omega) hm.2.1
   simp only [List.any_eq_true,List.mem_range,beq_iff_eq] at h2
   obtain ⟨a,ha,b,hb,e⟩:=h2
   rw [e] at h ⊢
   obtain ⟨q1,q2,q3⟩:=h
   rw [za4,Bool.or_eq_true,decide_eq_true_eq,decide_eq_true_eq] at q1 q2
   rcases q1 with rfl | rfl <;> rcases q2 with rfl | rfl
   ·exact absurd rfl q3
   ·exact zbT _ _
   ·rfl
   ·exact absurd rfl q3
  refine ⟨by omega,Ne.symm h.2.2,?_⟩
  rw [hsp] at he
  exact (ziB hg hjm hv (Ne.symm h.2.2)).1 he
 ·rintro ⟨a,b,c⟩
  have hjm:j < m:=by
   have hlt:=hf.sup _ (Nat.or_lt_two_pow (n:=6) (Nat.pow_lt_pow_right (by decide) a) (Nat.pow_lt_pow_right (by decide) (by omega))) c
   exact zbh hlt (by rw [za4];simp)
  refine ⟨_,(ziB hg hjm hv b).2 c,?_⟩
  rw [Int.toNat_natCast,za4,za4]
  simp [Ne.symm b]
theorem zzT (hg:zap (m:Int) xs = true) { T:Nat} (hT:T < 2 ^ m):zje (ofN (zdS xs (2 ^ m))) T m = grF m xs T:=by
 have hf:=znW hg
 have h6:=hf.n6
 rw [Bool.eq_iff_iff]
 have hj:zje (ofN (zdS xs (2 ^ m))) T m = true ↔ ∀ i,i < m→∀ k,k < i→T.testBit i = true→T.testBit k = true→grF m xs (2 ^ i ||| 2 ^ k) = true:=by
  unfold zje zqX
  simp only [List.all_eq_true,List.mem_range,Bool.or_eq_true,Bool.not_eq_true',Bool.and_eq_false_iff,decide_eq_true_eq]
  refine ⟨fun h i hi k hk a b=>?_,fun h i hi k hk=>?_⟩
  ·rcases h i hi k hk with (q | q) | q
   ·rw [a] at q;cases q
   ·rw [b] at q;cases q
   ·rw [ziC i (by omega) k hk] at q
    exact (ziB hg hi (by omega) (by omega)).1 q
  ·cases a:T.testBit i with
   | false=>exact .inl (.inl rfl)
   | true =>
     cases b:T.testBit k with
     | false=>exact .inl (.inr rfl)
     | true =>
       refine .inr ?_
       rw [ziC i (by omega) k hk]
       exact (ziB hg hi (by omega) (by omega)).2 (h i hi k hk a b)
 rw [hj]
 constructor
 ·intro h
  refine hf.flag T hT fun i j hi hj=>?_
  have him:=zbh hT hi
  have hjm:=zbh hT hj
  rcases Nat.lt_trichotomy i j with q | q | q
  ·rw [zbT];exact h j hjm i q hj hi
  ·subst q;rw [Nat.or_self];exact hf.pts _ him
  ·exact h i him j q hi hj
 ·intro h i hi k hk a b
  exact zqg hf.down h a b
end
end Go.Proofs.YtpnknaaehcljoaaGreat

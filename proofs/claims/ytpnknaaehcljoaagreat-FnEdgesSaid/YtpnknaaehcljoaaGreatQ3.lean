/- DERIVED by an AI agent. -/
import Derived.Test.YtpnknaaehcljoaaGreatQ2
import Derived.Test.YtpnknaaehcljoaaGreatP1
import Derived.Test.YtpnknaaehcljoaaGreatQ1
namespace Go.Proofs.YtpnknaaehcljoaaGreat
open Go.Abs
open Nat (reduceEqDiff reduceMod reduceAdd reduceLT reduceLeDiff reduceSub reduceMul)
set_option linter.unusedSimpArgs false
set_option linter.unusedVariables false
def fdI (q:Nat→Nat→Bool) (S i:Nat):Int:=match (List.range i).find? (fun v=>S.testBit v && q S v) with | none=>-1 | some v=>(v:Nat)
theorem zAh (q:Nat→Nat→Bool) (S i:Nat) (h:fdI q S i < 0):fdI q S (i + 1) = if (S.testBit i && q S i) = true then (i:Int) else fdI q S i:=by
 unfold fdI at *
 rw [List.range_succ,List.find?_append]
 cases hf:(List.range i).find? (fun v=>S.testBit v && q S v) with
 | some v=>rw [hf] at h;simp only at h;omega
 | none =>
   rw [Option.none_or]
   cases hb:(S.testBit i && q S i) with
   | true=>simp [List.find?_cons,hb]
   | false=>simp [List.find?_cons,hb]
theorem zAi (q:Nat→Nat→Bool) (S:Nat) {i n:Nat} (hi:i ≤ n) (h:¬ fdI q S i < 0):fdI q S n = fdI q S i:=by
 unfold fdI at *
 have e:List.range n = List.range i ++ (List.range (n - i)).map (i + ·):=by rw [← List.range_add];congr 1;omega
 cases hf:(List.range i).find? (fun v=>S.testBit v && q S v) with
 | none=>rw [hf] at h;simp at h
 | some v=>rw [e,List.find?_append,hf];rfl
theorem zAj {q:Nat→Nat→Bool} {S n:Nat} (h:fdI q S n < 0):(List.range n).find? (fun v=>S.testBit v && q S v) = none:=by
 unfold fdI at h
 cases hf:(List.range n).find? (fun v=>S.testBit v && q S v) with
 | none=>rfl
 | some v=>rw [hf] at h;simp only at h;omega
theorem zAk {q:Nat→Nat→Bool} {S n:Nat} (h:¬ fdI q S n < 0):∃ v,(List.range n).find? (fun v=>S.testBit v && q S v) = some v∧fdI q S n = (v:Int)∧v < n∧S.testBit v = true:=by
 unfold fdI at h ⊢
 cases hf:(List.range n).find? (fun v=>S.testBit v && q S v) with
 | none=>rw [hf] at h;simp at h
 | some v =>
   have h2:=List.find?_some hf
   rw [Bool.and_eq_true] at h2
   exact ⟨v,rfl,rfl,List.mem_range.1 (List.mem_of_find?_eq_some hf),h2.1⟩
def chQ (xs:List Int) (n S v:Nat):Bool:=zjw xs (nbr xs v &&& S) n
noncomputable def chR (n:Int) (xs:List Int):Bool:=zar n xs && chL n.toNat (chQ xs n.toNat) 6 (2 ^ n.toNat - 1)
theorem zCV:∀ S,S < 64→∀ v,v < 6→S.testBit v = true→S - 2 ^ v = S ^^^ 2 ^ v∧2 ^ v ≤ S:=by decide +kernel
theorem ziw (n:Int) (xs:List Int):AC Tryz.prog 36 [.ag [int n,zaN xs]] (.im (bool (chR n xs))):=by
 refine AC.go (rs:=[.tmp 2]) za3 zav Tryz.func36 rfl rfl rfl (by kernel_rfl) fun hl=>?_
 simp (maxSteps:=5000000) -dsimp only [↓gp,gq,reduceCtorEq,reduceEqDiff,reduceLT,reduceLeDiff,reduceAdd,reduceMul,reduceSub,Nat.reduceBEq,Int.reduceToNat,Int.reduceLE,Int.reduceLT,Int.reduceNeg,reduceMod,zac,zad,zab,zaa,gT,TK.isInt,TK.agg,Array.toList]
 refine zaf (zbe n xs) ?_
 simp (maxSteps:=5000000) -dsimp only [↓gp,gq,reduceCtorEq,reduceEqDiff,reduceLT,reduceLeDiff,reduceAdd,reduceMul,reduceSub,Nat.reduceBEq,Int.reduceToNat,Int.reduceLE,Int.reduceLT,Int.reduceNeg,reduceMod,zac,zad,zab,zaa,gT,TK.isInt,TK.agg,Array.toList]
 unfold chR
 refine ⟨fun hg=>?_,fun hg=>?_⟩
 ·have hg:zar n xs = false:=by simpa using hg
  rw [hg];rfl
 ·have hg:zar n xs = true:=by simpa using hg
  have hgp:=zaC.1 hg
  obtain ⟨m,rfl,h1,h6,_⟩:=zcM hgp
  rw [hg,Int.toNat_natCast,Bool.true_and]
  have h64:=zao h6
  have hsh:zkH .i64 1 (m:Int) = ((2 ^ m:Nat):Int):=za5 (by omega)
  have hun:IntKind.u64.wrap (m:Int) = (m:Int):=za2 (by omega)
  have hp0:0 < 2 ^ m:=Nat.pow_pos (by decide)
  have hw:IntKind.i64.wrap (((2 ^ m:Nat):Int) - 1) = ((2 ^ m - 1:Nat):Int):=by rw [zap (by omega) (by omega)];omega
  have hres:chL m (chQ xs m) 6 (2 ^ m - 1) = chL m (chQ xs m) 6 (2 ^ m - 1):=rfl
  generalize hR:chL m (chQ xs m) 6 (2 ^ m - 1) = R at hres ⊢
  simp (maxSteps:=5000000) -dsimp only [↓gp,gq,reduceCtorEq,reduceEqDiff,reduceLT,reduceLeDiff,reduceAdd,reduceMul,reduceSub,Nat.reduceBEq,Int.reduceToNat,Int.reduceLE,Int.reduceLT,Int.reduceNeg,reduceMod,zac,zad,zab,zaa,gT,TK.isInt,TK.agg,Array.toList,hsh,hun,hw]
  refine zan (fun (za:Nat × Nat) s=>match za with | (k,S)=>s.sl 1 = .ref 1 1 0∧s.rw 1 = ⟨1,.box 36 [int m,zaN xs]⟩∧s.sl 3 = int S∧(S < 2 ^ m∧zat S ≤ k∧chL m (chQ xs m) k S = R)) (fun (k,S)=>k) ((6,2 ^ m - 1)) (by refine ⟨?_,?_,?_,⟨by omega,zcw (by omega),hR⟩⟩ <;> (first | (simp (maxSteps:=5000000) -dsimp only [gr,reduceEqDiff,reduceLT,reduceAdd,reduceMod,Nat.reduceBEq,zaa,zac,zad,zab,hsh,hw];first | done | rfl | (simp;done)) | assumption | rfl)) ?_
  intro (k,S) sa ⟨h1a,r1a,h3a,hIa⟩
  obtain ⟨hS,hpk,hch⟩:=hIa
  have hS6:S < 64:=by omega
  simp (maxSteps:=5000000) -dsimp only [↓gp,gq,reduceCtorEq,reduceEqDiff,reduceLT,reduceLeDiff,reduceAdd,reduceMul,reduceSub,Nat.reduceBEq,Int.reduceToNat,Int.reduceLE,Int.reduceLT,Int.reduceNeg,reduceMod,zac,zad,zab,zaa,gT,TK.isInt,TK.agg,Array.toList,h1a,r1a,h3a]
  refine ⟨fun hpos=>?_,fun hpos=>?_⟩
  ·have hS0:S ≠ 0:=by omega
   obtain ⟨k',rfl⟩:∃ k',k = k' + 1:=⟨k - 1,by
    have:zat S ≠ 0:=fun e=>hS0 (zd7 S hS6 e)
    omega⟩
   rw [chL,if_neg hS0] at hch
   have hm1:int (-1) = int (fdI (chQ xs m) S 0):=rfl
   refine zan (fun (i:Nat) s=>s.sl 1 = .ref 1 1 0∧s.rw 1 = ⟨1,.box 36 [int m,zaN xs]⟩∧s.sl 3 = int S∧s.sl 4 = int (fdI (chQ xs m) S i)∧s.sl 5 = int i∧(i ≤ m)) (fun i=>m - i) (0) (by refine ⟨?_,?_,?_,?_,?_,Nat.zero_le _⟩ <;> (first | (simp (maxSteps:=5000000) -dsimp only [gr,reduceEqDiff,reduceLT,reduceAdd,reduceMod,Nat.reduceBEq,zaa,zac,zad,zab,h1a,r1a,h3a,hm1];first | done | rfl | (simp;done)) | assumption | rfl)) ?_
   intro i sb ⟨h1b,r1b,h3b,h4b,h5b,hIb⟩
   have hun2:IntKind.u64.wrap (i:Int) = (i:Int):=za2 (by omega)
   have hfs:=zAh (chQ xs m) S i
   have hfo:=zAi (chQ xs m) S hIb
   have hend:∀ F,fdI (chQ xs m) S m = F→(F < 0→false = R)∧(¬ F < 0→∃ v:Nat,F = (v:Int)∧v < m∧S ^^^ 2 ^ v < 2 ^ m∧zat (S ^^^ 2 ^ v) ≤ k'∧chL m (chQ xs m) k' (S ^^^ 2 ^ v) = R∧IntKind.i64.wrap ((S:Int) - zkH .i64 1 (v:Int)) = ((S ^^^ 2 ^ v:Nat):Int)∧IntKind.u64.wrap (v:Int) = (v:Int)):=fun F hF=>by
    subst hF
    refine ⟨fun h=>?_,fun h=>?_⟩
    ·rw [zAj h] at hch;exact hch
    ·obtain ⟨v,e1,e2,e3,e4⟩:=zAk h
     rw [e1] at hch
     obtain ⟨x1,_⟩:=zkX hS e4
     have x3:=zuU hS6 e4
     obtain ⟨x4,x5⟩:=zCV S hS6 v (by omega) e4
     have x6:zkH .i64 1 (v:Int) = ((2 ^ v:Nat):Int):=za5 (by omega)
     refine ⟨v,e2,e3,x1,by omega,hch,?_,za2 (by omega)⟩
     rw [x6,← x4]
     generalize 2 ^ v = b at *
     rw [zap (by omega) (by omega)];omega
   by_cases him:i < m
   ·have hb:(zb4 .i64 (znH .i64 (S:Int) (i:Int)) 1 == 1) = S.testBit i:=zd3 (by omega) (by omega)
    have hnl:=zkM xs i
    have hand:zb4 .i64 ((nbr xs i:Nat):Int) (S:Int) = ((nbr xs i &&& S:Nat):Int):=zaQ (by omega) (by omega)
    simp (maxSteps:=5000000) -dsimp only [↓gp,gq,reduceCtorEq,reduceEqDiff,reduceLT,reduceLeDiff,reduceAdd,reduceMul,reduceSub,Nat.reduceBEq,Int.reduceToNat,Int.reduceLE,Int.reduceLT,Int.reduceNeg,reduceMod,zac,zad,zab,zaa,gT,TK.isInt,TK.agg,Array.toList,h1b,r1b,h3b,h4b,h5b,hun2,hb]
    refine ⟨fun _=>⟨fun hf=>⟨by kernel_rfl,fun hbit=>zaf (zdB m xs hgp i him) ?_,fun hbit=>?_⟩,fun hf=>?_⟩,fun h=>absurd (by omega) h⟩
    ·simp (maxSteps:=5000000) -dsimp only [↓gp,gq,reduceCtorEq,reduceEqDiff,reduceLT,reduceLeDiff,reduceAdd,reduceMul,reduceSub,Nat.reduceBEq,Int.reduceToNat,Int.reduceLE,Int.reduceLT,Int.reduceNeg,reduceMod,zac,zad,zab,zaa,gT,TK.isInt,TK.agg,Array.toList,h1b,r1b,h3b,h4b,h5b,hun2,hb,hand]
     refine zaf (ziy m h6 xs (nbr xs i &&& S) (Nat.lt_of_le_of_lt Nat.and_le_left hnl)) ?_
     have hq:zjw xs (nbr xs i &&& S) m = chQ xs m S i:=rfl
     rw [hq]
     simp (maxSteps:=5000000) -dsimp only [↓gp,gq,reduceCtorEq,reduceEqDiff,reduceLT,reduceLeDiff,reduceAdd,reduceMul,reduceSub,Nat.reduceBEq,Int.reduceToNat,Int.reduceLE,Int.reduceLT,Int.reduceNeg,reduceMod,zac,zad,zab,zaa,gT,TK.isInt,TK.agg,Array.toList,h1b,r1b,h3b,h4b,h5b,hun2,hb,hand]
     have hfs:=hfs hf
     refine ⟨fun hq=>?_,fun hq=>?_⟩
     ·rw [hbit,hq,if_pos (show (true && true) = true from rfl)] at hfs
      exact zag (i + 1) (by refine ⟨?_,?_,?_,?_,?_,by omega⟩ <;> (first | (simp (maxSteps:=5000000) -dsimp only [gr,reduceEqDiff,reduceLT,reduceAdd,reduceMod,Nat.reduceBEq,zaa,zac,zad,zab,h1b,r1b,h3b,h4b,h5b,hfs,zae him (by omega)];first | done | rfl | (simp;done)) | assumption | rfl)) (by first | omega | (simp only;omega) | (dsimp only;omega) | (show _ < _;simp;omega))
     ·rw [hq,Bool.and_false,if_neg (by decide)] at hfs
      exact zag (i + 1) (by refine ⟨?_,?_,?_,?_,?_,by omega⟩ <;> (first | (simp (maxSteps:=5000000) -dsimp only [gr,reduceEqDiff,reduceLT,reduceAdd,reduceMod,Nat.reduceBEq,zaa,zac,zad,zab,h1b,r1b,h3b,h4b,h5b,hfs,zae him (by omega)];first | done | rfl | (simp;done)) | assumption | rfl)) (by first | omega | (simp only;omega) | (dsimp only;omega) | (show _ < _;simp;omega))
    ·have hfs:=hfs hf
     rw [show S.testBit i = false from by simpa using hbit,Bool.false_and,if_neg (by decide)] at hfs
     exact zag (i + 1) (by refine ⟨?_,?_,?_,?_,?_,by omega⟩ <;> (first | (simp (maxSteps:=5000000) -dsimp only [gr,reduceEqDiff,reduceLT,reduceAdd,reduceMod,Nat.reduceBEq,zaa,zac,zad,zab,h1b,r1b,h3b,h4b,h5b,hfs,zae him (by omega)];first | done | rfl | (simp;done)) | assumption | rfl)) (by first | omega | (simp only;omega) | (dsimp only;omega) | (show _ < _;simp;omega))
    ·have hF:=hfo hf
     obtain ⟨v,e2,e3,e4,e5,e6,e7,e8⟩:=(hend _ hF).2 hf
     exact ⟨fun h=>absurd h hf,fun _=>⟨by rw [e2,e8];omega,zag ((k',S ^^^ 2 ^ v)) (by refine ⟨?_,?_,?_,⟨e4,e5,e6⟩⟩ <;> (first | (simp (maxSteps:=5000000) -dsimp only [gr,reduceEqDiff,reduceLT,reduceAdd,reduceMod,Nat.reduceBEq,zaa,zac,zad,zab,h1a,r1a,h3a,h1b,r1b,h3b,h4b,h5b,e2,e7,e8];first | done | rfl | (simp;done)) | assumption | rfl)) (by first | omega | (simp only;omega) | (dsimp only;omega) | (show _ < _;simp;omega))⟩⟩
   ·have hF:=hend _ (show fdI (chQ xs m) S m = fdI (chQ xs m) S i by rw [show i = m by omega])
    simp (maxSteps:=5000000) -dsimp only [↓gp,gq,reduceCtorEq,reduceEqDiff,reduceLT,reduceLeDiff,reduceAdd,reduceMul,reduceSub,Nat.reduceBEq,Int.reduceToNat,Int.reduceLE,Int.reduceLT,Int.reduceNeg,reduceMod,zac,zad,zab,zaa,gT,TK.isInt,TK.agg,Array.toList,h1b,r1b,h3b,h4b,h5b]
    refine ⟨fun h=>absurd h (by omega),fun _=>⟨fun hf=>(hF.1 hf).symm,fun hf=>?_⟩⟩
    obtain ⟨v,e2,e3,e4,e5,e6,e7,e8⟩:=hF.2 hf
    exact ⟨by rw [e2,e8];omega,zag ((k',S ^^^ 2 ^ v)) (by refine ⟨?_,?_,?_,⟨e4,e5,e6⟩⟩ <;> (first | (simp (maxSteps:=5000000) -dsimp only [gr,reduceEqDiff,reduceLT,reduceAdd,reduceMod,Nat.reduceBEq,zaa,zac,zad,zab,h1a,r1a,h3a,h1b,r1b,h3b,h4b,h5b,e2,e7,e8];first | done | rfl | (simp;done)) | assumption | rfl)) (by first | omega | (simp only;omega) | (dsimp only;omega) | (show _ < _;simp;omega))⟩
  ·have:S = 0:=by omega
   rw [← hch,this]
   cases k <;> rfl
theorem zjv (n:Int) (xs:List Int):AC Tryz.prog 59 [.ag [int n,zaN xs]] (.fr 3 1 (iL (if zjA n xs = true then zAW n.toNat xs else []))):=by
 refine AC.go (rs:=[.tmp 2]) za3 zav Tryz.func59 rfl rfl rfl (by kernel_rfl) fun hl=>?_
 simp (maxSteps:=5000000) -dsimp only [↓gp,gq,reduceCtorEq,reduceEqDiff,reduceLT,reduceLeDiff,reduceAdd,reduceMul,reduceSub,Nat.reduceBEq,Int.reduceToNat,Int.reduceLE,Int.reduceLT,Int.reduceNeg,reduceMod,zac,zad,zab,zaa,gT,TK.isInt,TK.agg,Array.toList]
 refine zaf (zlt n xs) ?_
 simp (maxSteps:=5000000) -dsimp only [↓gp,gq,reduceCtorEq,reduceEqDiff,reduceLT,reduceLeDiff,reduceAdd,reduceMul,reduceSub,Nat.reduceBEq,Int.reduceToNat,Int.reduceLE,Int.reduceLT,Int.reduceNeg,reduceMod,zac,zad,zab,zaa,gT,TK.isInt,TK.agg,Array.toList]
 refine ⟨fun hg=>?_,fun hg=>?_⟩
 ·have hg:zjA n xs = false:=by simpa using hg
  rw [hg];rfl
 ·have hg:zjA n xs = true:=by simpa using hg
  obtain ⟨h1,h6,_⟩:=zeb.1 hg
  obtain ⟨m,rfl⟩:∃ m:Nat,n = m:=⟨n.toNat,by omega⟩
  refine zaf (ze4 m xs (by omega)) ?_
  rw [if_pos hg,Int.toNat_natCast]
  simp (maxSteps:=5000000) -dsimp only [↓gp,gq,reduceCtorEq,reduceEqDiff,reduceLT,reduceLeDiff,reduceAdd,reduceMul,reduceSub,Nat.reduceBEq,Int.reduceToNat,Int.reduceLE,Int.reduceLT,Int.reduceNeg,reduceMod,zac,zad,zab,zaa,gT,TK.isInt,TK.agg,Array.toList]
def okS (xs:List Int):Prop:=∀ x ∈ xs,0 ≤ x∧x < 64
theorem zk7 {xs:List Int} (h:okS xs) {k:Nat} (hk:k < xs.length):0 ≤ xs.getD k 0∧xs.getD k 0 < 64:=h _ (zaD 0 hk)
theorem zsg {n:Int} {xs:List Int} (h:zjA n xs = true):okS xs:=fun x hx=>by
 obtain ⟨i,hi,rfl⟩:=zbE 0 hx
 exact zcd ((zeb.1 h).2.2 i hi).1
theorem zq2 {x:Int} (hx:0 ≤ x∧x < 64) {s:Nat} (hs:s < 64):(zb4 .i64 x (s:Int) == (s:Int)) = (x.toNat &&& s == s):=by
 have e:x = ((x.toNat:Nat):Int):=by omega
 rw [e,zaQ (by omega) (by omega)]
 have:((x.toNat:Nat):Int).toNat = x.toNat:=by omega
 rw [this]
 cases h:(x.toNat &&& s == s) with
 | true=>rw [beq_iff_eq] at h;rw [h];simp
 | false =>
   have h:=beq_eq_false_iff_ne.1 h
   rw [beq_eq_false_iff_ne]
   exact fun e=>h (by omega)
theorem zq3 (n:Int) (xs:List Int) (u:Nat) (hx:okS xs) (hs:u < 64):AC Tryz.prog 183 [.ag [int n,zaN xs],int u] (.im (bool (zaI xs u))):=by
 refine AC.go (rs:=[.tmp 4]) za3 zav Tryz.func183 rfl rfl rfl (by kernel_rfl) fun hl=>?_
 simp only [zaK,za7,and_true,zbv,zcC,zbR,zdb,true_and] at hl
 simp (maxSteps:=5000000) -dsimp only [↓gp,gq,reduceCtorEq,reduceEqDiff,reduceLT,reduceLeDiff,reduceAdd,reduceMul,reduceSub,Nat.reduceBEq,Int.reduceToNat,Int.reduceLE,Int.reduceLT,Int.reduceNeg,reduceMod,zac,zad,zab,zaa,gT,TK.isInt,TK.agg,Array.toList]
 refine zan (fun (k:Nat) s=>s.sl 1 = int u∧s.sl 2 = .ref 2 1 0∧s.rw 2 = ⟨1,.box 27 [int n,zaN xs]⟩∧s.sl 5 = int k∧(k ≤ xs.length∧∀ i,i < k→((xs.getD i 0).toNat &&& u == u) = false)) (fun k=>xs.length - k) (0) (by refine ⟨?_,?_,?_,?_,by simp⟩ <;> (first | (simp (maxSteps:=5000000) -dsimp only [gr,reduceEqDiff,reduceLT,reduceAdd,reduceMod,Nat.reduceBEq,zaa,zac,zad,zab];first | done | rfl | (simp;done)) | assumption | rfl)) ?_
 intro k sa ⟨h1a,h2a,r2a,h5a,hIa⟩
 obtain ⟨hk,hall⟩:=hIa
 simp (maxSteps:=5000000) -dsimp only [↓gp,gq,reduceCtorEq,reduceEqDiff,reduceLT,reduceLeDiff,reduceAdd,reduceMul,reduceSub,Nat.reduceBEq,Int.reduceToNat,Int.reduceLE,Int.reduceLT,Int.reduceNeg,reduceMod,zac,zad,zab,zaa,gT,TK.isInt,TK.agg,Array.toList,h1a,h2a,r2a,h5a]
 refine ⟨fun h=>⟨h,h,fun he=>?_,fun he=>zag (k + 1) ⟨(by (first | (simp (maxSteps:=5000000) -dsimp only [gr,reduceEqDiff,reduceLT,reduceAdd,reduceMod,Nat.reduceBEq,zaa,zac,zad,zab,h1a,h2a,r2a,h5a,zae h hl];first | done | rfl | (simp;done)) | assumption | rfl)),(by (first | (simp (maxSteps:=5000000) -dsimp only [gr,reduceEqDiff,reduceLT,reduceAdd,reduceMod,Nat.reduceBEq,zaa,zac,zad,zab,h1a,h2a,r2a,h5a,zae h hl];first | done | rfl | (simp;done)) | assumption | rfl)),(by (first | (simp (maxSteps:=5000000) -dsimp only [gr,reduceEqDiff,reduceLT,reduceAdd,reduceMod,Nat.reduceBEq,zaa,zac,zad,zab,h1a,h2a,r2a,h5a,zae h hl];first | done | rfl | (simp;done)) | assumption | rfl)),(by (first | (simp (maxSteps:=5000000) -dsimp only [gr,reduceEqDiff,reduceLT,reduceAdd,reduceMod,Nat.reduceBEq,zaa,zac,zad,zab,h1a,h2a,r2a,h5a,zae h hl];first | done | rfl | (simp;done)) | assumption | rfl)),⟨by omega,fun i hi=>?_⟩⟩ (by first | omega | (simp only;omega) | (dsimp only;omega) | (show _ < _;simp;omega))⟩,fun h=>?_⟩
 ·rw [zq2 (zk7 hx h) hs] at he
  exact zd5.2 ⟨_,zaD 0 h,by simpa using he⟩
 ·rw [zq2 (zk7 hx h) hs] at he
  rcases Nat.lt_succ_iff_lt_or_eq.1 hi with hi | rfl
  ·exact hall i hi
  ·exact he
 ·cases hf:zaI xs u with
  | false=>rfl
  | true =>
    obtain ⟨x,hx',hx2⟩:=zd5.1 hf
    obtain ⟨i,hi,rfl⟩:=zbE 0 hx'
    have:=hall i (by omega)
    rw [hx2] at this
    simp at this
noncomputable def zc0 (n:Int) (xs:List Int) (s:Nat):Bool:=zjA n xs && zaI xs s
theorem zzQ (l:List Nat) (s:Nat):inF (ofN l) s = decide (s ∈ l):=by
 unfold inF ofN
 refine decide_eq_decide.2 ?_
 simp only [List.mem_map]
 exact ⟨fun ⟨a,h1,h2⟩=>by have:a = s:=by omega
                          exact this ▸ h1,fun h=>⟨s,h,rfl⟩⟩
theorem zzR {l:List Nat} (h:∀ s ∈ l,s < 64):∀ x ∈ ofN l,0 ≤ x∧x < 64:=fun x hx=>by
 obtain ⟨s,hs,rfl⟩:=List.mem_map.1 hx
 have:=h s hs
 omega
theorem zfQ (n:Int) (xs:List Int):AC Tryz.prog 182 [.ag [int n,zaN xs]] (.fr 3 1 (iL (ofN (zcq (zc0 n xs))))):=by
 refine AC.go (rs:=[.tmp 2]) za3 zav Tryz.func182 rfl rfl rfl (by kernel_rfl) fun hl=>?_
 simp (maxSteps:=5000000) -dsimp only [↓gp,gq,reduceCtorEq,reduceEqDiff,reduceLT,reduceLeDiff,reduceAdd,reduceMul,reduceSub,Nat.reduceBEq,Int.reduceToNat,Int.reduceLE,Int.reduceLT,Int.reduceNeg,reduceMod,zac,zad,zab,zaa,gT,TK.isInt,TK.agg,Array.toList]
 have fin:∀ m,m = 64→zcq (inF (ofN ((List.range m).filter (zc0 n xs)))) = zcq (zc0 n xs):=fun m hm=>by
  refine zm3 fun s hs=>?_
  rw [zzQ,hm]
  cases h:zc0 n xs s <;> simp [h,hs]
 have hmem:∀ m,m ≤ 64→∀ s ∈ (List.range m).filter (zc0 n xs),s < 64:=fun m hm s hs=>by
  have:=List.mem_range.1 (List.mem_filter.1 hs).1;omega
 refine zan (fun (za:Nat × Nat) s=>match za with | (m,v)=>s.sl 1 = .ref 1 1 0∧s.rw 1 = ⟨1,.box 27 [int n,zaN xs]⟩∧s.sl 3 = .own 5 v∧s.rw 5 = ⟨v,.sli 3 1 false (iL (ofN ((List.range m).filter (zc0 n xs))))⟩∧s.sl 4 = int m∧(m ≤ 64)) (fun (m,v)=>64 - m) ((0,1)) (by refine ⟨?_,?_,?_,?_,?_,by simp⟩ <;> (first | (simp (maxSteps:=5000000) -dsimp only [gr,reduceEqDiff,reduceLT,reduceAdd,reduceMod,Nat.reduceBEq,zaa,zac,zad,zab];first | done | rfl | (simp;done)) | assumption | rfl)) ?_
 intro (m,v) sa ⟨h1a,r1a,h3a,r5a,h4a,hIa⟩
 have hflen:((List.range m).filter (zc0 n xs)).length ≤ 64:=by
  have:=List.length_filter_le (zc0 n xs) (List.range m);rw [List.length_range] at this;omega
 simp (maxSteps:=5000000) -dsimp only [↓gp,gq,reduceCtorEq,reduceEqDiff,reduceLT,reduceLeDiff,reduceAdd,reduceMul,reduceSub,Nat.reduceBEq,Int.reduceToNat,Int.reduceLE,Int.reduceLT,Int.reduceNeg,reduceMod,zac,zad,zab,zaa,gT,TK.isInt,TK.agg,Array.toList,h1a,r1a,h3a,r5a,h4a]
 refine ⟨fun h=>zaf (zcW n xs) ?_,fun h=>?_⟩
 ·simp (maxSteps:=5000000) -dsimp only [↓gp,gq,reduceCtorEq,reduceEqDiff,reduceLT,reduceLeDiff,reduceAdd,reduceMul,reduceSub,Nat.reduceBEq,Int.reduceToNat,Int.reduceLE,Int.reduceLT,Int.reduceNeg,reduceMod,zac,zad,zab,zaa,gT,TK.isInt,TK.agg,Array.toList,h1a,r1a,h3a,r5a,h4a]
  have hm:m < 64:=by omega
  refine ⟨fun hc=>zaf (zq3 n xs m (zsg hc) hm) ?_,fun hc=>zaf (zdT _ (zzR (hmem m hIa))) ?_⟩
  ·simp (maxSteps:=5000000) -dsimp only [↓gp,gq,reduceCtorEq,reduceEqDiff,reduceLT,reduceLeDiff,reduceAdd,reduceMul,reduceSub,Nat.reduceBEq,Int.reduceToNat,Int.reduceLE,Int.reduceLT,Int.reduceNeg,reduceMod,zac,zad,zab,zaa,gT,TK.isInt,TK.agg,Array.toList,h1a,r1a,h3a,r5a,h4a,zak]
   refine ⟨fun hf=>?_,fun hf=>?_⟩
   ·have e:(List.range (m + 1)).filter (zc0 n xs) = (List.range m).filter (zc0 n xs) ++ [m]:=by
     rw [List.range_succ,List.filter_append]
     simp [zc0,hc,hf]
    refine ⟨by omega,?_⟩
    exact zag ((m + 1,v + 1)) (by refine ⟨?_,?_,?_,?_,?_,by dsimp only;omega⟩ <;> (first | (simp (maxSteps:=5000000) -dsimp only [gr,reduceEqDiff,reduceLT,reduceAdd,reduceMod,Nat.reduceBEq,zaa,zac,zad,zab,h1a,r1a,h3a,r5a,h4a,zae hm (by omega),e,zaV,zcG];first | done | rfl | (simp;done)) | assumption | rfl)) (by first | omega | (simp only;omega) | (dsimp only;omega) | (show _ < _;simp;omega))
   ·have e:(List.range (m + 1)).filter (zc0 n xs) = (List.range m).filter (zc0 n xs):=by
     rw [List.range_succ,List.filter_append]
     simp [zc0,hc,hf]
    exact zag ((m + 1,v)) (by refine ⟨?_,?_,?_,?_,?_,by dsimp only;omega⟩ <;> (first | (simp (maxSteps:=5000000) -dsimp only [gr,reduceEqDiff,reduceLT,reduceAdd,reduceMod,Nat.reduceBEq,zaa,zac,zad,zab,h1a,r1a,h3a,r5a,h4a,zae hm (by omega),e];first | done | rfl | (simp;done)) | assumption | rfl)) (by first | omega | (simp only;omega) | (dsimp only;omega) | (show _ < _;simp;omega))
  ·simp (maxSteps:=5000000) -dsimp only [↓gp,gq,reduceCtorEq,reduceEqDiff,reduceLT,reduceLeDiff,reduceAdd,reduceMul,reduceSub,Nat.reduceBEq,Int.reduceToNat,Int.reduceLE,Int.reduceLT,Int.reduceNeg,reduceMod,zac,zad,zab,zaa,gT,TK.isInt,TK.agg,Array.toList,h1a,r1a,h3a,r5a,h4a]
   have e1:(List.range m).filter (zc0 n xs) = []:=by
    rw [List.filter_eq_nil_iff];intro s _;simp [zc0,hc]
   have e2:zcq (zc0 n xs) = zcq (inF (ofN [])):=zm3 fun s _=>by rw [zzQ];simp [zc0,hc]
   rw [e1,e2]
 ·have:m = 64:=by omega
  refine zaf (zdT _ (zzR (hmem m hIa))) ?_
  simp (maxSteps:=5000000) -dsimp only [↓gp,gq,reduceCtorEq,reduceEqDiff,reduceLT,reduceLeDiff,reduceAdd,reduceMul,reduceSub,Nat.reduceBEq,Int.reduceToNat,Int.reduceLE,Int.reduceLT,Int.reduceNeg,reduceMod,zac,zad,zab,zaa,gT,TK.isInt,TK.agg,Array.toList,h1a,r1a,h3a,r5a,h4a]
  rw [fin m this]
theorem zna {f:Nat→Bool} {k:Nat} (h:k < (zcq f).length):(zcq f).getD k 0 < 64:=(zb1.1 (zaD 0 h)).1
theorem zhe (n:Int) (xs:List Int) (k:Int):AC Tryz.prog 115 [.ag [int n,zaN xs],int k] (.fr 3 1 (iL (ofN ((zcq (zc0 n xs)).filter fun s=>(zat s:Int) == k)))):=by
 refine AC.go (rs:=[.tmp 4]) za3 zav Tryz.func115 rfl rfl rfl (by kernel_rfl) fun hl=>?_
 simp (maxSteps:=5000000) -dsimp only [↓gp,gq,reduceCtorEq,reduceEqDiff,reduceLT,reduceLeDiff,reduceAdd,reduceMul,reduceSub,Nat.reduceBEq,Int.reduceToNat,Int.reduceLE,Int.reduceLT,Int.reduceNeg,reduceMod,zac,zad,zab,zaa,gT,TK.isInt,TK.agg,Array.toList]
 refine zaf (zfQ n xs) ?_
 simp (maxSteps:=5000000) -dsimp only [↓gp,gq,reduceCtorEq,reduceEqDiff,reduceLT,reduceLeDiff,reduceAdd,reduceMul,reduceSub,Nat.reduceBEq,Int.reduceToNat,Int.reduceLE,Int.reduceLT,Int.reduceNeg,reduceMod,zac,zad,zab,zaa,gT,TK.isInt,TK.agg,Array.toList]
 have hfull:=zfn (zc0 n xs)
 have hmem:∀ i,i < (zcq (zc0 n xs)).length→(zcq (zc0 n xs)).getD i 0 < 64:=fun i h=>zna h
 generalize zcq (zc0 n xs) = all at *
 refine zan (fun (za:Nat × Nat × Nat) s=>match za with | (i,v,u)=>s.sl 1 = int k∧s.sl 5 = .own 8 v∧s.rw 8 = ⟨v,.sli 3 1 false (iL (ofN ((all.take i).filter fun s=>(zat s:Int) == k)))⟩∧s.sl 6 = .own 10 u∧s.rw 10 = ⟨u,.sli 3 1 false (iL (ofN all))⟩∧s.sl 7 = int i∧(i ≤ all.length)) (fun (i,v,u)=>all.length - i) ((0,1,1)) (by refine ⟨?_,?_,?_,?_,?_,?_,by simp⟩ <;> (first | (simp (maxSteps:=5000000) -dsimp only [gr,reduceEqDiff,reduceLT,reduceAdd,reduceMod,Nat.reduceBEq,zaa,zac,zad,zab];first | done | rfl | (simp;done)) | assumption | rfl)) ?_
 intro (i,v,u) sa ⟨h1a,h5a,r8a,h6a,r10a,h7a,hIa⟩
 have hfl:((all.take i).filter fun s=>(zat s:Int) == k).length ≤ i:=by
  have:=List.length_filter_le (fun s=>(zat s:Int) == k) (all.take i);rw [List.length_take] at this;omega
 simp (maxSteps:=5000000) -dsimp only [↓gp,gq,reduceCtorEq,reduceEqDiff,reduceLT,reduceLeDiff,reduceAdd,reduceMul,reduceSub,Nat.reduceBEq,Int.reduceToNat,Int.reduceLE,Int.reduceLT,Int.reduceNeg,reduceMod,zac,zad,zab,zaa,gT,TK.isInt,TK.agg,Array.toList,h1a,h5a,r8a,h6a,r10a,h7a,zak]
 refine ⟨fun h=>?_,fun h=>?_⟩
 ·have hi:=hmem i h
  have hge:(ofN all).getD i 0 = ((all.getD i 0:Nat):Int):=zaJ h
  rw [hge]
  refine ⟨h,h,zaf (zaL _ (by omega)) ?_⟩
  simp (maxSteps:=5000000) -dsimp only [↓gp,gq,reduceCtorEq,reduceEqDiff,reduceLT,reduceLeDiff,reduceAdd,reduceMul,reduceSub,Nat.reduceBEq,Int.reduceToNat,Int.reduceLE,Int.reduceLT,Int.reduceNeg,reduceMod,zac,zad,zab,zaa,gT,TK.isInt,TK.agg,Array.toList,h1a,h5a,r8a,h6a,r10a,h7a,zak,hge]
  refine ⟨fun hp=>⟨h,h,by omega,?_⟩,fun hp=>?_⟩
  ·have e:(all.take (i + 1)).filter (fun s=>(zat s:Int) == k) = (all.take i).filter (fun s=>(zat s:Int) == k) ++ [all.getD i 0]:=zg3 h hp
   exact zag ((i + 1,v + 1,u)) (by refine ⟨?_,?_,?_,?_,?_,?_,by dsimp only;omega⟩ <;> (first | (simp (maxSteps:=5000000) -dsimp only [gr,reduceEqDiff,reduceLT,reduceAdd,reduceMod,Nat.reduceBEq,zaa,zac,zad,zab,h1a,h5a,r8a,h6a,r10a,h7a,zae h (by omega),e,zaV,zcG,hge];first | done | rfl | (simp;done)) | assumption | rfl)) (by first | omega | (simp only;omega) | (dsimp only;omega) | (show _ < _;simp;omega))
  ·have e:(all.take (i + 1)).filter (fun s=>(zat s:Int) == k) = (all.take i).filter (fun s=>(zat s:Int) == k):=zkP h hp
   exact zag ((i + 1,v,u)) (by refine ⟨?_,?_,?_,?_,?_,?_,by dsimp only;omega⟩ <;> (first | (simp (maxSteps:=5000000) -dsimp only [gr,reduceEqDiff,reduceLT,reduceAdd,reduceMod,Nat.reduceBEq,zaa,zac,zad,zab,h1a,h5a,r8a,h6a,r10a,h7a,zae h (by omega),e];first | done | rfl | (simp;done)) | assumption | rfl)) (by first | omega | (simp only;omega) | (dsimp only;omega) | (show _ < _;simp;omega))
 ·have:i = all.length:=by omega
  rw [this,List.take_length]
theorem zsh (f:Nat→Bool) (k:Nat):(zcq f).filter (fun s=>(zat s:Int) == (k:Int)) = zaX f k 64:=by
 rw [← zkZ f k]
 refine List.filter_congr fun s _=>?_
 cases h:(zat s == k) with
 | true=>have:=beq_iff_eq.1 h;simp [this]
 | false=>have:=beq_eq_false_iff_ne.1 h;rw [beq_eq_false_iff_ne];exact fun e=>this (by omega)
theorem zdw (n:Int) (xs:List Int) (k:Nat):AC Tryz.prog 115 [.ag [int n,zaN xs],int k] (.fr 3 1 (iL (ofN (zaX (zc0 n xs) k 64)))):=by
 have:=zhe n xs k
 rwa [zsh] at this
theorem zd8 (w:Nat→Bool) {G:Nat} (hF:G < 2 ^ 64) (h:∀ s,s < 64→G.testBit s = w s):G = zaH w 64:=by
 refine Nat.eq_of_testBit_eq fun s=>?_
 rw [zcS]
 by_cases hs:s < 64
 ·rw [h s hs];simp [hs]
 ·have:G.testBit s = false:=Nat.testBit_lt_two_pow (Nat.lt_of_lt_of_le hF (Nat.pow_le_pow_right (by omega) (by omega)))
  simp [this,hs]
theorem zcm (w:Nat→Bool) {s:Nat} (h:s < 64):(zaH w 64).testBit s = w s:=by rw [zcS];simp [h]
theorem zfv {w w':Nat→Bool} (h:∀ s,s < 64→w s = w' s):zaH w 64 = zaH w' 64 :=
 zd8 w' (zbu w 64) fun s hs=>by rw [zcm w hs,h s hs]
theorem zD4 (w w':Nat→Bool):zaH w 64 ||| zaH w' 64 = zaH (fun s=>w s || w' s) 64 :=
 zd8 _ (Nat.or_lt_two_pow (zbu w 64) (zbu w' 64)) fun s hs=>by rw [Nat.testBit_or,zcm w hs,zcm w' hs]
theorem zBn (w w':Nat→Bool):zaH w 64 &&& zaH w' 64 = zaH (fun s=>w s && w' s) 64 :=
 zd8 _ (Nat.lt_of_le_of_lt Nat.and_le_left (zbu w 64)) fun s hs=>by rw [Nat.testBit_and,zcm w hs,zcm w' hs]
theorem zwb (w:Nat→Bool) {t:Nat} (ht:t < 64):zaH w 64 ||| 2 ^ t = zaH (fun s=>w s || s == t) 64 :=
 zd8 _ (Nat.or_lt_two_pow (zbu w 64) (Nat.pow_lt_pow_right (by omega) ht)) fun s hs=>by
  rw [Nat.testBit_or,zcm w hs,Nat.testBit_two_pow]
  congr 1
  by_cases e:t = s
  ·simp [e]
  ·simp [e];exact fun h=>e h.symm
theorem zq1:zaH (fun _=>false) 64 = 0:=(zd8 (G:=0) (fun _=>false) (by omega) (fun s _=>by simp)).symm
def zlj (u:Nat) (t:Nat):Bool:=u &&& t == t
theorem zdv (u:Nat) (hu:u < 64):AC Tryz.prog 212 [int u] (.im (u64 (zaH (zlj u) 64:Nat))):=by
 refine AC.go (rs:=[.tmp 2]) za3 zav Tryz.func212 rfl rfl rfl (by kernel_rfl) fun hl=>?_
 simp (maxSteps:=5000000) -dsimp only [↓gp,gq,reduceCtorEq,reduceEqDiff,reduceLT,reduceLeDiff,reduceAdd,reduceMul,reduceSub,Nat.reduceBEq,Int.reduceToNat,Int.reduceLE,Int.reduceLT,Int.reduceNeg,reduceMod,zac,zad,zab,zaa,gT,TK.isInt,TK.agg,Array.toList]
 have hinit:zaH (fun v=>zlj u v && decide (u < v)) 64 = 0:=by
  rw [← zq1]
  refine zfv fun v hv=>?_
  cases h:(zlj u v && decide (u < v)) with
  | false=>rfl
  | true =>
    simp [zlj] at h
    have:u &&& v ≤ u:=Nat.and_le_left
    omega
 refine zan (fun (t:Nat) s=>s.sl 0 = int u∧s.sl 3 = u64 (zaH (fun v=>zlj u v && decide (t < v)) 64:Nat)∧s.sl 4 = int t∧(t ≤ u∧u &&& t = t)) (fun t=>t) (u) (by refine ⟨?_,?_,?_,⟨Nat.le_refl _,Nat.and_self u⟩⟩ <;> (first | (simp (maxSteps:=5000000) -dsimp only [gr,reduceEqDiff,reduceLT,reduceAdd,reduceMod,Nat.reduceBEq,zaa,zac,zad,zab,hinit];first | done | rfl | (simp;done)) | assumption | rfl)) ?_
 intro t sa ⟨h0a,h3a,h4a,hIa⟩
 obtain ⟨htu,hts⟩:=hIa
 have hlt:=zbu (fun v=>zlj u v && decide (t < v)) 64
 have hcv:IntKind.u64.wrap (t:Int) = (t:Int):=za2 (by omega)
 have h2t:(2:Nat) ^ t < 18446744073709551616:=by
  have:(2:Nat) ^ t < 2 ^ 64:=Nat.pow_lt_pow_right (by omega) (by omega)
  omega
 have hor:ior .u64 (zaH (fun v=>zlj u v && decide (t < v)) 64:Nat) (zkH .u64 1 (t:Int)) = ((zaH (fun v=>zlj u v && decide (t ≤ v)) 64:Nat):Int):=by
  rw [zCC (by omega),zDC (by omega) h2t,zwb _ (by omega)]
  congr 1
  refine zfv fun v hv=>?_
  by_cases e:v = t
  ·subst e;simp [zlj,hts]
  ·have e1:decide (t < v) = decide (t ≤ v):=decide_eq_decide.2 (by omega)
   simp [e,e1]
 simp (maxSteps:=5000000) -dsimp only [↓gp,gq,reduceCtorEq,reduceEqDiff,reduceLT,reduceLeDiff,reduceAdd,reduceMul,reduceSub,Nat.reduceBEq,Int.reduceToNat,Int.reduceLE,Int.reduceLT,Int.reduceNeg,reduceMod,zac,zad,zab,zaa,gT,TK.isInt,TK.agg,Array.toList,h0a,h3a,h4a,hcv,hor]
 refine ⟨fun h0=>?_,fun h0=>?_⟩
 ·have:t = 0:=by simp at h0;omega
  subst this
  simp
 ·have h0:¬ t = 0:=by
   intro e;subst e;simp at h0
  have hw:IntKind.i64.wrap ((t:Int) - 1) = ((t - 1:Nat):Int):=by rw [zap (by omega) (by omega)];omega
  have hand:=zaQ (a:=t - 1) (b:=u) (by omega) (by omega)
  have hle:(t - 1) &&& u ≤ t - 1:=Nat.and_le_left
  have hnext:zaH (fun v=>zlj u v && decide ((t - 1) &&& u < v)) 64 = zaH (fun v=>zlj u v && decide (t ≤ v)) 64:=by
   refine zfv fun v hv=>?_
   cases hs:zlj u v with
   | false=>rfl
   | true =>
     simp only [Bool.true_and]
     refine decide_eq_decide.2 ⟨fun h=>?_,fun h=>by omega⟩
     rcases Nat.lt_or_ge v t with h2 | h2
     ·have:=zBf u hu t (by omega) (by rw [Nat.and_comm];exact hts) h0 v h2 (by rw [Nat.and_comm];simpa [zlj] using hs)
      omega
     ·exact h2
  simp (maxSteps:=5000000) -dsimp only [↓gp,gq,reduceCtorEq,reduceEqDiff,reduceLT,reduceLeDiff,reduceAdd,reduceMul,reduceSub,Nat.reduceBEq,Int.reduceToNat,Int.reduceLE,Int.reduceLT,Int.reduceNeg,reduceMod,zac,zad,zab,zaa,gT,TK.isInt,TK.agg,Array.toList,h0a,h3a,h4a,hcv,hor,hw,hand]
  exact zag ((t - 1) &&& u) (by refine ⟨?_,?_,?_,⟨by omega,by rw [Nat.and_comm,Nat.and_assoc,Nat.and_self]⟩⟩ <;> (first | (simp (maxSteps:=5000000) -dsimp only [gr,reduceEqDiff,reduceLT,reduceAdd,reduceMod,Nat.reduceBEq,zaa,zac,zad,zab,h0a,h3a,h4a,hcv,hor,hw,hand,hnext];first | done | rfl | (simp;done)) | assumption | rfl)) (by first | omega | (simp only;omega) | (dsimp only;omega) | (show _ < _;simp;omega))
theorem zwc {xs:List Int} {k t:Nat} (h:k < xs.length):zaI (xs.take (k + 1)) t = (zaI (xs.take k) t || zlj (xs.getD k 0).toNat t):=by
 rw [zba 0 h]
 unfold zaI zlj
 rw [List.any_append]
 simp
theorem zlx (n:Int) (xs:List Int) (hx:okS xs):AC Tryz.prog 180 [.ag [int n,zaN xs]] (.im (u64 (zaH (zaI xs) 64:Nat))):=by
 refine AC.go (rs:=[.tmp 2]) za3 zav Tryz.func180 rfl rfl rfl (by kernel_rfl) fun hl=>?_
 simp only [zaK,za7,and_true,zbv,zcC,zbR,zdb,true_and] at hl
 simp (maxSteps:=5000000) -dsimp only [↓gp,gq,reduceCtorEq,reduceEqDiff,reduceLT,reduceLeDiff,reduceAdd,reduceMul,reduceSub,Nat.reduceBEq,Int.reduceToNat,Int.reduceLE,Int.reduceLT,Int.reduceNeg,reduceMod,zac,zad,zab,zaa,gT,TK.isInt,TK.agg,Array.toList]
 have hinit:zaH (zaI (xs.take 0)) 64 = 0:=zq1
 refine zan (fun (k:Nat) s=>s.sl 3 = u64 (zaH (zaI (xs.take k)) 64:Nat)∧s.sl 7 = zaN xs∧s.sl 8 = int xs.length∧s.sl 9 = int k∧(k ≤ xs.length)) (fun k=>xs.length - k) (0) (by refine ⟨?_,?_,?_,?_,by omega⟩ <;> (first | (simp (maxSteps:=5000000) -dsimp only [gr,reduceEqDiff,reduceLT,reduceAdd,reduceMod,Nat.reduceBEq,zaa,zac,zad,zab,hinit];first | done | rfl | (simp;done)) | assumption | rfl)) ?_
 intro k sa ⟨h3a,h7a,h8a,h9a,hIa⟩
 simp (maxSteps:=5000000) -dsimp only [↓gp,gq,reduceCtorEq,reduceEqDiff,reduceLT,reduceLeDiff,reduceAdd,reduceMul,reduceSub,Nat.reduceBEq,Int.reduceToNat,Int.reduceLE,Int.reduceLT,Int.reduceNeg,reduceMod,zac,zad,zab,zaa,gT,TK.isInt,TK.agg,Array.toList,h3a,h7a,h8a,h9a]
 refine ⟨fun h=>⟨h,h,?_⟩,fun h=>?_⟩
 ·have h6:=zk7 hx h
  have hn:xs.getD k 0 = ((xs.getD k 0).toNat:Int):=by omega
  have hc:=zdv (xs.getD k 0).toNat (by omega)
  rw [← hn] at hc
  refine zaf hc ?_
  have hm1:=zbu (zaI (xs.take k)) 64
  have hm2:=zbu (zlj (xs.getD k 0).toNat) 64
  have hor:ior .u64 (zaH (zaI (xs.take k)) 64:Nat) (zaH (zlj (xs.getD k 0).toNat) 64:Nat) = ((zaH (zaI (xs.take (k + 1))) 64:Nat):Int):=by
   rw [zDC (by omega) (by omega),zD4]
   congr 1
   exact zfv fun t _=>(zwc h).symm
  simp (maxSteps:=5000000) -dsimp only [↓gp,gq,reduceCtorEq,reduceEqDiff,reduceLT,reduceLeDiff,reduceAdd,reduceMul,reduceSub,Nat.reduceBEq,Int.reduceToNat,Int.reduceLE,Int.reduceLT,Int.reduceNeg,reduceMod,zac,zad,zab,zaa,gT,TK.isInt,TK.agg,Array.toList,h3a,h7a,h8a,h9a,hor]
  exact zag (k + 1) (by refine ⟨?_,?_,?_,?_,by omega⟩ <;> (first | (simp (maxSteps:=5000000) -dsimp only [gr,reduceEqDiff,reduceLT,reduceAdd,reduceMod,Nat.reduceBEq,zaa,zac,zad,zab,h3a,h7a,h8a,h9a,zae h hl,hor];first | done | rfl | (simp;done)) | assumption | rfl)) (by first | omega | (simp only;omega) | (dsimp only;omega) | (show _ < _;simp;omega))
 ·have:k = xs.length:=by omega
  rw [this,List.take_length]
theorem ziP (f:Nat→Bool) (w:Nat) (hw:w < 64):AC Tryz.prog 217 [u64 (zaH f 64:Nat),int w] (.im (u64 (zaH (fun t=>f t && zlj w t) 64:Nat))):=by
 refine AC.go (rs:=[.tmp 4]) za3 zav Tryz.func217 rfl rfl rfl (by kernel_rfl) fun hl=>?_
 simp (maxSteps:=5000000) -dsimp only [↓gp,gq,reduceCtorEq,reduceEqDiff,reduceLT,reduceLeDiff,reduceAdd,reduceMul,reduceSub,Nat.reduceBEq,Int.reduceToNat,Int.reduceLE,Int.reduceLT,Int.reduceNeg,reduceMod,zac,zad,zab,zaa,gT,TK.isInt,TK.agg,Array.toList]
 refine zaf (zdv w hw) ?_
 have hm1:=zbu f 64
 have hm2:=zbu (zlj w) 64
 have hand:zb4 .u64 (zaH f 64:Nat) (zaH (zlj w) 64:Nat) = ((zaH (fun t=>f t && zlj w t) 64:Nat):Int):=by
  rw [zCB (by omega) (by omega),zBn]
 simp (maxSteps:=5000000) -dsimp only [↓gp,gq,reduceCtorEq,reduceEqDiff,reduceLT,reduceLeDiff,reduceAdd,reduceMul,reduceSub,Nat.reduceBEq,Int.reduceToNat,Int.reduceLE,Int.reduceLT,Int.reduceNeg,reduceMod,zac,zad,zab,zaa,gT,TK.isInt,TK.agg,Array.toList,hand]
theorem ziQ (n:Int) (xs:List Int):AC Tryz.prog 112 [.ag [int n,zaN xs]] (.im (bool (zjA n xs))):=by
 refine AC.go (rs:=[.tmp 2]) za3 zav Tryz.func112 rfl rfl rfl (by kernel_rfl) fun hl=>?_
 simp (maxSteps:=5000000) -dsimp only [↓gp,gq,reduceCtorEq,reduceEqDiff,reduceLT,reduceLeDiff,reduceAdd,reduceMul,reduceSub,Nat.reduceBEq,Int.reduceToNat,Int.reduceLE,Int.reduceLT,Int.reduceNeg,reduceMod,zac,zad,zab,zaa,gT,TK.isInt,TK.agg,Array.toList]
 refine zaf (zgo n xs) ?_
 simp (maxSteps:=5000000) -dsimp only [↓gp,gq,reduceCtorEq,reduceEqDiff,reduceLT,reduceLeDiff,reduceAdd,reduceMul,reduceSub,Nat.reduceBEq,Int.reduceToNat,Int.reduceLE,Int.reduceLT,Int.reduceNeg,reduceMod,zac,zad,zab,zaa,gT,TK.isInt,TK.agg,Array.toList]
def zIs (ps:List ByteArray):List Int:=ps.map fun p=>((zIq p p.size:Nat):Int)
def chr (n:Nat):ByteArray:=⟨#[UInt8.ofNat (48 + n)]⟩
structure OkText (t:ByteArray) (n:Nat) (rest:ByteArray) (ps:List ByteArray):Prop where
 size:2 ≤ t.size∧t.size ≤ 1000
 pts:1 ≤ n∧n ≤ 6
 b0:byt t 0 = 48 + n
 b1:byt t 1 = 58
 tail:t.extract 2 t.size = rest
 rsize:rest.size ≤ 1000
 full:(rest.toList == (⟨#[]⟩:ByteArray).toList) = false
 parts:zCI rest 44 = ps
 plen:ps.length ≤ 1000
 pne:0 < ps.length
 sets:∀ p ∈ ps,OkSet p
 head:zCI t 58 = [chr n,rest]
 cx:cxP n (zIs ps)
theorem zbH (p:Int):AC Tryz.prog 61 [int p] (.im (bool (isP p))):=by
 refine AC.go (rs:=[.tmp 2]) za3 zav Tryz.func61 rfl rfl rfl (by kernel_rfl) fun hl=>?_
 simp (maxSteps:=5000000) -dsimp only [↓gp,gq,reduceCtorEq,reduceEqDiff,reduceLT,reduceLeDiff,reduceAdd,reduceMul,reduceSub,Nat.reduceBEq,Int.reduceToNat,Int.reduceLE,Int.reduceLT,Int.reduceNeg,reduceMod,zac,zad,zab,zaa,gT,TK.isInt,TK.agg,Array.toList]
 unfold isP
 exact ⟨fun h=>⟨fun h2=>by simp [h,h2],fun h2=>by simp [h,h2]⟩,fun h=>by simp [h]⟩
theorem zbI (p:Int):AC Tryz.prog 127 [int p] (.im (bool (isP p))):=by
 refine AC.go (rs:=[.tmp 2]) za3 zav Tryz.func127 rfl rfl rfl (by kernel_rfl) fun hl=>?_
 simp (maxSteps:=5000000) -dsimp only [↓gp,gq,reduceCtorEq,reduceEqDiff,reduceLT,reduceLeDiff,reduceAdd,reduceMul,reduceSub,Nat.reduceBEq,Int.reduceToNat,Int.reduceLE,Int.reduceLT,Int.reduceNeg,reduceMod,zac,zad,zab,zaa,gT,TK.isInt,TK.agg,Array.toList]
 unfold isP
 exact ⟨fun h=>⟨fun h2=>by simp [h,h2],fun h2=>by simp [h,h2]⟩,fun h=>by simp [h]⟩
theorem znd {a p:Int} (hp:0 < p):-p < a.tmod p∧a.tmod p < p:=⟨Int.lt_tmod_of_pos a hp,Int.tmod_lt_of_pos a hp⟩
theorem zev (a p:Int) (hp:isP p = true):AC Tryz.prog 213 [int a,int p] (.im (int (a % p))):=by
 refine AC.go (rs:=[.tmp 4]) za3 zav Tryz.func213 rfl rfl rfl (by kernel_rfl) fun hl=>?_
 have hp:=zcg hp
 have h1:=znd (a:=a) (by omega:0 < p)
 have hw:IntKind.i64.wrap (a.tmod p + p) = a.tmod p + p:=zap (by omega) (by omega)
 have hm:=zzt a p (by omega)
 simp (maxSteps:=5000000) -dsimp only [↓gp,gq,reduceCtorEq,reduceEqDiff,reduceLT,reduceLeDiff,reduceAdd,reduceMul,reduceSub,Nat.reduceBEq,Int.reduceToNat,Int.reduceLE,Int.reduceLT,Int.reduceNeg,reduceMod,zac,zad,zab,zaa,gT,TK.isInt,TK.agg,Array.toList,hw,hm]
 omega
theorem zfR (a p:Int) (hp:isP p = true):AC Tryz.prog 260 [int a,int p] (.im (int (a % p))):=by
 refine AC.go (rs:=[.tmp 4]) za3 zav Tryz.func260 rfl rfl rfl (by kernel_rfl) fun hl=>?_
 have hp:=zcg hp
 have h1:=znd (a:=a) (by omega:0 < p)
 have hw:IntKind.i64.wrap (a.tmod p + p) = a.tmod p + p:=zap (by omega) (by omega)
 have hm:=zzt a p (by omega)
 simp (maxSteps:=5000000) -dsimp only [↓gp,gq,reduceCtorEq,reduceEqDiff,reduceLT,reduceLeDiff,reduceAdd,reduceMul,reduceSub,Nat.reduceBEq,Int.reduceToNat,Int.reduceLE,Int.reduceLT,Int.reduceNeg,reduceMod,zac,zad,zab,zaa,gT,TK.isInt,TK.agg,Array.toList,hw]
 refine ⟨by omega,fun h=>?_,fun h=>?_⟩
 ·rw [← hm,zdV (by omega),Int.emod_eq_of_lt (by omega) (by omega)]
 ·rw [← hm,Int.tmod_eq_emod_of_nonneg (by omega),Int.add_emod_right,Int.emod_eq_of_lt (by omega) (by omega)]
theorem zjt {p r b:Int} (h:b < p):zcY p r b (p - b).toNat = if r * b % p = 1 then b else zcY p r (b + 1) (p - (b + 1)).toNat:=by
 have e:(p - b).toNat = (p - (b + 1)).toNat + 1:=by omega
 rw [e,zcY]
theorem zhW (a p:Int) (hp:isP p = true):AC Tryz.prog 227 [int a,int p] (.im (int (zlv p a))):=by
 refine AC.go (rs:=[.tmp 4]) za3 zav Tryz.func227 rfl rfl rfl (by kernel_rfl) fun hl=>?_
 have hp2:=zcg hp
 simp (maxSteps:=5000000) -dsimp only [↓gp,gq,reduceCtorEq,reduceEqDiff,reduceLT,reduceLeDiff,reduceAdd,reduceMul,reduceSub,Nat.reduceBEq,Int.reduceToNat,Int.reduceLE,Int.reduceLT,Int.reduceNeg,reduceMod,zac,zad,zab,zaa,gT,TK.isInt,TK.agg,Array.toList]
 refine zaf (zbH p) ?_
 simp (maxSteps:=5000000) -dsimp only [↓gp,gq,reduceCtorEq,reduceEqDiff,reduceLT,reduceLeDiff,reduceAdd,reduceMul,reduceSub,Nat.reduceBEq,Int.reduceToNat,Int.reduceLE,Int.reduceLT,Int.reduceNeg,reduceMod,zac,zad,zab,zaa,gT,TK.isInt,TK.agg,Array.toList,hp]
 have hr:=Int.emod_nonneg a (by omega:p ≠ 0)
 have hr2:=Int.emod_lt_of_pos a (by omega:0 < p)
 refine zan (fun (b:Int) s=>s.sl 0 = int a∧s.sl 1 = int p∧s.sl 5 = int b∧(1 ≤ b∧b ≤ p∧zlv p a = zcY p (a % p) b (p - b).toNat)) (fun b=>(p - b).toNat) (1) (by refine ⟨?_,?_,?_,⟨by omega,by omega,rfl⟩⟩ <;> (first | (simp (maxSteps:=5000000) -dsimp only [gr,reduceEqDiff,reduceLT,reduceAdd,reduceMod,Nat.reduceBEq,zaa,zac,zad,zab];first | done | rfl | (simp;done)) | assumption | rfl)) ?_
 intro b sa ⟨h0a,h1a,h5a,hIa⟩
 obtain ⟨hb,hb2,hv⟩:=hIa
 simp (maxSteps:=5000000) -dsimp only [↓gp,gq,reduceCtorEq,reduceEqDiff,reduceLT,reduceLeDiff,reduceAdd,reduceMul,reduceSub,Nat.reduceBEq,Int.reduceToNat,Int.reduceLE,Int.reduceLT,Int.reduceNeg,reduceMod,zac,zad,zab,zaa,gT,TK.isInt,TK.agg,Array.toList,h0a,h1a,h5a]
 refine ⟨fun h=>zaf (zev a p hp) ?_,fun h=>?_⟩
 ·have hm:0 ≤ a % p * b∧a % p * b ≤ 20:=by
   refine ⟨Int.mul_nonneg hr (by omega),?_⟩
   have:=Int.mul_le_mul (show a % p ≤ 4 by omega) (show b ≤ 5 by omega) (by omega) (by omega)
   omega
  have hw:IntKind.i64.wrap (a % p * b) = a % p * b:=zap (by omega) (by omega)
  have hw2:IntKind.i64.wrap (b + 1) = b + 1:=zap (by omega) (by omega)
  simp (maxSteps:=5000000) -dsimp only [↓gp,gq,reduceCtorEq,reduceEqDiff,reduceLT,reduceLeDiff,reduceAdd,reduceMul,reduceSub,Nat.reduceBEq,Int.reduceToNat,Int.reduceLE,Int.reduceLT,Int.reduceNeg,reduceMod,zac,zad,zab,zaa,gT,TK.isInt,TK.agg,Array.toList,h0a,h1a,h5a,hw,hw2,zdV hm.1]
  refine ⟨by omega,fun h1=>?_,fun h1=>zag (b + 1) ⟨(by (first | (simp (maxSteps:=5000000) -dsimp only [gr,reduceEqDiff,reduceLT,reduceAdd,reduceMod,Nat.reduceBEq,zaa,zac,zad,zab,h0a,h1a,h5a,hw2];first | done | rfl | (simp;done)) | assumption | rfl)),(by (first | (simp (maxSteps:=5000000) -dsimp only [gr,reduceEqDiff,reduceLT,reduceAdd,reduceMod,Nat.reduceBEq,zaa,zac,zad,zab,h0a,h1a,h5a,hw2];first | done | rfl | (simp;done)) | assumption | rfl)),(by (first | (simp (maxSteps:=5000000) -dsimp only [gr,reduceEqDiff,reduceLT,reduceAdd,reduceMod,Nat.reduceBEq,zaa,zac,zad,zab,h0a,h1a,h5a,hw2];first | done | rfl | (simp;done)) | assumption | rfl)),⟨by omega,by omega,?_⟩⟩ (by first | omega | (simp only;omega) | (dsimp only;omega) | (show _ < _;simp;omega))⟩
  ·have h1:=beq_iff_eq.1 h1
   rw [hv,zjt h,if_pos h1]
  ·have h1:¬ a % p * b % p = 1:=by simpa using h1
   rw [hv,zjt h,if_neg h1]
 ·have:(p - b).toNat = 0:=by omega
  rw [hv,this];rfl
theorem zhX (a p:Int) (hp:isP p = true):AC Tryz.prog 259 [int a,int p] (.im (int (zlv p a))):=by
 refine AC.go (rs:=[.tmp 4]) za3 zav Tryz.func259 rfl rfl rfl (by kernel_rfl) fun hl=>?_
 have hp2:=zcg hp
 simp (maxSteps:=5000000) -dsimp only [↓gp,gq,reduceCtorEq,reduceEqDiff,reduceLT,reduceLeDiff,reduceAdd,reduceMul,reduceSub,Nat.reduceBEq,Int.reduceToNat,Int.reduceLE,Int.reduceLT,Int.reduceNeg,reduceMod,zac,zad,zab,zaa,gT,TK.isInt,TK.agg,Array.toList]
 refine zaf (zbI p) ?_
 simp (maxSteps:=5000000) -dsimp only [↓gp,gq,reduceCtorEq,reduceEqDiff,reduceLT,reduceLeDiff,reduceAdd,reduceMul,reduceSub,Nat.reduceBEq,Int.reduceToNat,Int.reduceLE,Int.reduceLT,Int.reduceNeg,reduceMod,zac,zad,zab,zaa,gT,TK.isInt,TK.agg,Array.toList,hp]
 have hr:=Int.emod_nonneg a (by omega:p ≠ 0)
 have hr2:=Int.emod_lt_of_pos a (by omega:0 < p)
 refine zaf (zfR a p hp) ?_
 simp (maxSteps:=5000000) -dsimp only [↓gp,gq,reduceCtorEq,reduceEqDiff,reduceLT,reduceLeDiff,reduceAdd,reduceMul,reduceSub,Nat.reduceBEq,Int.reduceToNat,Int.reduceLE,Int.reduceLT,Int.reduceNeg,reduceMod,zac,zad,zab,zaa,gT,TK.isInt,TK.agg,Array.toList]
 refine zan (fun (b:Int) s=>s.sl 1 = int p∧s.sl 5 = int (a % p)∧s.sl 6 = int b∧(1 ≤ b∧b ≤ p∧zlv p a = zcY p (a % p) b (p - b).toNat)) (fun b=>(p - b).toNat) (1) (by refine ⟨?_,?_,?_,⟨by omega,by omega,rfl⟩⟩ <;> (first | (simp (maxSteps:=5000000) -dsimp only [gr,reduceEqDiff,reduceLT,reduceAdd,reduceMod,Nat.reduceBEq,zaa,zac,zad,zab];first | done | rfl | (simp;done)) | assumption | rfl)) ?_
 intro b sa ⟨h1a,h5a,h6a,hIa⟩
 obtain ⟨hb,hb2,hv⟩:=hIa
 have hm:0 ≤ a % p * b∧a % p * b ≤ 20:=by
  refine ⟨Int.mul_nonneg hr (by omega),?_⟩
  have:=Int.mul_le_mul (show a % p ≤ 4 by omega) (show b ≤ 5 by omega) (by omega) (by omega)
  omega
 have hw:IntKind.i64.wrap (a % p * b) = a % p * b:=zap (by omega) (by omega)
 have hw2:IntKind.i64.wrap (b + 1) = b + 1:=zap (by omega) (by omega)
 simp (maxSteps:=5000000) -dsimp only [↓gp,gq,reduceCtorEq,reduceEqDiff,reduceLT,reduceLeDiff,reduceAdd,reduceMul,reduceSub,Nat.reduceBEq,Int.reduceToNat,Int.reduceLE,Int.reduceLT,Int.reduceNeg,reduceMod,zac,zad,zab,zaa,gT,TK.isInt,TK.agg,Array.toList,h1a,h5a,h6a,hw,hw2,zdV hm.1]
 refine ⟨fun h=>⟨by omega,fun h1=>?_,fun h1=>zag (b + 1) ⟨(by (first | (simp (maxSteps:=5000000) -dsimp only [gr,reduceEqDiff,reduceLT,reduceAdd,reduceMod,Nat.reduceBEq,zaa,zac,zad,zab,h1a,h5a,h6a,hw2];first | done | rfl | (simp;done)) | assumption | rfl)),(by (first | (simp (maxSteps:=5000000) -dsimp only [gr,reduceEqDiff,reduceLT,reduceAdd,reduceMod,Nat.reduceBEq,zaa,zac,zad,zab,h1a,h5a,h6a,hw2];first | done | rfl | (simp;done)) | assumption | rfl)),(by (first | (simp (maxSteps:=5000000) -dsimp only [gr,reduceEqDiff,reduceLT,reduceAdd,reduceMod,Nat.reduceBEq,zaa,zac,zad,zab,h1a,h5a,h6a,hw2];first | done | rfl | (simp;done)) | assumption | rfl)),⟨by omega,by omega,?_⟩⟩ (by first | omega | (simp only;omega) | (dsimp only;omega) | (show _ < _;simp;omega))⟩,fun h=>?_⟩
 ·have h1:=beq_iff_eq.1 h1
  rw [hv,zjt h,if_pos h1]
 ·have h1:¬ a % p * b % p = 1:=by simpa using h1
  rw [hv,zjt h,if_neg h1]
 ·have:(p - b).toNat = 0:=by omega
  rw [hv,this];rfl
theorem zvb (p:Int) {r:List Int} {j:Nat} (h:j < r.length):(r.map fun x=>x % p).getD j 0 = r.getD j 0 % p:=by simp [List.getD,h]
theorem zq7 (p:Int) {M:Mat} {i:Nat} (h:i < M.length):zge p (M.take i) ++ [(M.getD i []).map fun x=>x % p] = zge p (M.take (i + 1)):=by
 rw [zba [] h];simp [zge]
theorem zhi (p:Int) {M:Mat} {i:Nat} (h:i ≤ M.length):(zge p (M.take i)).length = i:=by simp [zge];omega
theorem ziW (M:Mat) (p:Int) (hp:isP p = true) (hM:M.length ≤ 900) (hr:∀ i,i < M.length→(M.getD i []).length ≤ 1000):AC Tryz.prog 244 [zvj M,int p] (.tb 25 3 ((zge p M).map iL)):=by
 refine AC.go (rs:=[.tmp 4]) za3 zav Tryz.func244 rfl rfl rfl (by kernel_rfl) fun hl=>?_
 simp (maxSteps:=5000000) -dsimp only [↓gp,gq,reduceCtorEq,reduceEqDiff,reduceLT,reduceLeDiff,reduceAdd,reduceMul,reduceSub,Nat.reduceBEq,Int.reduceToNat,Int.reduceLE,Int.reduceLT,Int.reduceNeg,reduceMod,zac,zad,zab,zaa,gT,TK.isInt,TK.agg,Array.toList]
 refine ⟨by omega,by omega,?_⟩
 refine zuJ (k:=12) (v:=1) (e:=25) (e2:=3) (n:=M.length) (by simp (maxSteps:=5000000) -dsimp only [gr,reduceEqDiff,reduceLT,reduceAdd,reduceMod,Nat.reduceBEq,zaa,zac,zad,zab]) (fun j=>by simp (maxSteps:=5000000) -dsimp only [gr,reduceEqDiff,reduceLT,reduceAdd,reduceMod,Nat.reduceBEq,zaa,zac,zad,zab]) (fun (i:Nat) s=>s.sl 0 = zvj M∧s.sl 1 = int p∧s.sl 5 = .own 12 1∧s.sl 13 = zvj M∧s.sl 14 = int M.length∧s.sl 15 = int i∧(i ≤ M.length∧TabP s.rw 12 1 25 3 M.length i (zge p (M.take i)))) (fun i=>M.length - i) (0) (fun sX htX hslX hoX=>(by refine ⟨?_,?_,?_,?_,?_,?_,⟨by omega,htX⟩⟩ <;> (first | (simp (maxSteps:=5000000) -dsimp only [gr,reduceEqDiff,reduceLT,reduceAdd,reduceMod,Nat.reduceBEq,zaa,zac,zad,zab,hslX,hoX];first | done | rfl | (simp;done)) | assumption | rfl))) ?_
 intro i sa ⟨h0a,h1a,h5a,h13a,h14a,h15a,hIa⟩
 obtain ⟨hi,ht⟩:=hIa
 simp (maxSteps:=5000000) -dsimp only [↓gp,gq,reduceCtorEq,reduceEqDiff,reduceLT,reduceLeDiff,reduceAdd,reduceMul,reduceSub,Nat.reduceBEq,Int.reduceToNat,Int.reduceLE,Int.reduceLT,Int.reduceNeg,reduceMod,zac,zad,zab,zaa,gT,TK.isInt,TK.agg,Array.toList,h0a,h1a,h5a,h13a,h14a,h15a,ht.top,zbs]
 refine ⟨fun h=>⟨h,h,by have:=hr i h;omega,by have:=hr i h;omega,h,by omega,?_⟩,fun h=>?_⟩
 ·have hri:=hr i h
  have hlen:=zhi p hi
  generalize hrow:M.getD i [] = row at *
  refine zqI (k:=12) (v:=1) (e:=25) (e2:=3) (n:=M.length) (i:=i) (d:=24) (vd:=(sa.rw 24).ver + 1) (M:=zge p (M.take i)) (r:=List.replicate row.length 0) (by simp (maxSteps:=5000000) -dsimp only [gr,reduceEqDiff,reduceLT,reduceAdd,reduceMod,Nat.reduceBEq,zaa,zac,zad,zab,ht.top]) hlen (fun j hj=>by simp (maxSteps:=5000000) -dsimp only [gr,reduceEqDiff,reduceLT,reduceAdd,reduceMod,Nat.reduceBEq,zaa,zac,zad,zab,ht.row j hj]) (fun j hj=>by simp (maxSteps:=5000000) -dsimp only [gr,reduceEqDiff,reduceLT,reduceAdd,reduceMod,Nat.reduceBEq,zaa,zac,zad,zab,ht.rest j hj]) (by simp (maxSteps:=5000000) -dsimp only [gr,reduceEqDiff,reduceLT,reduceAdd,reduceMod,Nat.reduceBEq,zaa,zac,zad,zab]) (by decide) (by decide) h (fun (j:Nat) s=>s.sl 0 = zvj M∧s.sl 1 = int p∧s.sl 5 = .own 12 1∧s.sl 13 = zvj M∧s.sl 14 = int M.length∧s.sl 15 = int i∧s.sl 6 = int i∧s.sl 7 = zaN row∧s.sl 26 = zaN row∧s.sl 27 = int row.length∧s.sl 28 = int j∧(j ≤ row.length∧TabP s.rw 12 1 25 3 M.length (i + 1) (zge p (M.take i) ++ [prt (row.map fun x=>x % p) (List.replicate row.length 0) j]))) (fun j=>row.length - j) (0) (fun sX htX hslX hoX=>(by refine ⟨?_,?_,?_,?_,?_,?_,?_,?_,?_,?_,?_,⟨by omega,by rw [zet];exact htX⟩⟩ <;> (first | (simp (maxSteps:=5000000) -dsimp only [gr,reduceEqDiff,reduceLT,reduceAdd,reduceMod,Nat.reduceBEq,zaa,zac,zad,zab,hslX,hoX,h0a,h1a,h5a,h13a,h14a,h15a];first | done | rfl | (simp;done)) | assumption | rfl))) ?_
  intro j sb ⟨h0b,h1b,h5b,h13b,h14b,h15b,h6b,h7b,h26b,h27b,h28b,hIb⟩
  obtain ⟨hj,ht2⟩:=hIb
  have hrr:=ht2.row i (by omega)
  rw [zqJ hlen] at hrr
  have hpl:∀ t,(prt (row.map fun x=>x % p) (List.replicate row.length 0) t).length = row.length:=fun t=>by rw [zcI (by simp)];simp
  simp (maxSteps:=5000000) -dsimp only [↓gp,gq,reduceCtorEq,reduceEqDiff,reduceLT,reduceLeDiff,reduceAdd,reduceMul,reduceSub,Nat.reduceBEq,Int.reduceToNat,Int.reduceLE,Int.reduceLT,Int.reduceNeg,reduceMod,zac,zad,zab,zaa,gT,TK.isInt,TK.agg,Array.toList,h0b,h1b,h5b,h13b,h14b,h15b,h6b,h7b,h26b,h27b,h28b,ht2.top,zkT,hrr,hpl,zbs]
  refine ⟨fun h2=>⟨h2,h2,by kernel_rfl,h,h,zaf (zfR _ p hp) ?_⟩,fun h2=>?_⟩
  ·simp (maxSteps:=5000000) -dsimp only [↓gp,gq,reduceCtorEq,reduceEqDiff,reduceLT,reduceLeDiff,reduceAdd,reduceMul,reduceSub,Nat.reduceBEq,Int.reduceToNat,Int.reduceLE,Int.reduceLT,Int.reduceNeg,reduceMod,zac,zad,zab,zaa,gT,TK.isInt,TK.agg,Array.toList,h0b,h1b,h5b,h13b,h14b,h15b,h6b,h7b,h26b,h27b,h28b,ht2.top,zkT,hrr,hpl,zbs]
   refine ⟨h2,by omega,by kernel_rfl,zag (j + 1) ⟨(by (first | (simp (maxSteps:=5000000) -dsimp only [gr,reduceEqDiff,reduceLT,reduceAdd,reduceMod,Nat.reduceBEq,zaa,zac,zad,zab,h0b,h1b,h5b,h13b,h14b,h15b,h6b,h7b,h26b,h27b,h28b,zae h2 (by omega)];first | done | rfl | (simp;done)) | assumption | rfl)),(by (first | (simp (maxSteps:=5000000) -dsimp only [gr,reduceEqDiff,reduceLT,reduceAdd,reduceMod,Nat.reduceBEq,zaa,zac,zad,zab,h0b,h1b,h5b,h13b,h14b,h15b,h6b,h7b,h26b,h27b,h28b,zae h2 (by omega)];first | done | rfl | (simp;done)) | assumption | rfl)),(by (first | (simp (maxSteps:=5000000) -dsimp only [gr,reduceEqDiff,reduceLT,reduceAdd,reduceMod,Nat.reduceBEq,zaa,zac,zad,zab,h0b,h1b,h5b,h13b,h14b,h15b,h6b,h7b,h26b,h27b,h28b,zae h2 (by omega)];first | done | rfl | (simp;done)) | assumption | rfl)),(by (first | (simp (maxSteps:=5000000) -dsimp only [gr,reduceEqDiff,reduceLT,reduceAdd,reduceMod,Nat.reduceBEq,zaa,zac,zad,zab,h0b,h1b,h5b,h13b,h14b,h15b,h6b,h7b,h26b,h27b,h28b,zae h2 (by omega)];first | done | rfl | (simp;done)) | assumption | rfl)),(by (first | (simp (maxSteps:=5000000) -dsimp only [gr,reduceEqDiff,reduceLT,reduceAdd,reduceMod,Nat.reduceBEq,zaa,zac,zad,zab,h0b,h1b,h5b,h13b,h14b,h15b,h6b,h7b,h26b,h27b,h28b,zae h2 (by omega)];first | done | rfl | (simp;done)) | assumption | rfl)),(by (first | (simp (maxSteps:=5000000) -dsimp only [gr,reduceEqDiff,reduceLT,reduceAdd,reduceMod,Nat.reduceBEq,zaa,zac,zad,zab,h0b,h1b,h5b,h13b,h14b,h15b,h6b,h7b,h26b,h27b,h28b,zae h2 (by omega)];first | done | rfl | (simp;done)) | assumption | rfl)),(by (first | (simp (maxSteps:=5000000) -dsimp only [gr,reduceEqDiff,reduceLT,reduceAdd,reduceMod,Nat.reduceBEq,zaa,zac,zad,zab,h0b,h1b,h5b,h13b,h14b,h15b,h6b,h7b,h26b,h27b,h28b,zae h2 (by omega)];first | done | rfl | (simp;done)) | assumption | rfl)),(by (first | (simp (maxSteps:=5000000) -dsimp only [gr,reduceEqDiff,reduceLT,reduceAdd,reduceMod,Nat.reduceBEq,zaa,zac,zad,zab,h0b,h1b,h5b,h13b,h14b,h15b,h6b,h7b,h26b,h27b,h28b,zae h2 (by omega)];first | done | rfl | (simp;done)) | assumption | rfl)),(by (first | (simp (maxSteps:=5000000) -dsimp only [gr,reduceEqDiff,reduceLT,reduceAdd,reduceMod,Nat.reduceBEq,zaa,zac,zad,zab,h0b,h1b,h5b,h13b,h14b,h15b,h6b,h7b,h26b,h27b,h28b,zae h2 (by omega)];first | done | rfl | (simp;done)) | assumption | rfl)),(by (first | (simp (maxSteps:=5000000) -dsimp only [gr,reduceEqDiff,reduceLT,reduceAdd,reduceMod,Nat.reduceBEq,zaa,zac,zad,zab,h0b,h1b,h5b,h13b,h14b,h15b,h6b,h7b,h26b,h27b,h28b,zae h2 (by omega)];first | done | rfl | (simp;done)) | assumption | rfl)),(by (first | (simp (maxSteps:=5000000) -dsimp only [gr,reduceEqDiff,reduceLT,reduceAdd,reduceMod,Nat.reduceBEq,zaa,zac,zad,zab,h0b,h1b,h5b,h13b,h14b,h15b,h6b,h7b,h26b,h27b,h28b,zae h2 (by omega)];first | done | rfl | (simp;done)) | assumption | rfl)),⟨by omega,?_⟩⟩ (by first | omega | (simp only;omega) | (dsimp only;omega) | (show _ < _;simp;omega))⟩
   have e:zge p (M.take i) ++ [prt (row.map fun x=>x % p) (List.replicate row.length 0) (j + 1)] = (zge p (M.take i) ++ [prt (row.map fun x=>x % p) (List.replicate row.length 0) j]).set i ((prt (row.map fun x=>x % p) (List.replicate row.length 0) j).set j (row.getD j 0 % p)):=by
    rw [zuK hlen,← zf3 (by simp) (by simpa using h2),zvb p h2]
   rw [e]
   exact ht2.set (by omega) (by simp (maxSteps:=5000000) -dsimp only [gr,reduceEqDiff,reduceLT,reduceAdd,reduceMod,Nat.reduceBEq,zaa,zac,zad,zab,h0b,h1b,h5b,h13b,h14b,h15b,h6b,h7b,h26b,h27b,h28b]) (by simp (maxSteps:=5000000) -dsimp only [gr,reduceEqDiff,reduceLT,reduceAdd,reduceMod,Nat.reduceBEq,zaa,zac,zad,zab,h0b,h1b,h5b,h13b,h14b,h15b,h6b,h7b,h26b,h27b,h28b]) (fun x hx=>by simp (maxSteps:=5000000) -dsimp only [gr,reduceEqDiff,reduceLT,reduceAdd,reduceMod,Nat.reduceBEq,zaa,zac,zad,zab,h0b,h1b,h5b,h13b,h14b,h15b,h6b,h7b,h26b,h27b,h28b,hx])
  ·have:j = row.length:=by omega
   subst this
   refine zag (i + 1) ⟨(by (first | (simp (maxSteps:=5000000) -dsimp only [gr,reduceEqDiff,reduceLT,reduceAdd,reduceMod,Nat.reduceBEq,zaa,zac,zad,zab,h0a,h1a,h5a,h13a,h14a,h15a,h0b,h1b,h5b,h13b,h14b,h15b,h6b,h7b,h26b,h27b,h28b,zae h (by omega)];first | done | rfl | (simp;done)) | assumption | rfl)),(by (first | (simp (maxSteps:=5000000) -dsimp only [gr,reduceEqDiff,reduceLT,reduceAdd,reduceMod,Nat.reduceBEq,zaa,zac,zad,zab,h0a,h1a,h5a,h13a,h14a,h15a,h0b,h1b,h5b,h13b,h14b,h15b,h6b,h7b,h26b,h27b,h28b,zae h (by omega)];first | done | rfl | (simp;done)) | assumption | rfl)),(by (first | (simp (maxSteps:=5000000) -dsimp only [gr,reduceEqDiff,reduceLT,reduceAdd,reduceMod,Nat.reduceBEq,zaa,zac,zad,zab,h0a,h1a,h5a,h13a,h14a,h15a,h0b,h1b,h5b,h13b,h14b,h15b,h6b,h7b,h26b,h27b,h28b,zae h (by omega)];first | done | rfl | (simp;done)) | assumption | rfl)),(by (first | (simp (maxSteps:=5000000) -dsimp only [gr,reduceEqDiff,reduceLT,reduceAdd,reduceMod,Nat.reduceBEq,zaa,zac,zad,zab,h0a,h1a,h5a,h13a,h14a,h15a,h0b,h1b,h5b,h13b,h14b,h15b,h6b,h7b,h26b,h27b,h28b,zae h (by omega)];first | done | rfl | (simp;done)) | assumption | rfl)),(by (first | (simp (maxSteps:=5000000) -dsimp only [gr,reduceEqDiff,reduceLT,reduceAdd,reduceMod,Nat.reduceBEq,zaa,zac,zad,zab,h0a,h1a,h5a,h13a,h14a,h15a,h0b,h1b,h5b,h13b,h14b,h15b,h6b,h7b,h26b,h27b,h28b,zae h (by omega)];first | done | rfl | (simp;done)) | assumption | rfl)),(by (first | (simp (maxSteps:=5000000) -dsimp only [gr,reduceEqDiff,reduceLT,reduceAdd,reduceMod,Nat.reduceBEq,zaa,zac,zad,zab,h0a,h1a,h5a,h13a,h14a,h15a,h0b,h1b,h5b,h13b,h14b,h15b,h6b,h7b,h26b,h27b,h28b,zae h (by omega)];first | done | rfl | (simp;done)) | assumption | rfl)),⟨by omega,?_⟩⟩ (by first | omega | (simp only;omega) | (dsimp only;omega) | (show _ < _;simp;omega))
   have e:prt (row.map fun x=>x % p) (List.replicate row.length 0) row.length = row.map fun x=>x % p:=by
    have:=zf2 (new:=row.map fun x=>x % p) (old:=List.replicate row.length 0) (by simp)
    simpa using this
   have ht3:=ht2
   rw [e,← hrow,zq7 p h] at ht3
   exact ht3.same (by simp (maxSteps:=5000000) -dsimp only [gr,reduceEqDiff,reduceLT,reduceAdd,reduceMod,Nat.reduceBEq,zaa,zac,zad,zab]) (fun x=>by simp (maxSteps:=5000000) -dsimp only [gr,reduceEqDiff,reduceLT,reduceAdd,reduceMod,Nat.reduceBEq,zaa,zac,zad,zab])
 ·have:i = M.length:=by omega
  subst this
  rw [List.take_length] at ht
  exact zg6 ht.done (by decide) (fun j hj=>by have:=List.mem_range.1 hj;omega)
theorem zhh {a b p:Int} (h1:0 ≤ a∧a < p) (h2:0 ≤ b∧b ≤ 5) (hp:p ≤ 5):0 ≤ a * b∧a * b ≤ 25:=by
 refine ⟨Int.mul_nonneg h1.1 h2.1,?_⟩
 have:=Int.mul_le_mul (show a ≤ 5 by omega) h2.2 h2.1 (by omega)
 omega
theorem zBq (l:List Int) (j:Nat):prt l l j = l:=by simp [prt]
theorem zlc (M:Mat) (n a c:Nat) (p:Int) (hp:isP p = true) (hM:MatOk p n M) (ha:a < M.length) (hc:c < n) (hn:n ≤ 1000):AT Tryz.prog 214 [.own 1000000 1,int a,int c,int p] 25 3 (M.map iL) ((zdq p a c M).map iL) .self:=by
 refine AT.goI (rs:=[.tmp 8]) za3 zav Tryz.func214 rfl rfl rfl (by kernel_rfl) (zbd p a c M) fun hl s hs hlow ht=>?_
 have hp2:=zcg hp
 have hlen:=hM.len a ha
 have hres:=hM.res a ha
 have hac:=hres c
 have hra:=ht.row ha
 have hq:∀ i,i < M.length→(List.range M.length).getD i 0 = i:=fun i hi=>by simp [List.getD,hi]
 rw [hq a ha] at hra
 simp (maxSteps:=5000000) -dsimp only [↓gp,gq,reduceCtorEq,reduceEqDiff,reduceLT,reduceLeDiff,reduceAdd,reduceMul,reduceSub,Nat.reduceBEq,Int.reduceToNat,Int.reduceLE,Int.reduceLT,Int.reduceNeg,reduceMod,zac,zad,zab,zaa,gT,TK.isInt,TK.agg,Array.toList,hs,hlow,ht.top,hra,hq a ha]
 refine ⟨ha,ha,by omega,by omega,zaf (zhW _ p hp) ?_⟩
 generalize hb:zlv p ((M.getD a []).getD c 0) = b at *
 have hbb:=zzp hp ((M.getD a []).getD c 0)
 rw [hb] at hbb
 simp (maxSteps:=5000000) -dsimp only [↓gp,gq,reduceCtorEq,reduceEqDiff,reduceLT,reduceLeDiff,reduceAdd,reduceMul,reduceSub,Nat.reduceBEq,Int.reduceToNat,Int.reduceLE,Int.reduceLT,Int.reduceNeg,reduceMod,zac,zad,zab,zaa,gT,TK.isInt,TK.agg,Array.toList,hs,hlow]
 generalize hold:M.getD a [] = old at *
 refine zan (fun (j:Nat) s=>s.sl 0 = .own 1000000 1∧s.sl 1 = int a∧s.sl 2 = int c∧s.sl 3 = int p∧s.sl 9 = int b∧s.sl 10 = int j∧(j ≤ n∧TabI s.rw 1000000 1 25 3 (List.range M.length) (M.set a (prt (scl p b old) old j)))) (fun j=>n - j) (0) (by refine ⟨?_,?_,?_,?_,?_,?_,⟨by omega,by rw [zet,← hold,zb2];exact ht.same (by simp (maxSteps:=5000000) -dsimp only [gr,reduceEqDiff,reduceLT,reduceAdd,reduceMod,Nat.reduceBEq,zaa,zac,zad,zab]) (fun x=>by simp (maxSteps:=5000000) -dsimp only [gr,reduceEqDiff,reduceLT,reduceAdd,reduceMod,Nat.reduceBEq,zaa,zac,zad,zab])⟩⟩ <;> (first | (simp (maxSteps:=5000000) -dsimp only [gr,reduceEqDiff,reduceLT,reduceAdd,reduceMod,Nat.reduceBEq,zaa,zac,zad,zab,hs];first | done | rfl | (simp;done)) | assumption | rfl)) ?_
 intro j sa ⟨h0a,h1a,h2a,h3a,h9a,h10a,hIa⟩
 obtain ⟨hj,ht1⟩:=hIa
 have hset:a < (M.set a (prt (scl p b old) old j)).length:=by simpa using ha
 have hr1:=ht1.row hset
 have hpl:(prt (scl p b old) old j).length = n:=by rw [zcI (zbO p b old)];exact hlen
 rw [zaE ha,hq a ha] at hr1
 have hpj:=zjq (zbO p b old) (Nat.le_refl j)
 have hoj:=hres j
 have hmb:=zhh hoj ⟨hbb.1,by omega⟩ hp2.2
 have hw:IntKind.i64.wrap (old.getD j 0 * b) = old.getD j 0 * b:=zap (by omega) (by omega)
 simp (maxSteps:=5000000) -dsimp only [↓gp,gq,reduceCtorEq,reduceEqDiff,reduceLT,reduceLeDiff,reduceAdd,reduceMul,reduceSub,Nat.reduceBEq,Int.reduceToNat,Int.reduceLE,Int.reduceLT,Int.reduceNeg,reduceMod,zac,zad,zab,zaa,gT,TK.isInt,TK.agg,Array.toList,h0a,h1a,h2a,h3a,h9a,h10a,ht1.top,hr1,hq a ha,hpl,hpj,hw,zdV hmb.1]
 refine ⟨ha,ha,fun h=>⟨by kernel_rfl,ha,ha,ha,ha,h,h,by omega,h,by omega,by kernel_rfl,?_⟩,fun h=>?_⟩
 ·refine zag (j + 1) ⟨(by (first | (simp (maxSteps:=5000000) -dsimp only [gr,reduceEqDiff,reduceLT,reduceAdd,reduceMod,Nat.reduceBEq,zaa,zac,zad,zab,h0a,h1a,h2a,h3a,h9a,h10a,zae h (by omega)];first | done | rfl | (simp;done)) | assumption | rfl)),(by (first | (simp (maxSteps:=5000000) -dsimp only [gr,reduceEqDiff,reduceLT,reduceAdd,reduceMod,Nat.reduceBEq,zaa,zac,zad,zab,h0a,h1a,h2a,h3a,h9a,h10a,zae h (by omega)];first | done | rfl | (simp;done)) | assumption | rfl)),(by (first | (simp (maxSteps:=5000000) -dsimp only [gr,reduceEqDiff,reduceLT,reduceAdd,reduceMod,Nat.reduceBEq,zaa,zac,zad,zab,h0a,h1a,h2a,h3a,h9a,h10a,zae h (by omega)];first | done | rfl | (simp;done)) | assumption | rfl)),(by (first | (simp (maxSteps:=5000000) -dsimp only [gr,reduceEqDiff,reduceLT,reduceAdd,reduceMod,Nat.reduceBEq,zaa,zac,zad,zab,h0a,h1a,h2a,h3a,h9a,h10a,zae h (by omega)];first | done | rfl | (simp;done)) | assumption | rfl)),(by (first | (simp (maxSteps:=5000000) -dsimp only [gr,reduceEqDiff,reduceLT,reduceAdd,reduceMod,Nat.reduceBEq,zaa,zac,zad,zab,h0a,h1a,h2a,h3a,h9a,h10a,zae h (by omega)];first | done | rfl | (simp;done)) | assumption | rfl)),(by (first | (simp (maxSteps:=5000000) -dsimp only [gr,reduceEqDiff,reduceLT,reduceAdd,reduceMod,Nat.reduceBEq,zaa,zac,zad,zab,h0a,h1a,h2a,h3a,h9a,h10a,zae h (by omega)];first | done | rfl | (simp;done)) | assumption | rfl)),⟨by omega,?_⟩⟩ (by first | omega | (simp only;omega) | (dsimp only;omega) | (show _ < _;simp;omega))
  have e:M.set a (prt (scl p b old) old (j + 1)) = (M.set a (prt (scl p b old) old j)).set a ((prt (scl p b old) old j).set j (old.getD j 0 * b % p)):=by
   rw [znX,← zf3 (zbO p b old) (by omega),zfp p b (by omega)]
  rw [e]
  refine ht1.set hset (by simp (maxSteps:=5000000) -dsimp only [gr,reduceEqDiff,reduceLT,reduceAdd,reduceMod,Nat.reduceBEq,zaa,zac,zad,zab,h0a,h1a,h2a,h3a,h9a,h10a]) ?_ (fun x hx=>?_)
  ·rw [hq a ha];simp (maxSteps:=5000000) -dsimp only [gr,reduceEqDiff,reduceLT,reduceAdd,reduceMod,Nat.reduceBEq,zaa,zac,zad,zab,h0a,h1a,h2a,h3a,h9a,h10a]
  ·rw [hq a ha] at hx
   simp (maxSteps:=5000000) -dsimp only [gr,reduceEqDiff,reduceLT,reduceAdd,reduceMod,Nat.reduceBEq,zaa,zac,zad,zab,h0a,h1a,h2a,h3a,h9a,h10a,hx]
 have:j = n:=by omega
 subst this
 have hend:prt (scl p b old) old j = scl p b old:=by rw [← hlen];exact zf2 (zbO p b old)
 rw [hend] at ht1
 have hclr:M.set a (scl p b old) = zqR p a c M:=by unfold zqR;rw [hold,hb]
 rw [hclr] at ht1
 have hM1:=zr7 (p:=p) (n:=j) (at':=a) (col:=c) (by omega) hM ha
 have hl1:(zqR p a c M).length = M.length:=zcJ p a c M
 have hgoal:zdq p a c M = zfq p a c (zqR p a c M) M.length:=rfl
 rw [hgoal]
 generalize zqR p a c M = M1 at *
 refine zan (fun (i:Nat) s=>s.sl 0 = .own 1000000 1∧s.sl 1 = int a∧s.sl 2 = int c∧s.sl 3 = int p∧s.sl 11 = int i∧(i ≤ M.length∧TabI s.rw 1000000 1 25 3 (List.range M.length) (zfq p a c M1 i))) (fun i=>M.length - i) (0) (by refine ⟨?_,?_,?_,?_,?_,⟨by omega,by rw [zqS];exact ht1.same (by simp (maxSteps:=5000000) -dsimp only [gr,reduceEqDiff,reduceLT,reduceAdd,reduceMod,Nat.reduceBEq,zaa,zac,zad,zab]) (fun x=>by simp (maxSteps:=5000000) -dsimp only [gr,reduceEqDiff,reduceLT,reduceAdd,reduceMod,Nat.reduceBEq,zaa,zac,zad,zab])⟩⟩ <;> (first | (simp (maxSteps:=5000000) -dsimp only [gr,reduceEqDiff,reduceLT,reduceAdd,reduceMod,Nat.reduceBEq,zaa,zac,zad,zab,h0a,h1a,h2a,h3a,h9a,h10a];first | done | rfl | (simp;done)) | assumption | rfl)) ?_
 intro i sb ⟨h0b,h1b,h2b,h3b,h11b,hIb⟩
 obtain ⟨hi,ht2⟩:=hIb
 have hlN:(zfq p a c M1 i).length = M.length:=by rw [zbG,hl1]
 simp (maxSteps:=5000000) -dsimp only [↓gp,gq,reduceCtorEq,reduceEqDiff,reduceLT,reduceLeDiff,reduceAdd,reduceMul,reduceSub,Nat.reduceBEq,Int.reduceToNat,Int.reduceLE,Int.reduceLT,Int.reduceNeg,reduceMod,zac,zad,zab,zaa,gT,TK.isInt,TK.agg,Array.toList,h0b,h1b,h2b,h3b,h11b,ht2.top]
 refine ⟨fun h=>?_,fun h=>?_⟩
 ·have hi1:i < M1.length:=by omega
  have hr2:=ht2.row (i:=i) (by omega)
  rw [zhM p a c hi1 (Nat.le_refl i),hq i h] at hr2
  have hl2:=hM1.len i hi1
  have hres2:=hM1.res i hi1
  generalize hold2:M1.getD i [] = old2 at *
  simp (maxSteps:=5000000) -dsimp only [↓gp,gq,reduceCtorEq,reduceEqDiff,reduceLT,reduceLeDiff,reduceAdd,reduceMul,reduceSub,Nat.reduceBEq,Int.reduceToNat,Int.reduceLE,Int.reduceLT,Int.reduceNeg,reduceMod,zac,zad,zab,zaa,gT,TK.isInt,TK.agg,Array.toList,h0b,h1b,h2b,h3b,h11b,ht2.top,hr2,hq i h]
  refine ⟨h,h,by omega,by omega,?_⟩
  have hf:=hres2 c
  generalize hfe:old2.getD c 0 = f at *
  have hra1:a < M1.length:=by omega
  have hnew:(zgd p a c M1 i).length = old2.length:=by
   rw [(znY (p:=p) (by omega) hM1 hi1).1,hl2]
  refine zan (fun (t:Nat) s=>s.sl 0 = .own 1000000 1∧s.sl 1 = int a∧s.sl 2 = int c∧s.sl 3 = int p∧s.sl 11 = int i∧s.sl 12 = int f∧s.sl 13 = int t∧(t ≤ old2.length∧TabI s.rw 1000000 1 25 3 (List.range M.length) ((zfq p a c M1 i).set i (prt (zgd p a c M1 i) old2 t)))) (fun t=>old2.length - t) (0) (by refine ⟨?_,?_,?_,?_,?_,?_,?_,⟨by omega,(ht2.same (by simp (maxSteps:=5000000) -dsimp only [gr,reduceEqDiff,reduceLT,reduceAdd,reduceMod,Nat.reduceBEq,zaa,zac,zad,zab]) (fun x=>by simp (maxSteps:=5000000) -dsimp only [gr,reduceEqDiff,reduceLT,reduceAdd,reduceMod,Nat.reduceBEq,zaa,zac,zad,zab])).to (by rw [zet,← hold2,← zhM p a c hi1 (Nat.le_refl i),zb2])⟩⟩ <;> (first | (simp (maxSteps:=5000000) -dsimp only [gr,reduceEqDiff,reduceLT,reduceAdd,reduceMod,Nat.reduceBEq,zaa,zac,zad,zab,h0b,h1b,h2b,h3b,h11b];first | done | rfl | (simp;done)) | assumption | rfl)) ?_
  intro t sc ⟨h0c,h1c,h2c,h3c,h11c,h12c,h13c,hIc⟩
  obtain ⟨ht',ht3⟩:=hIc
  have hls:((zfq p a c M1 i).set i (prt (zgd p a c M1 i) old2 t)).length = M.length:=by rw [List.length_set,hlN]
  have hr3:=ht3.row (i:=i) (by omega)
  rw [zaE (by omega),hq i h] at hr3
  have hpl3:(prt (zgd p a c M1 i) old2 t).length = old2.length:=zcI hnew t
  have hpj3:=zjq hnew (Nat.le_refl t)
  simp (maxSteps:=5000000) -dsimp only [↓gp,gq,reduceCtorEq,reduceEqDiff,reduceLT,reduceLeDiff,reduceAdd,reduceMul,reduceSub,Nat.reduceBEq,Int.reduceToNat,Int.reduceLE,Int.reduceLT,Int.reduceNeg,reduceMod,zac,zad,zab,zaa,gT,TK.isInt,TK.agg,Array.toList,h0c,h1c,h2c,h3c,h11c,h12c,h13c,ht3.top,hr3,hq i h,hpl3]
  refine ⟨h,h,fun h2=>⟨fun hne=>?_,fun heq=>?_⟩,fun h2=>?_⟩
  ·have hia:¬ i = a:=by
    intro e
    simp [e] at hne
   have hr4:=ht3.row (i:=a) (by omega)
   rw [zbi hia,zzr p a c i hra1,hq a ha] at hr4
   have hla:=hM1.len a hra1
   have hresa:=hM1.res a hra1
   have hcI:zgd p a c M1 i = sbt p f (M1.getD a []) old2:=by unfold zgd;rw [if_neg hia,hold2,hfe]
   generalize hpiv:M1.getD a [] = piv at *
   have hft:=zhh hf ⟨(hresa t).1,by have:=(hresa t).2;omega⟩ hp2.2
   have hot:=hres2 t
   have hw3:IntKind.i64.wrap (f * piv.getD t 0) = f * piv.getD t 0:=zap (by omega) (by omega)
   have hw4:IntKind.i64.wrap (old2.getD t 0 - f * piv.getD t 0) = old2.getD t 0 - f * piv.getD t 0:=zap (by omega) (by omega)
   simp (maxSteps:=5000000) -dsimp only [↓gp,gq,reduceCtorEq,reduceEqDiff,reduceLT,reduceLeDiff,reduceAdd,reduceMul,reduceSub,Nat.reduceBEq,Int.reduceToNat,Int.reduceLE,Int.reduceLT,Int.reduceNeg,reduceMod,zac,zad,zab,zaa,gT,TK.isInt,TK.agg,Array.toList,h0c,h1c,h2c,h3c,h11c,h12c,h13c,ht3.top,hr3,hq i h,hpl3,hr4,hq a ha,hpj3,hw3,hw4]
   refine ⟨by kernel_rfl,h,h,h,h,h2,h2,ha,ha,by omega,by omega,zaf (zev _ p hp) ?_⟩
   simp (maxSteps:=5000000) -dsimp only [↓gp,gq,reduceCtorEq,reduceEqDiff,reduceLT,reduceLeDiff,reduceAdd,reduceMul,reduceSub,Nat.reduceBEq,Int.reduceToNat,Int.reduceLE,Int.reduceLT,Int.reduceNeg,reduceMod,zac,zad,zab,zaa,gT,TK.isInt,TK.agg,Array.toList,h0c,h1c,h2c,h3c,h11c,h12c,h13c,ht3.top,hr3,hq i h,hpl3,hr4,hq a ha,hpj3,hw3,hw4]
   refine ⟨h2,by omega,by kernel_rfl,zag (t + 1) ⟨(by (first | (simp (maxSteps:=5000000) -dsimp only [gr,reduceEqDiff,reduceLT,reduceAdd,reduceMod,Nat.reduceBEq,zaa,zac,zad,zab,h0c,h1c,h2c,h3c,h11c,h12c,h13c,zae h2 (by omega)];first | done | rfl | (simp;done)) | assumption | rfl)),(by (first | (simp (maxSteps:=5000000) -dsimp only [gr,reduceEqDiff,reduceLT,reduceAdd,reduceMod,Nat.reduceBEq,zaa,zac,zad,zab,h0c,h1c,h2c,h3c,h11c,h12c,h13c,zae h2 (by omega)];first | done | rfl | (simp;done)) | assumption | rfl)),(by (first | (simp (maxSteps:=5000000) -dsimp only [gr,reduceEqDiff,reduceLT,reduceAdd,reduceMod,Nat.reduceBEq,zaa,zac,zad,zab,h0c,h1c,h2c,h3c,h11c,h12c,h13c,zae h2 (by omega)];first | done | rfl | (simp;done)) | assumption | rfl)),(by (first | (simp (maxSteps:=5000000) -dsimp only [gr,reduceEqDiff,reduceLT,reduceAdd,reduceMod,Nat.reduceBEq,zaa,zac,zad,zab,h0c,h1c,h2c,h3c,h11c,h12c,h13c,zae h2 (by omega)];first | done | rfl | (simp;done)) | assumption | rfl)),(by (first | (simp (maxSteps:=5000000) -dsimp only [gr,reduceEqDiff,reduceLT,reduceAdd,reduceMod,Nat.reduceBEq,zaa,zac,zad,zab,h0c,h1c,h2c,h3c,h11c,h12c,h13c,zae h2 (by omega)];first | done | rfl | (simp;done)) | assumption | rfl)),(by (first | (simp (maxSteps:=5000000) -dsimp only [gr,reduceEqDiff,reduceLT,reduceAdd,reduceMod,Nat.reduceBEq,zaa,zac,zad,zab,h0c,h1c,h2c,h3c,h11c,h12c,h13c,zae h2 (by omega)];first | done | rfl | (simp;done)) | assumption | rfl)),(by (first | (simp (maxSteps:=5000000) -dsimp only [gr,reduceEqDiff,reduceLT,reduceAdd,reduceMod,Nat.reduceBEq,zaa,zac,zad,zab,h0c,h1c,h2c,h3c,h11c,h12c,h13c,zae h2 (by omega)];first | done | rfl | (simp;done)) | assumption | rfl)),⟨by omega,?_⟩⟩ (by first | omega | (simp only;omega) | (dsimp only;omega) | (show _ < _;simp;omega))⟩
   have e:(zfq p a c M1 i).set i (prt (zgd p a c M1 i) old2 (t + 1)) = ((zfq p a c M1 i).set i (prt (zgd p a c M1 i) old2 t)).set i ((prt (zgd p a c M1 i) old2 t).set t ((old2.getD t 0 - f * piv.getD t 0) % p)):=by
    rw [znX,← zf3 hnew h2,← zc7 p f (piv:=piv) h2,hcI]
   rw [e]
   refine ht3.set (by omega) (by simp (maxSteps:=5000000) -dsimp only [gr,reduceEqDiff,reduceLT,reduceAdd,reduceMod,Nat.reduceBEq,zaa,zac,zad,zab,h0c,h1c,h2c,h3c,h11c,h12c,h13c]) ?_ (fun x hx=>?_)
   ·rw [hq i h];simp (maxSteps:=5000000) -dsimp only [gr,reduceEqDiff,reduceLT,reduceAdd,reduceMod,Nat.reduceBEq,zaa,zac,zad,zab,h0c,h1c,h2c,h3c,h11c,h12c,h13c]
   ·rw [hq i h] at hx
    simp (maxSteps:=5000000) -dsimp only [gr,reduceEqDiff,reduceLT,reduceAdd,reduceMod,Nat.reduceBEq,zaa,zac,zad,zab,h0c,h1c,h2c,h3c,h11c,h12c,h13c,hx]
  ·have hia:i = a:=by
    have h9:(i:Int) = a:=by simpa using heq
    omega
   have hcI:zgd p a c M1 i = old2:=by unfold zgd;rw [if_pos hia,hold2]
   have ht4:=ht3
   rw [hcI,zBq,← hcI,ze9 p a c hi1] at ht4
   exact zag (i + 1) (by refine ⟨?_,?_,?_,?_,?_,⟨by omega,ht4.same (by simp (maxSteps:=5000000) -dsimp only [gr,reduceEqDiff,reduceLT,reduceAdd,reduceMod,Nat.reduceBEq,zaa,zac,zad,zab]) (fun x=>by simp (maxSteps:=5000000) -dsimp only [gr,reduceEqDiff,reduceLT,reduceAdd,reduceMod,Nat.reduceBEq,zaa,zac,zad,zab])⟩⟩ <;> (first | (simp (maxSteps:=5000000) -dsimp only [gr,reduceEqDiff,reduceLT,reduceAdd,reduceMod,Nat.reduceBEq,zaa,zac,zad,zab,h0b,h1b,h2b,h3b,h11b,h0c,h1c,h2c,h3c,h11c,h12c,h13c,zae h (by omega)];first | done | rfl | (simp;done)) | assumption | rfl)) (by first | omega | (simp only;omega) | (dsimp only;omega) | (show _ < _;simp;omega))
  ·have:t = old2.length:=by omega
   have ht4:=ht3
   rw [this,zf2 hnew,ze9 p a c hi1] at ht4
   exact zag (i + 1) (by refine ⟨?_,?_,?_,?_,?_,⟨by omega,ht4.same (by simp (maxSteps:=5000000) -dsimp only [gr,reduceEqDiff,reduceLT,reduceAdd,reduceMod,Nat.reduceBEq,zaa,zac,zad,zab]) (fun x=>by simp (maxSteps:=5000000) -dsimp only [gr,reduceEqDiff,reduceLT,reduceAdd,reduceMod,Nat.reduceBEq,zaa,zac,zad,zab])⟩⟩ <;> (first | (simp (maxSteps:=5000000) -dsimp only [gr,reduceEqDiff,reduceLT,reduceAdd,reduceMod,Nat.reduceBEq,zaa,zac,zad,zab,h0b,h1b,h2b,h3b,h11b,h0c,h1c,h2c,h3c,h11c,h12c,h13c,zae h (by omega)];first | done | rfl | (simp;done)) | assumption | rfl)) (by first | omega | (simp only;omega) | (dsimp only;omega) | (show _ < _;simp;omega))
 ·have:i = M.length:=by omega
  rw [this] at ht2
  exact zkR (ht2.same (by simp (maxSteps:=5000000) -dsimp only [gr,reduceEqDiff,reduceLT,reduceAdd,reduceMod,Nat.reduceBEq,zaa,zac,zad,zab]) (fun x=>by simp (maxSteps:=5000000) -dsimp only [gr,reduceEqDiff,reduceLT,reduceAdd,reduceMod,Nat.reduceBEq,zaa,zac,zad,zab])) (List.Perm.refl _)
end Go.Proofs.YtpnknaaehcljoaaGreat

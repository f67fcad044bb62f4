/- DERIVED by an AI agent. -/
import Derived.Test.YtpnknaaehcljoaaGreatQ6
import Derived.Test.YtpnknaaehcljoaaGreatQ5
import Derived.Test.YtpnknaaehcljoaaGreatQ3
import Derived.Test.YtpnknaaehcljoaaGreatQ4
namespace Go.Proofs.YtpnknaaehcljoaaGreat
open Go.Abs
open Nat (reduceEqDiff reduceMod reduceAdd reduceLT reduceLeDiff reduceSub reduceMul)
set_option linter.unusedSimpArgs false
set_option linter.unusedVariables false
theorem zee (bs:List Int) (hbs:bs.length ≤ 9223372036854775806):ADr Tryz.prog 19 [.sl false 1 (kL .u8 bs)] (kcx fun n xs=>xs.length ≤ 450):=by
 refine AG.go (rs:=[.cell 2 36]) zbg zay Tryz.func19 rfl rfl rfl (by kernel_rfl) fun hl _ s hs hR=>?_
 simp (maxSteps:=5000000) -dsimp only [↓gp,gq,reduceCtorEq,reduceEqDiff,reduceLT,reduceLeDiff,reduceAdd,reduceMul,reduceSub,Nat.reduceBEq,Int.reduceToNat,Int.reduceLE,Int.reduceLT,Int.reduceNeg,reduceMod,zac,zad,zab,zaa,gT,TK.isInt,TK.agg,Array.toList,hs,hR]
 refine zfn (zfl bs) (.one (.sl _ _ _) .nil) fun h0=>?_
 simp (maxSteps:=5000000) -dsimp only [↓gp,gq,reduceCtorEq,reduceEqDiff,reduceLT,reduceLeDiff,reduceAdd,reduceMul,reduceSub,Nat.reduceBEq,Int.reduceToNat,Int.reduceLE,Int.reduceLT,Int.reduceNeg,reduceMod,zac,zad,zab,zaa,gT,TK.isInt,TK.agg,Array.toList,hs,hR]
 refine zaK (zf5 bs hbs) .none (by simp (maxSteps:=5000000) -dsimp only [gr,reduceEqDiff,reduceLT,reduceAdd,reduceMod,Nat.reduceBEq,zaa,zac,zad,zab,hR] <;> rfl) (GvL.one (zbN (by simp (maxSteps:=5000000) -dsimp only [gr,reduceEqDiff,reduceLT,reduceAdd,reduceMod,Nat.reduceBEq,zaa,zac,zad,zab,hR] <;> rfl)) (by repeat (first | exact GvL.nil | refine GvL.one (GvA.v _) ?_ | refine GvL.one (GvA.sl _ _ _) ?_))) rfl (fun _ h=>by cases h) fun rv i1 g1 ⟨n,xs,hrv,hq⟩=>?_
 subst hrv
 simp (maxSteps:=5000000) -dsimp only [↓gp,gq,reduceCtorEq,reduceEqDiff,reduceLT,reduceLeDiff,reduceAdd,reduceMul,reduceSub,Nat.reduceBEq,Int.reduceToNat,Int.reduceLE,Int.reduceLT,Int.reduceNeg,reduceMod,zac,zad,zab,zaa,gT,TK.isInt,TK.agg,Array.toList,hs,hR]
 exact ⟨_,_,⟨n,xs,rfl,hq.2.2⟩,.one (.ag (.cons (.im _) (.cons (.fr (by simp (maxSteps:=5000000) -dsimp only [gr,reduceEqDiff,reduceLT,reduceAdd,reduceMod,Nat.reduceBEq,zaa,zac,zad,zab] <;> rfl) (by decide)) .nil))),by simp⟩
theorem zhf (bs:List Int) (hbs:bs.length ≤ 9223372036854775806):ADr Tryz.prog 28 [.sl false 1 (kL .u8 bs)] (kcx fun n xs=>xs.length ≤ 450):=by
 refine AG.go (rs:=[.cell 2 27]) zbg zay Tryz.func28 rfl rfl rfl (by kernel_rfl) fun hl _ s hs hR=>?_
 simp (maxSteps:=5000000) -dsimp only [↓gp,gq,reduceCtorEq,reduceEqDiff,reduceLT,reduceLeDiff,reduceAdd,reduceMul,reduceSub,Nat.reduceBEq,Int.reduceToNat,Int.reduceLE,Int.reduceLT,Int.reduceNeg,reduceMod,zac,zad,zab,zaa,gT,TK.isInt,TK.agg,Array.toList,hs,hR]
 refine zfn (zfl bs) (.one (.sl _ _ _) .nil) fun h0=>?_
 simp (maxSteps:=5000000) -dsimp only [↓gp,gq,reduceCtorEq,reduceEqDiff,reduceLT,reduceLeDiff,reduceAdd,reduceMul,reduceSub,Nat.reduceBEq,Int.reduceToNat,Int.reduceLE,Int.reduceLT,Int.reduceNeg,reduceMod,zac,zad,zab,zaa,gT,TK.isInt,TK.agg,Array.toList,hs,hR]
 refine zaK (znL bs hbs) .none (by simp (maxSteps:=5000000) -dsimp only [gr,reduceEqDiff,reduceLT,reduceAdd,reduceMod,Nat.reduceBEq,zaa,zac,zad,zab,hR] <;> rfl) (GvL.one (zbN (by simp (maxSteps:=5000000) -dsimp only [gr,reduceEqDiff,reduceLT,reduceAdd,reduceMod,Nat.reduceBEq,zaa,zac,zad,zab,hR] <;> rfl)) (by repeat (first | exact GvL.nil | refine GvL.one (GvA.v _) ?_ | refine GvL.one (GvA.sl _ _ _) ?_))) rfl (fun _ h=>by cases h) fun rv i1 g1 ⟨n,xs,hrv,hq⟩=>?_
 subst hrv
 simp (maxSteps:=5000000) -dsimp only [↓gp,gq,reduceCtorEq,reduceEqDiff,reduceLT,reduceLeDiff,reduceAdd,reduceMul,reduceSub,Nat.reduceBEq,Int.reduceToNat,Int.reduceLE,Int.reduceLT,Int.reduceNeg,reduceMod,zac,zad,zab,zaa,gT,TK.isInt,TK.agg,Array.toList,hs,hR]
 exact ⟨_,_,⟨n,xs,rfl,hq.2.2⟩,.one (.ag (.cons (.im _) (.cons (.fr (by simp (maxSteps:=5000000) -dsimp only [gr,reduceEqDiff,reduceLT,reduceAdd,reduceMod,Nat.reduceBEq,zaa,zac,zad,zab] <;> rfl) (by decide)) .nil))),by simp⟩
theorem zeO (bs:List Int) (hbs:bs.length ≤ 9223372036854775806):ADr Tryz.prog 31 [.sl false 1 (kL .u8 bs)] (fun rv=>∃ n xs p,rv = .tup [.ag [.im (int n),.fr 3 1 (iL xs)],.im (int p)]∧xs.length ≤ 450):=by
 refine AG.go (rs:=[.cell 2 36,.tmp 3]) zbg zay Tryz.func31 rfl rfl rfl (by kernel_rfl) fun hl _ s hs hR=>?_
 simp (maxSteps:=5000000) -dsimp only [↓gp,gq,reduceCtorEq,reduceEqDiff,reduceLT,reduceLeDiff,reduceAdd,reduceMul,reduceSub,Nat.reduceBEq,Int.reduceToNat,Int.reduceLE,Int.reduceLT,Int.reduceNeg,reduceMod,zac,zad,zab,zaa,gT,TK.isInt,TK.agg,Array.toList,hs,hR]
 refine zfn (zfl bs) (.one (.sl _ _ _) .nil) fun h0=>?_
 simp (maxSteps:=5000000) -dsimp only [↓gp,gq,reduceCtorEq,reduceEqDiff,reduceLT,reduceLeDiff,reduceAdd,reduceMul,reduceSub,Nat.reduceBEq,Int.reduceToNat,Int.reduceLE,Int.reduceLT,Int.reduceNeg,reduceMod,zac,zad,zab,zaa,gT,TK.isInt,TK.agg,Array.toList,hs,hR]
 refine zaK (zf5 bs hbs) .none (by simp (maxSteps:=5000000) -dsimp only [gr,reduceEqDiff,reduceLT,reduceAdd,reduceMod,Nat.reduceBEq,zaa,zac,zad,zab,hR] <;> rfl) (GvL.one (zbN (by simp (maxSteps:=5000000) -dsimp only [gr,reduceEqDiff,reduceLT,reduceAdd,reduceMod,Nat.reduceBEq,zaa,zac,zad,zab,hR] <;> rfl)) (by repeat (first | exact GvL.nil | refine GvL.one (GvA.v _) ?_ | refine GvL.one (GvA.sl _ _ _) ?_))) rfl (fun _ h=>by cases h) fun rv i1 g1 ⟨n,xs,hrv,hq⟩=>?_
 subst hrv
 simp (maxSteps:=5000000) -dsimp only [↓gp,gq,reduceCtorEq,reduceEqDiff,reduceLT,reduceLeDiff,reduceAdd,reduceMul,reduceSub,Nat.reduceBEq,Int.reduceToNat,Int.reduceLE,Int.reduceLT,Int.reduceNeg,reduceMod,zac,zad,zab,zaa,gT,TK.isInt,TK.agg,Array.toList,hs,hR]
 refine ⟨by kernel_rfl,zhN (zbL bs hbs 8 (by decide)) (zfm _) (i:=i1) (h:=g1) (by simp (maxSteps:=5000000) -dsimp only [gr,reduceEqDiff,reduceLT,reduceAdd,reduceMod,Nat.reduceBEq,zaa,zac,zad,zab] <;> rfl) rfl ?_⟩
 obtain ⟨y,j3,g3,hr,hy⟩:=zkO bs 8 i1 g1
 rw [hr]
 have hy66:0 ≤ y∧y < 8:=by obtain ⟨a,b⟩:=hy;omega
 have hw:IntKind.i64.wrap (y - 1) = y - 1:=zat (by omega) (by omega)
 simp (maxSteps:=5000000) -dsimp only [↓gp,gq,reduceCtorEq,reduceEqDiff,reduceLT,reduceLeDiff,reduceAdd,reduceMul,reduceSub,Nat.reduceBEq,Int.reduceToNat,Int.reduceLE,Int.reduceLT,Int.reduceNeg,reduceMod,zac,zad,zab,zaa,gT,TK.isInt,TK.agg,Array.toList,hs,hR,hw,zDQ]
 exact ⟨_,_,⟨n,xs,y - 1,rfl,hq.2.2⟩,.tup (.cons (.ag (.cons (.im _) (.cons (.fr (by simp (maxSteps:=5000000) -dsimp only [gr,reduceEqDiff,reduceLT,reduceAdd,reduceMod,Nat.reduceBEq,zaa,zac,zad,zab] <;> rfl) (by decide)) .nil))) (.cons (.lf (.im _)) .nil)),by simp⟩
theorem zbA (n m:Int) (xs ys:List Int):AC Tryz.prog 32 [.ag [int n,zbj xs],.ag [int m,zbj ys]] (.im (bool (decide (n = m∧xs = ys)))):=by
 refine AC.go (rs:=[.tmp 4]) zbg zay Tryz.func32 rfl rfl rfl (by kernel_rfl) fun hl=>?_
 simp (maxSteps:=5000000) -dsimp only [↓gp,gq,reduceCtorEq,reduceEqDiff,reduceLT,reduceLeDiff,reduceAdd,reduceMul,reduceSub,Nat.reduceBEq,Int.reduceToNat,Int.reduceLE,Int.reduceLT,Int.reduceNeg,reduceMod,zac,zad,zab,zaa,gT,TK.isInt,TK.agg,Array.toList]
 refine ⟨fun h=>zaf (zfk xs ys) ?_,fun h=>?_⟩
 ·have h:n = m:=by simpa using h
  subst h
  simp (maxSteps:=5000000) -dsimp only [↓gp,gq,reduceCtorEq,reduceEqDiff,reduceLT,reduceLeDiff,reduceAdd,reduceMul,reduceSub,Nat.reduceBEq,Int.reduceToNat,Int.reduceLE,Int.reduceLT,Int.reduceNeg,reduceMod,zac,zad,zab,zaa,gT,TK.isInt,TK.agg,Array.toList]
 ·have h:n ≠ m:=by simpa using h
  exact fun e=>h e.1
noncomputable def zGk (n:Int) (xs:List Int):Int:=if zef n xs = true then (if zkW n xs = [] then n else (zaD ((zkW n xs).getD 0 0):Int) - 1) else -1
noncomputable def gmO (n:Int) (xs:List Int):Int:=if zkW n xs = [] then -1 else (zaD ((zkW n xs).getD ((zkW n xs).length - 1) 0):Int)
noncomputable def zEc (n:Int) (xs:List Int):Bool:=zef n xs && decide (gmO n xs ≤ 2)
theorem zzD {n:Int} {xs:List Int} {i:Nat} (h:i < (zkW n xs).length):(zkW n xs).getD i 0 < 64:=(zdN.1 (zax 0 h)).1.1
theorem zgr (n:Int) (xs:List Int):AC Tryz.prog 39 [.ag [int n,zbj xs]] (.im (int (zGk n xs))):=by
 refine AC.go (rs:=[.tmp 2]) zbg zay Tryz.func39 rfl rfl rfl (by kernel_rfl) fun hl=>?_
 simp (maxSteps:=5000000) -dsimp only [↓gp,gq,reduceCtorEq,reduceEqDiff,reduceLT,reduceLeDiff,reduceAdd,reduceMul,reduceSub,Nat.reduceBEq,Int.reduceToNat,Int.reduceLE,Int.reduceLT,Int.reduceNeg,reduceMod,zac,zad,zab,zaa,gT,TK.isInt,TK.agg,Array.toList]
 refine zaf (zbi n xs) ?_
 simp (maxSteps:=5000000) -dsimp only [↓gp,gq,reduceCtorEq,reduceEqDiff,reduceLT,reduceLeDiff,reduceAdd,reduceMul,reduceSub,Nat.reduceBEq,Int.reduceToNat,Int.reduceLE,Int.reduceLT,Int.reduceNeg,reduceMod,zac,zad,zab,zaa,gT,TK.isInt,TK.agg,Array.toList]
 unfold zGk
 refine ⟨fun h=>?_,fun h=>zaf (zdP n xs) ?_⟩
 ·rw [if_neg (fun e=>by rw [e] at h;cases h)]
 ·have h:zef n xs = true:=by simpa using h
  rw [if_pos h]
  have h64:=zzD (n:=n) (xs:=xs) (i:=0)
  generalize zkW n xs = L at *
  simp (maxSteps:=5000000) -dsimp only [↓gp,gq,reduceCtorEq,reduceEqDiff,reduceLT,reduceLeDiff,reduceAdd,reduceMul,reduceSub,Nat.reduceBEq,Int.reduceToNat,Int.reduceLE,Int.reduceLT,Int.reduceNeg,reduceMod,zac,zad,zab,zaa,gT,TK.isInt,TK.agg,Array.toList,zaj]
  refine ⟨fun h0=>?_,fun h0=>?_⟩
  ·rw [if_pos (by cases L with
    | nil=>rfl
    | cons a l=>simp at h0;omega)]
  ·have hp:0 < L.length:=by cases L with
    | nil=>simp at h0
    | cons a l=>simp
   have h64:=h64 hp
   have hge:(ofN L).getD 0 0 = ((L.getD 0 0:Nat):Int):=zaM hp
   have hp6:=zcp h64
   have hw:IntKind.i64.wrap ((zaD (L.getD 0 0):Int) - 1) = (zaD (L.getD 0 0):Int) - 1:=zat (by omega) (by omega)
   rw [if_neg (fun e=>by rw [e] at hp;simp at hp)]
   rw [hge]
   refine ⟨by omega,hp,zaf (zaP _ (by omega)) ?_⟩
   simp (maxSteps:=5000000) -dsimp only [↓gp,gq,reduceCtorEq,reduceEqDiff,reduceLT,reduceLeDiff,reduceAdd,reduceMul,reduceSub,Nat.reduceBEq,Int.reduceToNat,Int.reduceLE,Int.reduceLT,Int.reduceNeg,reduceMod,zac,zad,zab,zaa,gT,TK.isInt,TK.agg,Array.toList,hw]
theorem zeP (n:Int) (xs:List Int):AC Tryz.prog 121 [.ag [int n,zbj xs]] (.im (int (gmO n xs))):=by
 refine AC.go (rs:=[.tmp 2]) zbg zay Tryz.func121 rfl rfl rfl (by kernel_rfl) fun hl=>?_
 simp (maxSteps:=5000000) -dsimp only [↓gp,gq,reduceCtorEq,reduceEqDiff,reduceLT,reduceLeDiff,reduceAdd,reduceMul,reduceSub,Nat.reduceBEq,Int.reduceToNat,Int.reduceLE,Int.reduceLT,Int.reduceNeg,reduceMod,zac,zad,zab,zaa,gT,TK.isInt,TK.agg,Array.toList]
 refine zaf (zdP n xs) ?_
 unfold gmO
 have h64:=fun i=>zzD (n:=n) (xs:=xs) (i:=i)
 have hml:=zA0 n xs
 generalize zkW n xs = L at *
 simp (maxSteps:=5000000) -dsimp only [↓gp,gq,reduceCtorEq,reduceEqDiff,reduceLT,reduceLeDiff,reduceAdd,reduceMul,reduceSub,Nat.reduceBEq,Int.reduceToNat,Int.reduceLE,Int.reduceLT,Int.reduceNeg,reduceMod,zac,zad,zab,zaa,gT,TK.isInt,TK.agg,Array.toList,zaj]
 refine ⟨fun h0=>?_,fun h0=>?_⟩
 ·rw [if_pos (by cases L with
   | nil=>rfl
   | cons a l=>simp at h0;omega)]
 ·have hp:0 < L.length:=by cases L with
   | nil=>simp at h0
   | cons a l=>simp
  have hk:L.length - 1 < L.length:=by omega
  have h64:=h64 _ hk
  have hw:IntKind.i64.wrap ((L.length:Int) - 1) = ((L.length - 1:Nat):Int):=by rw [zat (by omega) (by omega)];omega
  have hge:(ofN L).getD (L.length - 1) 0 = ((L.getD (L.length - 1) 0:Nat):Int):=zaM hk
  rw [if_neg (fun e=>by rw [e] at hp;simp at hp)]
  rw [hw]
  refine ⟨by omega,by omega,by omega,?_⟩
  rw [Int.toNat_natCast,hge]
  refine zaf (zaP _ (by omega)) ?_
  simp (maxSteps:=5000000) -dsimp only [↓gp,gq,reduceCtorEq,reduceEqDiff,reduceLT,reduceLeDiff,reduceAdd,reduceMul,reduceSub,Nat.reduceBEq,Int.reduceToNat,Int.reduceLE,Int.reduceLT,Int.reduceNeg,reduceMod,zac,zad,zab,zaa,gT,TK.isInt,TK.agg,Array.toList,hw]
theorem zcF (n:Int) (xs:List Int):AC Tryz.prog 40 [.ag [int n,zbj xs]] (.im (bool (zEc n xs))):=by
 refine AC.go (rs:=[.tmp 2]) zbg zay Tryz.func40 rfl rfl rfl (by kernel_rfl) fun hl=>?_
 simp (maxSteps:=5000000) -dsimp only [↓gp,gq,reduceCtorEq,reduceEqDiff,reduceLT,reduceLeDiff,reduceAdd,reduceMul,reduceSub,Nat.reduceBEq,Int.reduceToNat,Int.reduceLE,Int.reduceLT,Int.reduceNeg,reduceMod,zac,zad,zab,zaa,gT,TK.isInt,TK.agg,Array.toList]
 refine zaf (zbi n xs) ?_
 simp (maxSteps:=5000000) -dsimp only [↓gp,gq,reduceCtorEq,reduceEqDiff,reduceLT,reduceLeDiff,reduceAdd,reduceMul,reduceSub,Nat.reduceBEq,Int.reduceToNat,Int.reduceLE,Int.reduceLT,Int.reduceNeg,reduceMod,zac,zad,zab,zaa,gT,TK.isInt,TK.agg,Array.toList]
 unfold zEc
 refine ⟨fun h=>zaf (zeP n xs) ?_,fun h=>?_⟩
 ·rw [h];simp (maxSteps:=5000000) -dsimp only [↓gp,gq,reduceCtorEq,reduceEqDiff,reduceLT,reduceLeDiff,reduceAdd,reduceMul,reduceSub,Nat.reduceBEq,Int.reduceToNat,Int.reduceLE,Int.reduceLT,Int.reduceNeg,reduceMod,zac,zad,zab,zaa,gT,TK.isInt,TK.agg,Array.toList]
 ·rw [h];rfl
theorem zzE {l:List Nat} (h:l.Pairwise znS):l.Nodup:=h.imp fun {a b} hab e=>by subst e;exact zgh hab
theorem zzF {a b:List Nat} (ha:a.Pairwise znS) (hb:b.Pairwise znS) (h:∀ s,s ∈ a ↔ s ∈ b):a = b :=
 List.Perm.eq_of_pairwise (fun x y _ _ h1 h2=>by unfold znS at h1 h2;omega) ha hb ((List.perm_ext_iff_of_nodup (zzE ha) (zzE hb)).2 h)
theorem zDU {n:Int} {xs:List Int} (h:zef n xs = true):xs = ofN (zfz (zaZ xs) true):=by
 have hp:=zdE.1 h
 have hok:=zrO h
 have e0:ofN (xs.map Int.toNat) = xs:=by
  unfold ofN
  rw [List.map_map]
  have:∀ x ∈ xs,((fun s:Nat=>(s:Int)) ∘ Int.toNat) x = id x:=fun x hx=>by
   have:=hok x hx
   show ((x.toNat:Nat):Int) = x
   omega
  rw [List.map_congr_left this,List.map_id]
 have hpw:(xs.map Int.toNat).Pairwise znS:=by
  refine List.pairwise_iff_getElem.2 fun i j hi hj hij=>?_
  have hi':i < xs.length:=by simpa using hi
  have hj':j < xs.length:=by simpa using hj
  have hs:=zn0 hp j i hij hj'
  rw [zdY 0 hi',zdY 0 hj'] at hs
  have a:=hok _ (List.getElem_mem hi')
  have b:=hok _ (List.getElem_mem hj')
  rw [List.getElem_map,List.getElem_map]
  generalize xs[i] = x at *
  generalize xs[j] = y at *
  unfold zk0 at hs
  rw [zfp a,zfp b] at hs
  simp only [Bool.and_eq_true,decide_eq_true_iff] at hs
  obtain ⟨_,_,hs⟩:=hs
  unfold znS
  split at hs
  ·rw [decide_eq_true_iff] at hs;omega
  ·rw [decide_eq_true_iff] at hs;omega
 have key:xs.map Int.toNat = zfz (zaZ xs) true:=by
  refine zzF hpw (zyR _ _) fun s=>?_
  rw [zdN]
  have hfb:∀ t,zaZ xs t = true ↔ ∃ x ∈ xs,x.toNat &&& t = t:=fun t=>by
   unfold zaZ;rw [List.any_eq_true]
   exact ⟨fun ⟨x,h1,h2⟩=>⟨x,h1,by simpa using h2⟩,fun ⟨x,h1,h2⟩=>⟨x,h1,by simpa using h2⟩⟩
  have hinc:∀ x ∈ xs,∀ y ∈ xs,x.toNat &&& y.toNat = x.toNat→x = y:=fun x hx y hy hxy=>by
   obtain ⟨i,hi,rfl⟩:=zbB 0 hx
   obtain ⟨j,hj,rfl⟩:=zbB 0 hy
   rcases Nat.lt_trichotomy i j with hij | hij | hij
   ·have:=(hp.2.2 j hj).2.2 i hij
    have a:=hok _ (zax 0 hi)
    have b:=hok _ (zax 0 hj)
    refine absurd ?_ this
    have e1:xs.getD i 0 = (((xs.getD i 0).toNat:Nat):Int):=by omega
    have e2:xs.getD j 0 = (((xs.getD j 0).toNat:Nat):Int):=by omega
    rw [e1,e2,zbt (by omega) (by omega),hxy]
   ·rw [hij]
   ·have hs:=zn0 hp i j hij hi
    have a:=hok _ (zax 0 hi)
    have b:=hok _ (zax 0 hj)
    by_cases hne:xs.getD i 0 = xs.getD j 0
    ·exact hne
    ·have:=znn (s:=(xs.getD j 0).toNat) (t:=(xs.getD i 0).toNat) (by omega) (by omega) hxy (by omega)
     unfold zk0 at hs
     rw [zfp a,zfp b] at hs
     simp only [Bool.and_eq_true,decide_eq_true_iff] at hs
     obtain ⟨_,_,hs⟩:=hs
     split at hs
     ·rw [decide_eq_true_iff] at hs;omega
     ·rw [decide_eq_true_iff] at hs;omega
  constructor
  ·intro hs
   obtain ⟨x,hx,rfl⟩:=List.mem_map.1 hs
   have a:=hok x hx
   refine ⟨⟨by omega,(hfb _).2 ⟨x,hx,Nat.and_self _⟩⟩,zcj.2 fun t ht hft hxt=>?_⟩
   obtain ⟨y,hy,hyt⟩:=(hfb t).1 hft
   have hxy:x.toNat &&& y.toNat = x.toNat:=by
    rw [← hxt,Nat.and_assoc,Nat.and_comm t,hyt]
   have:=hinc x hx y hy hxy
   subst this
   exact hyt.symm.trans hxt
  ·rintro ⟨⟨h64,hf⟩,he⟩
   obtain ⟨y,hy,hys⟩:=(hfb s).1 hf
   have b:=hok y hy
   have:=zcj.1 he y.toNat (by omega) ((hfb _).2 ⟨y,hy,Nat.and_self _⟩) (by rw [Nat.and_comm];exact hys)
   rw [← this];exact List.mem_map.2 ⟨y,hy,rfl⟩
 rw [← key,e0]
theorem zCC:∀ i,i < 6→∀ j,j < 6→zaD (2 ^ i ||| 2 ^ j) ≤ 2:=by decide +kernel
section
variable {m:Nat} {xs:List Int}
theorem zvZ (f:Nat→Bool) (g:Bool):(zfz f g).Pairwise znS:=List.Pairwise.filter _ (zry f)
theorem zmG {s:Nat}:s ∈ zkW (m:Int) xs ↔ s < 64∧zhc m xs s = true∧∀ t,t < 64→zhc m xs t = true→t &&& s = t→t = s:=by
 unfold zkW
 rw [zdN,zul,and_assoc]
theorem zv0 {L:List Nat} (hp:L.Pairwise znS):∀ s ∈ L,zaD (L.getD 0 0) ≤ zaD s:=fun s hs=>by
 cases L with
 | nil=>simp at hs
 | cons a l =>
   obtain ⟨h1,_⟩:=List.pairwise_cons.1 hp
   show zaD a ≤ _
   rcases List.mem_cons.1 hs with rfl | h
   ·exact Nat.le_refl _
   ·have:=h1 s h
    unfold znS at this;omega
theorem zzM {L:List Nat} (hp:L.Pairwise znS):∀ s ∈ L,zaD s ≤ zaD (L.getD (L.length - 1) 0):=fun s hs=>by
 obtain ⟨i,hi,rfl⟩:=zbB 0 hs
 by_cases e:i = L.length - 1
 ·rw [← e];exact Nat.le_refl _
 ·have:=List.pairwise_iff_getElem.1 hp i (L.length - 1) hi (by omega) (by omega)
  have a:L.getD i 0 = L[i]:=by simp [List.getD,hi]
  have b:L.getD (L.length - 1) 0 = L[L.length - 1]'(by omega):=by simp [List.getD,show L.length - 1 < L.length by omega]
  rw [a,b]
  unfold znS at this;omega
theorem znU (hc:zef (m:Int) xs = true):∀ (k s:Nat),zaD s ≤ k→s < 64→zhc m xs s = true→∃ t ∈ zkW (m:Int) xs,s &&& t = t
 | 0,s,hk,hs,hf=>⟨s,zmG.2 ⟨hs,hf,fun t ht hft hts=>by
  have h2:=zrC s hs t ht
  rw [Nat.and_comm,hts] at h2
  simp at h2
  rcases h2.2 with h | h
  ·omega
  ·exact h⟩,Nat.and_self _⟩
 | k + 1,s,hk,hs,hf=>by
   by_cases h:∃ t,t < 64∧zhc m xs t = true∧t &&& s = t∧t ≠ s
   ·obtain ⟨t,ht,hft,hts,hne⟩:=h
    have h2:=zrC s hs t ht
    rw [Nat.and_comm,hts] at h2
    simp at h2
    have hpt:zaD t ≤ k:=by
     rcases h2.2 with h | h
     ·omega
     ·exact absurd h hne
    obtain ⟨u,hu,hut⟩:=znU hc k t hpt ht hft
    exact ⟨u,hu,zqp (by rw [Nat.and_comm];exact hts) hut⟩
   ·exact ⟨s,zmG.2 ⟨hs,hf,fun t ht hft hts=>Classical.byContradiction fun hne=>h ⟨t,ht,hft,hts,hne⟩⟩,Nat.and_self _⟩
theorem zmH (hc:zef (m:Int) xs = true) (s:Nat):zhc m xs s = true ↔ s < 2 ^ m∧zaZ xs s = false:=by
 obtain ⟨_,h6,_⟩:=zdE.1 hc
 unfold zhc zch
 rw [hc,Bool.true_and,Bool.and_eq_true,decide_eq_true_eq,zdZ,Bool.not_eq_true']
 refine and_congr ⟨fun h=>by omega,fun h=>⟨by omega,by omega,by omega,by exact_mod_cast h⟩⟩ Iff.rfl
theorem zmI (hg:zap (m:Int) xs = true):zEc m (clL m xs) = true:=by
 have hf:=zr4 hg
 have e1:zeJ (m:Int) xs = m:=if_pos hg
 have e2:zhi (m:Int) xs = ofN (zdS xs (2 ^ m)):=if_pos hg
 obtain ⟨h1,h6,_⟩:=zao.1 hg
 have hg2:=zcc (m:=m) (xs:=xs) (by omega) (by omega)
 have ecl:clL (m:Int) xs = apL m (ofN (zdS xs (2 ^ m))):=by unfold clL;rw [e1,e2]
 have hc:zef (m:Int) (clL m xs) = true:=by rw [ecl];exact (zdQ.1 (zEl hg2)).1
 have hfc:∀ s,zaZ (clL m xs) s = clF m xs s:=fun s=>by rw [ecl];rfl
 have h64:=zam (m:=m) (by omega)
 have hall:∀ s ∈ zkW (m:Int) (clL m xs),zaD s ≤ 2:=fun s hs=>by
  obtain ⟨a,b,c⟩:=zmG.1 hs
  obtain ⟨b1,b2⟩:=(zmH hc s).1 b
  refine Nat.le_of_not_lt fun hlt=>?_
  rw [hfc] at b2
  rw [hf.flag s b1 fun i j hi hj=>Classical.byContradiction fun hn=>?_] at b2
  ·cases b2
  ·have him:=zja b1 hi
   have hjm:=zja b1 hj
   have hp:2 ^ i ||| 2 ^ j < 2 ^ m:=Nat.or_lt_two_pow (Nat.pow_lt_pow_right (by decide) him) (Nat.pow_lt_pow_right (by decide) hjm)
   have hsub:s &&& (2 ^ i ||| 2 ^ j) = 2 ^ i ||| 2 ^ j:=za3.2 fun k hk=>by
    rw [za4,Bool.or_eq_true,decide_eq_true_eq,decide_eq_true_eq] at hk
    rcases hk with rfl | rfl
    ·exact hi
    ·exact hj
   have:=c _ (by omega) ((zmH hc _).2 ⟨hp,by rw [hfc];simpa using hn⟩) (by rw [Nat.and_comm];exact hsub)
   rw [← this] at hlt
   have:=zCC i (by omega) j (by omega)
   omega
 unfold zEc
 rw [hc,Bool.true_and]
 refine decide_eq_true ?_
 unfold gmO
 split
 ·decide
 ·rename_i hne
  have hpos:0 < (zkW (m:Int) (clL m xs)).length:=List.length_pos_iff.2 hne
  have:=hall _ (zax 0 (show (zkW (m:Int) (clL m xs)).length - 1 < (zkW (m:Int) (clL m xs)).length by omega))
  omega
theorem zBc (hc:zef (m:Int) xs = true) (s:Nat):(s:Int) ∈ goL (m:Int) xs ↔ s < 64∧zaD s = 2∧zaZ xs s = true:=by
 have e:goL (m:Int) xs = ofN (za8 (zaZ xs) 2 64):=if_pos hc
 rw [e]
 unfold ofN za8
 rw [List.mem_map]
 constructor
 ·rintro ⟨t,ht,e⟩
  have e:t = s:=Int.ofNat.inj e
  subst e
  obtain ⟨a,b⟩:=List.mem_filter.1 ht
  rw [Bool.and_eq_true,beq_iff_eq] at b
  exact ⟨List.mem_range.1 a,b.2,b.1⟩
 ·rintro ⟨a,b,c⟩
  exact ⟨s,List.mem_filter.2 ⟨List.mem_range.2 a,by rw [b,c];rfl⟩,rfl⟩
theorem zBd (hc:zef (m:Int) xs = true) {s:Nat} (hf:zaZ xs s = true):s < 2 ^ m:=by
 obtain ⟨x,hx,hxs⟩:=zdu.1 hf
 obtain ⟨i,hi,rfl⟩:=zbB 0 hx
 have h1:=((zdE.1 hc).2.2 i hi).1
 unfold zch at h1
 rw [decide_eq_true_iff,zdZ] at h1
 have:s ≤ (xs.getD i 0).toNat:=by rw [← hxs];exact Nat.and_le_left
 have h3:((xs.getD i 0).toNat:Int) < ((2 ^ m:Nat):Int):=by rw [Int.toNat_of_nonneg h1.2.2.1];exact h1.2.2.2
 omega
theorem zrW (hc:zef (m:Int) xs = true):zap (m:Int) (goL m xs) = true:=by
 obtain ⟨h1,h6,_⟩:=zdE.1 hc
 have h64:=zam (m:=m) (by omega)
 have e:goL (m:Int) xs = ofN (za8 (zaZ xs) 2 64):=if_pos hc
 have hpw:(za8 (zaZ xs) 2 64).Pairwise (· < ·):=List.Pairwise.filter _ List.pairwise_lt_range
 rw [e]
 refine zdk ⟨h1,h6,fun k hk=>?_⟩
 rw [zaj] at hk
 have hm:=zax 0 hk
 have hmi:=(zBc hc ((za8 (zaZ xs) 2 64).getD k 0)).1 (by rw [e];exact List.mem_map.2 ⟨_,hm,rfl⟩)
 have hsup:=zBd hc hmi.2.2
 refine ⟨?_,by rw [zaM hk,Int.toNat_natCast];exact hmi.2.1,fun h0=>?_⟩
 ·rw [zaM hk]
  unfold zch
  rw [decide_eq_true_iff,zdZ]
  exact ⟨by omega,by omega,by omega,by exact_mod_cast hsup⟩
 ·rw [zaM hk,zaM (by omega)]
  have:=zqQ hpw (show k - 1 < k by omega) hk
  omega
theorem zCD (hc:zef (m:Int) xs = true) (hcu:1 ≤ zGk m xs) (hfl:zEc m xs = true):clL (m:Int) (goL m xs) = xs:=by
 obtain ⟨h1,h6,_⟩:=zdE.1 hc
 have h6:m ≤ 6:=by omega
 have h64:=zam h6
 have hg:=zrW hc
 have hmis:∀ t ∈ zkW (m:Int) xs,zaD t = 2:=fun t ht=>by
  have hne:zkW (m:Int) xs ≠ []:=fun e=>by rw [e] at ht;simp at ht
  have hpw:=zvZ (zhc (m:Int) xs) false
  have a:=zv0 hpw t ht
  have b:=zzM hpw t ht
  unfold zGk at hcu
  rw [if_pos hc,if_neg hne] at hcu
  unfold zEc gmO at hfl
  rw [hc,Bool.true_and,if_neg hne,decide_eq_true_eq] at hfl
  unfold zkW at hcu hfl
  omega
 rw [← zBi hg]
 conv=>rhs;rw [zDU hc]
 refine congrArg ofN ?_
 have e:∀ s,s < 64→(decide (s < 2 ^ m) && pwB (goL m xs) s) = zaZ xs s:=fun s hs=>by
  by_cases hsm:s < 2 ^ m
  ·rw [decide_eq_true hsm,Bool.true_and,zzS hg hsm]
   have hf:=zr4 hg
   have hpair:∀ i j,i < m→j < m→i ≠ j→(clF m (goL m xs) (2 ^ i ||| 2 ^ j) = true ↔ zaZ xs (2 ^ i ||| 2 ^ j) = true):=fun i j hi hj hij=>by
    have hp:=zmK i (by omega) j (by omega)
    rw [beq_false_of_ne hij,Bool.false_or,beq_iff_eq] at hp
    have hlt:2 ^ i ||| 2 ^ j < 2 ^ m:=Nat.or_lt_two_pow (Nat.pow_lt_pow_right (by decide) hi) (Nat.pow_lt_pow_right (by decide) hj)
    unfold clF
    rw [zqU (zcc (by omega) h6) hi hj hij,zeR,zBc hc]
    exact ⟨fun h=>Classical.byContradiction fun hn=>h ⟨hlt,hp,fun h2=>hn h2.2.2⟩,fun h h2=>h2.2.2 ⟨by omega,hp,h⟩⟩
   rw [Bool.eq_iff_iff]
   constructor
   ·intro h
    refine Classical.byContradiction fun hn=>?_
    obtain ⟨t,ht,hst⟩:=znU hc 6 s (zcp hs) hs ((zmH hc s).2 ⟨hsm,by simpa using hn⟩)
    obtain ⟨t1,t2,_⟩:=zmG.1 ht
    obtain ⟨t3,t4⟩:=(zmH hc t).1 t2
    have hp:=zjc t t1 (hmis t ht)
    simp only [List.any_eq_true,List.mem_range,beq_iff_eq] at hp
    obtain ⟨i,hi,j,hj,e⟩:=hp
    have him:=zja t3 (i:=i) (by rw [e,za4];simp)
    have hjm:=zja t3 (i:=j) (by rw [e,za4];simp)
    have:=(hpair i j him hjm (by omega)).1 (by rw [← e];exact hf.down s t h hst)
    rw [← e,t4] at this;cases this
   ·intro h
    refine hf.flag s hsm fun i j hi hj=>?_
    have him:=zja hsm hi
    have hjm:=zja hsm hj
    by_cases e:i = j
    ·subst e;rw [Nat.or_self];exact hf.pts _ him
    ·refine (hpair i j him hjm e).2 (zmx h (za3.2 fun k hk=>?_))
     rw [za4,Bool.or_eq_true,decide_eq_true_eq,decide_eq_true_eq] at hk
     rcases hk with rfl | rfl
     ·exact hi
     ·exact hj
  ·rw [decide_eq_false hsm,Bool.false_and]
   cases hf:zaZ xs s with
   | false=>rfl
   | true=>exact absurd (zBd hc hf) hsm
 exact zzF (zvZ _ _) (zvZ _ _) fun s=>by
  rw [zdN,zdN,zcj,zcj]
  constructor
  ·rintro ⟨⟨a,b⟩,c⟩
   rw [e s a] at b
   exact ⟨⟨a,b⟩,fun t ht hf=>c t ht (by rw [e t ht];exact hf)⟩
  ·rintro ⟨⟨a,b⟩,c⟩
   exact ⟨⟨a,by rw [e s a];exact b⟩,fun t ht hf=>c t ht (by rw [← e t ht];exact hf)⟩
end
theorem zrU {α:Type} (a b:α→Bool):∀ l:List α,(l.filter fun x=>a x && b x).length + (l.filter fun x=>a x && !b x).length = (l.filter a).length
 | []=>rfl
 | x :: l=>by
   have:=zrU a b l
   simp only [List.filter_cons]
   cases a x <;> cases b x <;> simp <;> omega
theorem zvX:∀ m,m ≤ 6→((List.range (2 ^ m)).filter fun s=>zaD s == 2).length = bin m 2:=by decide +kernel
theorem zEd:bin 1 2 = 0:=by decide
section
variable {m:Nat} {xs:List Int}
theorem zvY (hg:zap (m:Int) xs = true):xs.length + (zdS xs (2 ^ m)).length = bin m 2:=by
 obtain ⟨m',e,h1,h6,hx⟩:=zaS (zao.1 hg)
 have e:=Int.ofNat.inj e
 subst e
 have hl:xs.length = ((List.range (2 ^ m)).filter fun s=>zaD s == 2 && decide ((s:Int) ∈ xs)).length:=by
  have hp:xs.Perm (((List.range (2 ^ m)).filter fun s=>zaD s == 2 && decide ((s:Int) ∈ xs)).map fun (s:Nat)=>(s:Int)):=by
   refine (List.perm_ext_iff_of_nodup (zr5 hg) ?_).2 fun x=>?_
   ·exact (List.Pairwise.filter _ List.nodup_range).map _ fun a b hab e=>hab (Int.ofNat.inj e)
   ·rw [List.mem_map]
    constructor
    ·intro h
     obtain ⟨a,b,c⟩:=hx x h
     obtain ⟨s,rfl⟩:=Int.eq_ofNat_of_zero_le a
     rw [Int.toNat_natCast] at c
     refine ⟨s,List.mem_filter.2 ⟨List.mem_range.2 (by omega),?_⟩,rfl⟩
     rw [c,decide_eq_true h];rfl
    ·rintro ⟨s,hs,rfl⟩
     have:=(List.mem_filter.1 hs).2
     rw [Bool.and_eq_true,decide_eq_true_eq] at this
     exact this.2
  have:=hp.length_eq
  rwa [List.length_map] at this
 have h2:=zrU (fun s=>zaD s == 2) (fun s:Nat=>decide ((s:Int) ∈ xs)) (List.range (2 ^ m))
 rw [zvX m h6] at h2
 unfold zdS
 omega
theorem zfo (hg:zap (m:Int) xs = true) (hq:xs.length ≤ 450):IntKind.i64.wrap ((xs.length:Int) + ((zhi (m:Int) xs).length:Int)) = zhK m 2:=by
 obtain ⟨m',e,h1,h6,hx⟩:=zaS (zao.1 hg)
 have e:=Int.ofNat.inj e
 subst e
 have e:zhi (m:Int) xs = ofN (zdS xs (2 ^ m)):=if_pos hg
 have hc:=zvY hg
 have hk:=zr6 xs (2 ^ m)
 have h64:=zam h6
 rw [e,zaj,zat (by omega) (by omega)]
 unfold zhK
 by_cases h2:2 ≤ m
 ·rw [if_pos ⟨by omega,by omega,by omega⟩,Int.toNat_natCast]
  show _ = ((bin m 2:Nat):Int)
  omega
 ·rw [if_neg (fun h=>by omega)]
  have e2:m = 1:=by omega
  subst e2
  rw [zEd] at hc
  omega
theorem zrV {n:Int} {xs:List Int} (hm:mtO n xs = true) (h0:(((mtL n xs).length:Int) == 0) = true):False:=by
 have h1:=(zdQ.1 (zEf hm)).2
 have h2:((mtL n xs).length:Int) = 0:=beq_iff_eq.1 h0
 omega
theorem zb3 (hg:zap (m:Int) xs = true) (hch:chR m xs = true) (k:Nat) (hk:2 ≤ k):(zkX (zca m (clL m xs)) 2).getD k 0 = 0:=by
 have hf:=zr4 hg
 obtain ⟨h1,h6,_⟩:=zao.1 hg
 have h6:m ≤ 6:=by omega
 have h64:=zam h6
 have e1:zeJ (m:Int) xs = m:=if_pos hg
 have e2:zhi (m:Int) xs = ofN (zdS xs (2 ^ m)):=if_pos hg
 have hg2:=zcc (m:=m) (xs:=xs) (by omega) h6
 have ecl:clL (m:Int) xs = apL m (ofN (zdS xs (2 ^ m))):=by unfold clL;rw [e1,e2]
 have hc:zef (m:Int) (clL m xs) = true:=by rw [ecl];exact (zdQ.1 (zEl hg2)).1
 have hp0:=Nat.two_pow_pos m
 haveI:NeZero 2:=⟨by decide⟩
 have hp2:isP ((2:Nat):Int) = true:=by decide
 unfold chR at hch
 rw [hg,Bool.true_and,Int.toNat_natCast,zBh hg _ (by omega),zkz (q':=fun S v=>clF m xs (S &&& zif (clF m xs) v)) (fun S v hS hv _=>by
  unfold chP
  rw [zzS hg (Nat.lt_of_le_of_lt Nat.and_le_right hS),zv5 hg hv,Nat.and_comm]) 6 _ (by omega)] at hch
 have hL:=(zyM (p:=2) hp2 hf 6 _ (zcp (by omega)) (by omega)).1 hch
 have hac:=hL (2 ^ m - 1) (Nat.and_self _) k hk
 have ef:∀ s,s < 64→zcL (clF m xs) (2 ^ m - 1) s = zca m (clL m xs) s:=fun s hs=>by
  unfold zca
  rw [hc,Bool.true_and,ecl]
  show _ = clF m xs s
  rw [Bool.eq_iff_iff,zbJ]
  constructor
  ·exact fun h=>h.1
  ·intro h
   refine ⟨h,?_⟩
   have:=hf.sup s hs h
   rw [Nat.and_comm,Nat.and_two_pow_sub_one_eq_mod,Nat.mod_eq_of_lt this]
 have hz:=((znt (p:=2) hp2 (zcv hf.down (2 ^ m - 1)) k).2).2 hac
 have hz2:(zqL (zcL (clF m xs) (2 ^ m - 1)) 2).getD k 0 = 0:=by rw [zDx];exact hz
 unfold zkX
 rw [if_pos (by decide),← zvF 2 ef]
 exact hz2
end
theorem zcR (f:Nat→Bool):(zkX f 2).length ≤ 7:=by
 unfold zkX
 rw [if_pos (by decide),zdv]
 exact zhB f
theorem zaN (n m:Int) (xs ys:List Int):AC Tryz.prog 15 [.ag [int n,zbj xs],.ag [int m,zbj ys]] (.im (bool (decide (n = m∧xs = ys)))):=by
 refine AC.go (rs:=[.tmp 4]) zbg zay Tryz.func15 rfl rfl rfl (by kernel_rfl) fun hl=>?_
 simp (maxSteps:=5000000) -dsimp only [↓gp,gq,reduceCtorEq,reduceEqDiff,reduceLT,reduceLeDiff,reduceAdd,reduceMul,reduceSub,Nat.reduceBEq,Int.reduceToNat,Int.reduceLE,Int.reduceLT,Int.reduceNeg,reduceMod,zac,zad,zab,zaa,gT,TK.isInt,TK.agg,Array.toList]
 refine ⟨fun h=>zaf (zfk xs ys) ?_,fun h=>?_⟩
 ·have h:n = m:=by simpa using h
  subst h
  simp (maxSteps:=5000000) -dsimp only [↓gp,gq,reduceCtorEq,reduceEqDiff,reduceLT,reduceLeDiff,reduceAdd,reduceMul,reduceSub,Nat.reduceBEq,Int.reduceToNat,Int.reduceLE,Int.reduceLT,Int.reduceNeg,reduceMod,zac,zad,zab,zaa,gT,TK.isInt,TK.agg,Array.toList]
 ·have h:n ≠ m:=by simpa using h
  exact fun e=>h e.1
theorem zas {α:Type} [DecidableEq α] (a:α):decide (a = a) = true:=decide_eq_true rfl
set_option maxRecDepth 100000 in
set_option maxHeartbeats 4000000 in
theorem zi9 (bs:List Int):AC Tryz.prog 4 [.sl false 1 (kL .u8 bs)] (.im (bool true)):=by
 refine AC.go (rs:=[.tmp 2]) zbg zay Tryz.func4 rfl rfl rfl (by kernel_rfl) fun hl=>?_
 simp (maxSteps:=5000000) -dsimp only [↓gp,gq,reduceCtorEq,reduceEqDiff,reduceLT,reduceLeDiff,reduceAdd,reduceMul,reduceSub,Nat.reduceBEq,Int.reduceToNat,Int.reduceLE,Int.reduceLT,Int.reduceNeg,reduceMod,zac,zad,zab,zaa,gT,TK.isInt,TK.agg,Array.toList]
 refine zaf (zvN bs) ?_
 simp (maxSteps:=5000000) -dsimp only [↓gp,gq,reduceCtorEq,reduceEqDiff,reduceLT,reduceLeDiff,reduceAdd,reduceMul,reduceSub,Nat.reduceBEq,Int.reduceToNat,Int.reduceLE,Int.reduceLT,Int.reduceNeg,reduceMod,zac,zad,zab,zaa,gT,TK.isInt,TK.agg,Array.toList]
 intro hbs
 refine znI (zee bs (by omega)) (.one (.sl _ _ _) .nil) fun rv ⟨n,xs,hrv,hq⟩=>?_
 subst hrv
 simp (maxSteps:=5000000) -dsimp only [↓gp,gq,reduceCtorEq,reduceEqDiff,reduceLT,reduceLeDiff,reduceAdd,reduceMul,reduceSub,Nat.reduceBEq,Int.reduceToNat,Int.reduceLE,Int.reduceLT,Int.reduceNeg,reduceMod,zac,zad,zab,zaa,gT,TK.isInt,TK.agg,Array.toList]
 refine zaf (zbE n xs) ?_
 simp (maxSteps:=5000000) -dsimp only [↓gp,gq,reduceCtorEq,reduceEqDiff,reduceLT,reduceLeDiff,reduceAdd,reduceMul,reduceSub,Nat.reduceBEq,Int.reduceToNat,Int.reduceLE,Int.reduceLT,Int.reduceNeg,reduceMod,zac,zad,zab,zaa,gT,TK.isInt,TK.agg,Array.toList]
 refine zaf (zd2 n xs) ?_
 simp (maxSteps:=5000000) -dsimp only [↓gp,gq,reduceCtorEq,reduceEqDiff,reduceLT,reduceLeDiff,reduceAdd,reduceMul,reduceSub,Nat.reduceBEq,Int.reduceToNat,Int.reduceLE,Int.reduceLT,Int.reduceNeg,reduceMod,zac,zad,zab,zaa,gT,TK.isInt,TK.agg,Array.toList]
 refine zaf (zc1 n xs) ?_
 simp (maxSteps:=5000000) -dsimp only [↓gp,gq,reduceCtorEq,reduceEqDiff,reduceLT,reduceLeDiff,reduceAdd,reduceMul,reduceSub,Nat.reduceBEq,Int.reduceToNat,Int.reduceLE,Int.reduceLT,Int.reduceNeg,reduceMod,zac,zad,zab,zaa,gT,TK.isInt,TK.agg,Array.toList]
 refine zaf (zfJ n xs) ?_
 simp (maxSteps:=5000000) -dsimp only [↓gp,gq,reduceCtorEq,reduceEqDiff,reduceLT,reduceLeDiff,reduceAdd,reduceMul,reduceSub,Nat.reduceBEq,Int.reduceToNat,Int.reduceLE,Int.reduceLT,Int.reduceNeg,reduceMod,zac,zad,zab,zaa,gT,TK.isInt,TK.agg,Array.toList]
 refine zaf (zbr n xs) ?_
 simp (maxSteps:=5000000) -dsimp only [↓gp,gq,reduceCtorEq,reduceEqDiff,reduceLT,reduceLeDiff,reduceAdd,reduceMul,reduceSub,Nat.reduceBEq,Int.reduceToNat,Int.reduceLE,Int.reduceLT,Int.reduceNeg,reduceMod,zac,zad,zab,zaa,gT,TK.isInt,TK.agg,Array.toList]
 refine zaf (zgm n xs) ?_
 simp (maxSteps:=5000000) -dsimp only [↓gp,gq,reduceCtorEq,reduceEqDiff,reduceLT,reduceLeDiff,reduceAdd,reduceMul,reduceSub,Nat.reduceBEq,Int.reduceToNat,Int.reduceLE,Int.reduceLT,Int.reduceNeg,reduceMod,zac,zad,zab,zaa,gT,TK.isInt,TK.agg,Array.toList]
 refine zaf (zf6 n xs) ?_
 simp (maxSteps:=5000000) -dsimp only [↓gp,gq,reduceCtorEq,reduceEqDiff,reduceLT,reduceLeDiff,reduceAdd,reduceMul,reduceSub,Nat.reduceBEq,Int.reduceToNat,Int.reduceLE,Int.reduceLT,Int.reduceNeg,reduceMod,zac,zad,zab,zaa,gT,TK.isInt,TK.agg,Array.toList]
 refine zaf (zf7 n xs) ?_
 simp (maxSteps:=5000000) -dsimp only [↓gp,gq,reduceCtorEq,reduceEqDiff,reduceLT,reduceLeDiff,reduceAdd,reduceMul,reduceSub,Nat.reduceBEq,Int.reduceToNat,Int.reduceLE,Int.reduceLT,Int.reduceNeg,reduceMod,zac,zad,zab,zaa,gT,TK.isInt,TK.agg,Array.toList]
 refine znI (zhf bs (by omega)) (.one (.sl _ _ _) .nil) fun rv ⟨n2,ys,hrv,hq2⟩=>?_
 subst hrv
 simp (maxSteps:=5000000) -dsimp only [↓gp,gq,reduceCtorEq,reduceEqDiff,reduceLT,reduceLeDiff,reduceAdd,reduceMul,reduceSub,Nat.reduceBEq,Int.reduceToNat,Int.reduceLE,Int.reduceLT,Int.reduceNeg,reduceMod,zac,zad,zab,zaa,gT,TK.isInt,TK.agg,Array.toList]
 refine zaf (zkZ n2 ys) ?_
 simp (maxSteps:=5000000) -dsimp only [↓gp,gq,reduceCtorEq,reduceEqDiff,reduceLT,reduceLeDiff,reduceAdd,reduceMul,reduceSub,Nat.reduceBEq,Int.reduceToNat,Int.reduceLE,Int.reduceLT,Int.reduceNeg,reduceMod,zac,zad,zab,zaa,gT,TK.isInt,TK.agg,Array.toList]
 refine zaf (zkY n2 ys) ?_
 simp (maxSteps:=5000000) -dsimp only [↓gp,gq,reduceCtorEq,reduceEqDiff,reduceLT,reduceLeDiff,reduceAdd,reduceMul,reduceSub,Nat.reduceBEq,Int.reduceToNat,Int.reduceLE,Int.reduceLT,Int.reduceNeg,reduceMod,zac,zad,zab,zaa,gT,TK.isInt,TK.agg,Array.toList]
 refine znI (zeO bs (by omega)) (.one (.sl _ _ _) .nil) fun rv ⟨n3,zs,pt,hrv,hq3⟩=>?_
 subst hrv
 simp (maxSteps:=5000000) -dsimp only [↓gp,gq,reduceCtorEq,reduceEqDiff,reduceLT,reduceLeDiff,reduceAdd,reduceMul,reduceSub,Nat.reduceBEq,Int.reduceToNat,Int.reduceLE,Int.reduceLT,Int.reduceNeg,reduceMod,zac,zad,zab,zaa,gT,TK.isInt,TK.agg,Array.toList]
 refine ⟨by kernel_rfl,?_⟩
 simp only [List.append_eq,List.cons_append,List.nil_append]
 simp (maxSteps:=5000000) -dsimp only [↓gp,gq,reduceCtorEq,reduceEqDiff,reduceLT,reduceLeDiff,reduceAdd,reduceMul,reduceSub,Nat.reduceBEq,Int.reduceToNat,Int.reduceLE,Int.reduceLT,Int.reduceNeg,reduceMod,zac,zad,zab,zaa,gT,TK.isInt,TK.agg,Array.toList,zas,zaB,bne_self_eq_false,beq_self_eq_true,zar,zaE,zaA,zaF]
 refine zaf (zbA _ _ _ _) ?_
 simp (maxSteps:=5000000) -dsimp only [↓gp,gq,reduceCtorEq,reduceEqDiff,reduceLT,reduceLeDiff,reduceAdd,reduceMul,reduceSub,Nat.reduceBEq,Int.reduceToNat,Int.reduceLE,Int.reduceLT,Int.reduceNeg,reduceMod,zac,zad,zab,zaa,gT,TK.isInt,TK.agg,Array.toList,zas,zaB,bne_self_eq_false,beq_self_eq_true,zar,zaE,zaA,zaF]
 refine zaf (zaN _ _ _ _) ?_
 simp (maxSteps:=5000000) -dsimp only [↓gp,gq,reduceCtorEq,reduceEqDiff,reduceLT,reduceLeDiff,reduceAdd,reduceMul,reduceSub,Nat.reduceBEq,Int.reduceToNat,Int.reduceLE,Int.reduceLT,Int.reduceNeg,reduceMod,zac,zad,zab,zaa,gT,TK.isInt,TK.agg,Array.toList,zas,zaB,bne_self_eq_false,beq_self_eq_true,zar,zaE,zaA,zaF]
 refine zaf (zaN _ _ _ _) ?_
 simp (maxSteps:=5000000) -dsimp only [↓gp,gq,reduceCtorEq,reduceEqDiff,reduceLT,reduceLeDiff,reduceAdd,reduceMul,reduceSub,Nat.reduceBEq,Int.reduceToNat,Int.reduceLE,Int.reduceLT,Int.reduceNeg,reduceMod,zac,zad,zab,zaa,gT,TK.isInt,TK.agg,Array.toList,zas,zaB,bne_self_eq_false,beq_self_eq_true,zar,zaE,zaA,zaF]
 refine zaf (zaN _ _ _ _) ?_
 simp (maxSteps:=5000000) -dsimp only [↓gp,gq,reduceCtorEq,reduceEqDiff,reduceLT,reduceLeDiff,reduceAdd,reduceMul,reduceSub,Nat.reduceBEq,Int.reduceToNat,Int.reduceLE,Int.reduceLT,Int.reduceNeg,reduceMod,zac,zad,zab,zaa,gT,TK.isInt,TK.agg,Array.toList,zas,zaB,bne_self_eq_false,beq_self_eq_true,zar,zaE,zaA,zaF]
 refine zaf (zbA _ _ _ _) ?_
 simp (maxSteps:=5000000) -dsimp only [↓gp,gq,reduceCtorEq,reduceEqDiff,reduceLT,reduceLeDiff,reduceAdd,reduceMul,reduceSub,Nat.reduceBEq,Int.reduceToNat,Int.reduceLE,Int.reduceLT,Int.reduceNeg,reduceMod,zac,zad,zab,zaa,gT,TK.isInt,TK.agg,Array.toList,zas,zaB,bne_self_eq_false,beq_self_eq_true,zar,zaE,zaA,zaF]
 refine zaf (zgu n3 zs pt) ?_
 simp (maxSteps:=5000000) -dsimp only [↓gp,gq,reduceCtorEq,reduceEqDiff,reduceLT,reduceLeDiff,reduceAdd,reduceMul,reduceSub,Nat.reduceBEq,Int.reduceToNat,Int.reduceLE,Int.reduceLT,Int.reduceNeg,reduceMod,zac,zad,zab,zaa,gT,TK.isInt,TK.agg,Array.toList,zas,zaB,bne_self_eq_false,beq_self_eq_true,zar,zaE,zaA,zaF]
 refine zaf (zga n3 zs pt) ?_
 simp (maxSteps:=5000000) -dsimp only [↓gp,gq,reduceCtorEq,reduceEqDiff,reduceLT,reduceLeDiff,reduceAdd,reduceMul,reduceSub,Nat.reduceBEq,Int.reduceToNat,Int.reduceLE,Int.reduceLT,Int.reduceNeg,reduceMod,zac,zad,zab,zaa,gT,TK.isInt,TK.agg,Array.toList,zas,zaB,bne_self_eq_false,beq_self_eq_true,zar,zaE,zaA,zaF]
 refine zaf (zaU n xs) ?_
 simp (maxSteps:=5000000) -dsimp only [↓gp,gq,reduceCtorEq,reduceEqDiff,reduceLT,reduceLeDiff,reduceAdd,reduceMul,reduceSub,Nat.reduceBEq,Int.reduceToNat,Int.reduceLE,Int.reduceLT,Int.reduceNeg,reduceMod,zac,zad,zab,zaa,gT,TK.isInt,TK.agg,Array.toList,zas,zaB,bne_self_eq_false,beq_self_eq_true,zar,zaE,zaA,zaF]
 refine zaf (zin n xs) ?_
 simp (maxSteps:=5000000) -dsimp only [↓gp,gq,reduceCtorEq,reduceEqDiff,reduceLT,reduceLeDiff,reduceAdd,reduceMul,reduceSub,Nat.reduceBEq,Int.reduceToNat,Int.reduceLE,Int.reduceLT,Int.reduceNeg,reduceMod,zac,zad,zab,zaa,gT,TK.isInt,TK.agg,Array.toList,zas,zaB,bne_self_eq_false,beq_self_eq_true,zar,zaE,zaA,zaF]
 refine zaf (zbC n xs) ?_
 simp (maxSteps:=5000000) -dsimp only [↓gp,gq,reduceCtorEq,reduceEqDiff,reduceLT,reduceLeDiff,reduceAdd,reduceMul,reduceSub,Nat.reduceBEq,Int.reduceToNat,Int.reduceLE,Int.reduceLT,Int.reduceNeg,reduceMod,zac,zad,zab,zaa,gT,TK.isInt,TK.agg,Array.toList,zas,zaB,bne_self_eq_false,beq_self_eq_true,zar,zaE,zaA,zaF]
 refine zaf (zbn n xs) ?_
 simp (maxSteps:=5000000) -dsimp only [↓gp,gq,reduceCtorEq,reduceEqDiff,reduceLT,reduceLeDiff,reduceAdd,reduceMul,reduceSub,Nat.reduceBEq,Int.reduceToNat,Int.reduceLE,Int.reduceLT,Int.reduceNeg,reduceMod,zac,zad,zab,zaa,gT,TK.isInt,TK.agg,Array.toList,zas,zaB,bne_self_eq_false,beq_self_eq_true,zar,zaE,zaA,zaF]
 refine ⟨fun h7=>zaf (zc1 _ _) ?_,fun h7=>?_⟩
 ·have hcy:zef n2 ys = true:=by simpa using h7
  obtain ⟨c1,c6,_⟩:=zdE.1 hcy
  obtain ⟨m2,rfl⟩:∃ m2:Nat,n2 = m2:=⟨n2.toNat,by omega⟩
  have hgg:=zrW hcy
  have egn:goN (m2:Int) ys = m2:=if_pos hcy
  have eon:zeJ (m2:Int) (goL m2 ys) = m2:=if_pos hgg
  have hback:=zCD hcy
  rw [egn,hgg,eon]
  simp (maxSteps:=5000000) -dsimp only [↓gp,gq,reduceCtorEq,reduceEqDiff,reduceLT,reduceLeDiff,reduceAdd,reduceMul,reduceSub,Nat.reduceBEq,Int.reduceToNat,Int.reduceLE,Int.reduceLT,Int.reduceNeg,reduceMod,zac,zad,zab,zaa,gT,TK.isInt,TK.agg,Array.toList]
  refine zaf (zgr m2 ys) ?_
  simp (maxSteps:=5000000) -dsimp only [↓gp,gq,reduceCtorEq,reduceEqDiff,reduceLT,reduceLeDiff,reduceAdd,reduceMul,reduceSub,Nat.reduceBEq,Int.reduceToNat,Int.reduceLE,Int.reduceLT,Int.reduceNeg,reduceMod,zac,zad,zab,zaa,gT,TK.isInt,TK.agg,Array.toList]
  refine ⟨fun hcu=>zaf (zcF m2 ys) ?_,fun hcu=>?_⟩
  ·simp (maxSteps:=5000000) -dsimp only [↓gp,gq,reduceCtorEq,reduceEqDiff,reduceLT,reduceLeDiff,reduceAdd,reduceMul,reduceSub,Nat.reduceBEq,Int.reduceToNat,Int.reduceLE,Int.reduceLT,Int.reduceNeg,reduceMod,zac,zad,zab,zaa,gT,TK.isInt,TK.agg,Array.toList,zas,zaB,bne_self_eq_false,beq_self_eq_true,zar,zaE,zaA,zaF]
   refine ⟨fun hfl=>zaf (zaN _ _ _ _) ?_,fun hfl=>?_⟩
   ·rw [hback (by omega) hfl]
    simp (maxSteps:=5000000) -dsimp only [↓gp,gq,reduceCtorEq,reduceEqDiff,reduceLT,reduceLeDiff,reduceAdd,reduceMul,reduceSub,Nat.reduceBEq,Int.reduceToNat,Int.reduceLE,Int.reduceLT,Int.reduceNeg,reduceMod,zac,zad,zab,zaa,gT,TK.isInt,TK.agg,Array.toList,zas,zaB,bne_self_eq_false,beq_self_eq_true,zar,zaE,zaA,zaF]
    refine ⟨fun hg=>⟨fun _=>by rw [hg],fun h=>by rw [hg] at h;cases h⟩,fun hg=>zaf (zbE _ _) ?_⟩
    have hg:zap n xs = true:=by simpa using hg
    obtain ⟨m,rfl,h1,h6,_⟩:=zaS (zao.1 hg)
    obtain ⟨i1,i2⟩:=ziA hg
    have i3:=zjb (m:Int) xs
    have i4:zeJ (m:Int) xs = m:=if_pos hg
    have i5:apN (zeJ (m:Int) xs) (zhi m xs) = zeJ m xs:=if_pos (by rw [i3];exact hg)
    have i6:apL (zeJ (m:Int) xs) (zhi m xs) = clL m xs:=rfl
    have i7:=zmI hg
    have i8:=zfo hg hq
    rw [hg] at i3
    rw [i1,i2,i3]
    simp (maxSteps:=5000000) -dsimp only [↓gp,gq,reduceCtorEq,reduceEqDiff,reduceLT,reduceLeDiff,reduceAdd,reduceMul,reduceSub,Nat.reduceBEq,Int.reduceToNat,Int.reduceLE,Int.reduceLT,Int.reduceNeg,reduceMod,zac,zad,zab,zaa,gT,TK.isInt,TK.agg,Array.toList]
    refine zaf (zbr _ _) ?_
    rw [i3,i5,i6,i4]
    simp (maxSteps:=5000000) -dsimp only [↓gp,gq,reduceCtorEq,reduceEqDiff,reduceLT,reduceLeDiff,reduceAdd,reduceMul,reduceSub,Nat.reduceBEq,Int.reduceToNat,Int.reduceLE,Int.reduceLT,Int.reduceNeg,reduceMod,zac,zad,zab,zaa,gT,TK.isInt,TK.agg,Array.toList]
    refine ⟨by kernel_rfl,zaf (zbA _ _ _ _) ?_⟩
    simp (maxSteps:=5000000) -dsimp only [↓gp,gq,reduceCtorEq,reduceEqDiff,reduceLT,reduceLeDiff,reduceAdd,reduceMul,reduceSub,Nat.reduceBEq,Int.reduceToNat,Int.reduceLE,Int.reduceLT,Int.reduceNeg,reduceMod,zac,zad,zab,zaa,gT,TK.isInt,TK.agg,Array.toList,zas,zaB,bne_self_eq_false,beq_self_eq_true,zar,zaE,zaA,zaF]
    refine zaf (zaN _ _ _ _) ?_
    simp (maxSteps:=5000000) -dsimp only [↓gp,gq,reduceCtorEq,reduceEqDiff,reduceLT,reduceLeDiff,reduceAdd,reduceMul,reduceSub,Nat.reduceBEq,Int.reduceToNat,Int.reduceLE,Int.reduceLT,Int.reduceNeg,reduceMod,zac,zad,zab,zaa,gT,TK.isInt,TK.agg,Array.toList,zas,zaB,bne_self_eq_false,beq_self_eq_true,zar,zaE,zaA,zaF]
    refine zaf (zcF _ _) ?_
    rw [i7]
    simp (maxSteps:=5000000) -dsimp only [↓gp,gq,reduceCtorEq,reduceEqDiff,reduceLT,reduceLeDiff,reduceAdd,reduceMul,reduceSub,Nat.reduceBEq,Int.reduceToNat,Int.reduceLE,Int.reduceLT,Int.reduceNeg,reduceMod,zac,zad,zab,zaa,gT,TK.isInt,TK.agg,Array.toList,zas,zaB,bne_self_eq_false,beq_self_eq_true,zar,zaE,zaA,zaF]
    refine zaf (zde (m:Int) 2 (by omega)) ?_
    rw [i8]
    simp (maxSteps:=5000000) -dsimp only [↓gp,gq,reduceCtorEq,reduceEqDiff,reduceLT,reduceLeDiff,reduceAdd,reduceMul,reduceSub,Nat.reduceBEq,Int.reduceToNat,Int.reduceLE,Int.reduceLT,Int.reduceNeg,reduceMod,zac,zad,zab,zaa,gT,TK.isInt,TK.agg,Array.toList,zas,zaB,bne_self_eq_false,beq_self_eq_true,zar,zaE,zaA,zaF]
    refine ⟨by kernel_rfl,fun hmt=>⟨fun _=>zaf (zdR _ _) ?_,fun h0=>zrV hmt h0⟩,fun hmt=>?_⟩
    ·have i9:zuE (mtN (m:Int) xs) (mtL m xs) + 1 = zeN xs 0:=by
      have e:mtN (m:Int) xs = (xs.length:Int):=if_pos hmt
      rw [e];exact zrX hmt
     have i10:=zdB xs 0
     have i11:IntKind.i64.wrap (zuE (mtN (m:Int) xs) (mtL m xs) + 1) = zf4 m xs:=by
      have e:zf4 (m:Int) xs = zeN xs 0:=if_pos hg
      have hq:xs.length ≤ 450:=hq
      rw [i9,e,zat (by omega) (by omega)]
     simp (maxSteps:=5000000) -dsimp only [↓gp,gq,reduceCtorEq,reduceEqDiff,reduceLT,reduceLeDiff,reduceAdd,reduceMul,reduceSub,Nat.reduceBEq,Int.reduceToNat,Int.reduceLE,Int.reduceLT,Int.reduceNeg,reduceMod,zac,zad,zab,zaa,gT,TK.isInt,TK.agg,Array.toList]
     refine zaf (zb1 (m:Int) xs (by have hq:xs.length ≤ 450:=hq;omega)) ?_
     rw [i11]
     simp (maxSteps:=5000000) -dsimp only [↓gp,gq,reduceCtorEq,reduceEqDiff,reduceLT,reduceLeDiff,reduceAdd,reduceMul,reduceSub,Nat.reduceBEq,Int.reduceToNat,Int.reduceLE,Int.reduceLT,Int.reduceNeg,reduceMod,zac,zad,zab,zaa,gT,TK.isInt,TK.agg,Array.toList,zas,zaB,bne_self_eq_false,beq_self_eq_true,zar,zaE,zaA,zaF]
     refine zaf (zbf (m:Int) (clL m xs) 2) ?_
     have hch:=zb3 hg
     have hhl:(zkX (zca (m:Int) (clL m xs)) 2).length ≤ 7:=zcR _
     generalize zkX (zca (m:Int) (clL m xs)) 2 = H at *
     simp (maxSteps:=5000000) -dsimp only [↓gp,gq,reduceCtorEq,reduceEqDiff,reduceLT,reduceLeDiff,reduceAdd,reduceMul,reduceSub,Nat.reduceBEq,Int.reduceToNat,Int.reduceLE,Int.reduceLT,Int.reduceNeg,reduceMod,zac,zad,zab,zaa,gT,TK.isInt,TK.agg,Array.toList]
     refine zaq (fun (k:Nat) s=>s.sl 3 = .ref 3 1 0∧s.rw 3 = ⟨1,.box 36 [int m,.own 38 1]⟩∧s.rw 38 = ⟨1,.sli 3 1 false (iL xs)⟩∧s.sl 33 = .own 264 1∧s.rw 264 = ⟨1,.sli 3 1 false (iL H)⟩∧s.sl 34 = int k∧(2 ≤ k)) (fun k=>H.length - k) (2) (by refine ⟨?_,?_,?_,?_,?_,?_,Nat.le_refl _⟩ <;> (first | (simp (maxSteps:=5000000) -dsimp only [gr,reduceEqDiff,reduceLT,reduceAdd,reduceMod,Nat.reduceBEq,zaa,zac,zad,zab];first | done | rfl | (simp;done)) | assumption | rfl)) ?_
     intro k sa ⟨h3a,r3a,r38a,h33a,r264a,h34a,hIa⟩
     simp (maxSteps:=5000000) -dsimp only [↓gp,gq,reduceCtorEq,reduceEqDiff,reduceLT,reduceLeDiff,reduceAdd,reduceMul,reduceSub,Nat.reduceBEq,Int.reduceToNat,Int.reduceLE,Int.reduceLT,Int.reduceNeg,reduceMod,zac,zad,zab,zaa,gT,TK.isInt,TK.agg,Array.toList,h3a,r3a,r38a,h33a,r264a,h34a]
     refine fun hk=>zaf (zaU (m:Int) xs) ?_
     have hch2:=fun hc=>hch hc k hIa
     have hwk:=zae hk (by omega)
     simp (maxSteps:=5000000) -dsimp only [↓gp,gq,reduceCtorEq,reduceEqDiff,reduceLT,reduceLeDiff,reduceAdd,reduceMul,reduceSub,Nat.reduceBEq,Int.reduceToNat,Int.reduceLE,Int.reduceLT,Int.reduceNeg,reduceMod,zac,zad,zab,zaa,gT,TK.isInt,TK.agg,Array.toList,h3a,r3a,r38a,h33a,r264a,h34a]
     refine ⟨fun hc=>⟨by omega,by omega,fun h0=>(by rw [hch2 hc] at h0;cases h0),fun _=>?_⟩,fun hc=>?_⟩
     ·exact zag (k + 1) (by refine ⟨?_,?_,?_,?_,?_,?_,by omega⟩ <;> (first | (simp (maxSteps:=5000000) -dsimp only [gr,reduceEqDiff,reduceLT,reduceAdd,reduceMod,Nat.reduceBEq,zaa,zac,zad,zab,h3a,r3a,r38a,h33a,r264a,h34a,hwk];first | done | rfl | (simp;done)) | assumption | rfl)) (by first | omega | (simp only;omega) | (dsimp only;omega) | (show _ < _;simp;omega))
     ·exact zag (k + 1) (by refine ⟨?_,?_,?_,?_,?_,?_,by omega⟩ <;> (first | (simp (maxSteps:=5000000) -dsimp only [gr,reduceEqDiff,reduceLT,reduceAdd,reduceMod,Nat.reduceBEq,zaa,zac,zad,zab,h3a,r3a,r38a,h33a,r264a,h34a,hwk];first | done | rfl | (simp;done)) | assumption | rfl)) (by first | omega | (simp only;omega) | (dsimp only;omega) | (show _ < _;simp;omega))
    ·refine zaf (zbf (m:Int) (clL m xs) 2) ?_
     have hch:=zb3 hg
     have hhl:(zkX (zca (m:Int) (clL m xs)) 2).length ≤ 7:=zcR _
     generalize zkX (zca (m:Int) (clL m xs)) 2 = H at *
     simp (maxSteps:=5000000) -dsimp only [↓gp,gq,reduceCtorEq,reduceEqDiff,reduceLT,reduceLeDiff,reduceAdd,reduceMul,reduceSub,Nat.reduceBEq,Int.reduceToNat,Int.reduceLE,Int.reduceLT,Int.reduceNeg,reduceMod,zac,zad,zab,zaa,gT,TK.isInt,TK.agg,Array.toList]
     refine zaq (fun (k:Nat) s=>s.sl 3 = .ref 3 1 0∧s.rw 3 = ⟨1,.box 36 [int m,.own 38 1]⟩∧s.rw 38 = ⟨1,.sli 3 1 false (iL xs)⟩∧s.sl 33 = .own 264 1∧s.rw 264 = ⟨1,.sli 3 1 false (iL H)⟩∧s.sl 34 = int k∧(2 ≤ k)) (fun k=>H.length - k) (2) (by refine ⟨?_,?_,?_,?_,?_,?_,Nat.le_refl _⟩ <;> (first | (simp (maxSteps:=5000000) -dsimp only [gr,reduceEqDiff,reduceLT,reduceAdd,reduceMod,Nat.reduceBEq,zaa,zac,zad,zab];first | done | rfl | (simp;done)) | assumption | rfl)) ?_
     intro k sa ⟨h3a,r3a,r38a,h33a,r264a,h34a,hIa⟩
     simp (maxSteps:=5000000) -dsimp only [↓gp,gq,reduceCtorEq,reduceEqDiff,reduceLT,reduceLeDiff,reduceAdd,reduceMul,reduceSub,Nat.reduceBEq,Int.reduceToNat,Int.reduceLE,Int.reduceLT,Int.reduceNeg,reduceMod,zac,zad,zab,zaa,gT,TK.isInt,TK.agg,Array.toList,h3a,r3a,r38a,h33a,r264a,h34a]
     refine fun hk=>zaf (zaU (m:Int) xs) ?_
     have hch2:=fun hc=>hch hc k hIa
     have hwk:=zae hk (by omega)
     simp (maxSteps:=5000000) -dsimp only [↓gp,gq,reduceCtorEq,reduceEqDiff,reduceLT,reduceLeDiff,reduceAdd,reduceMul,reduceSub,Nat.reduceBEq,Int.reduceToNat,Int.reduceLE,Int.reduceLT,Int.reduceNeg,reduceMod,zac,zad,zab,zaa,gT,TK.isInt,TK.agg,Array.toList,h3a,r3a,r38a,h33a,r264a,h34a]
     refine ⟨fun hc=>⟨by omega,by omega,fun h0=>(by rw [hch2 hc] at h0;cases h0),fun _=>?_⟩,fun hc=>?_⟩
     ·exact zag (k + 1) (by refine ⟨?_,?_,?_,?_,?_,?_,by omega⟩ <;> (first | (simp (maxSteps:=5000000) -dsimp only [gr,reduceEqDiff,reduceLT,reduceAdd,reduceMod,Nat.reduceBEq,zaa,zac,zad,zab,h3a,r3a,r38a,h33a,r264a,h34a,hwk];first | done | rfl | (simp;done)) | assumption | rfl)) (by first | omega | (simp only;omega) | (dsimp only;omega) | (show _ < _;simp;omega))
     ·exact zag (k + 1) (by refine ⟨?_,?_,?_,?_,?_,?_,by omega⟩ <;> (first | (simp (maxSteps:=5000000) -dsimp only [gr,reduceEqDiff,reduceLT,reduceAdd,reduceMod,Nat.reduceBEq,zaa,zac,zad,zab,h3a,r3a,r38a,h33a,r264a,h34a,hwk];first | done | rfl | (simp;done)) | assumption | rfl)) (by first | omega | (simp only;omega) | (dsimp only;omega) | (show _ < _;simp;omega))
   ·skip
    refine ⟨fun hg=>⟨fun _=>by rw [hg],fun h=>by rw [hg] at h;cases h⟩,fun hg=>zaf (zbE _ _) ?_⟩
    have hg:zap n xs = true:=by simpa using hg
    obtain ⟨m,rfl,h1,h6,_⟩:=zaS (zao.1 hg)
    obtain ⟨i1,i2⟩:=ziA hg
    have i3:=zjb (m:Int) xs
    have i4:zeJ (m:Int) xs = m:=if_pos hg
    have i5:apN (zeJ (m:Int) xs) (zhi m xs) = zeJ m xs:=if_pos (by rw [i3];exact hg)
    have i6:apL (zeJ (m:Int) xs) (zhi m xs) = clL m xs:=rfl
    have i7:=zmI hg
    have i8:=zfo hg hq
    rw [hg] at i3
    rw [i1,i2,i3]
    simp (maxSteps:=5000000) -dsimp only [↓gp,gq,reduceCtorEq,reduceEqDiff,reduceLT,reduceLeDiff,reduceAdd,reduceMul,reduceSub,Nat.reduceBEq,Int.reduceToNat,Int.reduceLE,Int.reduceLT,Int.reduceNeg,reduceMod,zac,zad,zab,zaa,gT,TK.isInt,TK.agg,Array.toList]
    refine zaf (zbr _ _) ?_
    rw [i3,i5,i6,i4]
    simp (maxSteps:=5000000) -dsimp only [↓gp,gq,reduceCtorEq,reduceEqDiff,reduceLT,reduceLeDiff,reduceAdd,reduceMul,reduceSub,Nat.reduceBEq,Int.reduceToNat,Int.reduceLE,Int.reduceLT,Int.reduceNeg,reduceMod,zac,zad,zab,zaa,gT,TK.isInt,TK.agg,Array.toList]
    refine ⟨by kernel_rfl,zaf (zbA _ _ _ _) ?_⟩
    simp (maxSteps:=5000000) -dsimp only [↓gp,gq,reduceCtorEq,reduceEqDiff,reduceLT,reduceLeDiff,reduceAdd,reduceMul,reduceSub,Nat.reduceBEq,Int.reduceToNat,Int.reduceLE,Int.reduceLT,Int.reduceNeg,reduceMod,zac,zad,zab,zaa,gT,TK.isInt,TK.agg,Array.toList,zas,zaB,bne_self_eq_false,beq_self_eq_true,zar,zaE,zaA,zaF]
    refine zaf (zaN _ _ _ _) ?_
    simp (maxSteps:=5000000) -dsimp only [↓gp,gq,reduceCtorEq,reduceEqDiff,reduceLT,reduceLeDiff,reduceAdd,reduceMul,reduceSub,Nat.reduceBEq,Int.reduceToNat,Int.reduceLE,Int.reduceLT,Int.reduceNeg,reduceMod,zac,zad,zab,zaa,gT,TK.isInt,TK.agg,Array.toList,zas,zaB,bne_self_eq_false,beq_self_eq_true,zar,zaE,zaA,zaF]
    refine zaf (zcF _ _) ?_
    rw [i7]
    simp (maxSteps:=5000000) -dsimp only [↓gp,gq,reduceCtorEq,reduceEqDiff,reduceLT,reduceLeDiff,reduceAdd,reduceMul,reduceSub,Nat.reduceBEq,Int.reduceToNat,Int.reduceLE,Int.reduceLT,Int.reduceNeg,reduceMod,zac,zad,zab,zaa,gT,TK.isInt,TK.agg,Array.toList,zas,zaB,bne_self_eq_false,beq_self_eq_true,zar,zaE,zaA,zaF]
    refine zaf (zde (m:Int) 2 (by omega)) ?_
    rw [i8]
    simp (maxSteps:=5000000) -dsimp only [↓gp,gq,reduceCtorEq,reduceEqDiff,reduceLT,reduceLeDiff,reduceAdd,reduceMul,reduceSub,Nat.reduceBEq,Int.reduceToNat,Int.reduceLE,Int.reduceLT,Int.reduceNeg,reduceMod,zac,zad,zab,zaa,gT,TK.isInt,TK.agg,Array.toList,zas,zaB,bne_self_eq_false,beq_self_eq_true,zar,zaE,zaA,zaF]
    refine ⟨by kernel_rfl,fun hmt=>⟨fun _=>zaf (zdR _ _) ?_,fun h0=>zrV hmt h0⟩,fun hmt=>?_⟩
    ·have i9:zuE (mtN (m:Int) xs) (mtL m xs) + 1 = zeN xs 0:=by
      have e:mtN (m:Int) xs = (xs.length:Int):=if_pos hmt
      rw [e];exact zrX hmt
     have i10:=zdB xs 0
     have i11:IntKind.i64.wrap (zuE (mtN (m:Int) xs) (mtL m xs) + 1) = zf4 m xs:=by
      have e:zf4 (m:Int) xs = zeN xs 0:=if_pos hg
      have hq:xs.length ≤ 450:=hq
      rw [i9,e,zat (by omega) (by omega)]
     simp (maxSteps:=5000000) -dsimp only [↓gp,gq,reduceCtorEq,reduceEqDiff,reduceLT,reduceLeDiff,reduceAdd,reduceMul,reduceSub,Nat.reduceBEq,Int.reduceToNat,Int.reduceLE,Int.reduceLT,Int.reduceNeg,reduceMod,zac,zad,zab,zaa,gT,TK.isInt,TK.agg,Array.toList]
     refine zaf (zb1 (m:Int) xs (by have hq:xs.length ≤ 450:=hq;omega)) ?_
     rw [i11]
     simp (maxSteps:=5000000) -dsimp only [↓gp,gq,reduceCtorEq,reduceEqDiff,reduceLT,reduceLeDiff,reduceAdd,reduceMul,reduceSub,Nat.reduceBEq,Int.reduceToNat,Int.reduceLE,Int.reduceLT,Int.reduceNeg,reduceMod,zac,zad,zab,zaa,gT,TK.isInt,TK.agg,Array.toList,zas,zaB,bne_self_eq_false,beq_self_eq_true,zar,zaE,zaA,zaF]
     refine zaf (zbf (m:Int) (clL m xs) 2) ?_
     have hch:=zb3 hg
     have hhl:(zkX (zca (m:Int) (clL m xs)) 2).length ≤ 7:=zcR _
     generalize zkX (zca (m:Int) (clL m xs)) 2 = H at *
     simp (maxSteps:=5000000) -dsimp only [↓gp,gq,reduceCtorEq,reduceEqDiff,reduceLT,reduceLeDiff,reduceAdd,reduceMul,reduceSub,Nat.reduceBEq,Int.reduceToNat,Int.reduceLE,Int.reduceLT,Int.reduceNeg,reduceMod,zac,zad,zab,zaa,gT,TK.isInt,TK.agg,Array.toList]
     refine zaq (fun (k:Nat) s=>s.sl 3 = .ref 3 1 0∧s.rw 3 = ⟨1,.box 36 [int m,.own 38 1]⟩∧s.rw 38 = ⟨1,.sli 3 1 false (iL xs)⟩∧s.sl 33 = .own 264 1∧s.rw 264 = ⟨1,.sli 3 1 false (iL H)⟩∧s.sl 34 = int k∧(2 ≤ k)) (fun k=>H.length - k) (2) (by refine ⟨?_,?_,?_,?_,?_,?_,Nat.le_refl _⟩ <;> (first | (simp (maxSteps:=5000000) -dsimp only [gr,reduceEqDiff,reduceLT,reduceAdd,reduceMod,Nat.reduceBEq,zaa,zac,zad,zab];first | done | rfl | (simp;done)) | assumption | rfl)) ?_
     intro k sa ⟨h3a,r3a,r38a,h33a,r264a,h34a,hIa⟩
     simp (maxSteps:=5000000) -dsimp only [↓gp,gq,reduceCtorEq,reduceEqDiff,reduceLT,reduceLeDiff,reduceAdd,reduceMul,reduceSub,Nat.reduceBEq,Int.reduceToNat,Int.reduceLE,Int.reduceLT,Int.reduceNeg,reduceMod,zac,zad,zab,zaa,gT,TK.isInt,TK.agg,Array.toList,h3a,r3a,r38a,h33a,r264a,h34a]
     refine fun hk=>zaf (zaU (m:Int) xs) ?_
     have hch2:=fun hc=>hch hc k hIa
     have hwk:=zae hk (by omega)
     simp (maxSteps:=5000000) -dsimp only [↓gp,gq,reduceCtorEq,reduceEqDiff,reduceLT,reduceLeDiff,reduceAdd,reduceMul,reduceSub,Nat.reduceBEq,Int.reduceToNat,Int.reduceLE,Int.reduceLT,Int.reduceNeg,reduceMod,zac,zad,zab,zaa,gT,TK.isInt,TK.agg,Array.toList,h3a,r3a,r38a,h33a,r264a,h34a]
     refine ⟨fun hc=>⟨by omega,by omega,fun h0=>(by rw [hch2 hc] at h0;cases h0),fun _=>?_⟩,fun hc=>?_⟩
     ·exact zag (k + 1) (by refine ⟨?_,?_,?_,?_,?_,?_,by omega⟩ <;> (first | (simp (maxSteps:=5000000) -dsimp only [gr,reduceEqDiff,reduceLT,reduceAdd,reduceMod,Nat.reduceBEq,zaa,zac,zad,zab,h3a,r3a,r38a,h33a,r264a,h34a,hwk];first | done | rfl | (simp;done)) | assumption | rfl)) (by first | omega | (simp only;omega) | (dsimp only;omega) | (show _ < _;simp;omega))
     ·exact zag (k + 1) (by refine ⟨?_,?_,?_,?_,?_,?_,by omega⟩ <;> (first | (simp (maxSteps:=5000000) -dsimp only [gr,reduceEqDiff,reduceLT,reduceAdd,reduceMod,Nat.reduceBEq,zaa,zac,zad,zab,h3a,r3a,r38a,h33a,r264a,h34a,hwk];first | done | rfl | (simp;done)) | assumption | rfl)) (by first | omega | (simp only;omega) | (dsimp only;omega) | (show _ < _;simp;omega))
    ·refine zaf (zbf (m:Int) (clL m xs) 2) ?_
     have hch:=zb3 hg
     have hhl:(zkX (zca (m:Int) (clL m xs)) 2).length ≤ 7:=zcR _
     generalize zkX (zca (m:Int) (clL m xs)) 2 = H at *
     simp (maxSteps:=5000000) -dsimp only [↓gp,gq,reduceCtorEq,reduceEqDiff,reduceLT,reduceLeDiff,reduceAdd,reduceMul,reduceSub,Nat.reduceBEq,Int.reduceToNat,Int.reduceLE,Int.reduceLT,Int.reduceNeg,reduceMod,zac,zad,zab,zaa,gT,TK.isInt,TK.agg,Array.toList]
     refine zaq (fun (k:Nat) s=>s.sl 3 = .ref 3 1 0∧s.rw 3 = ⟨1,.box 36 [int m,.own 38 1]⟩∧s.rw 38 = ⟨1,.sli 3 1 false (iL xs)⟩∧s.sl 33 = .own 264 1∧s.rw 264 = ⟨1,.sli 3 1 false (iL H)⟩∧s.sl 34 = int k∧(2 ≤ k)) (fun k=>H.length - k) (2) (by refine ⟨?_,?_,?_,?_,?_,?_,Nat.le_refl _⟩ <;> (first | (simp (maxSteps:=5000000) -dsimp only [gr,reduceEqDiff,reduceLT,reduceAdd,reduceMod,Nat.reduceBEq,zaa,zac,zad,zab];first | done | rfl | (simp;done)) | assumption | rfl)) ?_
     intro k sa ⟨h3a,r3a,r38a,h33a,r264a,h34a,hIa⟩
     simp (maxSteps:=5000000) -dsimp only [↓gp,gq,reduceCtorEq,reduceEqDiff,reduceLT,reduceLeDiff,reduceAdd,reduceMul,reduceSub,Nat.reduceBEq,Int.reduceToNat,Int.reduceLE,Int.reduceLT,Int.reduceNeg,reduceMod,zac,zad,zab,zaa,gT,TK.isInt,TK.agg,Array.toList,h3a,r3a,r38a,h33a,r264a,h34a]
     refine fun hk=>zaf (zaU (m:Int) xs) ?_
     have hch2:=fun hc=>hch hc k hIa
     have hwk:=zae hk (by omega)
     simp (maxSteps:=5000000) -dsimp only [↓gp,gq,reduceCtorEq,reduceEqDiff,reduceLT,reduceLeDiff,reduceAdd,reduceMul,reduceSub,Nat.reduceBEq,Int.reduceToNat,Int.reduceLE,Int.reduceLT,Int.reduceNeg,reduceMod,zac,zad,zab,zaa,gT,TK.isInt,TK.agg,Array.toList,h3a,r3a,r38a,h33a,r264a,h34a]
     refine ⟨fun hc=>⟨by omega,by omega,fun h0=>(by rw [hch2 hc] at h0;cases h0),fun _=>?_⟩,fun hc=>?_⟩
     ·exact zag (k + 1) (by refine ⟨?_,?_,?_,?_,?_,?_,by omega⟩ <;> (first | (simp (maxSteps:=5000000) -dsimp only [gr,reduceEqDiff,reduceLT,reduceAdd,reduceMod,Nat.reduceBEq,zaa,zac,zad,zab,h3a,r3a,r38a,h33a,r264a,h34a,hwk];first | done | rfl | (simp;done)) | assumption | rfl)) (by first | omega | (simp only;omega) | (dsimp only;omega) | (show _ < _;simp;omega))
     ·exact zag (k + 1) (by refine ⟨?_,?_,?_,?_,?_,?_,by omega⟩ <;> (first | (simp (maxSteps:=5000000) -dsimp only [gr,reduceEqDiff,reduceLT,reduceAdd,reduceMod,Nat.reduceBEq,zaa,zac,zad,zab,h3a,r3a,r38a,h33a,r264a,h34a,hwk];first | done | rfl | (simp;done)) | assumption | rfl)) (by first | omega | (simp only;omega) | (dsimp only;omega) | (show _ < _;simp;omega))
  ·skip
   refine ⟨fun hg=>⟨fun _=>by rw [hg],fun h=>by rw [hg] at h;cases h⟩,fun hg=>zaf (zbE _ _) ?_⟩
   have hg:zap n xs = true:=by simpa using hg
   obtain ⟨m,rfl,h1,h6,_⟩:=zaS (zao.1 hg)
   obtain ⟨i1,i2⟩:=ziA hg
   have i3:=zjb (m:Int) xs
   have i4:zeJ (m:Int) xs = m:=if_pos hg
   have i5:apN (zeJ (m:Int) xs) (zhi m xs) = zeJ m xs:=if_pos (by rw [i3];exact hg)
   have i6:apL (zeJ (m:Int) xs) (zhi m xs) = clL m xs:=rfl
   have i7:=zmI hg
   have i8:=zfo hg hq
   rw [hg] at i3
   rw [i1,i2,i3]
   simp (maxSteps:=5000000) -dsimp only [↓gp,gq,reduceCtorEq,reduceEqDiff,reduceLT,reduceLeDiff,reduceAdd,reduceMul,reduceSub,Nat.reduceBEq,Int.reduceToNat,Int.reduceLE,Int.reduceLT,Int.reduceNeg,reduceMod,zac,zad,zab,zaa,gT,TK.isInt,TK.agg,Array.toList]
   refine zaf (zbr _ _) ?_
   rw [i3,i5,i6,i4]
   simp (maxSteps:=5000000) -dsimp only [↓gp,gq,reduceCtorEq,reduceEqDiff,reduceLT,reduceLeDiff,reduceAdd,reduceMul,reduceSub,Nat.reduceBEq,Int.reduceToNat,Int.reduceLE,Int.reduceLT,Int.reduceNeg,reduceMod,zac,zad,zab,zaa,gT,TK.isInt,TK.agg,Array.toList]
   refine ⟨by kernel_rfl,zaf (zbA _ _ _ _) ?_⟩
   simp (maxSteps:=5000000) -dsimp only [↓gp,gq,reduceCtorEq,reduceEqDiff,reduceLT,reduceLeDiff,reduceAdd,reduceMul,reduceSub,Nat.reduceBEq,Int.reduceToNat,Int.reduceLE,Int.reduceLT,Int.reduceNeg,reduceMod,zac,zad,zab,zaa,gT,TK.isInt,TK.agg,Array.toList,zas,zaB,bne_self_eq_false,beq_self_eq_true,zar,zaE,zaA,zaF]
   refine zaf (zaN _ _ _ _) ?_
   simp (maxSteps:=5000000) -dsimp only [↓gp,gq,reduceCtorEq,reduceEqDiff,reduceLT,reduceLeDiff,reduceAdd,reduceMul,reduceSub,Nat.reduceBEq,Int.reduceToNat,Int.reduceLE,Int.reduceLT,Int.reduceNeg,reduceMod,zac,zad,zab,zaa,gT,TK.isInt,TK.agg,Array.toList,zas,zaB,bne_self_eq_false,beq_self_eq_true,zar,zaE,zaA,zaF]
   refine zaf (zcF _ _) ?_
   rw [i7]
   simp (maxSteps:=5000000) -dsimp only [↓gp,gq,reduceCtorEq,reduceEqDiff,reduceLT,reduceLeDiff,reduceAdd,reduceMul,reduceSub,Nat.reduceBEq,Int.reduceToNat,Int.reduceLE,Int.reduceLT,Int.reduceNeg,reduceMod,zac,zad,zab,zaa,gT,TK.isInt,TK.agg,Array.toList,zas,zaB,bne_self_eq_false,beq_self_eq_true,zar,zaE,zaA,zaF]
   refine zaf (zde (m:Int) 2 (by omega)) ?_
   rw [i8]
   simp (maxSteps:=5000000) -dsimp only [↓gp,gq,reduceCtorEq,reduceEqDiff,reduceLT,reduceLeDiff,reduceAdd,reduceMul,reduceSub,Nat.reduceBEq,Int.reduceToNat,Int.reduceLE,Int.reduceLT,Int.reduceNeg,reduceMod,zac,zad,zab,zaa,gT,TK.isInt,TK.agg,Array.toList,zas,zaB,bne_self_eq_false,beq_self_eq_true,zar,zaE,zaA,zaF]
   refine ⟨by kernel_rfl,fun hmt=>⟨fun _=>zaf (zdR _ _) ?_,fun h0=>zrV hmt h0⟩,fun hmt=>?_⟩
   ·have i9:zuE (mtN (m:Int) xs) (mtL m xs) + 1 = zeN xs 0:=by
     have e:mtN (m:Int) xs = (xs.length:Int):=if_pos hmt
     rw [e];exact zrX hmt
    have i10:=zdB xs 0
    have i11:IntKind.i64.wrap (zuE (mtN (m:Int) xs) (mtL m xs) + 1) = zf4 m xs:=by
     have e:zf4 (m:Int) xs = zeN xs 0:=if_pos hg
     have hq:xs.length ≤ 450:=hq
     rw [i9,e,zat (by omega) (by omega)]
    simp (maxSteps:=5000000) -dsimp only [↓gp,gq,reduceCtorEq,reduceEqDiff,reduceLT,reduceLeDiff,reduceAdd,reduceMul,reduceSub,Nat.reduceBEq,Int.reduceToNat,Int.reduceLE,Int.reduceLT,Int.reduceNeg,reduceMod,zac,zad,zab,zaa,gT,TK.isInt,TK.agg,Array.toList]
    refine zaf (zb1 (m:Int) xs (by have hq:xs.length ≤ 450:=hq;omega)) ?_
    rw [i11]
    simp (maxSteps:=5000000) -dsimp only [↓gp,gq,reduceCtorEq,reduceEqDiff,reduceLT,reduceLeDiff,reduceAdd,reduceMul,reduceSub,Nat.reduceBEq,Int.reduceToNat,Int.reduceLE,Int.reduceLT,Int.reduceNeg,reduceMod,zac,zad,zab,zaa,gT,TK.isInt,TK.agg,Array.toList,zas,zaB,bne_self_eq_false,beq_self_eq_true,zar,zaE,zaA,zaF]
    refine zaf (zbf (m:Int) (clL m xs) 2) ?_
    have hch:=zb3 hg
    have hhl:(zkX (zca (m:Int) (clL m xs)) 2).length ≤ 7:=zcR _
    generalize zkX (zca (m:Int) (clL m xs)) 2 = H at *
    simp (maxSteps:=5000000) -dsimp only [↓gp,gq,reduceCtorEq,reduceEqDiff,reduceLT,reduceLeDiff,reduceAdd,reduceMul,reduceSub,Nat.reduceBEq,Int.reduceToNat,Int.reduceLE,Int.reduceLT,Int.reduceNeg,reduceMod,zac,zad,zab,zaa,gT,TK.isInt,TK.agg,Array.toList]
    refine zaq (fun (k:Nat) s=>s.sl 3 = .ref 3 1 0∧s.rw 3 = ⟨1,.box 36 [int m,.own 38 1]⟩∧s.rw 38 = ⟨1,.sli 3 1 false (iL xs)⟩∧s.sl 33 = .own 264 1∧s.rw 264 = ⟨1,.sli 3 1 false (iL H)⟩∧s.sl 34 = int k∧(2 ≤ k)) (fun k=>H.length - k) (2) (by refine ⟨?_,?_,?_,?_,?_,?_,Nat.le_refl _⟩ <;> (first | (simp (maxSteps:=5000000) -dsimp only [gr,reduceEqDiff,reduceLT,reduceAdd,reduceMod,Nat.reduceBEq,zaa,zac,zad,zab];first | done | rfl | (simp;done)) | assumption | rfl)) ?_
    intro k sa ⟨h3a,r3a,r38a,h33a,r264a,h34a,hIa⟩
    simp (maxSteps:=5000000) -dsimp only [↓gp,gq,reduceCtorEq,reduceEqDiff,reduceLT,reduceLeDiff,reduceAdd,reduceMul,reduceSub,Nat.reduceBEq,Int.reduceToNat,Int.reduceLE,Int.reduceLT,Int.reduceNeg,reduceMod,zac,zad,zab,zaa,gT,TK.isInt,TK.agg,Array.toList,h3a,r3a,r38a,h33a,r264a,h34a]
    refine fun hk=>zaf (zaU (m:Int) xs) ?_
    have hch2:=fun hc=>hch hc k hIa
    have hwk:=zae hk (by omega)
    simp (maxSteps:=5000000) -dsimp only [↓gp,gq,reduceCtorEq,reduceEqDiff,reduceLT,reduceLeDiff,reduceAdd,reduceMul,reduceSub,Nat.reduceBEq,Int.reduceToNat,Int.reduceLE,Int.reduceLT,Int.reduceNeg,reduceMod,zac,zad,zab,zaa,gT,TK.isInt,TK.agg,Array.toList,h3a,r3a,r38a,h33a,r264a,h34a]
    refine ⟨fun hc=>⟨by omega,by omega,fun h0=>(by rw [hch2 hc] at h0;cases h0),fun _=>?_⟩,fun hc=>?_⟩
    ·exact zag (k + 1) (by refine ⟨?_,?_,?_,?_,?_,?_,by omega⟩ <;> (first | (simp (maxSteps:=5000000) -dsimp only [gr,reduceEqDiff,reduceLT,reduceAdd,reduceMod,Nat.reduceBEq,zaa,zac,zad,zab,h3a,r3a,r38a,h33a,r264a,h34a,hwk];first | done | rfl | (simp;done)) | assumption | rfl)) (by first | omega | (simp only;omega) | (dsimp only;omega) | (show _ < _;simp;omega))
    ·exact zag (k + 1) (by refine ⟨?_,?_,?_,?_,?_,?_,by omega⟩ <;> (first | (simp (maxSteps:=5000000) -dsimp only [gr,reduceEqDiff,reduceLT,reduceAdd,reduceMod,Nat.reduceBEq,zaa,zac,zad,zab,h3a,r3a,r38a,h33a,r264a,h34a,hwk];first | done | rfl | (simp;done)) | assumption | rfl)) (by first | omega | (simp only;omega) | (dsimp only;omega) | (show _ < _;simp;omega))
   ·refine zaf (zbf (m:Int) (clL m xs) 2) ?_
    have hch:=zb3 hg
    have hhl:(zkX (zca (m:Int) (clL m xs)) 2).length ≤ 7:=zcR _
    generalize zkX (zca (m:Int) (clL m xs)) 2 = H at *
    simp (maxSteps:=5000000) -dsimp only [↓gp,gq,reduceCtorEq,reduceEqDiff,reduceLT,reduceLeDiff,reduceAdd,reduceMul,reduceSub,Nat.reduceBEq,Int.reduceToNat,Int.reduceLE,Int.reduceLT,Int.reduceNeg,reduceMod,zac,zad,zab,zaa,gT,TK.isInt,TK.agg,Array.toList]
    refine zaq (fun (k:Nat) s=>s.sl 3 = .ref 3 1 0∧s.rw 3 = ⟨1,.box 36 [int m,.own 38 1]⟩∧s.rw 38 = ⟨1,.sli 3 1 false (iL xs)⟩∧s.sl 33 = .own 264 1∧s.rw 264 = ⟨1,.sli 3 1 false (iL H)⟩∧s.sl 34 = int k∧(2 ≤ k)) (fun k=>H.length - k) (2) (by refine ⟨?_,?_,?_,?_,?_,?_,Nat.le_refl _⟩ <;> (first | (simp (maxSteps:=5000000) -dsimp only [gr,reduceEqDiff,reduceLT,reduceAdd,reduceMod,Nat.reduceBEq,zaa,zac,zad,zab];first | done | rfl | (simp;done)) | assumption | rfl)) ?_
    intro k sa ⟨h3a,r3a,r38a,h33a,r264a,h34a,hIa⟩
    simp (maxSteps:=5000000) -dsimp only [↓gp,gq,reduceCtorEq,reduceEqDiff,reduceLT,reduceLeDiff,reduceAdd,reduceMul,reduceSub,Nat.reduceBEq,Int.reduceToNat,Int.reduceLE,Int.reduceLT,Int.reduceNeg,reduceMod,zac,zad,zab,zaa,gT,TK.isInt,TK.agg,Array.toList,h3a,r3a,r38a,h33a,r264a,h34a]
    refine fun hk=>zaf (zaU (m:Int) xs) ?_
    have hch2:=fun hc=>hch hc k hIa
    have hwk:=zae hk (by omega)
    simp (maxSteps:=5000000) -dsimp only [↓gp,gq,reduceCtorEq,reduceEqDiff,reduceLT,reduceLeDiff,reduceAdd,reduceMul,reduceSub,Nat.reduceBEq,Int.reduceToNat,Int.reduceLE,Int.reduceLT,Int.reduceNeg,reduceMod,zac,zad,zab,zaa,gT,TK.isInt,TK.agg,Array.toList,h3a,r3a,r38a,h33a,r264a,h34a]
    refine ⟨fun hc=>⟨by omega,by omega,fun h0=>(by rw [hch2 hc] at h0;cases h0),fun _=>?_⟩,fun hc=>?_⟩
    ·exact zag (k + 1) (by refine ⟨?_,?_,?_,?_,?_,?_,by omega⟩ <;> (first | (simp (maxSteps:=5000000) -dsimp only [gr,reduceEqDiff,reduceLT,reduceAdd,reduceMod,Nat.reduceBEq,zaa,zac,zad,zab,h3a,r3a,r38a,h33a,r264a,h34a,hwk];first | done | rfl | (simp;done)) | assumption | rfl)) (by first | omega | (simp only;omega) | (dsimp only;omega) | (show _ < _;simp;omega))
    ·exact zag (k + 1) (by refine ⟨?_,?_,?_,?_,?_,?_,by omega⟩ <;> (first | (simp (maxSteps:=5000000) -dsimp only [gr,reduceEqDiff,reduceLT,reduceAdd,reduceMod,Nat.reduceBEq,zaa,zac,zad,zab,h3a,r3a,r38a,h33a,r264a,h34a,hwk];first | done | rfl | (simp;done)) | assumption | rfl)) (by first | omega | (simp only;omega) | (dsimp only;omega) | (show _ < _;simp;omega))
 ·skip
  refine ⟨fun hg=>⟨fun _=>by rw [hg],fun h=>by rw [hg] at h;cases h⟩,fun hg=>zaf (zbE _ _) ?_⟩
  have hg:zap n xs = true:=by simpa using hg
  obtain ⟨m,rfl,h1,h6,_⟩:=zaS (zao.1 hg)
  obtain ⟨i1,i2⟩:=ziA hg
  have i3:=zjb (m:Int) xs
  have i4:zeJ (m:Int) xs = m:=if_pos hg
  have i5:apN (zeJ (m:Int) xs) (zhi m xs) = zeJ m xs:=if_pos (by rw [i3];exact hg)
  have i6:apL (zeJ (m:Int) xs) (zhi m xs) = clL m xs:=rfl
  have i7:=zmI hg
  have i8:=zfo hg hq
  rw [hg] at i3
  rw [i1,i2,i3]
  simp (maxSteps:=5000000) -dsimp only [↓gp,gq,reduceCtorEq,reduceEqDiff,reduceLT,reduceLeDiff,reduceAdd,reduceMul,reduceSub,Nat.reduceBEq,Int.reduceToNat,Int.reduceLE,Int.reduceLT,Int.reduceNeg,reduceMod,zac,zad,zab,zaa,gT,TK.isInt,TK.agg,Array.toList]
  refine zaf (zbr _ _) ?_
  rw [i3,i5,i6,i4]
  simp (maxSteps:=5000000) -dsimp only [↓gp,gq,reduceCtorEq,reduceEqDiff,reduceLT,reduceLeDiff,reduceAdd,reduceMul,reduceSub,Nat.reduceBEq,Int.reduceToNat,Int.reduceLE,Int.reduceLT,Int.reduceNeg,reduceMod,zac,zad,zab,zaa,gT,TK.isInt,TK.agg,Array.toList]
  refine ⟨by kernel_rfl,zaf (zbA _ _ _ _) ?_⟩
  simp (maxSteps:=5000000) -dsimp only [↓gp,gq,reduceCtorEq,reduceEqDiff,reduceLT,reduceLeDiff,reduceAdd,reduceMul,reduceSub,Nat.reduceBEq,Int.reduceToNat,Int.reduceLE,Int.reduceLT,Int.reduceNeg,reduceMod,zac,zad,zab,zaa,gT,TK.isInt,TK.agg,Array.toList,zas,zaB,bne_self_eq_false,beq_self_eq_true,zar,zaE,zaA,zaF]
  refine zaf (zaN _ _ _ _) ?_
  simp (maxSteps:=5000000) -dsimp only [↓gp,gq,reduceCtorEq,reduceEqDiff,reduceLT,reduceLeDiff,reduceAdd,reduceMul,reduceSub,Nat.reduceBEq,Int.reduceToNat,Int.reduceLE,Int.reduceLT,Int.reduceNeg,reduceMod,zac,zad,zab,zaa,gT,TK.isInt,TK.agg,Array.toList,zas,zaB,bne_self_eq_false,beq_self_eq_true,zar,zaE,zaA,zaF]
  refine zaf (zcF _ _) ?_
  rw [i7]
  simp (maxSteps:=5000000) -dsimp only [↓gp,gq,reduceCtorEq,reduceEqDiff,reduceLT,reduceLeDiff,reduceAdd,reduceMul,reduceSub,Nat.reduceBEq,Int.reduceToNat,Int.reduceLE,Int.reduceLT,Int.reduceNeg,reduceMod,zac,zad,zab,zaa,gT,TK.isInt,TK.agg,Array.toList,zas,zaB,bne_self_eq_false,beq_self_eq_true,zar,zaE,zaA,zaF]
  refine zaf (zde (m:Int) 2 (by omega)) ?_
  rw [i8]
  simp (maxSteps:=5000000) -dsimp only [↓gp,gq,reduceCtorEq,reduceEqDiff,reduceLT,reduceLeDiff,reduceAdd,reduceMul,reduceSub,Nat.reduceBEq,Int.reduceToNat,Int.reduceLE,Int.reduceLT,Int.reduceNeg,reduceMod,zac,zad,zab,zaa,gT,TK.isInt,TK.agg,Array.toList,zas,zaB,bne_self_eq_false,beq_self_eq_true,zar,zaE,zaA,zaF]
  refine ⟨by kernel_rfl,fun hmt=>⟨fun _=>zaf (zdR _ _) ?_,fun h0=>zrV hmt h0⟩,fun hmt=>?_⟩
  ·have i9:zuE (mtN (m:Int) xs) (mtL m xs) + 1 = zeN xs 0:=by
    have e:mtN (m:Int) xs = (xs.length:Int):=if_pos hmt
    rw [e];exact zrX hmt
   have i10:=zdB xs 0
   have i11:IntKind.i64.wrap (zuE (mtN (m:Int) xs) (mtL m xs) + 1) = zf4 m xs:=by
    have e:zf4 (m:Int) xs = zeN xs 0:=if_pos hg
    have hq:xs.length ≤ 450:=hq
    rw [i9,e,zat (by omega) (by omega)]
   simp (maxSteps:=5000000) -dsimp only [↓gp,gq,reduceCtorEq,reduceEqDiff,reduceLT,reduceLeDiff,reduceAdd,reduceMul,reduceSub,Nat.reduceBEq,Int.reduceToNat,Int.reduceLE,Int.reduceLT,Int.reduceNeg,reduceMod,zac,zad,zab,zaa,gT,TK.isInt,TK.agg,Array.toList]
   refine zaf (zb1 (m:Int) xs (by have hq:xs.length ≤ 450:=hq;omega)) ?_
   rw [i11]
   simp (maxSteps:=5000000) -dsimp only [↓gp,gq,reduceCtorEq,reduceEqDiff,reduceLT,reduceLeDiff,reduceAdd,reduceMul,reduceSub,Nat.reduceBEq,Int.reduceToNat,Int.reduceLE,Int.reduceLT,Int.reduceNeg,reduceMod,zac,zad,zab,zaa,gT,TK.isInt,TK.agg,Array.toList,zas,zaB,bne_self_eq_false,beq_self_eq_true,zar,zaE,zaA,zaF]
   refine zaf (zbf (m:Int) (clL m xs) 2) ?_
   have hch:=zb3 hg
   have hhl:(zkX (zca (m:Int) (clL m xs)) 2).length ≤ 7:=zcR _
   generalize zkX (zca (m:Int) (clL m xs)) 2 = H at *
   simp (maxSteps:=5000000) -dsimp only [↓gp,gq,reduceCtorEq,reduceEqDiff,reduceLT,reduceLeDiff,reduceAdd,reduceMul,reduceSub,Nat.reduceBEq,Int.reduceToNat,Int.reduceLE,Int.reduceLT,Int.reduceNeg,reduceMod,zac,zad,zab,zaa,gT,TK.isInt,TK.agg,Array.toList]
   refine zaq (fun (k:Nat) s=>s.sl 3 = .ref 3 1 0∧s.rw 3 = ⟨1,.box 36 [int m,.own 38 1]⟩∧s.rw 38 = ⟨1,.sli 3 1 false (iL xs)⟩∧s.sl 33 = .own 264 1∧s.rw 264 = ⟨1,.sli 3 1 false (iL H)⟩∧s.sl 34 = int k∧(2 ≤ k)) (fun k=>H.length - k) (2) (by refine ⟨?_,?_,?_,?_,?_,?_,Nat.le_refl _⟩ <;> (first | (simp (maxSteps:=5000000) -dsimp only [gr,reduceEqDiff,reduceLT,reduceAdd,reduceMod,Nat.reduceBEq,zaa,zac,zad,zab];first | done | rfl | (simp;done)) | assumption | rfl)) ?_
   intro k sa ⟨h3a,r3a,r38a,h33a,r264a,h34a,hIa⟩
   simp (maxSteps:=5000000) -dsimp only [↓gp,gq,reduceCtorEq,reduceEqDiff,reduceLT,reduceLeDiff,reduceAdd,reduceMul,reduceSub,Nat.reduceBEq,Int.reduceToNat,Int.reduceLE,Int.reduceLT,Int.reduceNeg,reduceMod,zac,zad,zab,zaa,gT,TK.isInt,TK.agg,Array.toList,h3a,r3a,r38a,h33a,r264a,h34a]
   refine fun hk=>zaf (zaU (m:Int) xs) ?_
   have hch2:=fun hc=>hch hc k hIa
   have hwk:=zae hk (by omega)
   simp (maxSteps:=5000000) -dsimp only [↓gp,gq,reduceCtorEq,reduceEqDiff,reduceLT,reduceLeDiff,reduceAdd,reduceMul,reduceSub,Nat.reduceBEq,Int.reduceToNat,Int.reduceLE,Int.reduceLT,Int.reduceNeg,reduceMod,zac,zad,zab,zaa,gT,TK.isInt,TK.agg,Array.toList,h3a,r3a,r38a,h33a,r264a,h34a]
   refine ⟨fun hc=>⟨by omega,by omega,fun h0=>(by rw [hch2 hc] at h0;cases h0),fun _=>?_⟩,fun hc=>?_⟩
   ·exact zag (k + 1) (by refine ⟨?_,?_,?_,?_,?_,?_,by omega⟩ <;> (first | (simp (maxSteps:=5000000) -dsimp only [gr,reduceEqDiff,reduceLT,reduceAdd,reduceMod,Nat.reduceBEq,zaa,zac,zad,zab,h3a,r3a,r38a,h33a,r264a,h34a,hwk];first | done | rfl | (simp;done)) | assumption | rfl)) (by first | omega | (simp only;omega) | (dsimp only;omega) | (show _ < _;simp;omega))
   ·exact zag (k + 1) (by refine ⟨?_,?_,?_,?_,?_,?_,by omega⟩ <;> (first | (simp (maxSteps:=5000000) -dsimp only [gr,reduceEqDiff,reduceLT,reduceAdd,reduceMod,Nat.reduceBEq,zaa,zac,zad,zab,h3a,r3a,r38a,h33a,r264a,h34a,hwk];first | done | rfl | (simp;done)) | assumption | rfl)) (by first | omega | (simp only;omega) | (dsimp only;omega) | (show _ < _;simp;omega))
  ·refine zaf (zbf (m:Int) (clL m xs) 2) ?_
   have hch:=zb3 hg
   have hhl:(zkX (zca (m:Int) (clL m xs)) 2).length ≤ 7:=zcR _
   generalize zkX (zca (m:Int) (clL m xs)) 2 = H at *
   simp (maxSteps:=5000000) -dsimp only [↓gp,gq,reduceCtorEq,reduceEqDiff,reduceLT,reduceLeDiff,reduceAdd,reduceMul,reduceSub,Nat.reduceBEq,Int.reduceToNat,Int.reduceLE,Int.reduceLT,Int.reduceNeg,reduceMod,zac,zad,zab,zaa,gT,TK.isInt,TK.agg,Array.toList]
   refine zaq (fun (k:Nat) s=>s.sl 3 = .ref 3 1 0∧s.rw 3 = ⟨1,.box 36 [int m,.own 38 1]⟩∧s.rw 38 = ⟨1,.sli 3 1 false (iL xs)⟩∧s.sl 33 = .own 264 1∧s.rw 264 = ⟨1,.sli 3 1 false (iL H)⟩∧s.sl 34 = int k∧(2 ≤ k)) (fun k=>H.length - k) (2) (by refine ⟨?_,?_,?_,?_,?_,?_,Nat.le_refl _⟩ <;> (first | (simp (maxSteps:=5000000) -dsimp only [gr,reduceEqDiff,reduceLT,reduceAdd,reduceMod,Nat.reduceBEq,zaa,zac,zad,zab];first | done | rfl | (simp;done)) | assumption | rfl)) ?_
   intro k sa ⟨h3a,r3a,r38a,h33a,r264a,h34a,hIa⟩
   simp (maxSteps:=5000000) -dsimp only [↓gp,gq,reduceCtorEq,reduceEqDiff,reduceLT,reduceLeDiff,reduceAdd,reduceMul,reduceSub,Nat.reduceBEq,Int.reduceToNat,Int.reduceLE,Int.reduceLT,Int.reduceNeg,reduceMod,zac,zad,zab,zaa,gT,TK.isInt,TK.agg,Array.toList,h3a,r3a,r38a,h33a,r264a,h34a]
   refine fun hk=>zaf (zaU (m:Int) xs) ?_
   have hch2:=fun hc=>hch hc k hIa
   have hwk:=zae hk (by omega)
   simp (maxSteps:=5000000) -dsimp only [↓gp,gq,reduceCtorEq,reduceEqDiff,reduceLT,reduceLeDiff,reduceAdd,reduceMul,reduceSub,Nat.reduceBEq,Int.reduceToNat,Int.reduceLE,Int.reduceLT,Int.reduceNeg,reduceMod,zac,zad,zab,zaa,gT,TK.isInt,TK.agg,Array.toList,h3a,r3a,r38a,h33a,r264a,h34a]
   refine ⟨fun hc=>⟨by omega,by omega,fun h0=>(by rw [hch2 hc] at h0;cases h0),fun _=>?_⟩,fun hc=>?_⟩
   ·exact zag (k + 1) (by refine ⟨?_,?_,?_,?_,?_,?_,by omega⟩ <;> (first | (simp (maxSteps:=5000000) -dsimp only [gr,reduceEqDiff,reduceLT,reduceAdd,reduceMod,Nat.reduceBEq,zaa,zac,zad,zab,h3a,r3a,r38a,h33a,r264a,h34a,hwk];first | done | rfl | (simp;done)) | assumption | rfl)) (by first | omega | (simp only;omega) | (dsimp only;omega) | (show _ < _;simp;omega))
   ·exact zag (k + 1) (by refine ⟨?_,?_,?_,?_,?_,?_,by omega⟩ <;> (first | (simp (maxSteps:=5000000) -dsimp only [gr,reduceEqDiff,reduceLT,reduceAdd,reduceMod,Nat.reduceBEq,zaa,zac,zad,zab,h3a,r3a,r38a,h33a,r264a,h34a,hwk];first | done | rfl | (simp;done)) | assumption | rfl)) (by first | omega | (simp only;omega) | (dsimp only;omega) | (show _ < _;simp;omega))
end Go.Proofs.YtpnknaaehcljoaaGreat

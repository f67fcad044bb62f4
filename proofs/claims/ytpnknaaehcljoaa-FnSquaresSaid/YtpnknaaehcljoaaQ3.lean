/- DERIVED by an AI agent. -/
import Derived.Test.YtpnknaaehcljoaaQ2
import Derived.Test.YtpnknaaehcljoaaP1
import Derived.Test.YtpnknaaehcljoaaQ1
import Derived.Test.YtpnknaaehcljoaaA13
import Derived.Test.YtpnknaaehcljoaaA14
namespace Go.Proofs.Ytpnknaaehcljoaa
open Go.Abs
set_option linter.unusedSimpArgs false
set_option linter.unusedVariables false
end Go.Proofs.Ytpnknaaehcljoaa

namespace Go.Proofs.Ytpnknaaehcljoaa
open Go.Abs
open Nat (reduceEqDiff reduceMod reduceAdd reduceLT reduceLeDiff reduceSub reduceMul)
set_option linter.unusedSimpArgs false
set_option linter.unusedVariables false
theorem zlD (n:Int) (xs:List Int) (hx:okS xs):AC Try.prog 150 [int n,zbr xs] (.ag [.im (int n),.fr 3 1 (iL (ofN (zga (inF xs) true)))]):=by
 refine AC.go (rs:=[.cell 4 27]) zbq zaD Try.func150 rfl rfl rfl (by kernel_rfl) fun hl=>?_
 simp (maxSteps:=5000000) -dsimp only [↓gp,gq,reduceCtorEq,reduceEqDiff,reduceLT,reduceLeDiff,reduceAdd,reduceMul,reduceSub,Nat.reduceBEq,Int.reduceToNat,Int.reduceLE,Int.reduceLT,Int.reduceNeg,reduceMod,zac,zad,zab,zaa,gT,TK.isInt,TK.agg,Array.toList]
 refine zak (zdF true xs hx) ?_
 simp (maxSteps:=5000000) -dsimp only [↓gp,gq,reduceCtorEq,reduceEqDiff,reduceLT,reduceLeDiff,reduceAdd,reduceMul,reduceSub,Nat.reduceBEq,Int.reduceToNat,Int.reduceLE,Int.reduceLT,Int.reduceNeg,reduceMod,zac,zad,zab,zaa,gT,TK.isInt,TK.agg,Array.toList]
end Go.Proofs.Ytpnknaaehcljoaa

namespace Go.Proofs.Ytpnknaaehcljoaa
open Go.Abs
set_option linter.unusedSimpArgs false
set_option linter.unusedVariables false
def kcx (P:Int→List Int→Prop) (rv:RV):Prop:=∃ n xs,rv = .ag [.im (int n),.fr 3 1 (iL xs)]∧P n xs
def cxQ (n:Int) (xs:List Int):Prop:=0 ≤ n∧n ≤ 7∧xs.length ≤ 449
theorem ztr {n:Nat} (hn:n ≤ 6) (f:Nat→Bool) (g:Bool):kcx cxQ (.ag [.im (int n),.fr 3 1 (iL (ofN (zga f g)))]) :=
 ⟨_,_,rfl,by omega,by omega,by rw [zav];exact Nat.le_succ_of_le (zr1 f g)⟩
end Go.Proofs.Ytpnknaaehcljoaa

namespace Go.Proofs.Ytpnknaaehcljoaa
open Go.Abs
set_option linter.unusedSimpArgs false
set_option linter.unusedVariables false
theorem zi7 {rw:Nat→Row} {k v e e2:Nat} {p:List Nat} {M:Mat} (h:TabI rw k v e e2 p M) (rw':Nat→Row) (hr:∀ j,rw' (sid k j) = rw (sid k j)):(zar k p).map (zes rw') = iLL M:=by
 rw [← zvl,← zoQ h.is]
 refine List.map_congr_left fun c hc=>?_
 obtain ⟨j,_,rfl⟩:=List.mem_map.1 hc
 simp only [zes,hr]
end Go.Proofs.Ytpnknaaehcljoaa

namespace Go.Proofs.Ytpnknaaehcljoaa
open Go.Abs
open Nat (reduceEqDiff reduceMod reduceAdd reduceLT reduceLeDiff reduceSub reduceMul)
set_option linter.unusedSimpArgs false
set_option linter.unusedVariables false
def ztn (x:List (List Int)) (k:Nat):Prop:=zbL (x.getD k []) = true∧(∀ i,i < k→zc2 (x.getD i []) (x.getD k []) = false∧zc2 (x.getD k []) (x.getD i []) = false)∧(0 < k→zhI (x.getD k []) (x.getD (k - 1) []) = true)
open Classical in
noncomputable def p19 (x:List (List Int)):Bool:=decide ((∀ k,k < x.length→ztn x k)∧x.length ≤ 5)
open Classical in
theorem zr2 {x:List (List Int)} {k:Nat} (h:k < x.length) (hn:¬ ztn x k):p19 x = false:=decide_eq_false fun hh=>hn (hh.1 k h)
open Classical in
theorem zww {x:List (List Int)} (h:(∀ k,k < x.length→ztn x k)∧x.length ≤ 5):p19 x = true:=decide_eq_true h
open Classical in
theorem zlL {x:List (List Int)} (h:¬ ((∀ k,k < x.length→ztn x k)∧x.length ≤ 5)):p19 x = false:=decide_eq_false h
theorem zbw {xs:List Int} (h:zbL xs = true):xs.length = 3:=by
 simp only [zbL,Bool.and_eq_true] at h
 simpa using h.1
theorem zbt (x:List (List Int)):AC Try.prog 31 [.ag [zcp x]] (.im (bool (p19 x))):=by
 refine AC.go (rs:=[.tmp 2]) zbq zaD Try.func31 rfl rfl rfl (by kernel_rfl) fun hl=>?_
 simp only [zaH,zaN,and_true,zdn,List.mem_singleton,forall_eq,zci] at hl
 simp (maxSteps:=5000000) -dsimp only [↓gp,gq,reduceCtorEq,reduceEqDiff,reduceLT,reduceLeDiff,reduceAdd,reduceMul,reduceSub,Nat.reduceBEq,Int.reduceToNat,Int.reduceLE,Int.reduceLT,Int.reduceNeg,reduceMod,zac,zad,zab,zaa,gT,TK.isInt,TK.agg,Array.toList]
 refine zas (fun (k:Nat) s=>s.sl 1 = .ref 1 1 0∧s.rw 1 = ⟨1,.box 35 [zcp x]⟩∧s.sl 3 = int k∧k ≤ x.length∧∀ i,i < k→ztn x i) (fun k=>x.length - k) 0 ⟨by simp (maxSteps:=5000000) -dsimp only [gr,reduceEqDiff,reduceLT,reduceAdd,reduceMod,Nat.reduceBEq,zaa,zac,zad,zab],by simp (maxSteps:=5000000) -dsimp only [gr,reduceEqDiff,reduceLT,reduceAdd,reduceMod,Nat.reduceBEq,zaa,zac,zad,zab],by simp (maxSteps:=5000000) -dsimp only [gr,reduceEqDiff,reduceLT,reduceAdd,reduceMod,Nat.reduceBEq,zaa,zac,zad,zab];rfl,by simp,by simp⟩ ?_
 intro k s1 ⟨h1,r1,h3,hk,hall⟩
 simp (maxSteps:=5000000) -dsimp only [↓gp,gq,reduceCtorEq,reduceEqDiff,reduceLT,reduceLeDiff,reduceAdd,reduceMul,reduceSub,Nat.reduceBEq,Int.reduceToNat,Int.reduceLE,Int.reduceLT,Int.reduceNeg,reduceMod,zac,zad,zab,zaa,gT,TK.isInt,TK.agg,Array.toList,h1,r1,h3]
 refine ⟨fun h=>⟨h,h,zak (zex _) ?_⟩,fun h=>?_⟩
 ·simp (maxSteps:=5000000) -dsimp only [↓gp,gq,reduceCtorEq,reduceEqDiff,reduceLT,reduceLeDiff,reduceAdd,reduceMul,reduceSub,Nat.reduceBEq,Int.reduceToNat,Int.reduceLE,Int.reduceLT,Int.reduceNeg,reduceMod,zac,zad,zab,zaa,gT,TK.isInt,TK.agg,Array.toList,h1,r1,h3]
  refine ⟨fun hp=>zr2 h fun hh=>by rw [hh.1] at hp;simp at hp,fun hp=>?_⟩
  have hkp:=zbw (show zbL (x.getD k []) = true by simpa using hp)
  refine zas (fun (i:Nat) s=>s.sl 1 = .ref 1 1 0∧s.rw 1 = ⟨1,.box 35 [zcp x]⟩∧s.sl 3 = int k∧s.sl 4 = int i∧i ≤ k∧∀ j,j < i→zc2 (x.getD j []) (x.getD k []) = false∧zc2 (x.getD k []) (x.getD j []) = false) (fun i=>k - i) 0 ⟨by simp (maxSteps:=5000000) -dsimp only [gr,reduceEqDiff,reduceLT,reduceAdd,reduceMod,Nat.reduceBEq,zaa,zac,zad,zab,h1],by simp (maxSteps:=5000000) -dsimp only [gr,reduceEqDiff,reduceLT,reduceAdd,reduceMod,Nat.reduceBEq,zaa,zac,zad,zab,r1],by simp (maxSteps:=5000000) -dsimp only [gr,reduceEqDiff,reduceLT,reduceAdd,reduceMod,Nat.reduceBEq,zaa,zac,zad,zab,h3],by simp (maxSteps:=5000000) -dsimp only [gr,reduceEqDiff,reduceLT,reduceAdd,reduceMod,Nat.reduceBEq,zaa,zac,zad,zab];rfl,by simp,by simp⟩ ?_
  intro i s2 ⟨h1,r1,h3,h4,hi,hall2⟩
  simp (maxSteps:=5000000) -dsimp only [↓gp,gq,reduceCtorEq,reduceEqDiff,reduceLT,reduceLeDiff,reduceAdd,reduceMul,reduceSub,Nat.reduceBEq,Int.reduceToNat,Int.reduceLE,Int.reduceLT,Int.reduceNeg,reduceMod,zac,zad,zab,zaa,gT,TK.isInt,TK.agg,Array.toList,h1,r1,h3,h4]
  refine ⟨fun hik=>⟨by kernel_rfl,by omega,by omega,by omega,by omega,?_⟩,fun hik=>?_⟩
  ·have hip:=zbw (hall i hik).1
   refine zak (zbK _ _ (by omega) (by omega)) ?_
   simp (maxSteps:=5000000) -dsimp only [↓gp,gq,reduceCtorEq,reduceEqDiff,reduceLT,reduceLeDiff,reduceAdd,reduceMul,reduceSub,Nat.reduceBEq,Int.reduceToNat,Int.reduceLE,Int.reduceLT,Int.reduceNeg,reduceMod,zac,zad,zab,zaa,gT,TK.isInt,TK.agg,Array.toList,h1,r1,h3,h4]
   refine ⟨fun ha=>⟨by omega,by omega,by omega,by omega,zak (zbK _ _ (by omega) (by omega)) ?_⟩,fun ha=>zr2 h fun hh=>by rw [(hh.2.1 i hik).1] at ha;simp at ha⟩
   simp (maxSteps:=5000000) -dsimp only [↓gp,gq,reduceCtorEq,reduceEqDiff,reduceLT,reduceLeDiff,reduceAdd,reduceMul,reduceSub,Nat.reduceBEq,Int.reduceToNat,Int.reduceLE,Int.reduceLT,Int.reduceNeg,reduceMod,zac,zad,zab,zaa,gT,TK.isInt,TK.agg,Array.toList,h1,r1,h3,h4]
   refine ⟨fun hb=>zr2 h fun hh=>by rw [(hh.2.1 i hik).2] at hb;simp at hb,fun hb=>?_⟩
   refine zai (i + 1) ⟨by simp (maxSteps:=5000000) -dsimp only [gr,reduceEqDiff,reduceLT,reduceAdd,reduceMod,Nat.reduceBEq,zaa,zac,zad,zab,h1],by simp (maxSteps:=5000000) -dsimp only [gr,reduceEqDiff,reduceLT,reduceAdd,reduceMod,Nat.reduceBEq,zaa,zac,zad,zab,r1],by simp (maxSteps:=5000000) -dsimp only [gr,reduceEqDiff,reduceLT,reduceAdd,reduceMod,Nat.reduceBEq,zaa,zac,zad,zab,h3],by simp (maxSteps:=5000000) -dsimp only [gr,reduceEqDiff,reduceLT,reduceAdd,reduceMod,Nat.reduceBEq,zaa,zac,zad,zab];rw [zaf hik (by omega)],hik,fun j hj=>?_⟩ (by omega)
   rcases Nat.lt_succ_iff_lt_or_eq.1 hj with hj | rfl
   ·exact hall2 j hj
   ·exact ⟨ha,hb⟩
  ·have hik:i = k:=by omega
   subst hik
   have hw:IntKind.i64.wrap ((i:Int) - 1) = (i:Int) - 1:=zaq (by omega) (by omega)
   simp (maxSteps:=5000000) -dsimp only [↓gp,gq,reduceCtorEq,reduceEqDiff,reduceLT,reduceLeDiff,reduceAdd,reduceMul,reduceSub,Nat.reduceBEq,Int.reduceToNat,Int.reduceLE,Int.reduceLT,Int.reduceNeg,reduceMod,zac,zad,zab,zaa,gT,TK.isInt,TK.agg,Array.toList,h1,r1,h3,h4,hw,zbi]
   refine ⟨by kernel_rfl,fun h0=>⟨h,h,by omega,by omega,by omega,zak (zkY _ _) ?_⟩,fun h0=>?_⟩
   ·simp (maxSteps:=5000000) -dsimp only [↓gp,gq,reduceCtorEq,reduceEqDiff,reduceLT,reduceLeDiff,reduceAdd,reduceMul,reduceSub,Nat.reduceBEq,Int.reduceToNat,Int.reduceLE,Int.reduceLT,Int.reduceNeg,reduceMod,zac,zad,zab,zaa,gT,TK.isInt,TK.agg,Array.toList,h1,r1,h3,h4,hw,zbi]
    refine ⟨fun hq=>zr2 h fun hh=>?_,fun hq=>?_⟩
    ·rw [hh.2.2 (by omega)] at hq;simp at hq
    ·refine zai (i + 1) ⟨by simp (maxSteps:=5000000) -dsimp only [gr,reduceEqDiff,reduceLT,reduceAdd,reduceMod,Nat.reduceBEq,zaa,zac,zad,zab,h1],by simp (maxSteps:=5000000) -dsimp only [gr,reduceEqDiff,reduceLT,reduceAdd,reduceMod,Nat.reduceBEq,zaa,zac,zad,zab,r1],by simp (maxSteps:=5000000) -dsimp only [gr,reduceEqDiff,reduceLT,reduceAdd,reduceMod,Nat.reduceBEq,zaa,zac,zad,zab];rw [zaf h hl.1],h,fun j hj=>?_⟩ (by omega)
     rcases Nat.lt_succ_iff_lt_or_eq.1 hj with hj | rfl
     ·exact hall j hj
     ·exact ⟨by simpa using hp,hall2,fun _=>by simpa using hq⟩
   ·refine zai (i + 1) ⟨by simp (maxSteps:=5000000) -dsimp only [gr,reduceEqDiff,reduceLT,reduceAdd,reduceMod,Nat.reduceBEq,zaa,zac,zad,zab,h1],by simp (maxSteps:=5000000) -dsimp only [gr,reduceEqDiff,reduceLT,reduceAdd,reduceMod,Nat.reduceBEq,zaa,zac,zad,zab,r1],by simp (maxSteps:=5000000) -dsimp only [gr,reduceEqDiff,reduceLT,reduceAdd,reduceMod,Nat.reduceBEq,zaa,zac,zad,zab];rw [zaf h hl.1],h,fun j hj=>?_⟩ (by omega)
    rcases Nat.lt_succ_iff_lt_or_eq.1 hj with hj | rfl
    ·exact hall j hj
    ·exact ⟨by simpa using hp,hall2,fun _=>by omega⟩
 ·have hh:∀ k,k < x.length→ztn x k:=fun j hj=>hall j (by omega)
  by_cases h5:x.length ≤ 5
  ·rw [decide_eq_true (show (x.length:Int) ≤ 5 by omega)]
   exact zww ⟨hh,h5⟩
  ·rw [decide_eq_false (show ¬ (x.length:Int) ≤ 5 by omega)]
   exact zlL fun h=>h5 h.2
def zAk (x:List (List Int)) (k:Nat):Prop:=zbL (x.getD k []) = true∧(0 < k→¬ zw4 (x.getD (k - 1) []) (x.getD k []) ≤ 0)
def zBR (x:List (List Int)) (i:Nat):Prop:=∀ j,j < x.length→i ≠ j→zxd (x.getD i []) (x.getD j []) = false
open Classical in
noncomputable def p21 (x:List (List Int)):Bool:=decide (x.length ≤ 5∧(∀ k,k < x.length→zAk x k)∧∀ i,i < x.length→zBR x i)
open Classical in
theorem zD1 {x:List (List Int)} (hn:¬ x.length ≤ 5):p21 x = false:=decide_eq_false fun hh=>hn hh.1
open Classical in
theorem zDa {x:List (List Int)} {k:Nat} (h:k < x.length) (hn:¬ zAk x k):p21 x = false:=decide_eq_false fun hh=>hn (hh.2.1 k h)
open Classical in
theorem zD2 {x:List (List Int)} {k:Nat} (h:k < x.length) (hn:¬ zBR x k):p21 x = false:=decide_eq_false fun hh=>hn (hh.2.2 k h)
open Classical in
theorem zwx {x:List (List Int)} (h:x.length ≤ 5∧(∀ k,k < x.length→zAk x k)∧∀ i,i < x.length→zBR x i):p21 x = true:=decide_eq_true h
open Classical in
theorem zAl {x:List (List Int)} (h:¬ (x.length ≤ 5∧(∀ k,k < x.length→zAk x k)∧∀ i,i < x.length→zBR x i)):p21 x = false:=decide_eq_false h
theorem za5 (x:List (List Int)):AC Try.prog 30 [.ag [zcp x]] (.im (bool (p21 x))):=by
 refine AC.go (rs:=[.tmp 2]) zbq zaD Try.func30 rfl rfl rfl (by kernel_rfl) fun hl=>?_
 simp only [zaH,zaN,and_true,zdn,List.mem_singleton,forall_eq,zci] at hl
 simp (maxSteps:=5000000) -dsimp only [↓gp,gq,reduceCtorEq,reduceEqDiff,reduceLT,reduceLeDiff,reduceAdd,reduceMul,reduceSub,Nat.reduceBEq,Int.reduceToNat,Int.reduceLE,Int.reduceLT,Int.reduceNeg,reduceMod,zac,zad,zab,zaa,gT,TK.isInt,TK.agg,Array.toList]
 refine ⟨fun h=>zD1 (by omega),fun h5=>?_⟩
 refine zas (fun (k:Nat) s=>s.sl 1 = .ref 1 1 0∧s.rw 1 = ⟨1,.box 35 [zcp x]⟩∧s.sl 14 = zcp x∧s.sl 15 = int x.length∧s.sl 16 = int k∧k ≤ x.length∧∀ i,i < k→zAk x i) (fun k=>x.length - k) 0 ⟨by simp (maxSteps:=5000000) -dsimp only [gr,reduceEqDiff,reduceLT,reduceAdd,reduceMod,Nat.reduceBEq,zaa,zac,zad,zab],by simp (maxSteps:=5000000) -dsimp only [gr,reduceEqDiff,reduceLT,reduceAdd,reduceMod,Nat.reduceBEq,zaa,zac,zad,zab],by simp (maxSteps:=5000000) -dsimp only [gr,reduceEqDiff,reduceLT,reduceAdd,reduceMod,Nat.reduceBEq,zaa,zac,zad,zab],by simp (maxSteps:=5000000) -dsimp only [gr,reduceEqDiff,reduceLT,reduceAdd,reduceMod,Nat.reduceBEq,zaa,zac,zad,zab],by simp (maxSteps:=5000000) -dsimp only [gr,reduceEqDiff,reduceLT,reduceAdd,reduceMod,Nat.reduceBEq,zaa,zac,zad,zab];rfl,by simp,by simp⟩ ?_
 intro k s1 ⟨h1,r1,h14,h15,h16,hk,hall⟩
 have hw:IntKind.i64.wrap ((k:Int) - 1) = (k:Int) - 1:=zaq (by omega) (by omega)
 simp (maxSteps:=5000000) -dsimp only [↓gp,gq,reduceCtorEq,reduceEqDiff,reduceLT,reduceLeDiff,reduceAdd,reduceMul,reduceSub,Nat.reduceBEq,Int.reduceToNat,Int.reduceLE,Int.reduceLT,Int.reduceNeg,reduceMod,zac,zad,zab,zaa,gT,TK.isInt,TK.agg,Array.toList,h1,r1,h14,h15,h16]
 refine ⟨fun h=>⟨h,h,zak (zcP _) ?_⟩,fun h=>?_⟩
 ·simp (maxSteps:=5000000) -dsimp only [↓gp,gq,reduceCtorEq,reduceEqDiff,reduceLT,reduceLeDiff,reduceAdd,reduceMul,reduceSub,Nat.reduceBEq,Int.reduceToNat,Int.reduceLE,Int.reduceLT,Int.reduceNeg,reduceMod,zac,zad,zab,zaa,gT,TK.isInt,TK.agg,Array.toList,h1,r1,h14,h15,h16,hw,zbi]
  refine ⟨fun hp=>zDa h fun hh=>by rw [hh.1] at hp;simp at hp,fun hp=>⟨fun h0=>⟨by omega,by omega,by omega,zak (zgS _ _) ?_⟩,fun h0=>?_⟩⟩
  ·simp (maxSteps:=5000000) -dsimp only [↓gp,gq,reduceCtorEq,reduceEqDiff,reduceLT,reduceLeDiff,reduceAdd,reduceMul,reduceSub,Nat.reduceBEq,Int.reduceToNat,Int.reduceLE,Int.reduceLT,Int.reduceNeg,reduceMod,zac,zad,zab,zaa,gT,TK.isInt,TK.agg,Array.toList,h1,r1,h14,h15,h16,hw,zbi]
   refine ⟨fun hq=>zDa h fun hh=>hh.2 (by omega) hq,fun hq=>?_⟩
   refine zai (k + 1) ⟨by simp (maxSteps:=5000000) -dsimp only [gr,reduceEqDiff,reduceLT,reduceAdd,reduceMod,Nat.reduceBEq,zaa,zac,zad,zab,h1],by simp (maxSteps:=5000000) -dsimp only [gr,reduceEqDiff,reduceLT,reduceAdd,reduceMod,Nat.reduceBEq,zaa,zac,zad,zab,r1],by simp (maxSteps:=5000000) -dsimp only [gr,reduceEqDiff,reduceLT,reduceAdd,reduceMod,Nat.reduceBEq,zaa,zac,zad,zab,h14],by simp (maxSteps:=5000000) -dsimp only [gr,reduceEqDiff,reduceLT,reduceAdd,reduceMod,Nat.reduceBEq,zaa,zac,zad,zab,h15],by simp (maxSteps:=5000000) -dsimp only [gr,reduceEqDiff,reduceLT,reduceAdd,reduceMod,Nat.reduceBEq,zaa,zac,zad,zab];rw [zaf h hl.1],h,fun j hj=>?_⟩ (by omega)
   rcases Nat.lt_succ_iff_lt_or_eq.1 hj with hj | rfl
   ·exact hall j hj
   ·exact ⟨by simpa using hp,fun _=>hq⟩
  ·refine zai (k + 1) ⟨by simp (maxSteps:=5000000) -dsimp only [gr,reduceEqDiff,reduceLT,reduceAdd,reduceMod,Nat.reduceBEq,zaa,zac,zad,zab,h1],by simp (maxSteps:=5000000) -dsimp only [gr,reduceEqDiff,reduceLT,reduceAdd,reduceMod,Nat.reduceBEq,zaa,zac,zad,zab,r1],by simp (maxSteps:=5000000) -dsimp only [gr,reduceEqDiff,reduceLT,reduceAdd,reduceMod,Nat.reduceBEq,zaa,zac,zad,zab,h14],by simp (maxSteps:=5000000) -dsimp only [gr,reduceEqDiff,reduceLT,reduceAdd,reduceMod,Nat.reduceBEq,zaa,zac,zad,zab,h15],by simp (maxSteps:=5000000) -dsimp only [gr,reduceEqDiff,reduceLT,reduceAdd,reduceMod,Nat.reduceBEq,zaa,zac,zad,zab];rw [zaf h hl.1],h,fun j hj=>?_⟩ (by omega)
   rcases Nat.lt_succ_iff_lt_or_eq.1 hj with hj | rfl
   ·exact hall j hj
   ·exact ⟨by simpa using hp,fun _=>by omega⟩
 ·have hall:∀ k,k < x.length→zAk x k:=fun j hj=>hall j (by omega)
  refine zas (fun (k:Nat) s=>s.sl 1 = .ref 1 1 0∧s.rw 1 = ⟨1,.box 35 [zcp x]⟩∧s.sl 39 = zcp x∧s.sl 40 = int x.length∧s.sl 41 = int k∧k ≤ x.length∧∀ i,i < k→zBR x i) (fun k=>x.length - k) 0 ⟨by simp (maxSteps:=5000000) -dsimp only [gr,reduceEqDiff,reduceLT,reduceAdd,reduceMod,Nat.reduceBEq,zaa,zac,zad,zab,h1],by simp (maxSteps:=5000000) -dsimp only [gr,reduceEqDiff,reduceLT,reduceAdd,reduceMod,Nat.reduceBEq,zaa,zac,zad,zab,r1],by simp (maxSteps:=5000000) -dsimp only [gr,reduceEqDiff,reduceLT,reduceAdd,reduceMod,Nat.reduceBEq,zaa,zac,zad,zab],by simp (maxSteps:=5000000) -dsimp only [gr,reduceEqDiff,reduceLT,reduceAdd,reduceMod,Nat.reduceBEq,zaa,zac,zad,zab],by simp (maxSteps:=5000000) -dsimp only [gr,reduceEqDiff,reduceLT,reduceAdd,reduceMod,Nat.reduceBEq,zaa,zac,zad,zab];rfl,by simp,by simp⟩ ?_
  intro i s2 ⟨h1,r1,h39,h40,h41,hi,hnd⟩
  simp (maxSteps:=5000000) -dsimp only [↓gp,gq,reduceCtorEq,reduceEqDiff,reduceLT,reduceLeDiff,reduceAdd,reduceMul,reduceSub,Nat.reduceBEq,Int.reduceToNat,Int.reduceLE,Int.reduceLT,Int.reduceNeg,reduceMod,zac,zad,zab,zaa,gT,TK.isInt,TK.agg,Array.toList,h1,r1,h39,h40,h41]
  refine ⟨fun hin=>⟨hin,hin,?_⟩,fun hin=>?_⟩
  ·refine zas (fun (j:Nat) s=>s.sl 1 = .ref 1 1 0∧s.rw 1 = ⟨1,.box 35 [zcp x]⟩∧s.sl 39 = zcp x∧s.sl 40 = int x.length∧s.sl 41 = int i∧s.sl 5 = int i∧s.sl 6 = .sl false 1 (iL (x.getD i []))∧s.sl 47 = zcp x∧s.sl 48 = int x.length∧s.sl 49 = int j∧j ≤ x.length∧∀ k,k < j→i ≠ k→zxd (x.getD i []) (x.getD k []) = false) (fun j=>x.length - j) 0 ⟨by simp (maxSteps:=5000000) -dsimp only [gr,reduceEqDiff,reduceLT,reduceAdd,reduceMod,Nat.reduceBEq,zaa,zac,zad,zab,h1],by simp (maxSteps:=5000000) -dsimp only [gr,reduceEqDiff,reduceLT,reduceAdd,reduceMod,Nat.reduceBEq,zaa,zac,zad,zab,r1],by simp (maxSteps:=5000000) -dsimp only [gr,reduceEqDiff,reduceLT,reduceAdd,reduceMod,Nat.reduceBEq,zaa,zac,zad,zab,h39],by simp (maxSteps:=5000000) -dsimp only [gr,reduceEqDiff,reduceLT,reduceAdd,reduceMod,Nat.reduceBEq,zaa,zac,zad,zab,h40],by simp (maxSteps:=5000000) -dsimp only [gr,reduceEqDiff,reduceLT,reduceAdd,reduceMod,Nat.reduceBEq,zaa,zac,zad,zab,h41],by simp (maxSteps:=5000000) -dsimp only [gr,reduceEqDiff,reduceLT,reduceAdd,reduceMod,Nat.reduceBEq,zaa,zac,zad,zab],by simp (maxSteps:=5000000) -dsimp only [gr,reduceEqDiff,reduceLT,reduceAdd,reduceMod,Nat.reduceBEq,zaa,zac,zad,zab],by simp (maxSteps:=5000000) -dsimp only [gr,reduceEqDiff,reduceLT,reduceAdd,reduceMod,Nat.reduceBEq,zaa,zac,zad,zab],by simp (maxSteps:=5000000) -dsimp only [gr,reduceEqDiff,reduceLT,reduceAdd,reduceMod,Nat.reduceBEq,zaa,zac,zad,zab],by simp (maxSteps:=5000000) -dsimp only [gr,reduceEqDiff,reduceLT,reduceAdd,reduceMod,Nat.reduceBEq,zaa,zac,zad,zab];rfl,by simp,by simp⟩ ?_
   intro j s3 ⟨h1,r1,h39,h40,h41,h5',h6,h47,h48,h49,hj,hd⟩
   simp (maxSteps:=5000000) -dsimp only [↓gp,gq,reduceCtorEq,reduceEqDiff,reduceLT,reduceLeDiff,reduceAdd,reduceMul,reduceSub,Nat.reduceBEq,Int.reduceToNat,Int.reduceLE,Int.reduceLT,Int.reduceNeg,reduceMod,zac,zad,zab,zaa,gT,TK.isInt,TK.agg,Array.toList,h1,r1,h39,h40,h41,h5',h6,h47,h48,h49]
   have h3:∀ k,k < x.length→(x.getD k []).length = 3:=fun k hk=>zbw (hall k hk).1
   refine ⟨fun hjn=>⟨hjn,hjn,fun hne=>zak (zc3 _ _ (by rw [h3 _ hin,h3 _ hjn];omega)) ?_,fun hne=>?_⟩,fun hjn=>?_⟩
   ·simp (maxSteps:=5000000) -dsimp only [↓gp,gq,reduceCtorEq,reduceEqDiff,reduceLT,reduceLeDiff,reduceAdd,reduceMul,reduceSub,Nat.reduceBEq,Int.reduceToNat,Int.reduceLE,Int.reduceLT,Int.reduceNeg,reduceMod,zac,zad,zab,zaa,gT,TK.isInt,TK.agg,Array.toList,h1,r1,h39,h40,h41,h5',h6,h47,h48,h49]
    refine ⟨fun hq=>zD2 hin fun hh=>by rw [hh j hjn (by simp at hne;omega)] at hq;simp at hq,fun hq=>?_⟩
    refine zai (j + 1) ⟨by simp (maxSteps:=5000000) -dsimp only [gr,reduceEqDiff,reduceLT,reduceAdd,reduceMod,Nat.reduceBEq,zaa,zac,zad,zab,h1],by simp (maxSteps:=5000000) -dsimp only [gr,reduceEqDiff,reduceLT,reduceAdd,reduceMod,Nat.reduceBEq,zaa,zac,zad,zab,r1],by simp (maxSteps:=5000000) -dsimp only [gr,reduceEqDiff,reduceLT,reduceAdd,reduceMod,Nat.reduceBEq,zaa,zac,zad,zab,h39],by simp (maxSteps:=5000000) -dsimp only [gr,reduceEqDiff,reduceLT,reduceAdd,reduceMod,Nat.reduceBEq,zaa,zac,zad,zab,h40],by simp (maxSteps:=5000000) -dsimp only [gr,reduceEqDiff,reduceLT,reduceAdd,reduceMod,Nat.reduceBEq,zaa,zac,zad,zab,h41],by simp (maxSteps:=5000000) -dsimp only [gr,reduceEqDiff,reduceLT,reduceAdd,reduceMod,Nat.reduceBEq,zaa,zac,zad,zab,h5'],by simp (maxSteps:=5000000) -dsimp only [gr,reduceEqDiff,reduceLT,reduceAdd,reduceMod,Nat.reduceBEq,zaa,zac,zad,zab,h6],by simp (maxSteps:=5000000) -dsimp only [gr,reduceEqDiff,reduceLT,reduceAdd,reduceMod,Nat.reduceBEq,zaa,zac,zad,zab,h47],by simp (maxSteps:=5000000) -dsimp only [gr,reduceEqDiff,reduceLT,reduceAdd,reduceMod,Nat.reduceBEq,zaa,zac,zad,zab,h48],by simp (maxSteps:=5000000) -dsimp only [gr,reduceEqDiff,reduceLT,reduceAdd,reduceMod,Nat.reduceBEq,zaa,zac,zad,zab];rw [zaf hjn hl.1],hjn,fun k hk=>?_⟩ (by omega)
    rcases Nat.lt_succ_iff_lt_or_eq.1 hk with hk | rfl
    ·exact hd k hk
    ·exact fun _=>hq
   ·refine zai (j + 1) ⟨by simp (maxSteps:=5000000) -dsimp only [gr,reduceEqDiff,reduceLT,reduceAdd,reduceMod,Nat.reduceBEq,zaa,zac,zad,zab,h1],by simp (maxSteps:=5000000) -dsimp only [gr,reduceEqDiff,reduceLT,reduceAdd,reduceMod,Nat.reduceBEq,zaa,zac,zad,zab,r1],by simp (maxSteps:=5000000) -dsimp only [gr,reduceEqDiff,reduceLT,reduceAdd,reduceMod,Nat.reduceBEq,zaa,zac,zad,zab,h39],by simp (maxSteps:=5000000) -dsimp only [gr,reduceEqDiff,reduceLT,reduceAdd,reduceMod,Nat.reduceBEq,zaa,zac,zad,zab,h40],by simp (maxSteps:=5000000) -dsimp only [gr,reduceEqDiff,reduceLT,reduceAdd,reduceMod,Nat.reduceBEq,zaa,zac,zad,zab,h41],by simp (maxSteps:=5000000) -dsimp only [gr,reduceEqDiff,reduceLT,reduceAdd,reduceMod,Nat.reduceBEq,zaa,zac,zad,zab,h5'],by simp (maxSteps:=5000000) -dsimp only [gr,reduceEqDiff,reduceLT,reduceAdd,reduceMod,Nat.reduceBEq,zaa,zac,zad,zab,h6],by simp (maxSteps:=5000000) -dsimp only [gr,reduceEqDiff,reduceLT,reduceAdd,reduceMod,Nat.reduceBEq,zaa,zac,zad,zab,h47],by simp (maxSteps:=5000000) -dsimp only [gr,reduceEqDiff,reduceLT,reduceAdd,reduceMod,Nat.reduceBEq,zaa,zac,zad,zab,h48],by simp (maxSteps:=5000000) -dsimp only [gr,reduceEqDiff,reduceLT,reduceAdd,reduceMod,Nat.reduceBEq,zaa,zac,zad,zab];rw [zaf hjn hl.1],hjn,fun k hk=>?_⟩ (by omega)
    rcases Nat.lt_succ_iff_lt_or_eq.1 hk with hk | rfl
    ·exact hd k hk
    ·exact fun hn=>absurd hne (by simp;omega)
   ·refine zai (i + 1) ⟨by simp (maxSteps:=5000000) -dsimp only [gr,reduceEqDiff,reduceLT,reduceAdd,reduceMod,Nat.reduceBEq,zaa,zac,zad,zab,h1],by simp (maxSteps:=5000000) -dsimp only [gr,reduceEqDiff,reduceLT,reduceAdd,reduceMod,Nat.reduceBEq,zaa,zac,zad,zab,r1],by simp (maxSteps:=5000000) -dsimp only [gr,reduceEqDiff,reduceLT,reduceAdd,reduceMod,Nat.reduceBEq,zaa,zac,zad,zab,h39],by simp (maxSteps:=5000000) -dsimp only [gr,reduceEqDiff,reduceLT,reduceAdd,reduceMod,Nat.reduceBEq,zaa,zac,zad,zab,h40],by simp (maxSteps:=5000000) -dsimp only [gr,reduceEqDiff,reduceLT,reduceAdd,reduceMod,Nat.reduceBEq,zaa,zac,zad,zab];rw [zaf hin hl.1],hin,fun k hk=>?_⟩ (by omega)
    rcases Nat.lt_succ_iff_lt_or_eq.1 hk with hk | rfl
    ·exact hnd k hk
    ·exact fun m hm=>hd m (by omega)
  ·exact zwx ⟨by omega,hall,fun k hk=>hnd k (by omega)⟩
theorem zr3:∀ (xs ys:List Int),xs.length = ys.length→((¬ zw4 xs ys ≤ 0) ↔ zhI ys xs = true):=by
 intro xs
 induction xs with
 | nil=>intro ys h;cases ys with
   | nil=>simp [zw4,zhI]
   | cons b ys=>simp at h
 | cons a xs ih=>intro ys h;cases ys with
   | nil=>simp at h
   | cons b ys =>
     simp only [zw4,zhI]
     by_cases hab:a = b
     ·subst hab
      have:zxc a a = 0:=by simp [zxc]
      rw [if_pos this,if_pos rfl]
      exact ih ys (by simpa using h)
     ·have hba:¬ b = a:=fun e=>hab e.symm
      rw [if_neg hba]
      have:zxc a b ≠ 0:=by unfold zxc;split <;> (try split) <;> omega
      rw [if_neg this]
      unfold zxc
      split
      ·simp;omega
      ·split
       ·simp;omega
       ·omega
theorem ztd {xs ys:List Int} (hx:xs.length = 3):zxd xs ys = zc2 xs ys:=by
 simp only [zxd,hx,zc2]
 simp [List.range,List.range.loop,Bool.and_assoc]
theorem zkP (x:List (List Int)):p19 x = p21 x:=by
 have key:((∀ k,k < x.length→ztn x k)∧x.length ≤ 5) ↔ (x.length ≤ 5∧(∀ k,k < x.length→zAk x k)∧∀ i,i < x.length→zBR x i):=by
  constructor
  ·intro ⟨h,h5⟩
   have h3:∀ k,k < x.length→(x.getD k []).length = 3:=fun k hk=>zbw (h k hk).1
   refine ⟨h5,fun k hk=>⟨(h k hk).1,fun h0=>?_⟩,fun i hi j hj hij=>?_⟩
   ·rw [zr3 _ _ (by rw [h3 _ hk,h3 _ (by omega)])]
    exact (h k hk).2.2 h0
   ·rw [ztd (h3 i hi)]
    rcases Nat.lt_or_gt_of_ne hij with hlt | hlt
    ·exact ((h j hj).2.1 i hlt).1
    ·exact ((h i hi).2.1 j hlt).2
  ·intro ⟨h5,h,hd⟩
   have h3:∀ k,k < x.length→(x.getD k []).length = 3:=fun k hk=>zbw (h k hk).1
   refine ⟨fun k hk=>⟨(h k hk).1,fun i hi=>⟨?_,?_⟩,fun h0=>?_⟩,h5⟩
   ·rw [← ztd (h3 i (by omega))];exact hd i (by omega) k hk (by omega)
   ·rw [← ztd (h3 k hk)];exact hd k hk i (by omega) (by omega)
   ·rw [← zr3 _ _ (by rw [h3 _ hk,h3 _ (by omega)])];exact (h k hk).2 h0
 by_cases h:(∀ k,k < x.length→ztn x k)∧x.length ≤ 5
 ·rw [zww h,zwx (key.1 h)]
 ·rw [zlL h,zAl fun hh=>h (key.2 hh)]
end Go.Proofs.Ytpnknaaehcljoaa

namespace Go.Proofs.Ytpnknaaehcljoaa
open Go.Abs
set_option linter.unusedSimpArgs false
set_option linter.unusedVariables false
end Go.Proofs.Ytpnknaaehcljoaa

namespace Go.Proofs.Ytpnknaaehcljoaa
open Go.Abs
open Nat (reduceEqDiff reduceMod reduceAdd reduceLT reduceLeDiff reduceSub reduceMul)
set_option linter.unusedSimpArgs false
set_option linter.unusedVariables false
theorem zi8 {x:List (List Int)} (h:p19 x = true):(∀ k,k < x.length→ztn x k)∧x.length ≤ 5:=by
 by_cases hh:(∀ k,k < x.length→ztn x k)∧x.length ≤ 5
 ·exact hh
 ·rw [zlL hh] at h;cases h
theorem zx2:∀ s,s < 64→∀ i,i < 6→(zet .i64 (zkG .i64 (s:Nat) (i:Nat)) 1 == 0) = !s.testBit i:=by
 have h:((List.range 64).all fun s=>(List.range 6).all fun i=>(zet .i64 (zkG .i64 (s:Nat) (i:Nat)) 1 == 0) == !s.testBit i) = true:=by decide +kernel
 intro s hs i hi
 have:=List.all_eq_true.1 (List.all_eq_true.1 h s (List.mem_range.2 hs)) i (List.mem_range.2 hi)
 simpa using this
def mxI (a b:List Int) (i:Nat):List Int:=(List.range 3).map fun j=>if j < i then max (a.getD j 0) (b.getD j 0) else a.getD j 0
theorem zlM (a b:List Int) (i:Nat):(mxI a b i).length = 3:=by simp [mxI]
theorem zek (a b:List Int) (i:Nat) {j:Nat} (h:j < 3):(mxI a b i).getD j 0 = if j < i then max (a.getD j 0) (b.getD j 0) else a.getD j 0:=by simp [mxI,List.getD,h]
theorem zlN {a b:List Int} (h:a.length = 3):mxI a b 0 = a:=by
 refine List.ext_getElem (by rw [zlM,h]) fun j h1 h2=>?_
 simp [mxI,List.getD,h2]
theorem zwy (a b:List Int) {i:Nat} (h:i < 3):(mxI a b i).set i (max (a.getD i 0) (b.getD i 0)) = mxI a b (i + 1):=by
 refine List.ext_getElem (by simp [mxI]) fun j h1 h2=>?_
 rw [List.getElem_set]
 simp only [mxI,List.getElem_map,List.getElem_range]
 by_cases e:i = j
 ·subst e;simp
 ·rw [if_neg e]
  by_cases h3:j < i
  ·rw [if_pos h3,if_pos (by omega)]
  ·rw [if_neg h3,if_neg (by omega)]
def zaw (x:List (List Int)) (s:Nat):Nat→List Int
 | 0=>[0,0,0]
 | k + 1=>if s.testBit k = true then mxI (zaw x s k) (x.getD k []) 3 else zaw x s k
theorem zfI (x:List (List Int)) (s k:Nat):(zaw x s k).length = 3:=by
 induction k with
 | zero=>rfl
 | succ k ih=>unfold zaw;split;exact zlM _ _ _;exact ih
theorem zcY {r:List Int} (h:zbL r = true) {j:Nat} (hj:j < 3):0 ≤ r.getD j 0∧r.getD j 0 ≤ 2:=by
 have hl:=zbw h
 simp only [zbL,Bool.and_eq_true,List.all_eq_true,decide_eq_true_eq] at h
 exact h.2 _ (zaC 0 (by omega))
theorem zr4 {x:List (List Int)} (h:p19 x = true) (s:Nat):∀ k,k ≤ x.length→∀ j,j < 3→0 ≤ (zaw x s k).getD j 0∧(zaw x s k).getD j 0 ≤ 2:=by
 intro k
 induction k with
 | zero=>intro _ j hj;match j,hj with | 0,_=>simp [zaw] | 1,_=>simp [zaw] | 2,_=>simp [zaw]
 | succ k ih =>
   intro hk j hj
   have h1:=ih (by omega) j hj
   have h2:=zcY ((zi8 h).1 k (by omega)).1 hj
   unfold zaw
   split
   ·rw [zek _ _ _ hj,if_pos hj];omega
   ·exact h1
def zeu (m:List Int):Nat:=(m.getD 0 0 + m.getD 1 0 + m.getD 2 0).toNat
def zfF (s:Nat):Int:=1 - 2 * ((zaX s % 2:Nat):Int)
def zcN (x:List (List Int)):Nat→List Int
 | 0=>List.replicate 7 0
 | s + 1=>(zcN x s).set (zeu (zaw x s x.length)) ((zcN x s).getD (zeu (zaw x s x.length)) 0 + zfF s)
theorem zfJ (x:List (List Int)) (s:Nat):(zcN x s).length = 7:=by
 induction s with
 | zero=>rfl
 | succ s ih=>unfold zcN;simp [ih]
theorem zwz (s:Nat):-1 ≤ zfF s∧zfF s ≤ 1:=by unfold zfF;omega
theorem zpv (x:List (List Int)):∀ (s j:Nat),-(s:Int) ≤ (zcN x s).getD j 0∧(zcN x s).getD j 0 ≤ s:=by
 intro s
 induction s with
 | zero =>
   intro j
   have:(zcN x 0).getD j 0 = 0:=by
    show (List.replicate 7 (0:Int)).getD j 0 = 0
    by_cases h:j < 7
    ·rw [List.getD_eq_getElem?_getD,List.getElem?_replicate];simp [h]
    ·rw [List.getD_eq_getElem?_getD,List.getElem?_replicate];simp [h]
   rw [this];omega
 | succ s ih =>
   intro j
   have h1:=ih j
   have h2:=ih (zeu (zaw x s x.length))
   have h3:=zwz s
   unfold zcN
   generalize zeu (zaw x s x.length) = d at *
   by_cases e:j = d
   ·subst e
    by_cases hl:j < (zcN x s).length
    ·rw [show ((zcN x s).set j ((zcN x s).getD j 0 + zfF s)).getD j 0 = (zcN x s).getD j 0 + zfF s by simp [List.getD,hl]];omega
    ·rw [show ((zcN x s).set j ((zcN x s).getD j 0 + zfF s)).getD j 0 = 0 by simp [List.getD,hl]];omega
   ·rw [show ((zcN x s).set d ((zcN x s).getD d 0 + zfF s)).getD j 0 = (zcN x s).getD j 0 by simp [List.getD,List.getElem?_set_ne (Ne.symm e)]];omega
def zot (s:Nat):Nat→Int | 0=>1 | k + 1=>if s.testBit k = true then -zot s k else zot s k
theorem zx3:∀ n,n ≤ 5→∀ s,s < 2 ^ n→zot s n = zfF s:=by
 have h:((List.range 6).all fun n=>(List.range (2 ^ n)).all fun s=>zot s n == 1 - 2 * ((zBO s % 2:Nat):Int)) = true:=by decide +kernel
 intro n hn s hs
 have:=List.all_eq_true.1 (List.all_eq_true.1 h n (List.mem_range.2 (by omega))) s (List.mem_range.2 hs)
 have h64:=zce (m:=n) (by omega)
 unfold zfF
 rw [zoh (by omega)]
 simpa using this
theorem zAm (s k:Nat):zot s k = 1 ∨ zot s k = -1:=by
 induction k with
 | zero=>exact .inl rfl
 | succ k ih=>unfold zot;split <;> omega
noncomputable def zgd (x:List (List Int)):List Int:=if p19 x = true then zcN x (2 ^ x.length) else []
theorem zg1 (x:List (List Int)):AC Try.prog 29 [.ag [zcp x]] (.fr 3 1 (iL (zgd x))):=by
 refine AC.go (rs:=[.tmp 2]) zbq zaD Try.func29 rfl rfl rfl (by kernel_rfl) fun hl=>?_
 simp only [zaH,zaN,and_true,zdn,List.mem_singleton,forall_eq,zci] at hl
 simp (maxSteps:=5000000) -dsimp only [↓gp,gq,reduceCtorEq,reduceEqDiff,reduceLT,reduceLeDiff,reduceAdd,reduceMul,reduceSub,Nat.reduceBEq,Int.reduceToNat,Int.reduceLE,Int.reduceLT,Int.reduceNeg,reduceMod,zac,zad,zab,zaa,gT,TK.isInt,TK.agg,Array.toList]
 refine zak (zbt x) ?_
 simp (maxSteps:=5000000) -dsimp only [↓gp,gq,reduceCtorEq,reduceEqDiff,reduceLT,reduceLeDiff,reduceAdd,reduceMul,reduceSub,Nat.reduceBEq,Int.reduceToNat,Int.reduceLE,Int.reduceLT,Int.reduceNeg,reduceMod,zac,zad,zab,zaa,gT,TK.isInt,TK.agg,Array.toList]
 refine ⟨fun hp=>?_,fun hp=>?_⟩
 ·rw [zgd,if_neg (by intro h;rw [h] at hp;cases hp)];rfl
 ·have hp1:p19 x = true:=by simpa using hp
  obtain ⟨hok,hx5⟩:=zi8 hp1
  have hx3:∀ k,k < x.length→(x.getD k []).length = 3:=fun k hk=>zbw (hok k hk).1
  have hsh:zoE .i64 1 (x.length:Int) = ((2 ^ x.length:Nat):Int):=zcC (by omega)
  have hun:IntKind.u64.wrap (x.length:Int) = (x.length:Int):=zba (by omega)
  have h64:=zce (m:=x.length) (by omega)
  have hS0:zgd x = zcN x (2 ^ x.length):=if_pos hp1
  rw [hS0]
  generalize 2 ^ x.length = N at *
  refine ⟨by decide,?_⟩
  refine zas (fun (za:Nat × Nat) s=>match za with | (c,v)=>s.sl 1 = .ref 1 1 0∧s.rw 1 = ⟨1,.box 35 [zcp x]⟩∧s.sl 3 = .own 13 v∧s.rw 13 = ⟨v,.sli 3 1 false (iL (zcN x c))⟩∧s.sl 4 = int c∧(c ≤ N)) (fun (c,v)=>N - c) ((0,1)) (by refine ⟨?_,?_,?_,?_,?_,by omega⟩ <;> (first | (simp (maxSteps:=5000000) -dsimp only [gr,reduceEqDiff,reduceLT,reduceAdd,reduceMod,Nat.reduceBEq,zaa,zac,zad,zab,zcN];first | done | rfl | (simp;done)) | assumption | rfl)) ?_
  intro (c,v) sa ⟨h1a,r1a,h3a,r13a,h4a,hIa⟩
  by_cases hs:c < N
  ·simp (maxSteps:=5000000) -dsimp only [↓gp,gq,reduceCtorEq,reduceEqDiff,reduceLT,reduceLeDiff,reduceAdd,reduceMul,reduceSub,Nat.reduceBEq,Int.reduceToNat,Int.reduceLE,Int.reduceLT,Int.reduceNeg,reduceMod,zac,zad,zab,zaa,gT,TK.isInt,TK.agg,Array.toList,h1a,r1a,h3a,r13a,h4a,hsh,hun]
   refine ⟨fun _=>?_,fun h=>absurd hs h⟩
   refine zas (fun (k:Nat) s=>s.sl 1 = .ref 1 1 0∧s.rw 1 = ⟨1,.box 35 [zcp x]⟩∧s.sl 3 = .own 13 v∧s.rw 13 = ⟨v,.sli 3 1 false (iL (zcN x c))⟩∧s.sl 4 = int c∧s.sl 5 = .own 23 ((sa.rw 23).ver + 1)∧s.rw 23 = ⟨(sa.rw 23).ver + 1,.sli 3 1 false (iL (zaw x c k))⟩∧s.sl 6 = int k∧(k ≤ x.length)) (fun k=>x.length - k) (0) (by refine ⟨?_,?_,?_,?_,?_,?_,?_,?_,by omega⟩ <;> (first | (simp (maxSteps:=5000000) -dsimp only [gr,reduceEqDiff,reduceLT,reduceAdd,reduceMod,Nat.reduceBEq,zaa,zac,zad,zab,h1a,r1a,h3a,r13a,h4a,zaw];first | done | rfl | (simp;done)) | assumption | rfl)) ?_
   intro k sb ⟨h1b,r1b,h3b,r13b,h4b,h5b,r23b,h6b,hIb⟩
   by_cases hk:k < x.length
   ·have hunk:IntKind.u64.wrap (k:Int) = (k:Int):=zba (by omega)
    have hbit:=zsZ (a:=c) (s:=k) (by omega) (by omega)
    have hml:=zfI x c k
    simp (maxSteps:=5000000) -dsimp only [↓gp,gq,reduceCtorEq,reduceEqDiff,reduceLT,reduceLeDiff,reduceAdd,reduceMul,reduceSub,Nat.reduceBEq,Int.reduceToNat,Int.reduceLE,Int.reduceLT,Int.reduceNeg,reduceMod,zac,zad,zab,zaa,gT,TK.isInt,TK.agg,Array.toList,h1b,r1b,h3b,r13b,h4b,h5b,r23b,h6b]
    refine ⟨fun _=>?_,fun h=>absurd hk h⟩
    refine zas (fun (i:Nat) s=>s.sl 1 = .ref 1 1 0∧s.rw 1 = ⟨1,.box 35 [zcp x]⟩∧s.sl 3 = .own 13 v∧s.rw 13 = ⟨v,.sli 3 1 false (iL (zcN x c))⟩∧s.sl 4 = int c∧s.sl 5 = .own 23 ((sa.rw 23).ver + 1)∧s.rw 23 = ⟨(sa.rw 23).ver + 1,.sli 3 1 false (iL (mxI (zaw x c k) (x.getD k []) i))⟩∧s.sl 6 = int k∧s.sl 7 = int i∧(i ≤ 3∧(c.testBit k = false→i = 0))) (fun i=>3 - i) (0) (by refine ⟨?_,?_,?_,?_,?_,?_,?_,?_,?_,⟨by omega,fun _=>rfl⟩⟩ <;> (first | (simp (maxSteps:=5000000) -dsimp only [gr,reduceEqDiff,reduceLT,reduceAdd,reduceMod,Nat.reduceBEq,zaa,zac,zad,zab,h1b,r1b,h3b,r13b,h4b,h5b,r23b,h6b,zlN hml];first | done | rfl | (simp;done)) | assumption | rfl)) ?_
    intro i sc ⟨h1c,r1c,h3c,r13c,h4c,h5c,r23c,h6c,h7c,hIc⟩
    obtain ⟨hi,hi0⟩:=hIc
    have hxl:=zlM (zaw x c k) (x.getD k []) i
    have hgi:i < 3→(mxI (zaw x c k) (x.getD k []) i).set i (max ((mxI (zaw x c k) (x.getD k []) i).getD i 0) ((x.getD k []).getD i 0)) = mxI (zaw x c k) (x.getD k []) (i + 1):=fun h=>by
     rw [zek _ _ _ h,if_neg (Nat.lt_irrefl _),zwy _ _ h]
    simp (maxSteps:=5000000) -dsimp only [↓gp,gq,reduceCtorEq,reduceEqDiff,reduceLT,reduceLeDiff,reduceAdd,reduceMul,reduceSub,Nat.reduceBEq,Int.reduceToNat,Int.reduceLE,Int.reduceLT,Int.reduceNeg,reduceMod,zac,zad,zab,zaa,gT,TK.isInt,TK.agg,Array.toList,h1c,r1c,h3c,r13c,h4c,h5c,r23c,h6c,h7c,hunk,hbit]
    refine ⟨fun h3=>⟨fun hb=>⟨by kernel_rfl,by omega,by omega,hk,hk,by rw [hx3 k hk];omega,by rw [hx3 k hk];omega,zak (zl4 _ _) ?_⟩,fun hb=>?_⟩,fun h3=>?_⟩
    ·simp (maxSteps:=5000000) -dsimp only [↓gp,gq,reduceCtorEq,reduceEqDiff,reduceLT,reduceLeDiff,reduceAdd,reduceMul,reduceSub,Nat.reduceBEq,Int.reduceToNat,Int.reduceLE,Int.reduceLT,Int.reduceNeg,reduceMod,zac,zad,zab,zaa,gT,TK.isInt,TK.agg,Array.toList,h1c,r1c,h3c,r13c,h4c,h5c,r23c,h6c,h7c,hunk,hbit]
     have h3:i < 3:=by omega
     have e:=hgi h3
     exact ⟨by omega,by omega,by kernel_rfl,zai (i + 1) (by refine ⟨?_,?_,?_,?_,?_,?_,?_,?_,?_,⟨by omega,fun h=>by rw [h] at hb;cases hb⟩⟩ <;> (first | (simp (maxSteps:=5000000) -dsimp only [gr,reduceEqDiff,reduceLT,reduceAdd,reduceMod,Nat.reduceBEq,zaa,zac,zad,zab,h1c,r1c,h3c,r13c,h4c,h5c,r23c,h6c,h7c,e,zaf h3 (by omega)];first | done | rfl | (simp;done)) | assumption | rfl)) (by first | omega | (simp only;omega) | (dsimp only;omega) | (show _ < _;simp;omega))⟩
    ·have h0:=hi0 hb
     subst h0
     have e:zaw x c (k + 1) = mxI (zaw x c k) (x.getD k []) 0:=by rw [zlN hml];exact if_neg (by rw [hb];decide)
     exact zai (k + 1) (by refine ⟨?_,?_,?_,?_,?_,?_,?_,?_,by omega⟩ <;> (first | (simp (maxSteps:=5000000) -dsimp only [gr,reduceEqDiff,reduceLT,reduceAdd,reduceMod,Nat.reduceBEq,zaa,zac,zad,zab,h1b,r1b,h3b,r13b,h4b,h5b,r23b,h6b,h1c,r1c,h3c,r13c,h4c,h5c,r23c,h6c,h7c,e,zaf hk (show x.length ≤ 9223372036854775807 by omega)];first | done | rfl | (simp;done)) | assumption | rfl)) (by first | omega | (simp only;omega) | (dsimp only;omega) | (show _ < _;simp;omega))
    ·have hb:c.testBit k = true:=by
      cases hb:c.testBit k with
      | true=>rfl
      | false=>have:=hi0 hb;omega
     have h0:i = 3:=by omega
     subst h0
     have e:zaw x c (k + 1) = mxI (zaw x c k) (x.getD k []) 3:=if_pos hb
     exact zai (k + 1) (by refine ⟨?_,?_,?_,?_,?_,?_,?_,?_,by omega⟩ <;> (first | (simp (maxSteps:=5000000) -dsimp only [gr,reduceEqDiff,reduceLT,reduceAdd,reduceMod,Nat.reduceBEq,zaa,zac,zad,zab,h1b,r1b,h3b,r13b,h4b,h5b,r23b,h6b,h1c,r1c,h3c,r13c,h4c,h5c,r23c,h6c,h7c,e,zaf hk (show x.length ≤ 9223372036854775807 by omega)];first | done | rfl | (simp;done)) | assumption | rfl)) (by first | omega | (simp only;omega) | (dsimp only;omega) | (show _ < _;simp;omega))
   ·have hkl:k = x.length:=by omega
    subst hkl
    have hml:=zfI x c x.length
    have hol:=zfJ x c
    have hbd:=zr4 hp1 c x.length (Nat.le_refl _)
    have b0:=hbd 0 (by omega)
    have b1:=hbd 1 (by omega)
    have b2:=hbd 2 (by omega)
    have hw1:IntKind.i64.wrap ((zaw x c x.length).getD 0 0 + (zaw x c x.length).getD 1 0) = (zaw x c x.length).getD 0 0 + (zaw x c x.length).getD 1 0:=zaq (by omega) (by omega)
    have hw2:IntKind.i64.wrap ((zaw x c x.length).getD 0 0 + (zaw x c x.length).getD 1 0 + (zaw x c x.length).getD 2 0) = ((zeu (zaw x c x.length):Nat):Int):=by
     rw [zaq (by omega) (by omega)];unfold zeu;omega
    have hd7:zeu (zaw x c x.length) < 7:=by unfold zeu;omega
    simp (maxSteps:=5000000) -dsimp only [↓gp,gq,reduceCtorEq,reduceEqDiff,reduceLT,reduceLeDiff,reduceAdd,reduceMul,reduceSub,Nat.reduceBEq,Int.reduceToNat,Int.reduceLE,Int.reduceLT,Int.reduceNeg,reduceMod,zac,zad,zab,zaa,gT,TK.isInt,TK.agg,Array.toList,h1b,r1b,h3b,r13b,h4b,h5b,r23b,h6b,hw1,hw2]
    refine ⟨fun h=>absurd h (Nat.lt_irrefl _),fun _=>⟨by kernel_rfl,by omega,by omega,by omega,by omega,by omega,by omega,by kernel_rfl,by omega,by omega,zak (zbJ c (by omega)) ?_⟩⟩
    simp (maxSteps:=5000000) -dsimp only [↓gp,gq,reduceCtorEq,reduceEqDiff,reduceLT,reduceLeDiff,reduceAdd,reduceMul,reduceSub,Nat.reduceBEq,Int.reduceToNat,Int.reduceLE,Int.reduceLT,Int.reduceNeg,reduceMod,zac,zad,zab,zaa,gT,TK.isInt,TK.agg,Array.toList,h1b,r1b,h3b,r13b,h4b,h5b,r23b,h6b,hw1,hw2]
    have hob:=zpv x c (zeu (zaw x c x.length))
    have ht:((zaX c:Nat):Int).tmod 2 = ((zaX c % 2:Nat):Int):=by rw [Int.tmod_eq_emod_of_nonneg (by omega)];omega
    have e:(zcN x c).set (zeu (zaw x c x.length)) (IntKind.i64.wrap (IntKind.i64.wrap ((zcN x c).getD (zeu (zaw x c x.length)) 0 + 1) - IntKind.i64.wrap (2 * ((zaX c:Nat):Int).tmod 2))) = zcN x (c + 1):=by
     rw [ht,zaq (n:=(zcN x c).getD (zeu (zaw x c x.length)) 0 + 1) (by omega) (by omega),zaq (n:=2 * _) (by omega) (by omega),zaq (by omega) (by omega)]
     have:(zcN x c).getD (zeu (zaw x c x.length)) 0 + 1 - 2 * ((zaX c % 2:Nat):Int) = (zcN x c).getD (zeu (zaw x c x.length)) 0 + zfF c:=by unfold zfF;omega
     rw [this];rfl
    exact ⟨by decide,by omega,by omega,by kernel_rfl,zai ((c + 1,v)) (by refine ⟨?_,?_,?_,?_,?_,by dsimp only;omega⟩ <;> (first | (simp (maxSteps:=5000000) -dsimp only [gr,reduceEqDiff,reduceLT,reduceAdd,reduceMod,Nat.reduceBEq,zaa,zac,zad,zab,h1a,r1a,h3a,r13a,h4a,h1b,r1b,h3b,r13b,h4b,h5b,r23b,h6b,e,zaf hs (by omega)];first | done | rfl | (simp;done)) | assumption | rfl)) (by first | omega | (simp only;omega) | (dsimp only;omega) | (show _ < _;simp;omega))⟩
  ·have hc2:c = N:=by omega
   subst hc2
   simp (maxSteps:=5000000) -dsimp only [↓gp,gq,reduceCtorEq,reduceEqDiff,reduceLT,reduceLeDiff,reduceAdd,reduceMul,reduceSub,Nat.reduceBEq,Int.reduceToNat,Int.reduceLE,Int.reduceLT,Int.reduceNeg,reduceMod,zac,zad,zab,zaa,gT,TK.isInt,TK.agg,Array.toList,h1a,r1a,h3a,r13a,h4a,hsh,hun]
   exact fun h=>absurd h (Nat.lt_irrefl _)
theorem zg2 (x:List (List Int)):AC Try.prog 23 [.ag [zcp x]] (.fr 3 1 (iL (zgd x))):=by
 refine AC.go (rs:=[.tmp 2]) zbq zaD Try.func23 rfl rfl rfl (by kernel_rfl) fun hl=>?_
 simp only [zaH,zaN,and_true,zdn,List.mem_singleton,forall_eq,zci] at hl
 simp (maxSteps:=5000000) -dsimp only [↓gp,gq,reduceCtorEq,reduceEqDiff,reduceLT,reduceLeDiff,reduceAdd,reduceMul,reduceSub,Nat.reduceBEq,Int.reduceToNat,Int.reduceLE,Int.reduceLT,Int.reduceNeg,reduceMod,zac,zad,zab,zaa,gT,TK.isInt,TK.agg,Array.toList]
 refine zak (za5 x) ?_
 rw [← zkP]
 simp (maxSteps:=5000000) -dsimp only [↓gp,gq,reduceCtorEq,reduceEqDiff,reduceLT,reduceLeDiff,reduceAdd,reduceMul,reduceSub,Nat.reduceBEq,Int.reduceToNat,Int.reduceLE,Int.reduceLT,Int.reduceNeg,reduceMod,zac,zad,zab,zaa,gT,TK.isInt,TK.agg,Array.toList]
 refine ⟨fun hp=>?_,fun hp=>?_⟩
 ·rw [zgd,if_neg (by intro h;rw [h] at hp;cases hp)];rfl
 ·have hp1:p19 x = true:=by simpa using hp
  obtain ⟨hok,hx5⟩:=zi8 hp1
  have hx3:∀ k,k < x.length→(x.getD k []).length = 3:=fun k hk=>zbw (hok k hk).1
  have hsh:zoE .i64 1 (x.length:Int) = ((2 ^ x.length:Nat):Int):=zcC (by omega)
  have hun:IntKind.u64.wrap (x.length:Int) = (x.length:Int):=zba (by omega)
  have h64:=zce (m:=x.length) (by omega)
  have hS0:zgd x = zcN x (2 ^ x.length):=if_pos hp1
  have hsg:=fun s (h:s < 2 ^ x.length)=>zx3 x.length hx5 s h
  rw [hS0]
  generalize 2 ^ x.length = N at *
  refine ⟨by decide,?_⟩
  refine zas (fun (za:Nat × Nat) s=>match za with | (c,v)=>s.sl 1 = .ref 1 1 0∧s.rw 1 = ⟨1,.box 35 [zcp x]⟩∧s.sl 3 = .own 14 v∧s.rw 14 = ⟨v,.sli 3 1 false (iL (zcN x c))⟩∧s.sl 4 = int c∧(c ≤ N)) (fun (c,v)=>N - c) ((0,1)) (by refine ⟨?_,?_,?_,?_,?_,by omega⟩ <;> (first | (simp (maxSteps:=5000000) -dsimp only [gr,reduceEqDiff,reduceLT,reduceAdd,reduceMod,Nat.reduceBEq,zaa,zac,zad,zab,zcN];first | done | rfl | (simp;done)) | assumption | rfl)) ?_
  intro (c,v) sa ⟨h1a,r1a,h3a,r14a,h4a,hIa⟩
  by_cases hs:c < N
  ·simp (maxSteps:=5000000) -dsimp only [↓gp,gq,reduceCtorEq,reduceEqDiff,reduceLT,reduceLeDiff,reduceAdd,reduceMul,reduceSub,Nat.reduceBEq,Int.reduceToNat,Int.reduceLE,Int.reduceLT,Int.reduceNeg,reduceMod,zac,zad,zab,zaa,gT,TK.isInt,TK.agg,Array.toList,h1a,r1a,h3a,r14a,h4a,hsh,hun]
   refine ⟨fun _=>?_,fun h=>absurd hs h⟩
   refine zas (fun (k:Nat) s=>s.sl 1 = .ref 1 1 0∧s.rw 1 = ⟨1,.box 35 [zcp x]⟩∧s.sl 3 = .own 14 v∧s.rw 14 = ⟨v,.sli 3 1 false (iL (zcN x c))⟩∧s.sl 4 = int c∧s.sl 5 = .ref 5 ((sa.rw 5).ver + 1) 0∧s.rw 5 = ⟨(sa.rw 5).ver + 1,.box 88 (iL (zaw x c k))⟩∧s.sl 6 = int (zot c k)∧s.sl 25 = zcp x∧s.sl 26 = int x.length∧s.sl 27 = int k∧(k ≤ x.length)) (fun k=>x.length - k) (0) (by refine ⟨?_,?_,?_,?_,?_,?_,?_,?_,?_,?_,?_,by omega⟩ <;> (first | (simp (maxSteps:=5000000) -dsimp only [gr,reduceEqDiff,reduceLT,reduceAdd,reduceMod,Nat.reduceBEq,zaa,zac,zad,zab,h1a,r1a,h3a,r14a,h4a,zaw,zot];first | done | rfl | (simp;done)) | assumption | rfl)) ?_
   intro k sb ⟨h1b,r1b,h3b,r14b,h4b,h5b,r5b,h6b,h25b,h26b,h27b,hIb⟩
   by_cases hk:k < x.length
   ·have hunk:IntKind.u64.wrap (k:Int) = (k:Int):=zba (by omega)
    have hbit:=zx2 c (by omega) k (by omega)
    have hml:=zfI x c k
    have hsb:=zAm c k
    have hng:IntKind.i64.wrap (0 - zot c k) = -zot c k:=by rw [zaq (by omega) (by omega)];omega
    simp (maxSteps:=5000000) -dsimp only [↓gp,gq,reduceCtorEq,reduceEqDiff,reduceLT,reduceLeDiff,reduceAdd,reduceMul,reduceSub,Nat.reduceBEq,Int.reduceToNat,Int.reduceLE,Int.reduceLT,Int.reduceNeg,reduceMod,zac,zad,zab,zaa,gT,TK.isInt,TK.agg,Array.toList,h1b,r1b,h3b,r14b,h4b,h5b,r5b,h6b,h25b,h26b,h27b,hunk,hbit,hng]
    refine ⟨fun _=>⟨hk,hk,fun hb=>?_,fun hb=>?_⟩,fun h=>absurd hk h⟩
    ·have hb:c.testBit k = false:=by simpa using hb
     have e1:zaw x c (k + 1) = zaw x c k:=if_neg (by rw [hb];decide)
     have e2:zot c (k + 1) = zot c k:=if_neg (by rw [hb];decide)
     exact zai (k + 1) (by refine ⟨?_,?_,?_,?_,?_,?_,?_,?_,?_,?_,?_,by omega⟩ <;> (first | (simp (maxSteps:=5000000) -dsimp only [gr,reduceEqDiff,reduceLT,reduceAdd,reduceMod,Nat.reduceBEq,zaa,zac,zad,zab,h1b,r1b,h3b,r14b,h4b,h5b,r5b,h6b,h25b,h26b,h27b,e1,e2,zaf hk (show x.length ≤ 9223372036854775807 by omega)];first | done | rfl | (simp;done)) | assumption | rfl)) (by first | omega | (simp only;omega) | (dsimp only;omega) | (show _ < _;simp;omega))
    ·have hb:c.testBit k = true:=by simpa using hb
     have hrl:=hx3 k hk
     refine zas (fun (i:Nat) s=>s.sl 1 = .ref 1 1 0∧s.rw 1 = ⟨1,.box 35 [zcp x]⟩∧s.sl 3 = .own 14 v∧s.rw 14 = ⟨v,.sli 3 1 false (iL (zcN x c))⟩∧s.sl 4 = int c∧s.sl 5 = .ref 5 ((sa.rw 5).ver + 1) 0∧s.rw 5 = ⟨(sa.rw 5).ver + 1,.box 88 (iL (mxI (zaw x c k) (x.getD k []) i))⟩∧s.sl 6 = int (-zot c k)∧s.sl 25 = zcp x∧s.sl 26 = int x.length∧s.sl 27 = int k∧s.sl 40 = zbr (x.getD k [])∧s.sl 41 = int 3∧s.sl 42 = int i∧(i ≤ 3)) (fun i=>3 - i) (0) (by refine ⟨?_,?_,?_,?_,?_,?_,?_,?_,?_,?_,?_,?_,?_,?_,by omega⟩ <;> (first | (simp (maxSteps:=5000000) -dsimp only [gr,reduceEqDiff,reduceLT,reduceAdd,reduceMod,Nat.reduceBEq,zaa,zac,zad,zab,h1b,r1b,h3b,r14b,h4b,h5b,r5b,h6b,h25b,h26b,h27b,zlN hml,hrl];first | done | rfl | (simp;done)) | assumption | rfl)) ?_
     intro i sc ⟨h1c,r1c,h3c,r14c,h4c,h5c,r5c,h6c,h25c,h26c,h27c,h40c,h41c,h42c,hIc⟩
     have hxl:=zlM (zaw x c k) (x.getD k []) i
     have hgi:i < 3→(mxI (zaw x c k) (x.getD k []) i).set i (max ((mxI (zaw x c k) (x.getD k []) i).getD i 0) ((x.getD k []).getD i 0)) = mxI (zaw x c k) (x.getD k []) (i + 1):=fun h=>by
      rw [zek _ _ _ h,if_neg (Nat.lt_irrefl _),zwy _ _ h]
     simp (maxSteps:=5000000) -dsimp only [↓gp,gq,reduceCtorEq,reduceEqDiff,reduceLT,reduceLeDiff,reduceAdd,reduceMul,reduceSub,Nat.reduceBEq,Int.reduceToNat,Int.reduceLE,Int.reduceLT,Int.reduceNeg,reduceMod,zac,zad,zab,zaa,gT,TK.isInt,TK.agg,Array.toList,h1c,r1c,h3c,r14c,h4c,h5c,r5c,h6c,h25c,h26c,h27c,h40c,h41c,h42c]
     refine ⟨fun h3=>?_,fun h3=>?_⟩
     ·have h3:i < 3:=by omega
      have em:(if (x.getD k []).getD i 0 > (mxI (zaw x c k) (x.getD k []) i).getD i 0 then (x.getD k []).getD i 0 else (mxI (zaw x c k) (x.getD k []) i).getD i 0) = max ((mxI (zaw x c k) (x.getD k []) i).getD i 0) ((x.getD k []).getD i 0):=by split <;> omega
      have e:=hgi h3
      rw [← em] at e
      exact ⟨by omega,by omega,h3,by omega,h3,by omega,zai (i + 1) (by refine ⟨?_,?_,?_,?_,?_,?_,?_,?_,?_,?_,?_,?_,?_,?_,by omega⟩ <;> (first | (simp (maxSteps:=5000000) -dsimp only [gr,reduceEqDiff,reduceLT,reduceAdd,reduceMod,Nat.reduceBEq,zaa,zac,zad,zab,h1c,r1c,h3c,r14c,h4c,h5c,r5c,h6c,h25c,h26c,h27c,h40c,h41c,h42c,e,zaf h3 (by omega)];first | done | rfl | (simp;done)) | assumption | rfl)) (by first | omega | (simp only;omega) | (dsimp only;omega) | (show _ < _;simp;omega))⟩
     ·have h0:i = 3:=by omega
      subst h0
      have e1:zaw x c (k + 1) = mxI (zaw x c k) (x.getD k []) 3:=if_pos hb
      have e2:zot c (k + 1) = -zot c k:=if_pos hb
      exact zai (k + 1) (by refine ⟨?_,?_,?_,?_,?_,?_,?_,?_,?_,?_,?_,by omega⟩ <;> (first | (simp (maxSteps:=5000000) -dsimp only [gr,reduceEqDiff,reduceLT,reduceAdd,reduceMod,Nat.reduceBEq,zaa,zac,zad,zab,h1b,r1b,h3b,r14b,h4b,h5b,r5b,h6b,h25b,h26b,h27b,h1c,r1c,h3c,r14c,h4c,h5c,r5c,h6c,h25c,h26c,h27c,h40c,h41c,h42c,e1,e2,zaf hk (show x.length ≤ 9223372036854775807 by omega)];first | done | rfl | (simp;done)) | assumption | rfl)) (by first | omega | (simp only;omega) | (dsimp only;omega) | (show _ < _;simp;omega))
   ·have hkl:k = x.length:=by omega
    subst hkl
    have hml:=zfI x c x.length
    have hol:=zfJ x c
    have hbd:=zr4 hp1 c x.length (Nat.le_refl _)
    have b0:=hbd 0 (by omega)
    have b1:=hbd 1 (by omega)
    have b2:=hbd 2 (by omega)
    have hw1:IntKind.i64.wrap ((zaw x c x.length).getD 0 0 + (zaw x c x.length).getD 1 0) = (zaw x c x.length).getD 0 0 + (zaw x c x.length).getD 1 0:=zaq (by omega) (by omega)
    have hw2:IntKind.i64.wrap ((zaw x c x.length).getD 0 0 + (zaw x c x.length).getD 1 0 + (zaw x c x.length).getD 2 0) = ((zeu (zaw x c x.length):Nat):Int):=by
     rw [zaq (by omega) (by omega)];unfold zeu;omega
    have hd7:zeu (zaw x c x.length) < 7:=by unfold zeu;omega
    have hob:=zpv x c (zeu (zaw x c x.length))
    have hsb:=zwz c
    have e:(zcN x c).set (zeu (zaw x c x.length)) (IntKind.i64.wrap ((zcN x c).getD (zeu (zaw x c x.length)) 0 + zot c x.length)) = zcN x (c + 1):=by
     rw [hsg c hs,zaq (by omega) (by omega)];rfl
    simp (maxSteps:=5000000) -dsimp only [↓gp,gq,reduceCtorEq,reduceEqDiff,reduceLT,reduceLeDiff,reduceAdd,reduceMul,reduceSub,Nat.reduceBEq,Int.reduceToNat,Int.reduceLE,Int.reduceLT,Int.reduceNeg,reduceMod,zac,zad,zab,zaa,gT,TK.isInt,TK.agg,Array.toList,h1b,r1b,h3b,r14b,h4b,h5b,r5b,h6b,h25b,h26b,h27b,hw1,hw2,Nat.lt_irrefl,decide_false]
    exact ⟨by decide,by omega,by decide,by omega,by decide,by omega,by omega,by omega,by omega,by omega,zai ((c + 1,v)) (by refine ⟨?_,?_,?_,?_,?_,by dsimp only;omega⟩ <;> (first | (simp (maxSteps:=5000000) -dsimp only [gr,reduceEqDiff,reduceLT,reduceAdd,reduceMod,Nat.reduceBEq,zaa,zac,zad,zab,h1a,r1a,h3a,r14a,h4a,h1b,r1b,h3b,r14b,h4b,h5b,r5b,h6b,h25b,h26b,h27b,e,zaf hs (by omega)];first | done | rfl | (simp;done)) | assumption | rfl)) (by first | omega | (simp only;omega) | (dsimp only;omega) | (show _ < _;simp;omega))⟩
  ·have hc2:c = N:=by omega
   subst hc2
   simp (maxSteps:=5000000) -dsimp only [↓gp,gq,reduceCtorEq,reduceEqDiff,reduceLT,reduceLeDiff,reduceAdd,reduceMul,reduceSub,Nat.reduceBEq,Int.reduceToNat,Int.reduceLE,Int.reduceLT,Int.reduceNeg,reduceMod,zac,zad,zab,zaa,gT,TK.isInt,TK.agg,Array.toList,h1a,r1a,h3a,r14a,h4a,hsh,hun]
   exact fun h=>absurd h (Nat.lt_irrefl _)
end Go.Proofs.Ytpnknaaehcljoaa

namespace Go.Proofs.Ytpnknaaehcljoaa
open Go.Abs
open Nat (reduceEqDiff reduceMod reduceAdd reduceLT reduceLeDiff reduceSub reduceMul)
set_option linter.unusedSimpArgs false
set_option linter.unusedVariables false
def zoG (l:List Nat):Nat:=l.foldl (fun F s=>F ||| 2 ^ s) 0
theorem zwu (l:List Nat) (s:Nat):zoG (l ++ [s]) = zoG l ||| 2 ^ s:=by simp [zoG]
theorem zlJ (l:List Nat):∀ t,(zoG l).testBit t = decide (t ∈ l):=by
 have h:∀ (l:List Nat) (F t:Nat),(l.foldl (fun F s=>F ||| 2 ^ s) F).testBit t = (F.testBit t || decide (t ∈ l)):=by
  intro l
  induction l with
  | nil=>intro F t;simp
  | cons s l ih =>
    intro F t
    rw [List.foldl_cons,ih,Nat.testBit_or,Nat.testBit_two_pow]
    by_cases e:s = t
    ·subst e;simp
    ·have e2:t ≠ s:=fun h=>e h.symm
     simp [e,e2]
 intro t
 unfold zoG;rw [h];simp
theorem zwv {l:List Nat} (h:∀ s ∈ l,s < 64):zoG l < 18446744073709551616:=by
 have:zoG l < 2 ^ 64:=Nat.lt_pow_two_of_testBit _ fun i hi=>by
  rw [zlJ]
  exact decide_eq_false fun hm=>by have:=h i hm;omega
 simpa using this
theorem zi5 (l:List Nat) (h:∀ s ∈ l,s < 64) (hl9:l.length ≤ 1000000):AC Try.prog 182 [zbr (ofN l)] (.tup [.im (u64 (zoG l:Nat)),.im (bool true)]):=by
 refine AC.go (rs:=[.tmp 2,.tmp 3]) zbq zaD Try.func182 rfl rfl rfl (by kernel_rfl) fun hl=>?_
 simp (maxSteps:=5000000) -dsimp only [↓gp,gq,reduceCtorEq,reduceEqDiff,reduceLT,reduceLeDiff,reduceAdd,reduceMul,reduceSub,Nat.reduceBEq,Int.reduceToNat,Int.reduceLE,Int.reduceLT,Int.reduceNeg,reduceMod,zac,zad,zab,zaa,gT,TK.isInt,TK.agg,Array.toList]
 have hol:=zav l
 refine zas (fun (k:Nat) s=>s.sl 4 = u64 (zoG (l.take k):Nat)∧s.sl 7 = zbr (ofN l)∧s.sl 8 = int l.length∧s.sl 9 = int k∧(k ≤ l.length)) (fun k=>l.length - k) (0) (by refine ⟨?_,?_,?_,?_,by omega⟩ <;> (first | (simp (maxSteps:=5000000) -dsimp only [gr,reduceEqDiff,reduceLT,reduceAdd,reduceMod,Nat.reduceBEq,zaa,zac,zad,zab,hol,List.take_zero];first | done | rfl | (simp;done)) | assumption | rfl)) ?_
 intro k sa ⟨h4a,h7a,h8a,h9a,hIa⟩
 have hlt:=zwv (l:=l.take k) (fun s hs=>h s (List.mem_of_mem_take hs))
 simp (maxSteps:=5000000) -dsimp only [↓gp,gq,reduceCtorEq,reduceEqDiff,reduceLT,reduceLeDiff,reduceAdd,reduceMul,reduceSub,Nat.reduceBEq,Int.reduceToNat,Int.reduceLE,Int.reduceLT,Int.reduceNeg,reduceMod,zac,zad,zab,zaa,gT,TK.isInt,TK.agg,Array.toList,h4a,h7a,h8a,h9a,hol]
 refine ⟨fun hk=>⟨hk,hk,?_⟩,fun hk=>?_⟩
 ·have hgd:=zbb hk
  have hs:=h _ (zaC 0 hk)
  have hin:zcx 6 ((l.getD k 0:Nat):Int) = true:=by unfold zcx;exact decide_eq_true ⟨by omega,by omega,by omega,by simpa using (by omega:((l.getD k 0:Nat):Int) < 64)⟩
  have huk:IntKind.u64.wrap ((l.getD k 0:Nat):Int) = ((l.getD k 0:Nat):Int):=zba (by omega)
  have h2s:(2:Nat) ^ (l.getD k 0) < 18446744073709551616:=by
   have:(2:Nat) ^ (l.getD k 0) < 2 ^ 64:=Nat.pow_lt_pow_right (by omega) (by omega)
   omega
  have hor:ior .u64 (zoG (l.take k):Nat) (zoE .u64 1 ((l.getD k 0:Nat):Int)) = ((zoG (l.take (k + 1)):Nat):Int):=by
   rw [zC7 (by omega),zDW (by omega) h2s,zaF 0 hk,zwu]
  rw [hgd]
  refine zak (zbV _ _) ?_
  rw [hin]
  simp (maxSteps:=5000000) -dsimp only [↓gp,gq,reduceCtorEq,reduceEqDiff,reduceLT,reduceLeDiff,reduceAdd,reduceMul,reduceSub,Nat.reduceBEq,Int.reduceToNat,Int.reduceLE,Int.reduceLT,Int.reduceNeg,reduceMod,zac,zad,zab,zaa,gT,TK.isInt,TK.agg,Array.toList,h4a,h7a,h8a,h9a,hol,hgd,huk,hor]
  exact zai (k + 1) (by refine ⟨?_,?_,?_,?_,by omega⟩ <;> (first | (simp (maxSteps:=5000000) -dsimp only [gr,reduceEqDiff,reduceLT,reduceAdd,reduceMod,Nat.reduceBEq,zaa,zac,zad,zab,h4a,h7a,h8a,h9a,zaf hk (by omega),hor];first | done | rfl | (simp;done)) | assumption | rfl)) (by first | omega | (simp only;omega) | (dsimp only;omega) | (show _ < _;simp;omega))
 ·have:k = l.length:=by omega
  rw [this,List.take_length]
theorem zfH (l:List Nat) (h:∀ s ∈ l,s < 64) (hl9:l.length ≤ 1000000):AC Try.prog 144 [zbr (ofN l)] (.fr 3 1 (iL (ofN (zga (inF (ofN l)) false)))):=by
 refine AC.go (rs:=[.tmp 2]) zbq zaD Try.func144 rfl rfl rfl (by kernel_rfl) fun hl=>?_
 simp (maxSteps:=5000000) -dsimp only [↓gp,gq,reduceCtorEq,reduceEqDiff,reduceLT,reduceLeDiff,reduceAdd,reduceMul,reduceSub,Nat.reduceBEq,Int.reduceToNat,Int.reduceLE,Int.reduceLT,Int.reduceNeg,reduceMod,zac,zad,zab,zaa,gT,TK.isInt,TK.agg,Array.toList]
 refine zak (zi5 l h hl9) ?_
 simp (maxSteps:=5000000) -dsimp only [↓gp,gq,reduceCtorEq,reduceEqDiff,reduceLT,reduceLeDiff,reduceAdd,reduceMul,reduceSub,Nat.reduceBEq,Int.reduceToNat,Int.reduceLE,Int.reduceLT,Int.reduceNeg,reduceMod,zac,zad,zab,zaa,gT,TK.isInt,TK.agg,Array.toList]
 refine zak (zgX (zoG l) (zwv h)) ?_
 simp (maxSteps:=5000000) -dsimp only [↓gp,gq,reduceCtorEq,reduceEqDiff,reduceLT,reduceLeDiff,reduceAdd,reduceMul,reduceSub,Nat.reduceBEq,Int.reduceToNat,Int.reduceLE,Int.reduceLT,Int.reduceNeg,reduceMod,zac,zad,zab,zaa,gT,TK.isInt,TK.agg,Array.toList]
 have:(zoG l).testBit = inF (ofN l):=by
  funext t
  rw [zlJ]
  unfold inF ofN
  simp
  exact ⟨fun h=>⟨t,h,rfl⟩,fun ⟨a,ha,e⟩=>by rwa [show a = t by omega] at ha⟩
 rw [this]
theorem zgZ (l:List Nat) (h:∀ s ∈ l,s < 64) (hl9:l.length ≤ 64):AC Try.prog 79 [int 6,zbr (ofN l)] (.tup [.ag [.im (int 6),.fr 3 1 (iL (ofN (zga (inF (ofN l)) false)))],.im (bool true)]):=by
 refine AC.go (rs:=[.cell 4 38,.tmp 5]) zbq zaD Try.func79 rfl rfl rfl (by kernel_rfl) fun hl=>?_
 simp (maxSteps:=5000000) -dsimp only [↓gp,gq,reduceCtorEq,reduceEqDiff,reduceLT,reduceLeDiff,reduceAdd,reduceMul,reduceSub,Nat.reduceBEq,Int.reduceToNat,Int.reduceLE,Int.reduceLT,Int.reduceNeg,reduceMod,zac,zad,zab,zaa,gT,TK.isInt,TK.agg,Array.toList]
 refine zak (zgY 6 (ofN l)) ?_
 have hd:decide (1 ≤ (6:Int)∧(6:Int) ≤ 6∧(ofN l).length ≤ 64∧∀ x ∈ ofN l,zcx 6 x = true) = true:=by
  refine decide_eq_true ⟨by omega,by omega,by rw [zav];exact hl9,fun x hx=>?_⟩
  obtain ⟨s,hs,rfl⟩:=List.mem_map.1 hx
  have:=h s hs
  unfold zcx;exact decide_eq_true ⟨by omega,by omega,by omega,by simpa using (by omega:(s:Int) < 64)⟩
 rw [hd]
 simp (maxSteps:=5000000) -dsimp only [↓gp,gq,reduceCtorEq,reduceEqDiff,reduceLT,reduceLeDiff,reduceAdd,reduceMul,reduceSub,Nat.reduceBEq,Int.reduceToNat,Int.reduceLE,Int.reduceLT,Int.reduceNeg,reduceMod,zac,zad,zab,zaa,gT,TK.isInt,TK.agg,Array.toList]
 refine zak (zfH l h (by omega)) ?_
 simp (maxSteps:=5000000) -dsimp only [↓gp,gq,reduceCtorEq,reduceEqDiff,reduceLT,reduceLeDiff,reduceAdd,reduceMul,reduceSub,Nat.reduceBEq,Int.reduceToNat,Int.reduceLE,Int.reduceLT,Int.reduceNeg,reduceMod,zac,zad,zab,zaa,gT,TK.isInt,TK.agg,Array.toList]
theorem zc8 {n:Int} (l:List Nat) (h:∀ s ∈ l,s < 64):AC Try.prog 80 [int n,zbr (ofN l)] (.ag [.im (int n),.fr 3 1 (iL (ofN (zga (inF (ofN l)) false)))]):=by
 refine AC.go (rs:=[.cell 4 38]) zbq zaD Try.func80 rfl rfl rfl (by kernel_rfl) fun hl=>?_
 simp (maxSteps:=5000000) -dsimp only [↓gp,gq,reduceCtorEq,reduceEqDiff,reduceLT,reduceLeDiff,reduceAdd,reduceMul,reduceSub,Nat.reduceBEq,Int.reduceToNat,Int.reduceLE,Int.reduceLT,Int.reduceNeg,reduceMod,zac,zad,zab,zaa,gT,TK.isInt,TK.agg,Array.toList]
 refine zak (zdF false (ofN l) fun x hx=>?_) ?_
 ·obtain ⟨s,hs,rfl⟩:=List.mem_map.1 hx
  have:=h s hs
  omega
 ·simp (maxSteps:=5000000) -dsimp only [↓gp,gq,reduceCtorEq,reduceEqDiff,reduceLT,reduceLeDiff,reduceAdd,reduceMul,reduceSub,Nat.reduceBEq,Int.reduceToNat,Int.reduceLE,Int.reduceLT,Int.reduceNeg,reduceMod,zac,zad,zab,zaa,gT,TK.isInt,TK.agg,Array.toList]
def zb9 (r:List Int):Nat→Nat | 0=>0 | i + 1=>zb9 r i + (2 ^ (r.getD i 0).toNat - 1) * 4 ^ i
theorem zi6 {r:List Int} (h:zbL r = true):∀ i,i ≤ 3→zb9 r i < 4 ^ i:=by
 intro i
 induction i with
 | zero=>intro _;simp [zb9]
 | succ i ih =>
   intro hi
   have h1:=ih (by omega)
   have h2:=zcY h (j:=i) (by omega)
   rw [zb9,Nat.pow_succ]
   have h3:(2 ^ (r.getD i 0).toNat - 1) ≤ 3:=by
    have:2 ^ (r.getD i 0).toNat ≤ 2 ^ 2:=Nat.pow_le_pow_right (by omega) (by omega)
    omega
   have h4:=Nat.mul_le_mul_right (4 ^ i) h3
   omega
theorem zDY:∀ e,e < 3→∀ i,i < 3→zoE .i64 (IntKind.i64.wrap (zoE .i64 1 (e:Nat) - 1)) (IntKind.u64.wrap (IntKind.i64.wrap (2 * (i:Nat)))) = (((2 ^ e - 1) * 4 ^ i:Nat):Int):=by decide
theorem zDZ:∀ i,i < 3→∀ s,s < 16→s < 4 ^ i→ior .i64 (s:Nat) (zoE .i64 1 (IntKind.u64.wrap (IntKind.i64.wrap (2 * (i:Nat))))) = ((s + 4 ^ i:Nat):Int):=by decide +kernel
theorem zD0:∀ i,i < 3→∀ s,s < 16→s < 4 ^ i→ior .i64 (s + 4 ^ i:Nat) (zoE .i64 1 (IntKind.u64.wrap (IntKind.i64.wrap (IntKind.i64.wrap (2 * (i:Nat)) + 1)))) = ((s + 3 * 4 ^ i:Nat):Int):=by decide +kernel
def zg0 (x:List (List Int)):List Nat:=x.map fun r=>zb9 r 3
theorem zlK (x:List (List Int)):(zg0 x).length = x.length:=by simp [zg0]
theorem zos {x:List (List Int)} {k:Nat} (h:k < x.length):zg0 (x.take (k + 1)) = zg0 (x.take k) ++ [zb9 (x.getD k []) 3]:=by rw [zaF [] h];simp [zg0]
noncomputable def spV (x:List (List Int)):List Nat:=if p19 x = true then zga (inF (ofN (zg0 x))) false else []
noncomputable def spO (x:List (List Int)):Int:=if p19 x = true then 6 else 0
theorem zcL (x:List (List Int)):AC Try.prog 15 [.ag [zcp x]] (.tup [.ag [.im (int (spO x)),.fr 3 1 (iL (ofN (spV x)))],.im (bool (p19 x))]):=by
 refine AC.go (rs:=[.cell 2 38,.tmp 3]) zbq zaD Try.func15 rfl rfl rfl (by kernel_rfl) fun hl=>?_
 simp only [zaH,zaN,and_true,zdn,List.mem_singleton,forall_eq,zci] at hl
 simp (maxSteps:=5000000) -dsimp only [↓gp,gq,reduceCtorEq,reduceEqDiff,reduceLT,reduceLeDiff,reduceAdd,reduceMul,reduceSub,Nat.reduceBEq,Int.reduceToNat,Int.reduceLE,Int.reduceLT,Int.reduceNeg,reduceMod,zac,zad,zab,zaa,gT,TK.isInt,TK.agg,Array.toList]
 refine zak (zbt x) ?_
 simp (maxSteps:=5000000) -dsimp only [↓gp,gq,reduceCtorEq,reduceEqDiff,reduceLT,reduceLeDiff,reduceAdd,reduceMul,reduceSub,Nat.reduceBEq,Int.reduceToNat,Int.reduceLE,Int.reduceLT,Int.reduceNeg,reduceMod,zac,zad,zab,zaa,gT,TK.isInt,TK.agg,Array.toList]
 refine ⟨fun hp=>?_,fun hp=>?_⟩
 ·have hp:p19 x = false:=by simpa using hp
  rw [spV,spO,hp];exact ⟨rfl,rfl,rfl⟩
 ·have hp:p19 x = true:=by simpa using hp
  obtain ⟨hok,hx5⟩:=zi8 hp
  have hz:ofN (zg0 (x.take 0)) = []:=rfl
  refine zas (fun (za:Nat × Nat) s=>match za with | (k,v)=>s.sl 1 = .ref 1 1 0∧s.rw 1 = ⟨1,.box 35 [zcp x]⟩∧s.sl 2 = .ref 2 1 0∧s.rw 2 = ⟨1,.box 38 [int 0,.v (.slice none 0 0)]⟩∧s.sl 4 = .own 12 v∧s.rw 12 = ⟨v,.sli 3 1 false (iL (ofN (zg0 (x.take k))))⟩∧s.sl 5 = int k∧(k ≤ x.length)) (fun (k,v)=>x.length - k) ((0,1)) (by refine ⟨?_,?_,?_,?_,?_,?_,?_,by omega⟩ <;> (first | (simp (maxSteps:=5000000) -dsimp only [gr,reduceEqDiff,reduceLT,reduceAdd,reduceMod,Nat.reduceBEq,zaa,zac,zad,zab,hz];first | done | rfl | (simp;done)) | assumption | rfl)) ?_
  intro (k,v) sa ⟨h1a,r1a,h2a,r2a,h4a,r12a,h5a,hIa⟩
  simp (maxSteps:=5000000) -dsimp only [↓gp,gq,reduceCtorEq,reduceEqDiff,reduceLT,reduceLeDiff,reduceAdd,reduceMul,reduceSub,Nat.reduceBEq,Int.reduceToNat,Int.reduceLE,Int.reduceLT,Int.reduceNeg,reduceMod,zac,zad,zab,zaa,gT,TK.isInt,TK.agg,Array.toList,h1a,r1a,h2a,r2a,h4a,r12a,h5a]
  refine ⟨fun hk=>?_,fun hk=>?_⟩
  ·have hpk:=(hok k hk).1
   have hr3:=zbw hpk
   refine zas (fun (i:Nat) s=>s.sl 1 = .ref 1 1 0∧s.rw 1 = ⟨1,.box 35 [zcp x]⟩∧s.sl 2 = .ref 2 1 0∧s.rw 2 = ⟨1,.box 38 [int 0,.v (.slice none 0 0)]⟩∧s.sl 4 = .own 12 v∧s.rw 12 = ⟨v,.sli 3 1 false (iL (ofN (zg0 (x.take k))))⟩∧s.sl 5 = int k∧s.sl 6 = int (zb9 (x.getD k []) i)∧s.sl 7 = int i∧(i ≤ 3)) (fun i=>3 - i) (0) (by refine ⟨?_,?_,?_,?_,?_,?_,?_,?_,?_,by omega⟩ <;> (first | (simp (maxSteps:=5000000) -dsimp only [gr,reduceEqDiff,reduceLT,reduceAdd,reduceMod,Nat.reduceBEq,zaa,zac,zad,zab,h1a,r1a,h2a,r2a,h4a,r12a,h5a,zb9];first | done | rfl | (simp;done)) | assumption | rfl)) ?_
   intro i sb ⟨h1b,r1b,h2b,r2b,h4b,r12b,h5b,h6b,h7b,hIb⟩
   by_cases hi:i < 3
   ·have hb:=zcY hpk (j:=i) hi
    obtain ⟨e,he⟩:∃ e:Nat,(x.getD k []).getD i 0 = e:=⟨((x.getD k []).getD i 0).toNat,by omega⟩
    have hss:=zDY e (by omega) i hi
    have hue:IntKind.u64.wrap (e:Int) = (e:Int):=zba (by omega)
    have hn2:0 ≤ IntKind.u64.wrap (IntKind.i64.wrap (2 * (i:Int))):=by
     rw [zaq (by omega) (by omega)]
     have:=zba (a:=2 * i) (by omega)
     rw [show ((2 * i:Nat):Int) = 2 * (i:Int) by omega] at this
     rw [this];omega
    have hlt:=zi6 hpk i (by omega)
    have h4:4 ^ i ≤ 16:=by
     have:4 ^ i ≤ 4 ^ 2:=Nat.pow_le_pow_right (by omega) (by omega)
     omega
    have hlt2:=zi6 hpk (i + 1) (by omega)
    have h42:4 ^ (i + 1) ≤ 64:=by
     have:4 ^ (i + 1) ≤ 4 ^ 3:=Nat.pow_le_pow_right (by omega) (by omega)
     omega
    have hst:zb9 (x.getD k []) (i + 1) = zb9 (x.getD k []) i + (2 ^ e - 1) * 4 ^ i:=by rw [zb9,he,Int.toNat_natCast]
    have hw:IntKind.i64.wrap (((zb9 (x.getD k []) i:Nat):Int) + (((2 ^ e - 1) * 4 ^ i:Nat):Int)) = ((zb9 (x.getD k []) (i + 1):Nat):Int):=by
     rw [← Int.natCast_add,← hst,zaq (by omega) (by omega)]
    simp (maxSteps:=5000000) -dsimp only [↓gp,gq,reduceCtorEq,reduceEqDiff,reduceLT,reduceLeDiff,reduceAdd,reduceMul,reduceSub,Nat.reduceBEq,Int.reduceToNat,Int.reduceLE,Int.reduceLT,Int.reduceNeg,reduceMod,zac,zad,zab,zaa,gT,TK.isInt,TK.agg,Array.toList,h1b,r1b,h2b,r2b,h4b,r12b,h5b,h6b,h7b,he,hue,hss,hw]
    exact ⟨fun _=>⟨hk,hk,by omega,by omega,hn2,zai (i + 1) (by refine ⟨?_,?_,?_,?_,?_,?_,?_,?_,?_,by omega⟩ <;> (first | (simp (maxSteps:=5000000) -dsimp only [gr,reduceEqDiff,reduceLT,reduceAdd,reduceMod,Nat.reduceBEq,zaa,zac,zad,zab,h1b,r1b,h2b,r2b,h4b,r12b,h5b,h6b,h7b,hw,zaf hi (by omega)];first | done | rfl | (simp;done)) | assumption | rfl)) (by first | omega | (simp only;omega) | (dsimp only;omega) | (show _ < _;simp;omega))⟩,fun h=>absurd (by omega) h⟩
   ·have hi3:i = 3:=by omega
    subst hi3
    have hs:=zos hk
    have hsn:ofN (zg0 (x.take (k + 1))) = ofN (zg0 (x.take k)) ++ [((zb9 (x.getD k []) 3:Nat):Int)]:=by rw [hs,za4,zdz]
    simp (maxSteps:=5000000) -dsimp only [↓gp,gq,reduceCtorEq,reduceEqDiff,reduceLT,reduceLeDiff,reduceAdd,reduceMul,reduceSub,Nat.reduceBEq,Int.reduceToNat,Int.reduceLE,Int.reduceLT,Int.reduceNeg,reduceMod,zac,zad,zab,zaa,gT,TK.isInt,TK.agg,Array.toList,h1b,r1b,h2b,r2b,h4b,r12b,h5b,h6b,h7b]
    refine ⟨fun h=>absurd h (by decide),fun _=>⟨by rw [zav,zlK,List.length_take];omega,zai ((k + 1,v + 1)) (by refine ⟨?_,?_,?_,?_,?_,?_,?_,by dsimp only;omega⟩ <;> (first | (simp (maxSteps:=5000000) -dsimp only [gr,reduceEqDiff,reduceLT,reduceAdd,reduceMod,Nat.reduceBEq,zaa,zac,zad,zab,h1a,r1a,h2a,r2a,h4a,r12a,h5a,h1b,r1b,h2b,r2b,h4b,r12b,h5b,h6b,h7b,hsn,zaf hk (show x.length ≤ 9223372036854775807 by omega)];first | done | rfl | (simp;done)) | assumption | rfl)) (by first | omega | (simp only;omega) | (dsimp only;omega) | (show _ < _;simp;omega))⟩⟩
  ·have hkl:k = x.length:=by omega
   subst hkl
   rw [List.take_length]
   refine zak (zc8 (zg0 x) fun s hs=>?_) ?_
   ·obtain ⟨r,hr,rfl⟩:=List.mem_map.1 hs
    obtain ⟨j,hj,rfl⟩:=List.getElem_of_mem hr
    have hpj:=(hok j hj).1
    have e1:x.getD j [] = x[j]:=by simp [List.getD,hj]
    rw [e1] at hpj
    exact zi6 hpj 3 (by omega)
   ·simp (maxSteps:=5000000) -dsimp only [↓gp,gq,reduceCtorEq,reduceEqDiff,reduceLT,reduceLeDiff,reduceAdd,reduceMul,reduceSub,Nat.reduceBEq,Int.reduceToNat,Int.reduceLE,Int.reduceLT,Int.reduceNeg,reduceMod,zac,zad,zab,zaa,gT,TK.isInt,TK.agg,Array.toList,h1a,r1a,h2a,r2a,h4a,r12a,h5a]
    rw [spV,spO,hp];exact ⟨rfl,rfl,rfl⟩
theorem zeU (x:List (List Int)):AC Try.prog 14 [.ag [zcp x]] (.tup [.ag [.im (int (spO x)),.fr 3 1 (iL (ofN (spV x)))],.im (bool (p19 x))]):=by
 refine AC.go (rs:=[.cell 2 38,.tmp 3]) zbq zaD Try.func14 rfl rfl rfl (by kernel_rfl) fun hl=>?_
 simp only [zaH,zaN,and_true,zdn,List.mem_singleton,forall_eq,zci] at hl
 simp (maxSteps:=5000000) -dsimp only [↓gp,gq,reduceCtorEq,reduceEqDiff,reduceLT,reduceLeDiff,reduceAdd,reduceMul,reduceSub,Nat.reduceBEq,Int.reduceToNat,Int.reduceLE,Int.reduceLT,Int.reduceNeg,reduceMod,zac,zad,zab,zaa,gT,TK.isInt,TK.agg,Array.toList]
 refine zak (za5 x) ?_
 rw [← zkP]
 simp (maxSteps:=5000000) -dsimp only [↓gp,gq,reduceCtorEq,reduceEqDiff,reduceLT,reduceLeDiff,reduceAdd,reduceMul,reduceSub,Nat.reduceBEq,Int.reduceToNat,Int.reduceLE,Int.reduceLT,Int.reduceNeg,reduceMod,zac,zad,zab,zaa,gT,TK.isInt,TK.agg,Array.toList]
 refine ⟨fun hp=>?_,fun hp=>?_⟩
 ·have hp:p19 x = false:=by simpa using hp
  rw [spV,spO,hp];exact ⟨rfl,rfl,rfl⟩
 ·have hp:p19 x = true:=by simpa using hp
  obtain ⟨hok,hx5⟩:=zi8 hp
  have hz:ofN (zg0 (x.take 0)) = []:=rfl
  refine zas (fun (za:Nat × Nat) s=>match za with | (k,v)=>s.sl 1 = .ref 1 1 0∧s.rw 1 = ⟨1,.box 35 [zcp x]⟩∧s.sl 2 = .ref 2 1 0∧s.rw 2 = ⟨1,.box 38 [int 0,.v (.slice none 0 0)]⟩∧s.sl 4 = .own 4 v∧s.rw 4 = ⟨v,.sli 3 1 false (iL (ofN (zg0 (x.take k))))⟩∧s.sl 15 = zcp x∧s.sl 16 = int x.length∧s.sl 17 = int k∧(k ≤ x.length)) (fun (k,v)=>x.length - k) ((0,1)) (by refine ⟨?_,?_,?_,?_,?_,?_,?_,?_,?_,by omega⟩ <;> (first | (simp (maxSteps:=5000000) -dsimp only [gr,reduceEqDiff,reduceLT,reduceAdd,reduceMod,Nat.reduceBEq,zaa,zac,zad,zab,hz];first | done | rfl | (simp;done)) | assumption | rfl)) ?_
  intro (k,v) sa ⟨h1a,r1a,h2a,r2a,h4a,r4a,h15a,h16a,h17a,hIa⟩
  simp (maxSteps:=5000000) -dsimp only [↓gp,gq,reduceCtorEq,reduceEqDiff,reduceLT,reduceLeDiff,reduceAdd,reduceMul,reduceSub,Nat.reduceBEq,Int.reduceToNat,Int.reduceLE,Int.reduceLT,Int.reduceNeg,reduceMod,zac,zad,zab,zaa,gT,TK.isInt,TK.agg,Array.toList,h1a,r1a,h2a,r2a,h4a,r4a,h15a,h16a,h17a]
  refine ⟨fun hk=>?_,fun hk=>?_⟩
  ·have hpk:=(hok k hk).1
   have hr3:=zbw hpk
   refine ⟨hk,hk,?_⟩
   refine zas (fun (i:Nat) s=>s.sl 1 = .ref 1 1 0∧s.rw 1 = ⟨1,.box 35 [zcp x]⟩∧s.sl 2 = .ref 2 1 0∧s.rw 2 = ⟨1,.box 38 [int 0,.v (.slice none 0 0)]⟩∧s.sl 4 = .own 4 v∧s.rw 4 = ⟨v,.sli 3 1 false (iL (ofN (zg0 (x.take k))))⟩∧s.sl 15 = zcp x∧s.sl 16 = int x.length∧s.sl 17 = int k∧s.sl 7 = int (zb9 (x.getD k []) i)∧s.sl 21 = zbr (x.getD k [])∧s.sl 22 = int 3∧s.sl 23 = int i∧(i ≤ 3)) (fun i=>3 - i) (0) (by refine ⟨?_,?_,?_,?_,?_,?_,?_,?_,?_,?_,?_,?_,?_,by omega⟩ <;> (first | (simp (maxSteps:=5000000) -dsimp only [gr,reduceEqDiff,reduceLT,reduceAdd,reduceMod,Nat.reduceBEq,zaa,zac,zad,zab,h1a,r1a,h2a,r2a,h4a,r4a,h15a,h16a,h17a,zb9,hr3];first | done | rfl | (simp;done)) | assumption | rfl)) ?_
   intro i sb ⟨h1b,r1b,h2b,r2b,h4b,r4b,h15b,h16b,h17b,h7b,h21b,h22b,h23b,hIb⟩
   by_cases hi:i < 3
   ·have hb:=zcY hpk (j:=i) hi
    obtain ⟨e,he⟩:∃ e:Nat,(x.getD k []).getD i 0 = e:=⟨((x.getD k []).getD i 0).toNat,by omega⟩
    have hn2:0 ≤ IntKind.u64.wrap (IntKind.i64.wrap (2 * (i:Int))):=by
     rw [zaq (by omega) (by omega)]
     have:=zba (a:=2 * i) (by omega)
     rw [show ((2 * i:Nat):Int) = 2 * (i:Int) by omega] at this
     rw [this];omega
    have hlt:=zi6 hpk i (by omega)
    have h4:4 ^ i ≤ 16:=by
     have:4 ^ i ≤ 4 ^ 2:=Nat.pow_le_pow_right (by omega) (by omega)
     omega
    have h1:=zDZ i hi (zb9 (x.getD k []) i) (by omega) hlt
    have h2:=zD0 i hi (zb9 (x.getD k []) i) (by omega) hlt
    have hst:zb9 (x.getD k []) (i + 1) = zb9 (x.getD k []) i + (2 ^ e - 1) * 4 ^ i:=by rw [zb9,he,Int.toNat_natCast]
    have hn3:0 ≤ IntKind.u64.wrap (IntKind.i64.wrap (IntKind.i64.wrap (2 * (i:Int)) + 1)):=by
     rw [zaq (n:=2 * (i:Int)) (by omega) (by omega),zaq (by omega) (by omega)]
     have:=zba (a:=2 * i + 1) (by omega)
     rw [show ((2 * i + 1:Nat):Int) = 2 * (i:Int) + 1 by omega] at this
     rw [this];omega
    simp (maxSteps:=5000000) -dsimp only [↓gp,gq,reduceCtorEq,reduceEqDiff,reduceLT,reduceLeDiff,reduceAdd,reduceMul,reduceSub,Nat.reduceBEq,Int.reduceToNat,Int.reduceLE,Int.reduceLT,Int.reduceNeg,reduceMod,zac,zad,zab,zaa,gT,TK.isInt,TK.agg,Array.toList,h1b,r1b,h2b,r2b,h4b,r4b,h15b,h16b,h17b,h7b,h21b,h22b,h23b,he,h1,h2]
    refine ⟨fun _=>⟨by omega,by omega,fun h3=>⟨hn2,fun h4=>⟨hn3,?_⟩,fun h4=>?_⟩,fun h3=>⟨fun h4=>?_,fun h4=>?_⟩⟩,fun h=>absurd (by omega) h⟩
    ·have e2:e = 2:=by
      have:(e:Int) = 2:=by simpa using h4
      omega
     subst e2
     exact zai (i + 1) (by refine ⟨?_,?_,?_,?_,?_,?_,?_,?_,?_,?_,?_,?_,?_,by omega⟩ <;> (first | (simp (maxSteps:=5000000) -dsimp only [gr,reduceEqDiff,reduceLT,reduceAdd,reduceMod,Nat.reduceBEq,zaa,zac,zad,zab,h1b,r1b,h2b,r2b,h4b,r4b,h15b,h16b,h17b,h7b,h21b,h22b,h23b,hst,zaf hi (by omega)];first | done | rfl | (simp;done)) | assumption | rfl)) (by first | omega | (simp only;omega) | (dsimp only;omega) | (show _ < _;simp;omega))
    ·have e2:e = 1:=by
      have:¬ (e:Int) = 2:=by simpa using h4
      omega
     subst e2
     have e3:(2 ^ 1 - 1) * 4 ^ i = 4 ^ i:=by omega
     rw [e3] at hst
     exact zai (i + 1) (by refine ⟨?_,?_,?_,?_,?_,?_,?_,?_,?_,?_,?_,?_,?_,by omega⟩ <;> (first | (simp (maxSteps:=5000000) -dsimp only [gr,reduceEqDiff,reduceLT,reduceAdd,reduceMod,Nat.reduceBEq,zaa,zac,zad,zab,h1b,r1b,h2b,r2b,h4b,r4b,h15b,h16b,h17b,h7b,h21b,h22b,h23b,hst,zaf hi (by omega)];first | done | rfl | (simp;done)) | assumption | rfl)) (by first | omega | (simp only;omega) | (dsimp only;omega) | (show _ < _;simp;omega))
    ·have:(e:Int) = 2:=by simpa using h4
     omega
    ·have e2:e = 0:=by omega
     subst e2
     have e3:(2 ^ 0 - 1) * 4 ^ i = 0:=by omega
     rw [e3,Nat.add_zero] at hst
     exact zai (i + 1) (by refine ⟨?_,?_,?_,?_,?_,?_,?_,?_,?_,?_,?_,?_,?_,by omega⟩ <;> (first | (simp (maxSteps:=5000000) -dsimp only [gr,reduceEqDiff,reduceLT,reduceAdd,reduceMod,Nat.reduceBEq,zaa,zac,zad,zab,h1b,r1b,h2b,r2b,h4b,r4b,h15b,h16b,h17b,h7b,h21b,h22b,h23b,hst,zaf hi (by omega)];first | done | rfl | (simp;done)) | assumption | rfl)) (by first | omega | (simp only;omega) | (dsimp only;omega) | (show _ < _;simp;omega))
   ·have hi3:i = 3:=by omega
    subst hi3
    have hs:=zos hk
    have hsn:ofN (zg0 (x.take (k + 1))) = ofN (zg0 (x.take k)) ++ [((zb9 (x.getD k []) 3:Nat):Int)]:=by rw [hs,za4,zdz]
    simp (maxSteps:=5000000) -dsimp only [↓gp,gq,reduceCtorEq,reduceEqDiff,reduceLT,reduceLeDiff,reduceAdd,reduceMul,reduceSub,Nat.reduceBEq,Int.reduceToNat,Int.reduceLE,Int.reduceLT,Int.reduceNeg,reduceMod,zac,zad,zab,zaa,gT,TK.isInt,TK.agg,Array.toList,h1b,r1b,h2b,r2b,h4b,r4b,h15b,h16b,h17b,h7b,h21b,h22b,h23b]
    refine ⟨fun h=>absurd h (by decide),fun _=>⟨by rw [zav,zlK,List.length_take];omega,zai ((k + 1,v + 1)) (by refine ⟨?_,?_,?_,?_,?_,?_,?_,?_,?_,by dsimp only;omega⟩ <;> (first | (simp (maxSteps:=5000000) -dsimp only [gr,reduceEqDiff,reduceLT,reduceAdd,reduceMod,Nat.reduceBEq,zaa,zac,zad,zab,h1a,r1a,h2a,r2a,h4a,r4a,h15a,h16a,h17a,h1b,r1b,h2b,r2b,h4b,r4b,h15b,h16b,h17b,h7b,h21b,h22b,h23b,hsn,zaf hk (show x.length ≤ 9223372036854775807 by omega)];first | done | rfl | (simp;done)) | assumption | rfl)) (by first | omega | (simp only;omega) | (dsimp only;omega) | (show _ < _;simp;omega))⟩⟩
  ·have hkl:k = x.length:=by omega
   subst hkl
   rw [List.take_length]
   refine zak (zgZ (zg0 x) (fun s hs=>?_) (by rw [zlK];omega)) ?_
   ·obtain ⟨r,hr,rfl⟩:=List.mem_map.1 hs
    obtain ⟨j,hj,rfl⟩:=List.getElem_of_mem hr
    have hpj:=(hok j hj).1
    have e1:x.getD j [] = x[j]:=by simp [List.getD,hj]
    rw [e1] at hpj
    exact zi6 hpj 3 (by omega)
   ·simp (maxSteps:=5000000) -dsimp only [↓gp,gq,reduceCtorEq,reduceEqDiff,reduceLT,reduceLeDiff,reduceAdd,reduceMul,reduceSub,Nat.reduceBEq,Int.reduceToNat,Int.reduceLE,Int.reduceLT,Int.reduceNeg,reduceMod,zac,zad,zab,zaa,gT,TK.isInt,TK.agg,Array.toList,h1a,r1a,h2a,r2a,h4a,r4a,h15a,h16a,h17a]
    rw [spV,spO,hp];exact ⟨rfl,rfl,rfl⟩
end Go.Proofs.Ytpnknaaehcljoaa

/- DERIVED by an AI agent. A function's result told otherwise; tables drawn. No program in sight. -/
namespace Go.Abs
set_option linter.unusedSimpArgs false
set_option linter.unusedVariables false
def zwA (p:PV) (R1:Nat→Row):St:=⟨fun i=>if i = 0 then p else .junk,R1⟩
theorem AG.wk [zah] {P:Program} {f:FuncId} {args:List PV} {R0:Nat→Row} {post0 post:(Nat→Row)→PV→Prop} (h:AG P f args R0 post0)
 (hc:∀ R1 p,post0 R1 p→∃ s',Wk (zwA p R1) s'∧post s'.rw (s'.sl 0)):AG P f args R0 post:=by
 refine ⟨h.1,fun w M E vals hw hR hv=>(h.2 w M E vals hw hR hv).mono fun en w' ⟨E',p,v,he,hw',hrep,hpost⟩=>?_⟩
 obtain ⟨s',hwk,hs'⟩:=hc _ _ hpost
 have hsim:Sim ⟨w,M,1,E.R,E.rm,E.rv,E.X⟩ (zwA p E'.R) { tmps:=#[v],defers:=[] } w':=by
  refine ⟨E',rfl,⟨hw'.1,hw'.2,hw'.3,hw'.4,hw'.5,hw'.6,hw'.7,hw'.8,⟨hw'.9.1,hw'.9.2,hw'.9.3,hw'.9.4,hw'.9.5⟩,hw'.10⟩,rfl,rfl,fun i=>?_⟩
  cases i with
  | zero=>exact hrep
  | succ i=>exact .junk _
 obtain ⟨E2,q⟩:=hwk _ _ _ hsim
 refine ⟨E2,s'.sl 0,v,he,⟨q.wok.1,q.wok.2,q.wok.3,q.wok.4,q.wok.5,q.wok.6,q.wok.7,q.wok.8,⟨q.wok.9.1,q.wok.9.2,q.wok.9.3,q.wok.9.4,q.wok.9.5⟩,q.wok.10⟩,q.slots 0,?_⟩
 rw [q.rw];exact hs'
def zhB [zah] (t:TypeId) (bs:List Int) (L:Row) (e e2:Nat) (Q:Mat→Prop) (R1:Nat→Row) (p:PV):Prop :=
 ∃ (M:Mat) (i:Nat) (h:Int) (k v:Nat) (q:List Nat) (s':St),Q M∧Wk (zwA p R1) s'∧s'.sl 0 = .own k v∧TabI s'.rw k v e e2 q M∧k < 1000000∧(k % 1000 == 0) = false∧(k % 1000 == 500) = false∧(∀ j ∈ q,sid k j < 1000000)∧s'.rw 1000000 = ⟨1,zd5 t bs i h⟩∧s'.rw 1000500 = L
theorem zoF.ofT [zah] {P:Program} {f:FuncId} {t:TypeId} {bs:List Int} {L:Row} {args:List PV} {e e2:Nat} {Q:Mat→Prop} {Q':RV→Prop} (h:∀ (i:Nat) (h:Int),AG P f (.ref 1000000 1 0 :: args) (zlv t bs i h L) (zhB t bs L e e2 Q)) (hq:∀ M,Q M→Q' (.im (.sl false 1 (iLL M)))) :
 zoF P f t bs L args Q':=fun i g=>by
 refine (h i g).wk fun R1 p ⟨M,j,y,k,v,q,s',hQ,hw,hp,ht,hk,hk0,hk5,hj,h1,h2⟩=>?_
 refine ⟨_,hw.trans (Wk.flat (d:=0) ht hk hj hp),?_⟩
 refine ⟨.im (.sl false 1 (iLL M)),j,y,[],hq M hQ,?_,by simp,?_,?_⟩
 ·rw [zax];exact .one (.lf (.sl false 1 _))
 ·rw [zcD];exact (zfK (beq_eq_false_iff_ne.2 fun e=>beq_eq_false_iff_ne.1 hk0 (by omega))).trans h1
 ·rw [zcD];exact (zfK (beq_eq_false_iff_ne.2 fun e=>beq_eq_false_iff_ne.1 hk5 (by omega))).trans h2
theorem zkQ [zah] {t:TypeId} {bs:List Int} {e e2 k v j n:Nat} {g:Int} {R1:Nat→Row} {Q:Mat→Prop} {M:Mat} (h1:R1 1000000 = ⟨1,zd5 t bs j g⟩) (h2:R1 1000500 = ⟨0,.dead⟩) (ht:TabI R1 k v e e2 (List.range n) M) (hQ:Q M)
 (hk:k < 500) (hk0:(k % 1000 == 0) = false) (hn:n ≤ 900):zhB t bs ⟨0,.dead⟩ e e2 Q R1 (.own k v) :=
 ⟨M,j,g,k,v,_,_,hQ,Wk.refl _,rfl,ht,by omega,hk0,beq_false_of_ne (by omega),fun x hx=>by have:=List.mem_range.1 hx;rw [zaT];omega,h1,h2⟩
theorem zr5 [zah] {t:TypeId} {bs:List Int} {e e2 k v j n d vd:Nat} {g:Int} {R1:Nat→Row} {Q:Mat→Prop} {M:Mat} {r:List Int} (h1:R1 1000000 = ⟨1,zd5 t bs j g⟩) (h2:R1 1000500 = ⟨0,.dead⟩)
 (hr:R1 k = ⟨v,.tab e ((zar k (List.range n)).set 0 (.own d vd))⟩) (hd:R1 d = ⟨vd,.sli e2 1 false (iL r)⟩) (hrow:∀ i,0 < i→i < n→R1 (sid k i) = ⟨1,.sli e2 1 false (iL (M.getD i []))⟩) (hrest:R1 (sid k n) = ⟨0,.dead⟩)
 (hl:M.length = n) (h0:0 < n) (hQ:Q (M.set 0 r)) (hk:k < 500) (hk0:(k % 1000 == 0) = false) (hn:n ≤ 900) (hdk:(d % 1000 == k % 1000) = false) (hd5:d < 500) (hd0:(d % 1000 == 0) = false):zhB t bs ⟨0,.dead⟩ e e2 Q R1 (.own k v):=by
 have hm:∀ {a b:Nat},(a % 1000 == b % 1000) = false→a ≠ b:=fun h e=>beq_eq_false_iff_ne.1 h (by rw [e])
 have hsk:∀ x i,(x % 1000 == k % 1000) = false→x ≠ sid k i:=fun x i h e=>beq_eq_false_iff_ne.1 h (by rw [e,zaa])
 have hcl:(zar k (List.range n)).length = n:=by simp [zal]
 have hw:=Wk.ren (s:=zwA (.own k v) R1) (d:=d) (k:=k) (k':=sid k n) (cs':=zar k ((List.range n).set 0 n)) hd hr hrest (by unfold lent;omega)
  ⟨by simp [zal],fun i a b=>by
   have hi:i < n:=by rw [List.length_set,hcl] at a;exact a
   by_cases e:i = 0
   ·subst e
    exact .inr ⟨by simp,by simp [zar]⟩
   ·refine .inl ?_
    rw [List.getElem_set_ne (Ne.symm e)]
    simp only [zar,List.getElem_map]
    rw [List.getElem_set_ne (Ne.symm e)]⟩
 have hne1:∀ i,sid k i ≠ k:=fun i=>zbN k i
 refine ⟨M.set 0 r,j,g,k,v,(List.range n).set 0 n,_,hQ,hw,rfl,⟨⟨?_,by simp [hl],fun i hi=>?_⟩,?_⟩,by omega,hk0,beq_false_of_ne (by omega),fun x hx=>?_,?_,?_⟩
 ·rw [zaz]
 ·have hi':i < n:=by simpa using hi
  rw [zb7,zao _ _ _ _ (hne1 _)]
  by_cases e:i = 0
  ·subst e
   have e1:((List.range n).set 0 n).getD 0 0 = n:=by simp [List.getD,h0]
   have e2:(M.set 0 r).getD 0 [] = r:=by simp [List.getD,show 0 < M.length by omega]
   rw [e1,e2,zaz]
  ·have e1:((List.range n).set 0 n).getD i 0 = i:=by rw [List.getD_eq_getElem?_getD,List.getElem?_set_ne (Ne.symm e),List.getElem?_range hi'];rfl
   have e2:(M.set 0 r).getD i [] = M.getD i []:=by simp [List.getD,List.getElem?_set_ne (Ne.symm e)]
   rw [e1,e2,zao _ _ _ _ (fun h=>by have:=za9 h;omega),zao _ _ _ _ (Ne.symm (hsk d i hdk))]
   exact hrow i (by omega) hi'
 ·refine List.pairwise_iff_getElem.2 fun a b ha hb hab=>?_
  have hb':b < n:=by simpa using hb
  rw [List.getElem_set_ne (show (0:Nat) ≠ b by omega),List.getElem_set]
  simp only [List.getElem_range]
  split <;> omega
 ·have hx2:x ≤ n:=by
   rcases List.mem_or_eq_of_mem_set hx with h | h
   ·have:=List.mem_range.1 h;omega
   ·omega
  rw [zaT];omega
 ·have a:(1000000:Nat) ≠ k:=by omega
  rw [zao _ _ _ _ a,zao _ _ _ _ (fun e=>by rw [zaT] at e;have:k % 1000 = 0:=by omega
                                           rw [this] at hk0;cases hk0),zao _ _ _ _ (by omega)]
  exact h1
 ·have a:(1000500:Nat) ≠ k:=by omega
  rw [zao _ _ _ _ a,zao _ _ _ _ (fun e=>by rw [zaT] at e;omega),zao _ _ _ _ (by omega)]
  exact h2
theorem Wk.flatRowA [zah] {s:St} {k v e sz d:Nat} {fz:Bool} {c:List PV} (h:s.rw k = ⟨v,.sli e sz fz c⟩) (hk:k < lent) (hd:s.sl d = .ag [.own k v]):Wk s ((s.killed k []).put (some d) (.ag [.sl true sz c])):=by
 intro G a w ⟨E,hs⟩
 obtain ⟨h1,hl⟩:=hs.kill k []
 have hr:E.R k = ⟨v,.sli e sz fz c⟩:=by rw [hs.rw];exact h
 refine ⟨_,h1.rw,h1.wok,h1.size,h1.defers,fun i=>?_⟩
 by_cases hid:i = d
 ·subst hid
  rw [zax]
  have h0:=hs.slots i
  rw [hd] at h0
  generalize a.tmps.getD i undef = y at h0 ⊢
  cases h0 with
  | @ag _ _ _ vs hl hh =>
    match vs,hl,hh with
    | [x],hl,hh =>
      have hx:=hh 0 (by simp) (by simp)
      simp only [List.getElem_cons_zero] at hx
      refine .ag (by simp) fun j hj hj'=>?_
      have:j = 0:=by simpa using hj
      subst this
      cases hx with
      | own hv hx =>
        simp only [List.getElem_cons_zero]
        rw [hx (by rw [hr]) (by rw [hr];rfl)]
        exact zx6 hs (.inl rfl) hk hr
 ·rw [zaO _ _ _ _ hid];exact h1.slots i
def zr6 [zah] (t:TypeId) (bs:List Int) (e:TypeId) (Q:Mat→Prop) (R1:Nat→Row) (p:PV):Prop :=
 ∃ (M:Mat) (i:Nat) (h:Int),Q M∧R1 1000000 = ⟨1,zd5 t bs i h⟩∧R1 1000500 = ⟨0,.dead⟩∧(p = .ag [.sl true 1 (iLL M)] ∨ ∃ k v,p = .ag [.own k v]∧R1 k = ⟨v,.sli e 1 false (iLL M)⟩∧k < 1000000∧(k % 1000 == 0) = false∧(k % 1000 == 500) = false)
theorem zoF.ofA [zah] {P:Program} {f:FuncId} {t:TypeId} {bs:List Int} {args:List PV} {e:TypeId} {Q:Mat→Prop} {Q':RV→Prop} (h:∀ (i:Nat) (h:Int),AG P f (.ref 1000000 1 0 :: args) (zlv t bs i h ⟨0,.dead⟩) (zr6 t bs e Q)) (hq:∀ M,Q M→Q' (.ag [.im (.sl false 1 (iLL M))])) :
 zoF P f t bs ⟨0,.dead⟩ args Q':=fun i g=>by
 refine (h i g).wk fun R1 p ⟨M,j,y,hQ,h1,h2,hp⟩=>?_
 have hg:∀ R,G2 R (.ag [.im (.sl false 1 (iLL M))]) (.ag [.sl true 1 (iLL M)]) []:=fun R=>.one (.ag (.cons (.sl false 1 _) .nil))
 rcases hp with rfl | ⟨k,v,rfl,hr,hk,hk0,hk5⟩
 ·exact ⟨_,Wk.refl _,_,j,y,[],hq M hQ,hg _,by simp,h1,h2⟩
 ·refine ⟨_,Wk.flatRowA (s:=zwA (.ag [.own k v]) R1) (d:=0) hr hk rfl,?_⟩
  refine ⟨.ag [.im (.sl false 1 (iLL M))],j,y,[],hq M hQ,by rw [zax];exact hg _,by simp,?_,?_⟩
  ·rw [zcD];exact (zfK (beq_eq_false_iff_ne.2 fun e=>beq_eq_false_iff_ne.1 hk0 (by omega))).trans h1
  ·rw [zcD];exact (zfK (beq_eq_false_iff_ne.2 fun e=>beq_eq_false_iff_ne.1 hk5 (by omega))).trans h2
end Go.Abs

/- DERIVED by an AI agent. -/
import Derived.Test.YtkledeboboplmaaGreatQ1
import Derived.Test.YtkledeboboplmaaGreatP1
import Derived.Test.YtkledeboboplmaaGreatQ5
import Derived.Test.YtkledeboboplmaaGreatQ4
namespace Go.Proofs.YtkledeboboplmaaGreat
open Go.Abs
open Nat (reduceEqDiff reduceMod reduceAdd reduceLT reduceLeDiff reduceSub reduceMul)
set_option linter.unusedSimpArgs false
set_option linter.unusedVariables false
def zFs (l:List Nat):Prop:=∀ g ∈ l,g < 64
theorem zod {l:List Nat} (h:zFs l) {k:Nat} (hk:k < l.length):l.getD k 0 < 64:=h _ (zan 0 hk)
theorem zsx {α:Type} (f:α→Nat→α) (a:α) {l:List Nat} {k:Nat} (h:k < l.length):(l.take (k + 1)).foldl f a = f ((l.take k).foldl f a) (l.getD k 0):=by
 rw [zay 0 h,List.foldl_append];rfl
theorem zlv (bs:List Nat) (fc:Nat) (hb:zFs bs) (hs:fc < 64):AC Tryz.prog 102 [zaH (ofN bs),int fc] (.im (int (npN bs fc:Nat))):=by
 refine AC.go (rs:=[.tmp 4]) zaL mixed Tryz.func102 rfl rfl rfl (by kernel_rfl) fun hl=>?_
 simp only [zaJ,zaX,and_true,zcl,zbx,true_and,zad] at hl
 have hol:=zad bs
 simp (maxSteps:=9^7) -dsimp only [↓gp,gq,reduceCtorEq,reduceEqDiff,reduceLT,reduceLeDiff,reduceAdd,reduceMul,reduceSub,Nat.reduceBEq,Int.reduceToNat,Int.reduceLE,Int.reduceLT,Int.reduceNeg,reduceMod,gT]
 refine zah (fun (k:Nat) s=>s.sl 1 = int fc∧s.sl 5 = int ((bs.take k).foldl (npS fc) 0:Nat)∧s.sl 9 = zaH (ofN bs)∧s.sl 10 = int bs.length∧s.sl 11 = int k∧(k ≤ bs.length)) (fun k=>bs.length - k) (0) (by refine ⟨?_,?_,?_,?_,?_,by simp⟩ <;> (first | (simp (maxSteps:=9^7) -dsimp only [gr,reduceEqDiff,reduceLT,reduceAdd,reduceMod,Nat.reduceBEq,hol];first | done | rfl | (simp;done)) | assumption | rfl)) ?_
 intro k sa ⟨h1a,h5a,h9a,h10a,h11a,hIa⟩
 simp (maxSteps:=9^7) -dsimp only [↓gp,gq,reduceCtorEq,reduceEqDiff,reduceLT,reduceLeDiff,reduceAdd,reduceMul,reduceSub,Nat.reduceBEq,Int.reduceToNat,Int.reduceLE,Int.reduceLT,Int.reduceNeg,reduceMod,gT,h1a,h5a,h9a,h10a,h11a,hol]
 refine ⟨fun h=>?_,fun h=>?_⟩
 ·have hg:=zod hb h
  have hx:zcv .i64 (fc:Int) (bs.getD k 0:Nat) = ((fc ^^^ (fc &&& bs.getD k 0):Nat):Int):=zbm (by omega) (by omega)
  have hx64:=zoa (s:=fc) (g:=bs.getD k 0) hs
  have hpp:zlz ((fc ^^^ (fc &&& bs.getD k 0):Nat):Int) = (zat (fc ^^^ (fc &&& bs.getD k 0)):Nat):=by rw [zcC (by omega)];simp
  have hst:(bs.take (k + 1)).foldl (npS fc) 0 = npS fc ((bs.take k).foldl (npS fc) 0) (bs.getD k 0):=zsx (npS fc) 0 h
  have hlt:(bs.take k).foldl (npS fc) 0 < 64:=zG6 (bs:=bs.take k) hs
  have hor:ior .i64 (((bs.take k).foldl (npS fc) 0:Nat):Int) ((fc ^^^ (fc &&& bs.getD k 0):Nat):Int) = (((bs.take k).foldl (npS fc) 0 ||| (fc ^^^ (fc &&& bs.getD k 0)):Nat):Int):=znP (by omega) (by omega)
  rw [zaF h,hx]
  refine ⟨h,h,zab (zaz _) ?_⟩
  simp (maxSteps:=9^7) -dsimp only [↓gp,gq,reduceCtorEq,reduceEqDiff,reduceLT,reduceLeDiff,reduceAdd,reduceMul,reduceSub,Nat.reduceBEq,Int.reduceToNat,Int.reduceLE,Int.reduceLT,Int.reduceNeg,reduceMod,gT,h1a,h5a,h9a,h10a,h11a,hol,zaF h,hx,hpp]
  refine ⟨fun hp=>?_,fun hp=>?_⟩
  ·have hn:npS fc ((bs.take k).foldl (npS fc) 0) (bs.getD k 0) = (bs.take k).foldl (npS fc) 0 ||| (fc ^^^ (fc &&& bs.getD k 0)):=by unfold npS;rw [if_pos (by have:=beq_iff_eq.1 hp;omega)]
   exact zac (k + 1) (by refine ⟨?_,?_,?_,?_,?_,by omega⟩ <;> (first | (simp (maxSteps:=9^7) -dsimp only [gr,reduceEqDiff,reduceLT,reduceAdd,reduceMod,Nat.reduceBEq,h1a,h5a,h9a,h10a,h11a,zaa h hl,hst,hn,hor,hx];first | done | rfl | (simp;done)) | assumption | rfl)) (by first | omega | (simp only;omega) | (dsimp only;omega) | (show _ < _;simp;omega))
  ·have hn:npS fc ((bs.take k).foldl (npS fc) 0) (bs.getD k 0) = (bs.take k).foldl (npS fc) 0:=by unfold npS;rw [if_neg (by have:=beq_eq_false_iff_ne.1 hp;omega)]
   exact zac (k + 1) (by refine ⟨?_,?_,?_,?_,?_,by omega⟩ <;> (first | (simp (maxSteps:=9^7) -dsimp only [gr,reduceEqDiff,reduceLT,reduceAdd,reduceMod,Nat.reduceBEq,h1a,h5a,h9a,h10a,h11a,zaa h hl,hst,hn,hx];first | done | rfl | (simp;done)) | assumption | rfl)) (by first | omega | (simp only;omega) | (dsimp only;omega) | (show _ < _;simp;omega))
 ·obtain rfl:k = bs.length:=by omega
  unfold npN
  rw [List.take_length]
theorem ziF (bs:List Nat) (fc:Nat) (hb:zFs bs) (hs:fc < 64):AC Tryz.prog 74 [zaH (ofN bs),int fc] (.im (bool (zwD bs fc))):=by
 refine AC.go (rs:=[.tmp 4]) zaL mixed Tryz.func74 rfl rfl rfl (by kernel_rfl) fun hl=>?_
 simp only [zaJ,zaX,and_true,zcl,zbx,true_and,zad] at hl
 have hol:=zad bs
 simp (maxSteps:=9^7) -dsimp only [↓gp,gq,reduceCtorEq,reduceEqDiff,reduceLT,reduceLeDiff,reduceAdd,reduceMul,reduceSub,Nat.reduceBEq,Int.reduceToNat,Int.reduceLE,Int.reduceLT,Int.reduceNeg,reduceMod,gT]
 refine zab (zlv bs fc hb hs) ?_
 simp (maxSteps:=9^7) -dsimp only [↓gp,gq,reduceCtorEq,reduceEqDiff,reduceLT,reduceLeDiff,reduceAdd,reduceMul,reduceSub,Nat.reduceBEq,Int.reduceToNat,Int.reduceLE,Int.reduceLT,Int.reduceNeg,reduceMod,gT]
 refine zah (fun (k:Nat) s=>s.sl 5 = int (npN bs fc:Nat)∧s.sl 11 = zaH (ofN bs)∧s.sl 12 = int bs.length∧s.sl 13 = int k∧(k ≤ bs.length∧∀ i,i < k→(npN bs fc ^^^ (npN bs fc &&& bs.getD i 0) != 0) = true)) (fun k=>bs.length - k) (0) (by refine ⟨?_,?_,?_,?_,by simp⟩ <;> (first | (simp (maxSteps:=9^7) -dsimp only [gr,reduceEqDiff,reduceLT,reduceAdd,reduceMod,Nat.reduceBEq,hol];first | done | rfl | (simp;done)) | assumption | rfl)) ?_
 intro k sa ⟨h5a,h11a,h12a,h13a,hIa⟩
 obtain ⟨hk,hall⟩:=hIa
 simp (maxSteps:=9^7) -dsimp only [↓gp,gq,reduceCtorEq,reduceEqDiff,reduceLT,reduceLeDiff,reduceAdd,reduceMul,reduceSub,Nat.reduceBEq,Int.reduceToNat,Int.reduceLE,Int.reduceLT,Int.reduceNeg,reduceMod,gT,h5a,h11a,h12a,h13a,hol]
 refine ⟨fun h=>?_,fun h=>?_⟩
 ·have hg:=zod hb h
  have hlt:=zG6 (bs:=bs) hs
  have hx:zcv .i64 (npN bs fc:Nat) (bs.getD k 0:Nat) = ((npN bs fc ^^^ (npN bs fc &&& bs.getD k 0):Nat):Int):=zbm (by omega) (by omega)
  rw [zaF h,hx]
  refine ⟨h,h,fun he=>?_,fun he=>zac (k + 1) ⟨(by (first | (simp (maxSteps:=9^7) -dsimp only [gr,reduceEqDiff,reduceLT,reduceAdd,reduceMod,Nat.reduceBEq,h5a,h11a,h12a,h13a,zaa h hl];first | done | rfl | (simp;done)) | assumption | rfl)),(by (first | (simp (maxSteps:=9^7) -dsimp only [gr,reduceEqDiff,reduceLT,reduceAdd,reduceMod,Nat.reduceBEq,h5a,h11a,h12a,h13a,zaa h hl];first | done | rfl | (simp;done)) | assumption | rfl)),(by (first | (simp (maxSteps:=9^7) -dsimp only [gr,reduceEqDiff,reduceLT,reduceAdd,reduceMod,Nat.reduceBEq,h5a,h11a,h12a,h13a,zaa h hl];first | done | rfl | (simp;done)) | assumption | rfl)),(by (first | (simp (maxSteps:=9^7) -dsimp only [gr,reduceEqDiff,reduceLT,reduceAdd,reduceMod,Nat.reduceBEq,h5a,h11a,h12a,h13a,zaa h hl];first | done | rfl | (simp;done)) | assumption | rfl)),⟨by omega,fun i hi=>?_⟩⟩ (by first | omega | (simp only;omega) | (dsimp only;omega) | (show _ < _;simp;omega))⟩
  ·unfold zwD
   rw [List.all_eq_false]
   refine ⟨_,zan 0 h,?_⟩
   have he:npN bs fc ^^^ (npN bs fc &&& bs.getD k 0) = 0:=by have:=beq_iff_eq.1 he;omega
   rw [he];simp
  ·rcases Nat.lt_succ_iff_lt_or_eq.1 hi with hi | rfl
   ·exact hall i hi
   ·rw [bne_iff_ne]
    have:=beq_eq_false_iff_ne.1 he
    omega
 ·unfold zwD
  rw [List.all_eq_true]
  intro x hx
  obtain ⟨i,hi,rfl⟩:=zaY 0 hx
  exact hall i (by omega)
theorem zAy:∀ f,f < 64→∀ i,i < 6→(((f &&& 2 ^ i:Nat):Int) == 0) = !(Nat.testBit f i):=by decide +kernel
theorem zoe (bs:List Nat) (fc:Nat) (hb:zFs bs) (hs:fc < 64):AC Tryz.prog 116 [zaH (ofN bs),int fc] (.im (int (frN bs fc 6:Nat))):=by
 refine AC.go (rs:=[.tmp 4]) zaL mixed Tryz.func116 rfl rfl rfl (by kernel_rfl) fun hl=>?_
 simp only [zaJ,zaX,and_true,zcl,zbx,true_and,zad] at hl
 have hol:=zad bs
 simp (maxSteps:=9^7) -dsimp only [↓gp,gq,reduceCtorEq,reduceEqDiff,reduceLT,reduceLeDiff,reduceAdd,reduceMul,reduceSub,Nat.reduceBEq,Int.reduceToNat,Int.reduceLE,Int.reduceLT,Int.reduceNeg,reduceMod,gT]
 refine zah (fun (i:Nat) s=>s.sl 0 = zaH (ofN bs)∧s.sl 1 = int fc∧s.sl 5 = int (frN bs fc i:Nat)∧s.sl 6 = int i∧(i ≤ 6)) (fun i=>6 - i) (0) (by refine ⟨?_,?_,?_,?_,by omega⟩ <;> (first | (simp (maxSteps:=9^7) -dsimp only [gr,reduceEqDiff,reduceLT,reduceAdd,reduceMod,Nat.reduceBEq,frN];first | done | rfl | (simp;done)) | assumption | rfl)) ?_
 intro i sa ⟨h0a,h1a,h5a,h6a,hIa⟩
 by_cases hi:i < 6
 ·have hui:IntKind.u64.wrap (i:Int) = (i:Int):=zba (by omega)
  have hsh:znL .i64 1 (i:Int) = ((2 ^ i:Nat):Int):=zbt (by omega)
  have h2i:(2:Nat) ^ i ≤ 2 ^ 5:=Nat.pow_le_pow_right (by omega) (by omega)
  have han:zfO .i64 (fc:Int) ((2 ^ i:Nat):Int) = ((fc &&& 2 ^ i:Nat):Int):=za7 (by omega) (by omega)
  have hbit:(((fc &&& 2 ^ i:Nat):Int) == 0) = !(fc.testBit i):=zAy fc hs i hi
  have hfr:frN bs fc (i + 1) = if fc.testBit i && bs.any (fun g=>g &&& (fc - 2 ^ i) == fc - 2 ^ i) then frN bs fc i ||| 2 ^ i else frN bs fc i:=rfl
  simp (maxSteps:=9^7) -dsimp only [↓gp,gq,reduceCtorEq,reduceEqDiff,reduceLT,reduceLeDiff,reduceAdd,reduceMul,reduceSub,Nat.reduceBEq,Int.reduceToNat,Int.reduceLE,Int.reduceLT,Int.reduceNeg,reduceMod,gT,h0a,h1a,h5a,h6a,hui,hsh,han,hbit]
  refine ⟨fun _=>⟨fun hz=>?_,fun hz=>?_⟩,fun h=>absurd (show (i:Int) < 6 by omega) h⟩
  ·have hz:fc.testBit i = false:=by simpa using hz
   rw [hz,Bool.false_and,if_neg (by decide)] at hfr
   exact zac (i + 1) (by refine ⟨?_,?_,?_,?_,by omega⟩ <;> (first | (simp (maxSteps:=9^7) -dsimp only [gr,reduceEqDiff,reduceLT,reduceAdd,reduceMod,Nat.reduceBEq,h0a,h1a,h5a,h6a,zaa hi (by omega),hfr];first | done | rfl | (simp;done)) | assumption | rfl)) (by first | omega | (simp only;omega) | (dsimp only;omega) | (show _ < _;simp;omega))
  ·have hz:fc.testBit i = true:=by simpa using hz
   rw [hz,Bool.true_and] at hfr
   have hle:2 ^ i ≤ fc:=Nat.ge_two_pow_of_testBit hz
   have hsl:fc - 2 ^ i ≤ fc:=Nat.sub_le _ _
   have hsub:IntKind.i64.wrap ((fc:Int) - ((2 ^ i:Nat):Int)) = ((fc - 2 ^ i:Nat):Int):=by
    rw [← Int.ofNat_sub hle];exact zap (by omega) (by omega)
   generalize hq:(fun g=>g &&& (fc - 2 ^ i) == fc - 2 ^ i) = q at *
   refine zah (fun (k:Nat) s=>s.sl 0 = zaH (ofN bs)∧s.sl 1 = int fc∧s.sl 5 = int (if (bs.take k).any q = true then frN bs fc i ||| 2 ^ i else frN bs fc i:Nat)∧s.sl 6 = int i∧s.sl 7 = int (2 ^ i:Nat)∧s.sl 8 = int k∧(k ≤ bs.length)) (fun k=>bs.length - k) (0) (by refine ⟨?_,?_,?_,?_,?_,?_,by omega⟩ <;> (first | (simp (maxSteps:=9^7) -dsimp only [gr,reduceEqDiff,reduceLT,reduceAdd,reduceMod,Nat.reduceBEq,h0a,h1a,h5a,h6a,hsh,hui,List.take_zero,List.any_nil];first | done | rfl | (simp;done)) | assumption | rfl)) ?_
   intro k sb ⟨h0b,h1b,h5b,h6b,h7b,h8b,hIb⟩
   simp (maxSteps:=9^7) -dsimp only [↓gp,gq,reduceCtorEq,reduceEqDiff,reduceLT,reduceLeDiff,reduceAdd,reduceMul,reduceSub,Nat.reduceBEq,Int.reduceToNat,Int.reduceLE,Int.reduceLT,Int.reduceNeg,reduceMod,gT,h0b,h1b,h5b,h6b,h7b,h8b,hol,hsub]
   refine ⟨fun hk=>?_,fun hk=>?_⟩
   ·have hg:=zod hb hk
    have hx:zfO .i64 ((bs.getD k 0:Nat):Int) ((fc - 2 ^ i:Nat):Int) = ((bs.getD k 0 &&& (fc - 2 ^ i):Nat):Int):=za7 (by omega) (by omega)
    rw [zaF hk,hx]
    have hany:(bs.take (k + 1)).any q = ((bs.take k).any q || q (bs.getD k 0)):=by rw [zay 0 hk,List.any_append];simp
    have hqk:q (bs.getD k 0) = (bs.getD k 0 &&& (fc - 2 ^ i) == fc - 2 ^ i):=by rw [← hq]
    have hcast:(((bs.getD k 0 &&& (fc - 2 ^ i):Nat):Int) == ((fc - 2 ^ i:Nat):Int)) = (bs.getD k 0 &&& (fc - 2 ^ i) == fc - 2 ^ i):=by
     rw [Bool.eq_iff_iff,beq_iff_eq,beq_iff_eq];omega
    refine ⟨hk,hk,fun he=>?_,fun he=>?_⟩
    ·have he:q (bs.getD k 0) = true:=by rw [hqk,← hcast];exact he
     have hlt:frN bs fc i < 64:=zG7 hs
     have hlt2:frN bs fc i ||| 2 ^ i < 64:=Nat.or_lt_two_pow (n:=6) hlt (by omega)
     have hor:ior .i64 ((if (bs.take k).any q = true then frN bs fc i ||| 2 ^ i else frN bs fc i:Nat):Int) ((2 ^ i:Nat):Int) = ((frN bs fc i ||| 2 ^ i:Nat):Int):=by
      rw [znP (by split <;> omega) (by omega)]
      split
      ·rw [Nat.or_assoc,Nat.or_self]
      ·rfl
     exact zac (k + 1) (by refine ⟨?_,?_,?_,?_,?_,?_,by omega⟩ <;> (first | (simp (maxSteps:=9^7) -dsimp only [gr,reduceEqDiff,reduceLT,reduceAdd,reduceMod,Nat.reduceBEq,h0b,h1b,h5b,h6b,h7b,h8b,zaa hk hl,hany,he,hor,Bool.or_true,if_true];first | done | rfl | (simp;done)) | assumption | rfl)) (by first | omega | (simp only;omega) | (dsimp only;omega) | (show _ < _;simp;omega))
    ·have he:q (bs.getD k 0) = false:=by rw [hqk,← hcast];exact he
     exact zac (k + 1) (by refine ⟨?_,?_,?_,?_,?_,?_,by omega⟩ <;> (first | (simp (maxSteps:=9^7) -dsimp only [gr,reduceEqDiff,reduceLT,reduceAdd,reduceMod,Nat.reduceBEq,h0b,h1b,h5b,h6b,h7b,h8b,zaa hk hl,hany,he,Bool.or_false];first | done | rfl | (simp;done)) | assumption | rfl)) (by first | omega | (simp only;omega) | (dsimp only;omega) | (show _ < _;simp;omega))
   ·have e:k = bs.length:=by omega
    rw [e,List.take_length,← hfr] at h5b
    exact zac (i + 1) (by refine ⟨?_,?_,?_,?_,by omega⟩ <;> (first | (simp (maxSteps:=9^7) -dsimp only [gr,reduceEqDiff,reduceLT,reduceAdd,reduceMod,Nat.reduceBEq,h0a,h1a,h5a,h6a,h0b,h1b,h5b,h6b,zaa hi (by omega)];first | done | rfl | (simp;done)) | assumption | rfl)) (by first | omega | (simp only;omega) | (dsimp only;omega) | (show _ < _;simp;omega))
 ·have e:i = 6:=by omega
  subst e
  simp (maxSteps:=9^7) -dsimp only [↓gp,gq,reduceCtorEq,reduceEqDiff,reduceLT,reduceLeDiff,reduceAdd,reduceMul,reduceSub,Nat.reduceBEq,Int.reduceToNat,Int.reduceLE,Int.reduceLT,Int.reduceNeg,reduceMod,gT,h0a,h1a,h5a,h6a]
  exact fun h=>absurd h (by decide)
theorem zlw (bs:List Nat) (fc:Nat) (hb:zFs bs) (hs:fc < 64):AC Tryz.prog 85 [zaH (ofN bs),int fc] (.im (bool (zwD bs fc))):=by
 refine AC.go (rs:=[.tmp 4]) zaL mixed Tryz.func85 rfl rfl rfl (by kernel_rfl) fun hl=>?_
 simp only [zaJ,zaX,and_true,zcl,zbx,true_and,zad] at hl
 have hol:=zad bs
 rw [zG8 hs hb]
 simp (maxSteps:=9^7) -dsimp only [↓gp,gq,reduceCtorEq,reduceEqDiff,reduceLT,reduceLeDiff,reduceAdd,reduceMul,reduceSub,Nat.reduceBEq,Int.reduceToNat,Int.reduceLE,Int.reduceLT,Int.reduceNeg,reduceMod,gT,hol]
 refine ⟨fun h=>?_,fun h=>?_⟩
 ·have:bs = []:=List.eq_nil_of_length_eq_zero (by have:=beq_iff_eq.1 h;omega)
  subst this;rfl
 ·refine zab (zoe bs fc hb hs) ?_
  simp (maxSteps:=9^7) -dsimp only [↓gp,gq,reduceCtorEq,reduceEqDiff,reduceLT,reduceLeDiff,reduceAdd,reduceMul,reduceSub,Nat.reduceBEq,Int.reduceToNat,Int.reduceLE,Int.reduceLT,Int.reduceNeg,reduceMod,gT]
  have hlt:frN bs fc 6 < 64:=zG7 hs
  refine zah (fun (k:Nat) s=>s.sl 0 = zaH (ofN bs)∧s.sl 1 = int fc∧s.sl 5 = int (frN bs fc 6:Nat)∧s.sl 6 = int k∧(k ≤ bs.length∧∀ i,i < k→((bs.getD i 0 &&& fc) &&& frN bs fc 6 != frN bs fc 6) = true)) (fun k=>bs.length - k) (0) (by refine ⟨?_,?_,?_,?_,by simp⟩ <;> (first | (simp (maxSteps:=9^7) -dsimp only [gr,reduceEqDiff,reduceLT,reduceAdd,reduceMod,Nat.reduceBEq];first | done | rfl | (simp;done)) | assumption | rfl)) ?_
  intro k sa ⟨h0a,h1a,h5a,h6a,hIa⟩
  obtain ⟨hk,hall⟩:=hIa
  simp (maxSteps:=9^7) -dsimp only [↓gp,gq,reduceCtorEq,reduceEqDiff,reduceLT,reduceLeDiff,reduceAdd,reduceMul,reduceSub,Nat.reduceBEq,Int.reduceToNat,Int.reduceLE,Int.reduceLT,Int.reduceNeg,reduceMod,gT,h0a,h1a,h5a,h6a,hol]
  refine ⟨fun h=>?_,fun h=>?_⟩
  ·have hg:=zod hb h
   have h1:bs.getD k 0 &&& fc ≤ fc:=Nat.and_le_right
   have hx:zfO .i64 (zfO .i64 ((bs.getD k 0:Nat):Int) (fc:Int)) ((frN bs fc 6:Nat):Int) = (((bs.getD k 0 &&& fc) &&& frN bs fc 6:Nat):Int):=by rw [za7 (by omega) (by omega),za7 (by omega) (by omega)]
   rw [zaF h,hx]
   refine ⟨h,h,fun he=>?_,fun he=>zac (k + 1) ⟨(by (first | (simp (maxSteps:=9^7) -dsimp only [gr,reduceEqDiff,reduceLT,reduceAdd,reduceMod,Nat.reduceBEq,h0a,h1a,h5a,h6a,zaa h hl];first | done | rfl | (simp;done)) | assumption | rfl)),(by (first | (simp (maxSteps:=9^7) -dsimp only [gr,reduceEqDiff,reduceLT,reduceAdd,reduceMod,Nat.reduceBEq,h0a,h1a,h5a,h6a,zaa h hl];first | done | rfl | (simp;done)) | assumption | rfl)),(by (first | (simp (maxSteps:=9^7) -dsimp only [gr,reduceEqDiff,reduceLT,reduceAdd,reduceMod,Nat.reduceBEq,h0a,h1a,h5a,h6a,zaa h hl];first | done | rfl | (simp;done)) | assumption | rfl)),(by (first | (simp (maxSteps:=9^7) -dsimp only [gr,reduceEqDiff,reduceLT,reduceAdd,reduceMod,Nat.reduceBEq,h0a,h1a,h5a,h6a,zaa h hl];first | done | rfl | (simp;done)) | assumption | rfl)),⟨by omega,fun i hi=>?_⟩⟩ (by first | omega | (simp only;omega) | (dsimp only;omega) | (show _ < _;simp;omega))⟩
   ·unfold zFp
    rw [List.all_eq_false]
    refine ⟨_,zan 0 h,?_⟩
    have he:(bs.getD k 0 &&& fc) &&& frN bs fc 6 = frN bs fc 6:=by have:=beq_iff_eq.1 he;omega
    rw [he];simp
   ·rcases Nat.lt_succ_iff_lt_or_eq.1 hi with hi | rfl
    ·exact hall i hi
    ·rw [bne_iff_ne]
     have:=beq_eq_false_iff_ne.1 he
     omega
  ·unfold zFp
   rw [List.all_eq_true]
   intro x hx
   obtain ⟨i,hi,rfl⟩:=zaY 0 hx
   exact hall i (by omega)
def shB (l:List Int) (x:Int):Bool:=zwD (l.map Int.toNat) x.toNat
theorem zrg {l:List Int} (h:okL l):ofN (l.map Int.toNat) = l:=by
 unfold ofN
 rw [List.map_map]
 have:∀ x ∈ l,((fun s:Nat=>(s:Int)) ∘ Int.toNat) x = id x:=fun x hx=>by
  have:=h x hx
  show ((x.toNat:Nat):Int) = x
  omega
 rw [List.map_congr_left this,List.map_id]
theorem zna {l:List Int} (h:okL l):zFs (l.map Int.toNat):=fun g hg=>by
 obtain ⟨x,hx,rfl⟩:=List.mem_map.1 hg
 have:=h x hx
 omega
theorem zCa (l l':List Int) (x:Int) (h:l.Perm l'):shB l x = shB l' x:=zAt _ (h.map _)
theorem zwv (l:List Int) (x:Int) (hl:okL l) (hx:0 ≤ x∧x < 64):AC Tryz.prog 74 [zaH l,int x] (.im (bool (shB l x))):=by
 have:=ziF (l.map Int.toNat) x.toNat (zna hl) (by omega)
 rw [zrg hl,show ((x.toNat:Nat):Int) = x by omega] at this
 exact this
theorem zww (l:List Int) (x:Int) (hl:okL l) (hx:0 ≤ x∧x < 64):AC Tryz.prog 85 [zaH l,int x] (.im (bool (shB l x))):=by
 have:=zlw (l.map Int.toNat) x.toNat (zna hl) (by omega)
 rw [zrg hl,show ((x.toNat:Nat):Int) = x by omega] at this
 exact this
theorem zlu (gens:List Int) (hg:okL gens) (hgl:gens.length ≤ 1000):∀ (n:Nat) (head:List Int),okL head→head.length + n = gens.length →
 AF Tryz.prog 60 [.sl false 1 (iL gens)] (iL head) 3 (iL ((zb3 shB gens n head).getD [])) (zb3 shB gens n head).isSome:=by
 intro n
 induction n with
 | zero =>
   intro head hh hn
   unfold AF
   refine AG.go (rs:=[.tmp 4,.tmp 5]) zaL mixed Tryz.func60 rfl rfl rfl (by kernel_rfl) fun hl hrl z hz hr=>?_
   have z0:z.sl 0 = zaH gens:=by rw [hz];rfl
   have z1:z.sl 1 = .own 1000000 1:=by rw [hz];rfl
   have y0:z.rw 1000000 = ⟨1,.sli 3 1 false (iL head)⟩:=by rw [hr,zeR]
   clear hz hr
   simp (maxSteps:=9^7) -dsimp only [↓gp,gq,reduceCtorEq,reduceEqDiff,reduceLT,reduceLeDiff,reduceAdd,reduceMul,reduceSub,Nat.reduceBEq,Int.reduceToNat,Int.reduceLE,Int.reduceLT,Int.reduceNeg,reduceMod,gT,z0,z1,y0]
   refine ⟨fun _=>⟨1000000,1,.inl rfl,rfl,by simp (maxSteps:=9^7) -dsimp only [gr,reduceEqDiff,reduceLT,reduceAdd,reduceMod,Nat.reduceBEq,y0];rfl⟩,fun h=>?_⟩
   rw [beq_eq_false_iff_ne] at h
   exact absurd (by omega) h
 | succ n ih =>
   intro head hh hn
   unfold AF
   refine AG.go (rs:=[.tmp 4,.tmp 5]) zaL mixed Tryz.func60 rfl rfl rfl (by kernel_rfl) fun hl hrl z hz hr=>?_
   have z0:z.sl 0 = zaH gens:=by rw [hz];rfl
   have z1:z.sl 1 = .own 1000000 1:=by rw [hz];rfl
   have y0:z.rw 1000000 = ⟨1,.sli 3 1 false (iL head)⟩:=by rw [hr,zeR]
   clear hz hr
   simp (maxSteps:=9^7) -dsimp only [↓gp,gq,reduceCtorEq,reduceEqDiff,reduceLT,reduceLeDiff,reduceAdd,reduceMul,reduceSub,Nat.reduceBEq,Int.reduceToNat,Int.reduceLE,Int.reduceLT,Int.reduceNeg,reduceMod,gT,z0,z1,y0]
   have hne:((head.length:Int) == (gens.length:Int)) = false:=by rw [beq_eq_false_iff_ne];omega
   refine ⟨fun h=>absurd (hne.symm.trans h) (by decide),fun _=>?_⟩
   have hF:∀ g,(if decide (g ∈ head) || !shB head g then none else zb3 shB gens n (head ++ [g])) = (fun g=>if decide (g ∈ head) || !shB head g then none else zb3 shB gens n (head ++ [g])) g:=fun _=>rfl
   have hdef:zb3 shB gens (n + 1) head = gens.findSome? (fun g=>if decide (g ∈ head) || !shB head g then none else zb3 shB gens n (head ++ [g])):=rfl
   rw [hdef]
   generalize hf:(fun g=>if decide (g ∈ head) || !shB head g then none else zb3 shB gens n (head ++ [g])) = f at *
   refine zah (fun (k:Nat) s=>s.sl 0 = zaH gens∧s.sl 1 = .own 1000000 1∧s.rw 1000000 = ⟨1,.sli 3 1 false (iL head)⟩∧s.sl 6 = int k∧(k ≤ gens.length∧(gens.take k).findSome? f = none)) (fun k=>gens.length - k) (0) (by refine ⟨?_,?_,?_,?_,⟨Nat.zero_le _,rfl⟩⟩ <;> (first | (simp (maxSteps:=9^7) -dsimp only [gr,reduceEqDiff,reduceLT,reduceAdd,reduceMod,Nat.reduceBEq,z0,z1,y0];first | done | rfl | (simp;done)) | assumption | rfl)) ?_
   intro k sa ⟨h0a,h1a,r1000000a,h6a,hIa⟩
   obtain ⟨hk,hnone⟩:=hIa
   simp (maxSteps:=9^7) -dsimp only [↓gp,gq,reduceCtorEq,reduceEqDiff,reduceLT,reduceLeDiff,reduceAdd,reduceMul,reduceSub,Nat.reduceBEq,Int.reduceToNat,Int.reduceLE,Int.reduceLT,Int.reduceNeg,reduceMod,gT,h0a,h1a,r1000000a,h6a]
   refine ⟨fun h=>?_,fun h=>?_⟩
   ·have hgk:=hg _ (zan 0 h)
    refine ⟨h,h,zab (zeH head _) ?_⟩
    simp (maxSteps:=9^7) -dsimp only [↓gp,gq,reduceCtorEq,reduceEqDiff,reduceLT,reduceLeDiff,reduceAdd,reduceMul,reduceSub,Nat.reduceBEq,Int.reduceToNat,Int.reduceLE,Int.reduceLT,Int.reduceNeg,reduceMod,gT,h0a,h1a,r1000000a,h6a]
    have hgo:f (gens.getD k 0) = if decide (gens.getD k 0 ∈ head) || !shB head (gens.getD k 0) then none else zb3 shB gens n (head ++ [gens.getD k 0]):=by rw [← hf]
    have hskip:f (gens.getD k 0) = none→(gens.take (k + 1)).findSome? f = none:=fun e=>by rw [zen f 0 h,hnone,e];rfl
    refine ⟨fun hm=>⟨h,h,zab (zww head _ hh hgk) ?_⟩,fun hm=>?_⟩
    ·simp (maxSteps:=9^7) -dsimp only [↓gp,gq,reduceCtorEq,reduceEqDiff,reduceLT,reduceLeDiff,reduceAdd,reduceMul,reduceSub,Nat.reduceBEq,Int.reduceToNat,Int.reduceLE,Int.reduceLT,Int.reduceNeg,reduceMod,gT,h0a,h1a,r1000000a,h6a]
     refine ⟨fun hb=>?_,fun hb=>?_⟩
     ·have e:f (gens.getD k 0) = none:=by rw [hgo,if_pos (by rw [show shB head (gens.getD k 0) = false by simpa using hb];simp)]
      exact zac (k + 1) (by refine ⟨?_,?_,?_,?_,⟨by omega,hskip e⟩⟩ <;> (first | (simp (maxSteps:=9^7) -dsimp only [gr,reduceEqDiff,reduceLT,reduceAdd,reduceMod,Nat.reduceBEq,h0a,h1a,r1000000a,h6a,zaa h (by omega)];first | done | rfl | (simp;done)) | assumption | rfl)) (by first | omega | (simp only;omega) | (dsimp only;omega) | (show _ < _;simp;omega))
     ·have hb:shB head (gens.getD k 0) = true:=by simpa using hb
      have e:f (gens.getD k 0) = zb3 shB gens n (head ++ [gens.getD k 0]):=by
       rw [hgo,if_neg (by rw [hb];simpa using hm)]
      have hIH:=ih (head ++ [gens.getD k 0]) (fun b hb'=>by
       rcases List.mem_append.1 hb' with h' | h'
       ·exact hh b h'
       ·rw [List.mem_singleton.1 h'];exact hgk) (by simp;omega)
      rw [← e] at hIH
      refine ⟨by kernel_rfl,by omega,h,h,by omega,ztC hIH (fun _ _ _ _=>.one (.sl _ _ _) .nil) rfl (by simp (maxSteps:=9^7) -dsimp only [gr,reduceEqDiff,reduceLT,reduceAdd,reduceMod,Nat.reduceBEq];rw [show iL (head ++ [gens.getD k 0]) = iL head ++ iL [gens.getD k 0] from by simp [iL]]) (za3 _) (by decide) (by decide) ?_⟩
      simp (maxSteps:=9^7) -dsimp only [↓gp,gq,reduceCtorEq,reduceEqDiff,reduceLT,reduceLeDiff,reduceAdd,reduceMul,reduceSub,Nat.reduceBEq,Int.reduceToNat,Int.reduceLE,Int.reduceLT,Int.reduceNeg,reduceMod,gT,h0a,h1a,r1000000a,h6a]
      refine ⟨by kernel_rfl,fun hs=>?_,fun hs=>?_⟩
      ·obtain ⟨x,hx⟩:=Option.isSome_iff_exists.1 hs
       rw [zio f 0 h hnone hx]
       rw [hx]
       exact ⟨47,_,.inr (by decide),rfl,by simp (maxSteps:=9^7) -dsimp only [gr,reduceEqDiff,reduceLT,reduceAdd,reduceMod,Nat.reduceBEq]⟩
      ·have e0:f (gens.getD k 0) = none:=by
        cases hx:f (gens.getD k 0) with
        | none=>rfl
        | some x=>rw [hx] at hs;cases hs
       exact zac (k + 1) (by refine ⟨?_,?_,?_,?_,⟨by omega,hskip e0⟩⟩ <;> (first | (simp (maxSteps:=9^7) -dsimp only [gr,reduceEqDiff,reduceLT,reduceAdd,reduceMod,Nat.reduceBEq,h0a,h1a,r1000000a,h6a,zaa h (by omega)];first | done | rfl | (simp;done)) | assumption | rfl)) (by first | omega | (simp only;omega) | (dsimp only;omega) | (show _ < _;simp;omega))
    ·have e:f (gens.getD k 0) = none:=by rw [hgo,if_pos (by simpa using Or.inl hm)]
     exact zac (k + 1) (by refine ⟨?_,?_,?_,?_,⟨by omega,hskip e⟩⟩ <;> (first | (simp (maxSteps:=9^7) -dsimp only [gr,reduceEqDiff,reduceLT,reduceAdd,reduceMod,Nat.reduceBEq,h0a,h1a,r1000000a,h6a,zaa h (by omega)];first | done | rfl | (simp;done)) | assumption | rfl)) (by first | omega | (simp only;omega) | (dsimp only;omega) | (show _ < _;simp;omega))
   ·have e:k = gens.length:=by omega
    rw [e,List.take_length] at hnone
    rw [hnone]
    exact ⟨52,_,.inr (by decide),rfl,by simp (maxSteps:=9^7) -dsimp only [gr,reduceEqDiff,reduceLT,reduceAdd,reduceMod,Nat.reduceBEq];rfl⟩
noncomputable def zvj (n:Int) (xs:List Int):Option (List Int):=if zaV n xs = true∧xs.length ≤ 8 then zb3 shB (zsw xs) (zsw xs).length [] else none
theorem zf7 (n:Int) (xs:List Int):AC Tryz.prog 36 [.ag [int n,zaH xs]] (.tup [.fr 3 1 (iL ((zvj n xs).getD [])),.im (bool (zvj n xs).isSome)]):=by
 refine AC.go (rs:=[.tmp 2,.tmp 3]) zaL mixed Tryz.func36 rfl rfl rfl (by kernel_rfl) fun hl=>?_
 simp (maxSteps:=9^7) -dsimp only [↓gp,gq,reduceCtorEq,reduceEqDiff,reduceLT,reduceLeDiff,reduceAdd,reduceMul,reduceSub,Nat.reduceBEq,Int.reduceToNat,Int.reduceLE,Int.reduceLT,Int.reduceNeg,reduceMod,gT]
 refine zab (zaI n xs) ?_
 simp (maxSteps:=9^7) -dsimp only [↓gp,gq,reduceCtorEq,reduceEqDiff,reduceLT,reduceLeDiff,reduceAdd,reduceMul,reduceSub,Nat.reduceBEq,Int.reduceToNat,Int.reduceLE,Int.reduceLT,Int.reduceNeg,reduceMod,gT]
 unfold zvj
 refine ⟨fun hc=>?_,fun hc=>?_⟩
 ·have hc:zaV n xs = true:=by simpa using hc
  refine ⟨fun h8=>?_,fun h8=>?_⟩
  ·rw [if_neg (by omega)];exact ⟨rfl,rfl⟩
  ·rw [if_pos ⟨hc,by omega⟩]
   refine zah (fun (za:Nat × Nat) s=>match za with | (m,v)=>s.sl 1 = .ref 1 1 0∧s.rw 1 = ⟨1,.box 27 [int n,zaH xs]⟩∧s.sl 4 = .own 18 v∧s.rw 18 = ⟨v,.sli 3 1 false (iL (ofN ((List.range m).filter (inF xs))))⟩∧s.sl 5 = int m∧(m ≤ 64)) (fun (m,v)=>64 - m) ((0,1)) (by refine ⟨?_,?_,?_,?_,?_,by simp⟩ <;> (first | (simp (maxSteps:=9^7) -dsimp only [gr,reduceEqDiff,reduceLT,reduceAdd,reduceMod,Nat.reduceBEq];first | done | rfl | (simp;done)) | assumption | rfl)) ?_
   intro (m,v) sa ⟨h1a,r1a,h4a,r18a,h5a,hIa⟩
   have hfl:((List.range m).filter (inF xs)).length ≤ 64:=by
    have:=List.length_filter_le (inF xs) (List.range m)
    rw [List.length_range] at this
    omega
   simp (maxSteps:=9^7) -dsimp only [↓gp,gq,reduceCtorEq,reduceEqDiff,reduceLT,reduceLeDiff,reduceAdd,reduceMul,reduceSub,Nat.reduceBEq,Int.reduceToNat,Int.reduceLE,Int.reduceLT,Int.reduceNeg,reduceMod,gT,h1a,r1a,h4a,r18a,h5a]
   refine ⟨fun h=>zab (zeH xs _) ?_,fun h=>?_⟩
   ·simp (maxSteps:=9^7) -dsimp only [↓gp,gq,reduceCtorEq,reduceEqDiff,reduceLT,reduceLeDiff,reduceAdd,reduceMul,reduceSub,Nat.reduceBEq,Int.reduceToNat,Int.reduceLE,Int.reduceLT,Int.reduceNeg,reduceMod,gT,h1a,r1a,h4a,r18a,h5a]
    have hyes:(m:Int) ∈ xs→ofN ((List.range (m + 1)).filter (inF xs)) = ofN ((List.range m).filter (inF xs)) ++ [(m:Int)]:=fun h=>by
     rw [List.range_succ,List.filter_append,zaR]
     simp [inF,h,ofN]
    have hno:¬ (m:Int) ∈ xs→ofN ((List.range (m + 1)).filter (inF xs)) = ofN ((List.range m).filter (inF xs)):=fun h=>by
     rw [List.range_succ,List.filter_append,zaR]
     simp [inF,h,ofN]
    refine ⟨fun hm=>⟨by rw [zad];omega,zac ((m + 1,v + 1)) (by refine ⟨?_,?_,?_,?_,?_,by dsimp only;omega⟩ <;> (first | (simp (maxSteps:=9^7) -dsimp only [gr,reduceEqDiff,reduceLT,reduceAdd,reduceMod,Nat.reduceBEq,h1a,r1a,h4a,r18a,h5a,zaa (show m < 64 by omega) (by omega),hyes hm];first | done | rfl | (simp;done)) | assumption | rfl)) (by first | omega | (simp only;omega) | (dsimp only;omega) | (show _ < _;simp;omega))⟩,fun hm=>zac ((m + 1,v)) (by refine ⟨?_,?_,?_,?_,?_,by dsimp only;omega⟩ <;> (first | (simp (maxSteps:=9^7) -dsimp only [gr,reduceEqDiff,reduceLT,reduceAdd,reduceMod,Nat.reduceBEq,h1a,r1a,h4a,r18a,h5a,zaa (show m < 64 by omega) (by omega),hno hm];first | done | rfl | (simp;done)) | assumption | rfl)) (by first | omega | (simp only;omega) | (dsimp only;omega) | (show _ < _;simp;omega))⟩
   ·have e64:m = 64:=by omega
    subst e64
    have hF:=zlu (zsw xs) (zHd xs) (by have:=zE4 xs;omega) (zsw xs).length [] (fun b hb=>by cases hb) (by simp)
    generalize zb3 shB (zsw xs) (zsw xs).length [] = o at *
    refine zzK hF (fun _ _=>.one (.lent (by decide) (show _ = (⟨v,.sli 3 1 false _⟩:Row) by simp (maxSteps:=9^7) -dsimp only [gr,reduceEqDiff,reduceLT,reduceAdd,reduceMod,Nat.reduceBEq,h1a,r1a,h4a,r18a,h5a];rfl)) .nil) rfl (by simp (maxSteps:=9^7) -dsimp only [gr,reduceEqDiff,reduceLT,reduceAdd,reduceMod,Nat.reduceBEq];rfl) (za3 _) (by decide) fun S v2 r hr hSd hSr hSs hSrw=>?_
    rcases hr with rfl | rfl
    ·simp (maxSteps:=9^7) -dsimp only [↓gp,gq,reduceCtorEq,reduceEqDiff,reduceLT,reduceLeDiff,reduceAdd,reduceMul,reduceSub,Nat.reduceBEq,Int.reduceToNat,Int.reduceLE,Int.reduceLT,Int.reduceNeg,reduceMod,gT,hSd,hSr]
    ·simp (maxSteps:=9^7) -dsimp only [↓gp,gq,reduceCtorEq,reduceEqDiff,reduceLT,reduceLeDiff,reduceAdd,reduceMul,reduceSub,Nat.reduceBEq,Int.reduceToNat,Int.reduceLE,Int.reduceLT,Int.reduceNeg,reduceMod,gT,hSd,hSr]
 ·rw [if_neg (fun h=>by rw [h.1] at hc;cases hc)];exact ⟨rfl,rfl⟩
theorem zEX (n:Int) (xs:List Int):zvj n xs = if zaV n xs = true then zm9 shB xs else none:=by
 unfold zvj zm9
 by_cases hc:zaV n xs = true
 ·have hp:=za2.1 hc
  have e:=zB9 (znb hp) (zDB hp)
  rw [if_pos hc,← e,zkX]
  by_cases h8:xs.length ≤ 8
  ·rw [if_pos ⟨hc,h8⟩,if_pos h8]
  ·rw [if_neg (fun h=>h8 h.2),if_neg h8]
 ·rw [if_neg hc,if_neg (fun h=>hc h.1)]
theorem zf8 (n:Int) (xs:List Int):AC Tryz.prog 46 [.ag [int n,zaH xs]] (.tup [.fr 3 1 (iL ((zvj n xs).getD [])),.im (bool (zvj n xs).isSome)]):=by
 refine AC.go (rs:=[.tmp 2,.tmp 3]) zaL mixed Tryz.func46 rfl rfl rfl (by kernel_rfl) fun hl=>?_
 rw [zEX]
 simp (maxSteps:=9^7) -dsimp only [↓gp,gq,reduceCtorEq,reduceEqDiff,reduceLT,reduceLeDiff,reduceAdd,reduceMul,reduceSub,Nat.reduceBEq,Int.reduceToNat,Int.reduceLE,Int.reduceLT,Int.reduceNeg,reduceMod,gT]
 refine zab (zaC n xs) ?_
 simp (maxSteps:=9^7) -dsimp only [↓gp,gq,reduceCtorEq,reduceEqDiff,reduceLT,reduceLeDiff,reduceAdd,reduceMul,reduceSub,Nat.reduceBEq,Int.reduceToNat,Int.reduceLE,Int.reduceLT,Int.reduceNeg,reduceMod,gT]
 refine ⟨fun hc=>?_,fun hc=>?_⟩
 ·have hc:zaV n xs = false:=by simpa using hc
  rw [if_neg (by rw [hc];decide)];exact ⟨rfl,rfl⟩
 ·have hc:zaV n xs = true:=by simpa using hc
  have hp:=za2.1 hc
  rw [if_pos hc]
  refine zab (zrd 74 shB zwv zCa xs (znb hp) (zDB hp)) ?_
  simp (maxSteps:=9^7) -dsimp only [↓gp,gq,reduceCtorEq,reduceEqDiff,reduceLT,reduceLeDiff,reduceAdd,reduceMul,reduceSub,Nat.reduceBEq,Int.reduceToNat,Int.reduceLE,Int.reduceLT,Int.reduceNeg,reduceMod,gT]
theorem zBS {m:Nat} {xs:List Int} (h:zaV (m:Int) xs = true) {s:Nat} (hs:s < 64):zal (ofN (zdW (inF (zk8 xs s)) true)) = zbp (zal xs) s:=by
 funext t
 rw [← zz5 h hs t]
 unfold zbb
 rw [zz4 h hs,Bool.true_and]
theorem zha (n:Int) (xs:List Int):AC Tryz.prog 13 [.ag [int n,zaH xs]] (.im (bool (zvj n xs).isSome)):=by
 refine AC.go (rs:=[.tmp 2]) zaL mixed Tryz.func13 rfl rfl rfl (by kernel_rfl) fun hl=>?_
 simp (maxSteps:=9^7) -dsimp only [↓gp,gq,reduceCtorEq,reduceEqDiff,reduceLT,reduceLeDiff,reduceAdd,reduceMul,reduceSub,Nat.reduceBEq,Int.reduceToNat,Int.reduceLE,Int.reduceLT,Int.reduceNeg,reduceMod,gT]
 refine zab (zf7 n xs) ?_
 simp (maxSteps:=9^7) -dsimp only [↓gp,gq,reduceCtorEq,reduceEqDiff,reduceLT,reduceLeDiff,reduceAdd,reduceMul,reduceSub,Nat.reduceBEq,Int.reduceToNat,Int.reduceLE,Int.reduceLT,Int.reduceNeg,reduceMod,gT]
theorem zBA {n:Int} {xs:List Int} (h:zaV n xs = true) (h2:¬ zmY n xs = true):(zbh (zal xs):Int) - 2 = zdE n xs:=by
 have e:=zq3 h h2
 subst e
 have h1:zdE n [] = -2:=if_neg h2
 have h3:zbh (zal []) = 0:=by
  have:(fun s=>zal [] s) = fun _=>false:=funext fun s=>rfl
  show zbh (fun s=>zal [] s) = 0
  rw [this];decide +kernel
 rw [h1,h3];rfl
theorem ze6 (n:Int) (xs:List Int):AC Tryz.prog 53 [.ag [int n,zaH xs]] (.im (int (zdE n xs))):=by
 refine AC.go (rs:=[.tmp 2]) zaL mixed Tryz.func53 rfl rfl rfl (by kernel_rfl) fun hl=>?_
 simp (maxSteps:=9^7) -dsimp only [↓gp,gq,reduceCtorEq,reduceEqDiff,reduceLT,reduceLeDiff,reduceAdd,reduceMul,reduceSub,Nat.reduceBEq,Int.reduceToNat,Int.reduceLE,Int.reduceLT,Int.reduceNeg,reduceMod,gT]
 refine zab (zaC n xs) ?_
 simp (maxSteps:=9^7) -dsimp only [↓gp,gq,reduceCtorEq,reduceEqDiff,reduceLT,reduceLeDiff,reduceAdd,reduceMul,reduceSub,Nat.reduceBEq,Int.reduceToNat,Int.reduceLE,Int.reduceLT,Int.reduceNeg,reduceMod,gT]
 refine ⟨fun hg=>?_,fun hg=>?_⟩
 ·have e:zdE n xs = -2:=if_neg fun h=>by have:=(zbV.1 h).1;rw [this] at hg;cases hg
  rw [e]
 ·have hg:zaV n xs = true:=by simpa using hg
  refine zab (zb2 n xs (zcQ hg)) ?_
  simp (maxSteps:=9^7) -dsimp only [↓gp,gq,reduceCtorEq,reduceEqDiff,reduceLT,reduceLeDiff,reduceAdd,reduceMul,reduceSub,Nat.reduceBEq,Int.reduceToNat,Int.reduceLE,Int.reduceLT,Int.reduceNeg,reduceMod,gT]
  refine zab (zcF (zal xs)) ?_
  have hd:=zcA (zal xs)
  have hw:IntKind.i64.wrap ((zbh (zal xs):Int) - 1 - 1) = zdE n xs:=by
   rw [zap (by omega) (by omega)]
   by_cases hF:zmY n xs = true
   ·have:=zm4 hF;omega
   ·have:=zBA hg hF;omega
  simp (maxSteps:=9^7) -dsimp only [↓gp,gq,reduceCtorEq,reduceEqDiff,reduceLT,reduceLeDiff,reduceAdd,reduceMul,reduceSub,Nat.reduceBEq,Int.reduceToNat,Int.reduceLE,Int.reduceLT,Int.reduceNeg,reduceMod,gT,hw]
theorem zdt (n:Int) (xs:List Int) (k:Nat) (hk7:k < 100):AC Tryz.prog 110 [.ag [int n,zaH xs],int k] (.fr 3 1 (iL (ofN (zaN (zbb n xs) k 64)))):=by
 refine AC.go (rs:=[.tmp 4]) zaL mixed Tryz.func110 rfl rfl rfl (by kernel_rfl) fun hl=>?_
 simp (maxSteps:=9^7) -dsimp only [↓gp,gq,reduceCtorEq,reduceEqDiff,reduceLT,reduceLeDiff,reduceAdd,reduceMul,reduceSub,Nat.reduceBEq,Int.reduceToNat,Int.reduceLE,Int.reduceLT,Int.reduceNeg,reduceMod,gT]
 refine zab (zaC n xs) ?_
 simp (maxSteps:=9^7) -dsimp only [↓gp,gq,reduceCtorEq,reduceEqDiff,reduceLT,reduceLeDiff,reduceAdd,reduceMul,reduceSub,Nat.reduceBEq,Int.reduceToNat,Int.reduceLE,Int.reduceLT,Int.reduceNeg,reduceMod,gT]
 refine ⟨fun hg=>?_,fun hg=>?_⟩
 ·have e:zaN (zbb n xs) k 64 = []:=by
   unfold zaN
   refine List.filter_eq_nil_iff.2 fun s hs hp=>?_
   rw [Bool.and_eq_true] at hp
   have:=hp.1
   unfold zbb at this
   rw [show zaV n xs = false by simpa using hg] at this
   cases this
  rw [e];rfl
 ·have hg:zaV n xs = true:=by simpa using hg
  have ef:zbb n xs = zal xs:=funext fun s=>by unfold zbb;rw [hg,Bool.true_and]
  rw [ef]
  refine zab (zb2 n xs (zcQ hg)) ?_
  simp (maxSteps:=9^7) -dsimp only [↓gp,gq,reduceCtorEq,reduceEqDiff,reduceLT,reduceLeDiff,reduceAdd,reduceMul,reduceSub,Nat.reduceBEq,Int.reduceToNat,Int.reduceLE,Int.reduceLT,Int.reduceNeg,reduceMod,gT]
  have hE:AC Tryz.prog 125 [u64 (zaB (zal xs) 64:Nat)] (.tb 22 3 ((zex (zal xs)).map iL)):=by
   have:=zfQ (zal xs)
   unfold zex
   rw [List.map_map]
   exact this
  have hsl:=zg0 (zal xs)
  have hd:=zcA (zal xs)
  refine zz6 hE (fun i hi=>by simp (maxSteps:=9^7) -dsimp only [gr,reduceEqDiff,reduceLT,reduceAdd,reduceMod,Nat.reduceBEq]) fun S hS0 hSd0 hSs hSr=>?_
  simp only [u64,zgC] at hS0 hSd0
  have hS:TabI S.rw 11 1 22 3 (List.range (zex (zal xs)).length) (zex (zal xs)):=hS0
  have hSd:S.sl 11 = .own 11 1:=hSd0
  have u1:S.sl 1 = int k:=by rw [hSs 1 (by decide)];simp (maxSteps:=9^7) -dsimp only [gr,reduceEqDiff,reduceLT,reduceAdd,reduceMod,Nat.reduceBEq]
  have u4:S.sl 4 = .own 4 1:=by rw [hSs 4 (by decide)];simp (maxSteps:=9^7) -dsimp only [gr,reduceEqDiff,reduceLT,reduceAdd,reduceMod,Nat.reduceBEq]
  have w4:S.rw 4 = ⟨1,.sli 3 1 false []⟩:=by rw [hSr 4 (by decide)];simp (maxSteps:=9^7) -dsimp only [gr,reduceEqDiff,reduceLT,reduceAdd,reduceMod,Nat.reduceBEq]
  rw [hsl] at hS
  have htop:=hS.top
  simp (maxSteps:=9^7) -dsimp only [↓gp,gq,reduceCtorEq,reduceEqDiff,reduceLT,reduceLeDiff,reduceAdd,reduceMul,reduceSub,Nat.reduceBEq,Int.reduceToNat,Int.reduceLE,Int.reduceLT,Int.reduceNeg,reduceMod,gT,hSd,u1,u4,w4,htop,zjY,zao,List.length_range]
  refine ⟨fun _=>⟨fun h=>?_,fun h=>⟨by omega,by omega,?_⟩⟩,fun h=>absurd h (by omega)⟩
  ·have e:zaN (zal xs) k 64 = []:=by
    unfold zaN
    refine List.filter_eq_nil_iff.2 fun s hs hp=>?_
    rw [Bool.and_eq_true,beq_iff_eq] at hp
    have:zat s < zbh (zal xs):=ze9 64 s (List.mem_range.1 hs) hp.1
    omega
   rw [e];rfl
  ·have e2:(List.range (zbh (zal xs))).getD k 0 = k:=by simp [List.getD,show k < zbh (zal xs) by omega]
   have hr:=hS.is.row k (by rw [List.length_range];omega)
   rw [e2] at hr ⊢
   have hsid:∀ k,k < 7→sid 11 k < lent:=by decide
   rw [hr,zcM,zef _ (by omega),zho _ _ _ _ _ _ (hsid k (by omega))]
   exact ⟨rfl,by simp⟩
noncomputable def goL (n:Int) (xs:List Int):List Int:=if zaV n xs = true then ofN (zaN (zal xs) 2 64) else []
noncomputable def goN (n:Int) (xs:List Int):Int:=if zaV n xs = true then n else 0
theorem zll (n:Int) (xs:List Int):AC Tryz.prog 111 [.ag [int n,zaH xs]] (.tup [.ag [.im (int (goN n xs)),.fr 3 1 (iL (goL n xs))],.im (bool (zaV n xs))]):=by
 refine AC.go (rs:=[.cell 2 101,.tmp 3]) zaL mixed Tryz.func111 rfl rfl rfl (by kernel_rfl) fun hl=>?_
 simp (maxSteps:=9^7) -dsimp only [↓gp,gq,reduceCtorEq,reduceEqDiff,reduceLT,reduceLeDiff,reduceAdd,reduceMul,reduceSub,Nat.reduceBEq,Int.reduceToNat,Int.reduceLE,Int.reduceLT,Int.reduceNeg,reduceMod,gT]
 refine zab (zaC n xs) ?_
 simp (maxSteps:=9^7) -dsimp only [↓gp,gq,reduceCtorEq,reduceEqDiff,reduceLT,reduceLeDiff,reduceAdd,reduceMul,reduceSub,Nat.reduceBEq,Int.reduceToNat,Int.reduceLE,Int.reduceLT,Int.reduceNeg,reduceMod,gT]
 have h2:AC Tryz.prog 110 [.ag [int n,zaH xs],int 2] (.fr 3 1 (iL (ofN (zaN (zbb n xs) 2 64)))):=zdt n xs 2 (by decide)
 refine ⟨fun hg=>?_,fun hg=>⟨by kernel_rfl,zab h2 ?_⟩⟩
 ·unfold goN goL
  rw [show zaV n xs = false by simpa using hg];exact ⟨rfl,rfl,rfl⟩
 ·have hg:zaV n xs = true:=by simpa using hg
  have e1:goN n xs = n:=if_pos hg
  have e:zbb n xs = zal xs:=funext fun s=>by unfold zbb;rw [hg,Bool.true_and]
  have e2:goL n xs = ofN (zaN (zal xs) 2 64):=if_pos hg
  rw [e1,hg,e2,e]
  simp (maxSteps:=9^7) -dsimp only [↓gp,gq,reduceCtorEq,reduceEqDiff,reduceLT,reduceLeDiff,reduceAdd,reduceMul,reduceSub,Nat.reduceBEq,Int.reduceToNat,Int.reduceLE,Int.reduceLT,Int.reduceNeg,reduceMod,gT]
  kernel_rfl
def mxP (l:List Nat):Int:=l.foldl (fun m s=>if m < (zat s:Int) then (zat s:Int) else m) (-1)
theorem zuZ (l:List Nat) (s:Nat):mxP (l ++ [s]) = if mxP l < (zat s:Int) then (zat s:Int) else mxP l:=by
 unfold mxP;rw [List.foldl_append];rfl
theorem zu0:∀ (L:List Nat),L.Pairwise zrm→∀ k,k ≤ L.length→mxP (L.take k) = if k = 0 then -1 else (zat (L.getD (k - 1) 0):Int)
 | L,h,0,_=>by rw [List.take_zero];rfl
 | L,h,k + 1,hk=>by
   have ih:=zu0 L h k (by omega)
   have hg:(if k + 1 = 0 then (-1:Int) else (zat (L.getD (k + 1 - 1) 0):Int)) = (zat (L.getD k 0):Int):=by rw [if_neg (by omega),Nat.add_sub_cancel]
   rw [zay 0 (by omega),zuZ,ih,hg]
   by_cases h0:k = 0
   ·rw [if_pos h0,if_pos (by omega)]
   ·rw [if_neg h0]
    have hb:=List.pairwise_iff_getElem.1 h (k - 1) k (by omega) (by omega) (by omega)
    have e1:L.getD (k - 1) 0 = L[k - 1]:=by simp [List.getD,show k - 1 < L.length by omega]
    have e2:L.getD k 0 = L[k]:=by simp [List.getD,show k < L.length by omega]
    rw [e1,e2]
    unfold zrm at hb
    by_cases hlt:(zat L[k - 1]:Int) < zat L[k]
    ·rw [if_pos hlt]
    ·rw [if_neg hlt];omega
theorem zEl (n:Int) (xs:List Int):mxP (zq2 n xs) = gmO n xs:=by
 have h:=zu0 (zq2 n xs) ((znT _).filter _) (zq2 n xs).length (Nat.le_refl _)
 rw [List.take_length] at h
 rw [h]
 unfold gmO
 by_cases e:zq2 n xs = []
 ·rw [if_pos e,e];rfl
 ·rw [if_neg e,if_neg fun h=>e (List.eq_nil_of_length_eq_zero h)]
theorem zeD (n:Int) (xs:List Int):AC Tryz.prog 52 [.ag [int n,zaH xs]] (.im (int (gmO n xs))):=by
 refine AC.go (rs:=[.tmp 2]) zaL mixed Tryz.func52 rfl rfl rfl (by kernel_rfl) fun hl=>?_
 simp (maxSteps:=9^7) -dsimp only [↓gp,gq,reduceCtorEq,reduceEqDiff,reduceLT,reduceLeDiff,reduceAdd,reduceMul,reduceSub,Nat.reduceBEq,Int.reduceToNat,Int.reduceLE,Int.reduceLT,Int.reduceNeg,reduceMod,gT]
 refine zab (zg9 n xs) ?_
 rw [← zEl]
 have h64:=fun i=>zzC (n:=n) (xs:=xs) (i:=i)
 have hml:=zva n xs
 generalize zq2 n xs = L at *
 simp (maxSteps:=9^7) -dsimp only [↓gp,gq,reduceCtorEq,reduceEqDiff,reduceLT,reduceLeDiff,reduceAdd,reduceMul,reduceSub,Nat.reduceBEq,Int.reduceToNat,Int.reduceLE,Int.reduceLT,Int.reduceNeg,reduceMod,gT,zad]
 refine zah (fun (k:Nat) s=>s.sl 3 = int (mxP (L.take k))∧s.sl 7 = .own 7 1∧s.rw 7 = ⟨1,.sli 3 1 false (iL (ofN L))⟩∧s.sl 8 = int L.length∧s.sl 9 = int k∧(k ≤ L.length)) (fun k=>L.length - k) (0) (by refine ⟨?_,?_,?_,?_,?_,Nat.zero_le _⟩ <;> (first | (simp (maxSteps:=9^7) -dsimp only [gr,reduceEqDiff,reduceLT,reduceAdd,reduceMod,Nat.reduceBEq];first | done | rfl | (simp;done)) | assumption | rfl)) ?_
 intro k sa ⟨h3a,h7a,r7a,h8a,h9a,hIa⟩
 simp (maxSteps:=9^7) -dsimp only [↓gp,gq,reduceCtorEq,reduceEqDiff,reduceLT,reduceLeDiff,reduceAdd,reduceMul,reduceSub,Nat.reduceBEq,Int.reduceToNat,Int.reduceLE,Int.reduceLT,Int.reduceNeg,reduceMod,gT,h3a,h7a,r7a,h8a,h9a,zad]
 refine ⟨fun hk=>?_,fun hk=>?_⟩
 ·have h6:=h64 k hk
  have hge:(ofN L).getD k 0 = ((L.getD k 0:Nat):Int):=zaF hk
  have hs:=zuZ (L.take k) (L.getD k 0)
  rw [← zay 0 hk] at hs
  have hsz:zlz ((L.getD k 0:Nat):Int) = (zat (L.getD k 0):Int):=zc0 h6
  rw [hge]
  refine ⟨hk,hk,zab (zaz _) ?_⟩
  simp (maxSteps:=9^7) -dsimp only [↓gp,gq,reduceCtorEq,reduceEqDiff,reduceLT,reduceLeDiff,reduceAdd,reduceMul,reduceSub,Nat.reduceBEq,Int.reduceToNat,Int.reduceLE,Int.reduceLT,Int.reduceNeg,reduceMod,gT,h3a,h7a,r7a,h8a,h9a,zad,hsz]
  refine ⟨fun hlt=>zab (zaz _) ?_,fun hlt=>?_⟩
  ·rw [if_pos hlt] at hs
   simp (maxSteps:=9^7) -dsimp only [↓gp,gq,reduceCtorEq,reduceEqDiff,reduceLT,reduceLeDiff,reduceAdd,reduceMul,reduceSub,Nat.reduceBEq,Int.reduceToNat,Int.reduceLE,Int.reduceLT,Int.reduceNeg,reduceMod,gT,h3a,h7a,r7a,h8a,h9a,hsz]
   exact zac (k + 1) (by refine ⟨?_,?_,?_,?_,?_,by omega⟩ <;> (first | (simp (maxSteps:=9^7) -dsimp only [gr,reduceEqDiff,reduceLT,reduceAdd,reduceMod,Nat.reduceBEq,h3a,h7a,r7a,h8a,h9a,hs,zaa hk (by omega)];first | done | rfl | (simp;done)) | assumption | rfl)) (by first | omega | (simp only;omega) | (dsimp only;omega) | (show _ < _;simp;omega))
  ·rw [if_neg hlt] at hs
   exact zac (k + 1) (by refine ⟨?_,?_,?_,?_,?_,by omega⟩ <;> (first | (simp (maxSteps:=9^7) -dsimp only [gr,reduceEqDiff,reduceLT,reduceAdd,reduceMod,Nat.reduceBEq,h3a,h7a,r7a,h8a,h9a,hs,zaa hk (by omega)];first | done | rfl | (simp;done)) | assumption | rfl)) (by first | omega | (simp only;omega) | (dsimp only;omega) | (show _ < _;simp;omega))
 ·have:k = L.length:=by omega
  rw [this,List.take_length]
theorem zgX (n:Int) (xs:List Int):AC Tryz.prog 24 [.ag [int n,zaH xs]] (.im (bool (zvj n xs).isSome)):=by
 refine AC.go (rs:=[.tmp 2]) zaL mixed Tryz.func24 rfl rfl rfl (by kernel_rfl) fun hl=>?_
 simp (maxSteps:=9^7) -dsimp only [↓gp,gq,reduceCtorEq,reduceEqDiff,reduceLT,reduceLeDiff,reduceAdd,reduceMul,reduceSub,Nat.reduceBEq,Int.reduceToNat,Int.reduceLE,Int.reduceLT,Int.reduceNeg,reduceMod,gT]
 refine zab (zf8 n xs) ?_
 simp (maxSteps:=9^7) -dsimp only [↓gp,gq,reduceCtorEq,reduceEqDiff,reduceLT,reduceLeDiff,reduceAdd,reduceMul,reduceSub,Nat.reduceBEq,Int.reduceToNat,Int.reduceLE,Int.reduceLT,Int.reduceNeg,reduceMod,gT]
theorem znX (n:Int) (xs:List Int):AC Tryz.prog 27 [.ag [int n,zaH xs]] (.im (bool (zBB n xs))):=by
 refine AC.go (rs:=[.tmp 2]) zaL mixed Tryz.func27 rfl rfl rfl (by kernel_rfl) fun hl=>?_
 simp (maxSteps:=9^7) -dsimp only [↓gp,gq,reduceCtorEq,reduceEqDiff,reduceLT,reduceLeDiff,reduceAdd,reduceMul,reduceSub,Nat.reduceBEq,Int.reduceToNat,Int.reduceLE,Int.reduceLT,Int.reduceNeg,reduceMod,gT]
 refine zab (zaC n xs) ?_
 simp (maxSteps:=9^7) -dsimp only [↓gp,gq,reduceCtorEq,reduceEqDiff,reduceLT,reduceLeDiff,reduceAdd,reduceMul,reduceSub,Nat.reduceBEq,Int.reduceToNat,Int.reduceLE,Int.reduceLT,Int.reduceNeg,reduceMod,gT]
 unfold zBB
 refine ⟨fun h=>zab (zeD n xs) ?_,fun h=>?_⟩
 ·rw [h];simp (maxSteps:=9^7) -dsimp only [↓gp,gq,reduceCtorEq,reduceEqDiff,reduceLT,reduceLeDiff,reduceAdd,reduceMul,reduceSub,Nat.reduceBEq,Int.reduceToNat,Int.reduceLE,Int.reduceLT,Int.reduceNeg,reduceMod,gT]
 ·rw [h];rfl
def zaW (gs:List Int) (n i k:Nat):List Int:=(List.range n).map fun t=>((nbr (gs.take (if t < i then gs.length else if t = i then k else 0)) t:Nat):Int)
theorem zdD (gs:List Int) (n i k:Nat):(zaW gs n i k).length = n:=by simp [zaW]
theorem zrh (gs:List Int) (n:Nat):List.replicate n (0:Int) = zaW gs n 0 0:=by
 refine List.ext_getElem (by simp [zaW]) fun j h1 h2=>?_
 simp only [zaW,List.getElem_replicate,List.getElem_map,List.getElem_range]
 have:(if j < 0 then gs.length else if j = 0 then 0 else 0) = 0:=by rw [if_neg (by omega)];split <;> rfl
 rw [this]
 rfl
theorem zwx {gs:List Int} {n i k:Nat} (h:i < n):(zaW gs n i k).getD i 0 = ((nbr (gs.take k) i:Nat):Int):=by
 rw [zb9 0 (by rw [zdD];exact h)]
 simp [zaW]
theorem zsy {gs:List Int} {n i k:Nat} (h:i < n):(zaW gs n i k).set i ((nbr (gs.take (k + 1)) i:Nat):Int) = zaW gs n i (k + 1):=by
 refine List.ext_getElem (by simp [zaW]) fun j h1 h2=>?_
 simp only [zaW,List.getElem_set,List.getElem_map,List.getElem_range]
 by_cases e:i = j
 ·subst e;simp
 ·rw [if_neg e,if_neg (fun q:j = i=>e q.symm),if_neg (fun q:j = i=>e q.symm)]
theorem zri {gs:List Int} {n i k:Nat} (h:nbr (gs.take (k + 1)) i = nbr (gs.take k) i):zaW gs n i (k + 1) = zaW gs n i k:=by
 refine List.ext_getElem (by simp [zaW]) fun j h1 h2=>?_
 simp only [zaW,List.getElem_map,List.getElem_range]
 by_cases h3:j < i
 ·rw [if_pos h3,if_pos h3]
 ·rw [if_neg h3,if_neg h3]
  by_cases e:j = i
  ·subst e;rw [if_pos rfl,if_pos rfl,h]
  ·rw [if_neg e,if_neg e]
theorem zsz {gs:List Int} {n i:Nat}:zaW gs n i gs.length = zaW gs n (i + 1) 0:=by
 refine List.ext_getElem (by simp [zaW]) fun j h1 h2=>?_
 simp only [zaW,List.getElem_map,List.getElem_range]
 by_cases h3:j < i
 ·rw [if_pos h3,if_pos (by omega)]
 ·rw [if_neg h3]
  by_cases e:j = i
  ·rw [if_pos e,if_pos (by omega)]
  ·rw [if_neg e,if_neg (by omega)]
   split <;> rfl
def zhS (gs:List Int) (n:Nat):List Int:=(List.range n).map fun t=>((nbr gs t:Nat):Int)
theorem zsA (gs:List Int) (n:Nat):zaW gs n n 0 = zhS gs n:=by
 refine List.ext_getElem (by simp [zaW,zhS]) fun j h1 h2=>?_
 have:j < n:=by simpa [zaW] using h1
 simp [zaW,zhS,this]
theorem zCb {gs:List Int} {n i:Nat} (h:i < n):(zhS gs n).getD i 0 = ((nbr gs i:Nat):Int):=by
 rw [zb9 0 (by simp [zhS];exact h)]
 simp [zhS]
theorem zhf (n:Nat) (hn:n ≤ 6) (gs:List Int) (hg:∀ x ∈ gs,0 ≤ x∧x < 64):AC Tryz.prog 113 [.ag [int n,zaH gs]] (.fr 3 1 (iL (zhS gs n))):=by
 refine AC.go (rs:=[.tmp 2]) zaL mixed Tryz.func113 rfl rfl rfl (by kernel_rfl) fun hl=>?_
 simp only [zaJ,zaX,and_true,zbM,zc6,zcm,zbx,true_and] at hl
 simp (maxSteps:=9^7) -dsimp only [↓gp,gq,reduceCtorEq,reduceEqDiff,reduceLT,reduceLeDiff,reduceAdd,reduceMul,reduceSub,Nat.reduceBEq,Int.reduceToNat,Int.reduceLE,Int.reduceLT,Int.reduceNeg,reduceMod,gT]
 refine ⟨by omega,by omega,?_⟩
 refine zah (fun (za:Nat × Nat × Nat) s=>match za with | (k,v,u)=>s.sl 1 = .ref 1 u 0∧s.rw 1 = ⟨u,.box 101 [int n,zaH gs]⟩∧s.sl 3 = .own 9 v∧s.rw 9 = ⟨v,.sli 3 1 false (iL (zaW gs n k 0))⟩∧s.sl 11 = int n∧s.sl 12 = int k∧(k ≤ n)) (fun (k,v,u)=>n - k) ((0,1,1)) (by refine ⟨?_,?_,?_,?_,?_,?_,by simp⟩ <;> (first | (simp (maxSteps:=9^7) -dsimp only [gr,reduceEqDiff,reduceLT,reduceAdd,reduceMod,Nat.reduceBEq,zcH,Int.toNat_natCast,← zrh];first | done | rfl | (simp;done)) | assumption | rfl)) ?_
 intro (k,v,u) sa ⟨h1a,r1a,h3a,r9a,h11a,h12a,hIa⟩
 simp (maxSteps:=9^7) -dsimp only [↓gp,gq,reduceCtorEq,reduceEqDiff,reduceLT,reduceLeDiff,reduceAdd,reduceMul,reduceSub,Nat.reduceBEq,Int.reduceToNat,Int.reduceLE,Int.reduceLT,Int.reduceNeg,reduceMod,gT,h1a,r1a,h3a,r9a,h11a,h12a,zdD]
 refine ⟨fun hk=>?_,fun hk=>?_⟩
 ·refine zah (fun (zb:Nat × Nat) s=>match zb with | (j,v)=>s.sl 1 = .ref 1 u 0∧s.rw 1 = ⟨u,.box 101 [int n,zaH gs]⟩∧s.sl 3 = .own 9 v∧s.rw 9 = ⟨v,.sli 3 1 false (iL (zaW gs n k j))⟩∧s.sl 11 = int n∧s.sl 12 = int k∧s.sl 4 = int k∧s.sl 16 = zaH gs∧s.sl 17 = int gs.length∧s.sl 18 = int j∧(j ≤ gs.length)) (fun (j,v)=>gs.length - j) ((0,v)) (by refine ⟨?_,?_,?_,?_,?_,?_,?_,?_,?_,?_,by simp⟩ <;> (first | (simp (maxSteps:=9^7) -dsimp only [gr,reduceEqDiff,reduceLT,reduceAdd,reduceMod,Nat.reduceBEq,h1a,r1a,h3a,r9a,h11a,h12a];first | done | rfl | (simp;done)) | assumption | rfl)) ?_
  intro (j,v) sb ⟨h1b,r1b,h3b,r9b,h11b,h12b,h4b,h16b,h17b,h18b,hIb⟩
  have hun:IntKind.u64.wrap (k:Int) = (k:Int):=zba (by omega)
  simp (maxSteps:=9^7) -dsimp only [↓gp,gq,reduceCtorEq,reduceEqDiff,reduceLT,reduceLeDiff,reduceAdd,reduceMul,reduceSub,Nat.reduceBEq,Int.reduceToNat,Int.reduceLE,Int.reduceLT,Int.reduceNeg,reduceMod,gT,h1b,r1b,h3b,r9b,h11b,h12b,h4b,h16b,h17b,h18b,zdD,hun]
  refine ⟨fun hj=>⟨hj,hj,?_⟩,fun hj=>?_⟩
  ·have hx:=hg _ (zan 0 hj)
   obtain ⟨e,he⟩:=Int.eq_ofNat_of_zero_le hx.1
   rw [he,zmV (by omega) (by omega)]
   have hg':∀ x ∈ gs,x.toNat < 64:=fun x hx=>by have:=hg x hx;omega
   refine ⟨fun hf=>?_,fun hf=>?_⟩
   ·have hy:=zEg (i:=k) hj hg' (by rw [he,Int.toNat_natCast];exact hf)
    have h2k:2 ^ k < 64:=by have:2 ^ k < 2 ^ 6:=Nat.pow_lt_pow_right (by omega) (by omega);omega
    have hnl:=zDq (gs.take j) k
    have hxl:e ^^^ (e &&& 2 ^ k) < 64:=Nat.xor_lt_two_pow (n:=6) (by omega) (Nat.lt_of_le_of_lt Nat.and_le_left (by omega))
    have hor:ior .i64 ((zaW gs n k j).getD k 0) (zcv .i64 (e:Int) (znL .i64 1 (k:Int))) = ((nbr (gs.take (j + 1)) k:Nat):Int):=by
     rw [zwx hk,zbt (by omega),zbm (by omega) (by omega),znP (by omega) (by omega),hy,he,Int.toNat_natCast]
    exact ⟨hk,hk,hk,by omega,zac ((j + 1,v)) (by refine ⟨?_,?_,?_,?_,?_,?_,?_,?_,?_,?_,by omega⟩ <;> (first | (simp (maxSteps:=9^7) -dsimp only [gr,reduceEqDiff,reduceLT,reduceAdd,reduceMod,Nat.reduceBEq,h1b,r1b,h3b,r9b,h11b,h12b,h4b,h16b,h17b,h18b,he,hor,zsy hk,zaa hj (by omega)];first | done | rfl | (simp;done)) | assumption | rfl)) (by first | omega | (simp only;omega) | (dsimp only;omega) | (show _ < _;simp;omega))⟩
   ·have hy:zaW gs n k (j + 1) = zaW gs n k j:=zri (zGv hj (by rw [he,Int.toNat_natCast];exact hf))
    exact zac ((j + 1,v)) (by refine ⟨?_,?_,?_,?_,?_,?_,?_,?_,?_,?_,by omega⟩ <;> (first | (simp (maxSteps:=9^7) -dsimp only [gr,reduceEqDiff,reduceLT,reduceAdd,reduceMod,Nat.reduceBEq,h1b,r1b,h3b,r9b,h11b,h12b,h4b,h16b,h17b,h18b,zaa hj (by omega),hy];first | done | rfl | (simp;done)) | assumption | rfl)) (by first | omega | (simp only;omega) | (dsimp only;omega) | (show _ < _;simp;omega))
  ·obtain rfl:j = gs.length:=by omega
   exact zac ((k + 1,v,u)) (by refine ⟨?_,?_,?_,?_,?_,?_,by omega⟩ <;> (first | (simp (maxSteps:=9^7) -dsimp only [gr,reduceEqDiff,reduceLT,reduceAdd,reduceMod,Nat.reduceBEq,h1a,r1a,h3a,r9a,h11a,h12a,h1b,r1b,h3b,r9b,h11b,h12b,h4b,h16b,h17b,h18b,zaa hk (by omega),← zsz];first | done | rfl | (simp;done)) | assumption | rfl)) (by first | omega | (simp only;omega) | (dsimp only;omega) | (show _ < _;simp;omega))
 ·obtain rfl:k = n:=by omega
  rw [zsA]
def okC (nb:Nat→Nat→Bool) (i x:Nat) (c:List Int) (m:Nat):Bool:=(List.range m).all fun j=>!(nb i j && decide (c.getD j 0 = (x:Int)))
theorem zuY (nb:Nat→Nat→Bool) (i x:Nat) (c:List Int) (m:Nat):okC nb i x c (m + 1) = (okC nb i x c m && !(nb i m && decide (c.getD m 0 = (x:Int)))):=by
 unfold okC
 rw [List.range_succ,List.all_append];simp
def cfL (ok:Nat→List Int→Bool) (i:Nat) (f:List Int→Bool × List Int):Nat→Nat→List Int→Bool × List Int
 | 0,_,c=>(false,c)
 | m + 1,x,c=>if ok x c = true then (if (f (c.set i x)).1 = true then f (c.set i x) else cfL ok i f m (x + 1) (f (c.set i x)).2) else cfL ok i f m (x + 1) c
def cfS (nb:Nat→Nat→Bool) (k:Nat):Nat→Nat→List Int→Bool × List Int
 | 0,_,c=>(true,c)
 | r + 1,i,c=>cfL (fun x c=>okC nb i x c i) i (cfS nb k r (i + 1)) k 0 c
def fdL (ok:Nat→Bool) (g:Nat→Option (List Int)):Nat→Nat→Option (List Int)
 | 0,_=>none
 | m + 1,x=>if ok x = true then (match g x with | some l=>some l | none=>fdL ok g m (x + 1)) else fdL ok g m (x + 1)
def fdS (nb:Nat→Nat→Bool) (k:Nat):Nat→List Int→Option (List Int)
 | 0,head=>some head
 | r + 1,head=>fdL (fun x=>okC nb head.length x head head.length) (fun x=>fdS nb k r (head ++ [(x:Int)])) k 0
theorem zr8 {ok:Nat→List Int→Bool} {i n:Nat} {f:List Int→Bool × List Int} (hf:∀ c,c.length = n→(f c).2.length = n):∀ (m x:Nat) (c:List Int),c.length = n→(cfL ok i f m x c).2.length = n
 | 0,_,c,h=>h
 | m + 1,x,c,h=>by
   rw [cfL]
   have h1:=hf (c.set i x) (by rw [List.length_set];exact h)
   split
   ·split
    ·exact h1
    ·exact zr8 hf m (x + 1) _ h1
   ·exact zr8 hf m (x + 1) _ h
theorem zr9 (nb:Nat→Nat→Bool) (k n:Nat):∀ (r i:Nat) (c:List Int),c.length = n→(cfS nb k r i c).2.length = n
 | 0,_,c,h=>h
 | r + 1,i,c,h=>zr8 (fun c hc=>zr9 nb k n r (i + 1) c hc) k 0 c h
theorem zBz {nb:Nat→Nat→Bool} {i x:Nat} {c d:List Int} {m:Nat} (h:∀ j,j < m→c.getD j 0 = d.getD j 0):okC nb i x c m = okC nb i x d m:=by
 unfold okC
 refine Bool.eq_iff_iff.2 ?_
 rw [List.all_eq_true,List.all_eq_true]
 refine forall_congr' fun j=>⟨fun hh hj=>?_,fun hh hj=>?_⟩
 ·rw [← h j (List.mem_range.1 hj)];exact hh hj
 ·rw [h j (List.mem_range.1 hj)];exact hh hj
theorem zzB {c head:List Int} {i:Nat} (h:c.take i = head) (hi:head.length = i) {j:Nat} (hj:j < i):c.getD j 0 = head.getD j 0:=by
 subst h
 simp [List.getD,List.getElem?_take,hj]
theorem zGG (nb:Nat→Nat→Bool) (k n:Nat):∀ (r i:Nat) (c head:List Int),i + r = n→c.length = n→head.length = i→c.take i = head →
 (cfS nb k r i c).2.take i = head∧(match fdS nb k r head with | some l=>(cfS nb k r i c).1 = true∧(cfS nb k r i c).2 = l | none=>(cfS nb k r i c).1 = false)
 | 0,i,c,head,hr,hc,hh,ht=>by
   refine ⟨ht,rfl,?_⟩
   rw [← ht]
   show c = c.take i
   rw [List.take_of_length_le (by omega)]
 | r + 1,i,c,head,hr,hc,hh,ht=>by
   have key:∀ (m x:Nat) (c:List Int),c.length = n→c.take i = head →
    (cfL (fun x c=>okC nb i x c i) i (cfS nb k r (i + 1)) m x c).2.take i = head ∧
    (match fdL (fun x=>okC nb head.length x head head.length) (fun x=>fdS nb k r (head ++ [(x:Int)])) m x with
     | some l=>(cfL (fun x c=>okC nb i x c i) i (cfS nb k r (i + 1)) m x c).1 = true∧(cfL (fun x c=>okC nb i x c i) i (cfS nb k r (i + 1)) m x c).2 = l
     | none=>(cfL (fun x c=>okC nb i x c i) i (cfS nb k r (i + 1)) m x c).1 = false):=by
    intro m
    induction m with
    | zero=>intro x c hc ht;exact ⟨ht,rfl⟩
    | succ m ihm =>
      intro x c hc ht
      rw [cfL,fdL]
      have hok:okC nb i x c i = okC nb head.length x head head.length:=by
       rw [hh];exact zBz fun j hj=>zzB ht hh hj
      rw [hok]
      by_cases ho:okC nb head.length x head head.length = true
      ·rw [if_pos ho,if_pos ho]
       have hset:(c.set i (x:Int)).take (i + 1) = head ++ [(x:Int)]:=by
        rw [List.take_succ_eq_append_getElem (by rw [List.length_set];omega),List.take_set_of_le (Nat.le_refl i),ht]
        simp
       obtain ⟨g1,g2⟩:=zGG nb k n r (i + 1) (c.set i x) (head ++ [(x:Int)]) (by omega) (by rw [List.length_set];exact hc) (by rw [List.length_append,hh];rfl) hset
       have hl:=zr9 nb k n r (i + 1) (c.set i x) (by rw [List.length_set];exact hc)
       have ht2:(cfS nb k r (i + 1) (c.set i x)).2.take i = head:=by
        have:=congrArg (List.take i) g1
        have e:(head ++ [(x:Int)]).take i = head:=by rw [List.take_append_of_le_length (by omega),List.take_of_length_le (by omega)]
        rw [List.take_take,Nat.min_eq_left (by omega),e] at this
        exact this
       cases hf:fdS nb k r (head ++ [(x:Int)]) with
       | some l =>
         rw [hf] at g2
         rw [if_pos g2.1]
         exact ⟨ht2,g2⟩
       | none =>
         rw [hf] at g2
         rw [if_neg (by rw [g2];decide)]
         exact ihm (x + 1) _ hl ht2
      ·rw [if_neg ho,if_neg ho]
       exact ihm (x + 1) c hc ht
   exact key k 0 c hc ht
theorem zGH (nb:Nat→Nat→Bool) (k n:Nat):(cfS nb k n 0 (List.replicate n 0)).1 = (fdS nb k n []).isSome∧((fdS nb k n []).isSome = true→(cfS nb k n 0 (List.replicate n 0)).2 = (fdS nb k n []).getD []):=by
 have h:=(zGG nb k n n 0 (List.replicate n 0) [] (by omega) (by simp) rfl rfl).2
 cases hf:fdS nb k n [] with
 | none=>rw [hf] at h;exact ⟨h,fun h=>by cases h⟩
 | some l=>rw [hf] at h;exact ⟨h.1,fun _=>h.2⟩
def nbF (gs:List Int) (i j:Nat):Bool:=(nbr gs i).testBit j
theorem zqI (gs:List Int) (n:Nat):(zhS gs n).length = n:=by simp [zhS]
theorem ziw (gs:List Int) (k n:Nat) (hk:k ≤ 6) (hn6:n ≤ 6):∀ (r i:Nat) (c:List Int),i + r = n→c.length = n →
 AM Tryz.prog 112 [.own 1000000 1,.own 1000001 1,int i,int k] [⟨3,1,iL (zhS gs n)⟩,⟨3,1,iL c⟩] [iL (zhS gs n),iL (cfS (nbF gs) k r i c).2] (.bool (cfS (nbF gs) k r i c).1):=by
 intro r
 induction r with
 | zero =>
   intro i c hr hc
   refine AM.go (rs:=[.tmp 8]) zaL mixed Tryz.func112 rfl rfl rfl (by kernel_rfl) (zb7 (za3 _) (zb7 (za3 _) zdH)) (zb6 (za3 _) (zb6 (za3 _) zdG)) rfl fun hl=>?_
   have hnl:=zqI gs n
   simp (maxSteps:=9^7) -dsimp only [↓gp,gq,reduceCtorEq,reduceEqDiff,reduceLT,reduceLeDiff,reduceAdd,reduceMul,reduceSub,Nat.reduceBEq,Int.reduceToNat,Int.reduceLE,Int.reduceLT,Int.reduceNeg,reduceMod,gT,hnl]
   refine ⟨fun _=>⟨rfl,rfl⟩,fun h=>absurd h (by rw [show (i:Int) = n by omega];simp)⟩
 | succ r ih =>
   intro i c hr hc
   refine AM.go (rs:=[.tmp 8]) zaL mixed Tryz.func112 rfl rfl rfl (by kernel_rfl) (zb7 (za3 _) (zb7 (za3 _) zdH)) (zb6 (za3 _) (zb6 (za3 _) zdG)) rfl fun hl=>?_
   have hnl:=zqI gs n
   simp (maxSteps:=9^7) -dsimp only [↓gp,gq,reduceCtorEq,reduceEqDiff,reduceLT,reduceLeDiff,reduceAdd,reduceMul,reduceSub,Nat.reduceBEq,Int.reduceToNat,Int.reduceLE,Int.reduceLT,Int.reduceNeg,reduceMod,gT,hnl]
   refine ⟨fun h=>absurd (beq_iff_eq.1 h) (by omega),fun _=>?_⟩
   refine zah (fun (za:Nat × List Int) s=>match za with | (x,d)=>s.sl 0 = .own 1000000 1∧s.rw 1000000 = ⟨1,.sli 3 1 false (iL (zhS gs n))⟩∧s.sl 1 = .own 1000001 1∧s.rw 1000001 = ⟨1,.sli 3 1 false (iL d)⟩∧s.sl 2 = int i∧s.sl 3 = int k∧s.sl 9 = int x∧(x ≤ k∧d.length = n∧cfL (fun x c=>okC (nbF gs) i x c i) i (cfS (nbF gs) k r (i + 1)) (k - x) x d = cfS (nbF gs) k (r + 1) i c)) (fun (x,d)=>k - x) ((0,c)) (by refine ⟨?_,?_,?_,?_,?_,?_,?_,⟨Nat.zero_le _,hc,rfl⟩⟩ <;> (first | (simp (maxSteps:=9^7) -dsimp only [gr,reduceEqDiff,reduceLT,reduceAdd,reduceMod,Nat.reduceBEq];first | done | rfl | (simp;done)) | assumption | rfl)) ?_
   intro (x,d) sa ⟨h0a,r1000000a,h1a,r1000001a,h2a,h3a,h9a,hIa⟩
   obtain ⟨hxk,hdl,hcf⟩:=hIa
   simp (maxSteps:=9^7) -dsimp only [↓gp,gq,reduceCtorEq,reduceEqDiff,reduceLT,reduceLeDiff,reduceAdd,reduceMul,reduceSub,Nat.reduceBEq,Int.reduceToNat,Int.reduceLE,Int.reduceLT,Int.reduceNeg,reduceMod,gT,h0a,r1000000a,h1a,r1000001a,h2a,h3a,h9a,hnl,hdl]
   refine ⟨fun hx=>?_,fun hx=>?_⟩
   ·have hin:i < n:=by omega
    have hk1:k - x = (k - (x + 1)) + 1:=by omega
    rw [hk1,cfL] at hcf
    have hat:=zCb (gs:=gs) hin
    have hok0:okC (nbF gs) i x d 0 = true:=rfl
    refine zah (fun (j:Nat) s=>s.sl 0 = .own 1000000 1∧s.rw 1000000 = ⟨1,.sli 3 1 false (iL (zhS gs n))⟩∧s.sl 1 = .own 1000001 1∧s.rw 1000001 = ⟨1,.sli 3 1 false (iL d)⟩∧s.sl 2 = int i∧s.sl 3 = int k∧s.sl 9 = int x∧s.sl 10 = bool (okC (nbF gs) i x d j)∧s.sl 11 = int j∧(j ≤ i)) (fun j=>i - j) (0) (by refine ⟨?_,?_,?_,?_,?_,?_,?_,?_,?_,Nat.zero_le _⟩ <;> (first | (simp (maxSteps:=9^7) -dsimp only [gr,reduceEqDiff,reduceLT,reduceAdd,reduceMod,Nat.reduceBEq,h0a,r1000000a,h1a,r1000001a,h2a,h3a,h9a,hok0];first | done | rfl | (simp;done)) | assumption | rfl)) ?_
    intro j sb ⟨h0b,r1000000b,h1b,r1000001b,h2b,h3b,h9b,h10b,h11b,hIb⟩
    simp (maxSteps:=9^7) -dsimp only [↓gp,gq,reduceCtorEq,reduceEqDiff,reduceLT,reduceLeDiff,reduceAdd,reduceMul,reduceSub,Nat.reduceBEq,Int.reduceToNat,Int.reduceLE,Int.reduceLT,Int.reduceNeg,reduceMod,gT,h0b,r1000000b,h1b,r1000001b,h2b,h3b,h9b,h10b,h11b,hnl,hdl]
    refine ⟨fun hj=>?_,fun hj=>?_⟩
    ·have hun:IntKind.u64.wrap (j:Int) = (j:Int):=zba (by omega)
     have hbit:(zfO .i64 (zv1 .i64 ((nbr gs i:Nat):Int) (j:Int)) 1 == 1) = nbF gs i j:=zmV (by have:=zDq gs i;omega) (by omega)
     have hsu:=zuY (nbF gs) i x d j
     simp (maxSteps:=9^7) -dsimp only [↓gp,gq,reduceCtorEq,reduceEqDiff,reduceLT,reduceLeDiff,reduceAdd,reduceMul,reduceSub,Nat.reduceBEq,Int.reduceToNat,Int.reduceLE,Int.reduceLT,Int.reduceNeg,reduceMod,gT,h0b,r1000000b,h1b,r1000001b,h2b,h3b,h9b,h10b,h11b,hnl,hdl,hun,hat,hbit]
     refine ⟨hin,hin,fun h1=>⟨by omega,by omega,fun h2=>?_,fun h2=>?_⟩,fun h1=>?_⟩
     ·have e:okC (nbF gs) i x d (j + 1) = false:=by rw [hsu,h1,decide_eq_true (beq_iff_eq.1 h2)];simp
      exact zac (j + 1) (by refine ⟨?_,?_,?_,?_,?_,?_,?_,?_,?_,by omega⟩ <;> (first | (simp (maxSteps:=9^7) -dsimp only [gr,reduceEqDiff,reduceLT,reduceAdd,reduceMod,Nat.reduceBEq,h0b,r1000000b,h1b,r1000001b,h2b,h3b,h9b,h10b,h11b,e,zaa hj (by omega)];first | done | rfl | (simp;done)) | assumption | rfl)) (by first | omega | (simp only;omega) | (dsimp only;omega) | (show _ < _;simp;omega))
     ·have e:okC (nbF gs) i x d (j + 1) = okC (nbF gs) i x d j:=by rw [hsu,h1,decide_eq_false (beq_eq_false_iff_ne.1 h2)];simp
      exact zac (j + 1) (by refine ⟨?_,?_,?_,?_,?_,?_,?_,?_,?_,by omega⟩ <;> (first | (simp (maxSteps:=9^7) -dsimp only [gr,reduceEqDiff,reduceLT,reduceAdd,reduceMod,Nat.reduceBEq,h0b,r1000000b,h1b,r1000001b,h2b,h3b,h9b,h10b,h11b,e,zaa hj (by omega)];first | done | rfl | (simp;done)) | assumption | rfl)) (by first | omega | (simp only;omega) | (dsimp only;omega) | (show _ < _;simp;omega))
     ·have e:okC (nbF gs) i x d (j + 1) = okC (nbF gs) i x d j:=by rw [hsu,h1];simp
      exact zac (j + 1) (by refine ⟨?_,?_,?_,?_,?_,?_,?_,?_,?_,by omega⟩ <;> (first | (simp (maxSteps:=9^7) -dsimp only [gr,reduceEqDiff,reduceLT,reduceAdd,reduceMod,Nat.reduceBEq,h0b,r1000000b,h1b,r1000001b,h2b,h3b,h9b,h10b,h11b,e,zaa hj (by omega)];first | done | rfl | (simp;done)) | assumption | rfl)) (by first | omega | (simp only;omega) | (dsimp only;omega) | (show _ < _;simp;omega))
    ·have:j = i:=by omega
     subst this
     refine ⟨fun ho=>?_,fun ho=>?_⟩
     ·have ho:okC (nbF gs) j x d j = false:=by simpa using ho
      rw [if_neg (by rw [ho];decide)] at hcf
      exact zac ((x + 1,d)) (by refine ⟨?_,?_,?_,?_,?_,?_,?_,⟨by dsimp only;omega,hdl,hcf⟩⟩ <;> (first | (simp (maxSteps:=9^7) -dsimp only [gr,reduceEqDiff,reduceLT,reduceAdd,reduceMod,Nat.reduceBEq,h0a,r1000000a,h1a,r1000001a,h2a,h3a,h9a,h0b,r1000000b,h1b,r1000001b,h2b,h3b,h9b,h10b,h11b,zaa hx (by omega)];first | done | rfl | (simp;done)) | assumption | rfl)) (by first | omega | (simp only;omega) | (dsimp only;omega) | (show _ < _;simp;omega))
     ·have ho:okC (nbF gs) j x d j = true:=by simpa using ho
      rw [if_pos ho] at hcf
      have hds:(d.set j (x:Int)).length = n:=by rw [List.length_set];exact hdl
      have hih:=ih (j + 1) (d.set j x) (by omega) hds
      have hcl:=zr9 (nbF gs) k n r (j + 1) (d.set j x) hds
      have hw:IntKind.i64.wrap ((j:Int) + 1) = ((j + 1:Nat):Int):=zaa hin (by omega)
      rw [hw]
      refine ⟨hin,hin,zjo hih [(1000000,1),(1000001,1)] (by repeat (first | exact GiveL.nil | refine GiveL.v ?_ | refine GiveL.clo ?_ | refine GiveL.own 0 rfl ?_ | refine GiveL.own 1 rfl ?_ | refine GiveL.ag ?_ ?_)) ⟨by simp (maxSteps:=9^7) -dsimp only [gr,reduceEqDiff,reduceLT,reduceAdd,reduceMod,Nat.reduceBEq,h0b,r1000000b,h1b,r1000001b,h2b,h3b,h9b,h10b,h11b],by simp (maxSteps:=9^7) -dsimp only [gr,reduceEqDiff,reduceLT,reduceAdd,reduceMod,Nat.reduceBEq,h0b,r1000000b,h1b,r1000001b,h2b,h3b,h9b,h10b,h11b],trivial⟩ (by decide) ?_⟩
      simp (maxSteps:=9^7) -dsimp only [↓gp,gq,reduceCtorEq,reduceEqDiff,reduceLT,reduceLeDiff,reduceAdd,reduceMul,reduceSub,Nat.reduceBEq,Int.reduceToNat,Int.reduceLE,Int.reduceLT,Int.reduceNeg,reduceMod,gT,h0b,r1000000b,h1b,r1000001b,h2b,h3b,h9b,h10b,h11b]
      refine ⟨fun hb=>?_,fun hb=>?_⟩
      ·rw [if_pos hb] at hcf
       rw [← hcf,hb]
       exact ⟨rfl,rfl⟩
      ·rw [if_neg (by rw [hb];decide)] at hcf
       exact zac ((x + 1,(cfS (nbF gs) k r (j + 1) (d.set j (x:Int))).2)) (by refine ⟨?_,?_,?_,?_,?_,?_,?_,⟨by dsimp only;omega,hcl,hcf⟩⟩ <;> (first | (simp (maxSteps:=9^7) -dsimp only [gr,reduceEqDiff,reduceLT,reduceAdd,reduceMod,Nat.reduceBEq,h0a,r1000000a,h1a,r1000001a,h2a,h3a,h9a,h0b,r1000000b,h1b,r1000001b,h2b,h3b,h9b,h10b,h11b,zaa hx (by omega)];first | done | rfl | (simp;done)) | assumption | rfl)) (by first | omega | (simp only;omega) | (dsimp only;omega) | (show _ < _;simp;omega))
   ·have e:k - x = 0:=by omega
    rw [e,cfL] at hcf
    rw [← hcf]
    exact ⟨rfl,rfl⟩
def nbC (xs:List Int) (i j:Nat):Bool:=zal xs (2 ^ i + 2 ^ j)
noncomputable def fcO (n:Int) (xs:List Int) (k:Int):Option (List Int):=if zaV n xs = true∧(1 ≤ k∧k ≤ 6) then fdS (nbC xs) k.toNat n.toNat [] else none
theorem zGF {nb nb':Nat→Nat→Bool} {i x m:Nat} (h:∀ j,j < m→nb i j = nb' i j) (c:List Int):okC nb i x c m = okC nb' i x c m:=by
 unfold okC
 refine Bool.eq_iff_iff.2 ?_
 rw [List.all_eq_true,List.all_eq_true]
 refine forall_congr' fun j=>⟨fun hh hj=>?_,fun hh hj=>?_⟩
 ·rw [← h j (List.mem_range.1 hj)];exact hh hj
 ·rw [h j (List.mem_range.1 hj)];exact hh hj
theorem zqJ {ok ok':Nat→Bool} {g g':Nat→Option (List Int)} (h1:∀ x,ok x = ok' x) (h2:∀ x,g x = g' x):∀ m x,fdL ok g m x = fdL ok' g' m x
 | 0,_=>rfl
 | m + 1,x=>by rw [fdL,fdL,h1,h2,zqJ h1 h2 m (x + 1)]
theorem zDu {nb nb':Nat→Nat→Bool} {n:Nat} (k:Nat) (h:∀ i j,i < n→j < i→nb i j = nb' i j):∀ (r:Nat) (head:List Int),head.length + r = n→fdS nb k r head = fdS nb' k r head
 | 0,_,_=>rfl
 | r + 1,head,hr=>by
   rw [fdS,fdS]
   exact zqJ (fun x=>zGF (fun j hj=>h _ j (by omega) hj) head) (fun x=>zDu k h r _ (by rw [List.length_append,List.length_singleton];omega)) k 0
theorem zEj:∀ s,s < 64→∀ i,i < 6→∀ j,j < 6→(!(zat s == 2) || !s.testBit i || !s.testBit j || !decide (i ≠ j) || (s == 2 ^ i + 2 ^ j)) = true:=by decide +kernel
theorem zEk:∀ i,i < 6→∀ j,j < 6→(!decide (i ≠ j) || (decide (2 ^ i + 2 ^ j < 64) && (zat (2 ^ i + 2 ^ j) == 2) && (2 ^ i + 2 ^ j).testBit i && (2 ^ i + 2 ^ j).testBit j)) = true:=by decide +kernel
theorem zHO {m:Nat} {xs:List Int} (hcx:zaV (m:Int) xs = true) (h6:m ≤ 6) {i j:Nat} (hi:i < m) (hj:j < i):nbF (goL m xs) i j = nbC xs i j:=by
 have e:goL (m:Int) xs = ofN (zaN (zal xs) 2 64):=if_pos hcx
 have hx:∀ x ∈ goL (m:Int) xs,x.toNat < 64:=fun x hx=>by
  rw [e] at hx
  unfold ofN at hx
  obtain ⟨s,hs,rfl⟩:=List.mem_map.1 hx
  simpa using (zbW.1 hs).1
 unfold nbF nbC
 rw [zr1 _ _ _ hx,e,Bool.eq_iff_iff]
 unfold adj
 rw [List.any_eq_true]
 have hp:=zEk i (by omega) j (by omega)
 constructor
 ·rintro ⟨x,hx,h⟩
  unfold ofN at hx
  obtain ⟨s,hs,rfl⟩:=List.mem_map.1 hx
  obtain ⟨s1,s2,s3⟩:=zbW.1 hs
  rw [Int.toNat_natCast,Bool.and_eq_true,Bool.and_eq_true] at h
  have:=zEj s s1 i (by omega) j (by omega)
  rw [s3,h.1,h.2.1,decide_eq_true (show i ≠ j by omega)] at this
  rw [← show s = 2 ^ i + 2 ^ j by simpa using this]
  exact s2
 ·intro h
  rw [show decide (i ≠ j) = true from decide_eq_true (by omega)] at hp
  obtain ⟨⟨⟨p1,p2⟩,p3⟩,p4⟩:((2 ^ i + 2 ^ j < 64∧zat (2 ^ i + 2 ^ j) = 2)∧(2 ^ i + 2 ^ j).testBit i = true)∧(2 ^ i + 2 ^ j).testBit j = true:=by simpa using hp
  refine ⟨((2 ^ i + 2 ^ j:Nat):Int),List.mem_map.2 ⟨_,zbW.2 ⟨p1,h,p2⟩,rfl⟩,?_⟩
  rw [Int.toNat_natCast,p3,p4,decide_eq_true (show i ≠ j by omega)];rfl
theorem zfC (n:Int) (xs:List Int) (k:Int):AC Tryz.prog 82 [.ag [int n,zaH xs],int k] (.tup [.fr 3 1 (iL ((fcO n xs k).getD [])),.im (bool (fcO n xs k).isSome)]):=by
 refine AC.go (rs:=[.tmp 4,.tmp 5]) zaL mixed Tryz.func82 rfl rfl rfl (by kernel_rfl) fun hl=>?_
 simp (maxSteps:=9^7) -dsimp only [↓gp,gq,reduceCtorEq,reduceEqDiff,reduceLT,reduceLeDiff,reduceAdd,reduceMul,reduceSub,Nat.reduceBEq,Int.reduceToNat,Int.reduceLE,Int.reduceLT,Int.reduceNeg,reduceMod,gT]
 refine zab (zll n xs) ?_
 simp (maxSteps:=9^7) -dsimp only [↓gp,gq,reduceCtorEq,reduceEqDiff,reduceLT,reduceLeDiff,reduceAdd,reduceMul,reduceSub,Nat.reduceBEq,Int.reduceToNat,Int.reduceLE,Int.reduceLT,Int.reduceNeg,reduceMod,gT]
 have hno:¬ (zaV n xs = true∧(1 ≤ k∧k ≤ 6))→[] = iL ((fcO n xs k).getD [])∧(fcO n xs k).isSome = false:=fun h=>by
  rw [show fcO n xs k = none from if_neg h];exact ⟨rfl,rfl⟩
 refine ⟨fun hc=>⟨fun h1=>⟨fun h6=>hno fun h=>by omega,fun h6=>?_⟩,fun h1=>hno fun h=>by omega⟩,fun hc=>hno fun h=>by rw [h.1] at hc;cases hc⟩
 have hcx:zaV n xs = true:=by simpa using hc
 have hp:=za2.1 hcx
 obtain ⟨m,rfl⟩:∃ m:Nat,n = m:=⟨n.toNat,by have:=hp.1;omega⟩
 obtain ⟨q,rfl⟩:∃ q:Nat,k = q:=⟨k.toNat,by omega⟩
 have hm6:m ≤ 6:=by have:=hp.2.1;omega
 have e1:goN (m:Int) xs = (m:Int):=if_pos hcx
 have e2:fcO (m:Int) xs q = fdS (nbF (goL m xs)) q m []:=by
  unfold fcO
  rw [if_pos ⟨hcx,by omega,by omega⟩,Int.toNat_natCast,Int.toNat_natCast]
  exact (zDu (n:=m) q (fun i j hi hj=>zHO hcx hm6 hi hj) m [] (by simp)).symm
 have hgs:∀ x ∈ goL (m:Int) xs,0 ≤ x∧x < 64:=fun x hx=>by
  rw [show goL (m:Int) xs = ofN (zaN (zal xs) 2 64) from if_pos hcx] at hx
  unfold ofN at hx
  obtain ⟨s,hs,rfl⟩:=List.mem_map.1 hx
  have:=(zbW.1 hs).1
  omega
 rw [e1,e2]
 obtain ⟨t1,t2⟩:=zGH (nbF (goL (m:Int) xs)) q m
 refine ⟨by omega,by omega,by omega,zab (zhf m hm6 _ hgs) ?_⟩
 have hcol:=ziw (goL (m:Int) xs) q m (by omega) hm6 m 0 (List.replicate m 0) (by omega) (by simp)
 generalize goL (m:Int) xs = gs at *
 simp (maxSteps:=9^7) -dsimp only [↓gp,gq,reduceCtorEq,reduceEqDiff,reduceLT,reduceLeDiff,reduceAdd,reduceMul,reduceSub,Nat.reduceBEq,Int.reduceToNat,Int.reduceLE,Int.reduceLT,Int.reduceNeg,reduceMod,gT]
 rw [t1] at hcol
 refine zjo hcol [(28,1),(26,1)] (by repeat (first | exact GiveL.nil | refine GiveL.v ?_ | refine GiveL.clo ?_ | refine GiveL.own 0 rfl ?_ | refine GiveL.own 1 rfl ?_ | refine GiveL.ag ?_ ?_)) ⟨by simp (maxSteps:=9^7) -dsimp only [gr,reduceEqDiff,reduceLT,reduceAdd,reduceMod,Nat.reduceBEq] <;> rfl,by simp (maxSteps:=9^7) -dsimp only [gr,reduceEqDiff,reduceLT,reduceAdd,reduceMod,Nat.reduceBEq] <;> rfl,trivial⟩ (by decide) ?_
 simp (maxSteps:=9^7) -dsimp only [↓gp,gq,reduceCtorEq,reduceEqDiff,reduceLT,reduceLeDiff,reduceAdd,reduceMul,reduceSub,Nat.reduceBEq,Int.reduceToNat,Int.reduceLE,Int.reduceLT,Int.reduceNeg,reduceMod,gT]
 refine ⟨fun hb=>?_,fun hb=>?_⟩
 ·cases ho:fdS (nbF gs) q m [] with
  | none=>exact ⟨rfl,rfl⟩
  | some l=>rw [ho] at hb;cases hb
 ·have hb:(fdS (nbF gs) q m []).isSome = true:=by simpa using hb
  rw [t2 hb];exact ⟨rfl,hb⟩
end Go.Proofs.YtkledeboboplmaaGreat

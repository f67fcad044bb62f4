/- DERIVED by an AI agent. -/
import Derived.Test.YtpnknaaehcljoaaGreatQ1
import Derived.Test.YtpnknaaehcljoaaGreatP1
import Derived.Test.YtpnknaaehcljoaaGreatA13
namespace Go.Proofs.YtpnknaaehcljoaaGreat
open Go.Abs
open Nat (reduceEqDiff reduceMod reduceAdd reduceLT reduceLeDiff reduceSub reduceMul)
set_option linter.unusedSimpArgs false
set_option linter.unusedVariables false
theorem zeq (F s:Nat) (hF:F < 18446744073709551616) (hs:s < 64):AC Tryz.prog 98 [u64 F,int s] (.im (bool (F.testBit s))):=by
 refine AC.go (rs:=[.tmp 4]) za3 zav Tryz.func98 rfl rfl rfl (by kernel_rfl) fun hl=>?_
 have hw:IntKind.u64.wrap (s:Int) = (s:Int):=za2 (by omega)
 simp (maxSteps:=5000000) -dsimp only [↓gp,gq,reduceCtorEq,reduceEqDiff,reduceLT,reduceLeDiff,reduceAdd,reduceMul,reduceSub,Nat.reduceBEq,Int.reduceToNat,Int.reduceLE,Int.reduceLT,Int.reduceNeg,reduceMod,zac,zad,zab,zaa,gT,TK.isInt,TK.agg,Array.toList,hw,zAU hF hs]
theorem zg2 (F:Nat) (hF:F < 18446744073709551616):AC Tryz.prog 99 [u64 F] (.fr 3 1 (iL (ofN (zcq F.testBit)))):=by
 refine AC.go (rs:=[.tmp 2]) za3 zav Tryz.func99 rfl rfl rfl (by kernel_rfl) fun hl=>?_
 simp (maxSteps:=5000000) -dsimp only [↓gp,gq,reduceCtorEq,reduceEqDiff,reduceLT,reduceLeDiff,reduceAdd,reduceMul,reduceSub,Nat.reduceBEq,Int.reduceToNat,Int.reduceLE,Int.reduceLT,Int.reduceNeg,reduceMod,zac,zad,zab,zaa,gT,TK.isInt,TK.agg,Array.toList]
 refine zan (fun (za:Nat × Nat) s=>match za with | (k,v)=>s.sl 0 = u64 F∧s.sl 3 = .own 3 v∧s.rw 3 = ⟨v,.sli 3 1 false (iL (ofN (zgb F.testBit k 0)))⟩∧s.sl 4 = int k∧(k ≤ 7)) (fun (k,v)=>7 - k) ((0,1)) (by refine ⟨?_,?_,?_,?_,by simp⟩ <;> (first | (simp (maxSteps:=5000000) -dsimp only [gr,reduceEqDiff,reduceLT,reduceAdd,reduceMod,Nat.reduceBEq,zaa,zac,zad,zab];first | done | rfl | (simp;done)) | assumption | rfl)) ?_
 intro (k,v) sa ⟨h0a,h3a,r3a,h4a,hIa⟩
 simp (maxSteps:=5000000) -dsimp only [↓gp,gq,reduceCtorEq,reduceEqDiff,reduceLT,reduceLeDiff,reduceAdd,reduceMul,reduceSub,Nat.reduceBEq,Int.reduceToNat,Int.reduceLE,Int.reduceLT,Int.reduceNeg,reduceMod,zac,zad,zab,zaa,gT,TK.isInt,TK.agg,Array.toList,h0a,h3a,r3a,h4a]
 refine ⟨fun hk=>?_,fun hk=>?_⟩
 ·refine zan (fun (zb:Nat × Nat) s=>match zb with | (m,v)=>s.sl 0 = u64 F∧s.sl 3 = .own 3 v∧s.rw 3 = ⟨v,.sli 3 1 false (iL (ofN (zgb F.testBit k m)))⟩∧s.sl 4 = int k∧s.sl 5 = int m∧(m ≤ 64)) (fun (m,v)=>64 - m) ((0,v)) (by refine ⟨?_,?_,?_,?_,?_,by simp⟩ <;> (first | (simp (maxSteps:=5000000) -dsimp only [gr,reduceEqDiff,reduceLT,reduceAdd,reduceMod,Nat.reduceBEq,zaa,zac,zad,zab,h0a,h3a,r3a,h4a];first | done | rfl | (simp;done)) | assumption | rfl)) ?_
  intro (m,v) sb ⟨h0b,h3b,r3b,h4b,h5b,hIb⟩
  simp (maxSteps:=5000000) -dsimp only [↓gp,gq,reduceCtorEq,reduceEqDiff,reduceLT,reduceLeDiff,reduceAdd,reduceMul,reduceSub,Nat.reduceBEq,Int.reduceToNat,Int.reduceLE,Int.reduceLT,Int.reduceNeg,reduceMod,zac,zad,zab,zaa,gT,TK.isInt,TK.agg,Array.toList,h0b,h3b,r3b,h4b,h5b]
  refine ⟨fun hm=>?_,fun hm=>?_⟩
  ·have hm:m < 64:=by omega
   refine zaf (zeq F m hF hm) ?_
   simp (maxSteps:=5000000) -dsimp only [↓gp,gq,reduceCtorEq,reduceEqDiff,reduceLT,reduceLeDiff,reduceAdd,reduceMul,reduceSub,Nat.reduceBEq,Int.reduceToNat,Int.reduceLE,Int.reduceLT,Int.reduceNeg,reduceMod,zac,zad,zab,zaa,gT,TK.isInt,TK.agg,Array.toList,h0b,h3b,r3b,h4b,h5b]
   have hlen:=znN F.testBit k m
   have hz:zlI (m:Int) = (zat m:Nat):=by rw [zlI,if_pos (by omega)];simp
   refine ⟨fun hf=>zaf (zaS _) ?_,fun hf=>?_⟩
   ·simp (maxSteps:=5000000) -dsimp only [↓gp,gq,reduceCtorEq,reduceEqDiff,reduceLT,reduceLeDiff,reduceAdd,reduceMul,reduceSub,Nat.reduceBEq,Int.reduceToNat,Int.reduceLE,Int.reduceLT,Int.reduceNeg,reduceMod,zac,zad,zab,zaa,gT,TK.isInt,TK.agg,Array.toList,h0b,h3b,r3b,h4b,h5b,hz]
    refine ⟨fun hp=>?_,fun hp=>?_⟩
    ·have hy:zgb F.testBit k (m + 1) = zgb F.testBit k m ++ [m]:=zuE (by rw [hf];simp at hp ⊢;omega)
     refine ⟨by rw [zak];omega,?_⟩
     exact zag ((m + 1,v + 1)) (by refine ⟨?_,?_,?_,?_,?_,by omega⟩ <;> (first | (simp (maxSteps:=5000000) -dsimp only [gr,reduceEqDiff,reduceLT,reduceAdd,reduceMod,Nat.reduceBEq,zaa,zac,zad,zab,h0b,h3b,r3b,h4b,h5b,zae hm (by omega),hy,zaV,zcG];first | done | rfl | (simp;done)) | assumption | rfl)) (by first | omega | (simp only;omega) | (dsimp only;omega) | (show _ < _;simp;omega))
    ·have hy:zgb F.testBit k (m + 1) = zgb F.testBit k m:=znM (by rw [hf];simp at hp ⊢;omega)
     exact zag ((m + 1,v)) (by refine ⟨?_,?_,?_,?_,?_,by omega⟩ <;> (first | (simp (maxSteps:=5000000) -dsimp only [gr,reduceEqDiff,reduceLT,reduceAdd,reduceMod,Nat.reduceBEq,zaa,zac,zad,zab,h0b,h3b,r3b,h4b,h5b,zae hm (by omega),hy];first | done | rfl | (simp;done)) | assumption | rfl)) (by first | omega | (simp only;omega) | (dsimp only;omega) | (show _ < _;simp;omega))
   ·have hy:zgb F.testBit k (m + 1) = zgb F.testBit k m:=znM (by rw [hf];rfl)
    exact zag ((m + 1,v)) (by refine ⟨?_,?_,?_,?_,?_,by omega⟩ <;> (first | (simp (maxSteps:=5000000) -dsimp only [gr,reduceEqDiff,reduceLT,reduceAdd,reduceMod,Nat.reduceBEq,zaa,zac,zad,zab,h0b,h3b,r3b,h4b,h5b,zae hm (by omega),hy];first | done | rfl | (simp;done)) | assumption | rfl)) (by first | omega | (simp only;omega) | (dsimp only;omega) | (show _ < _;simp;omega))
  ·have:m = 64:=by omega
   subst this
   have hk:k < 7:=by omega
   exact zag ((k + 1,v)) (by refine ⟨?_,?_,?_,?_,by omega⟩ <;> (first | (simp (maxSteps:=5000000) -dsimp only [gr,reduceEqDiff,reduceLT,reduceAdd,reduceMod,Nat.reduceBEq,zaa,zac,zad,zab,h0a,h3a,r3a,h4a,h0b,h3b,r3b,h4b,h5b,zae hk (by omega),zkN];first | done | rfl | (simp;done)) | assumption | rfl)) (by first | omega | (simp only;omega) | (dsimp only;omega) | (show _ < _;simp;omega))
 ·have:k = 7:=by omega
  subst this
  rw [znL]
theorem ze5 (n:Nat) (hn:n ≤ 6) (g:FuncId) (caps:List PV) (w:Nat→Bool) (hcap:∀ rw,caps.map (zcp rw 3) = caps) (hw:∀ s:Nat,s < 2 ^ n→AC Tryz.prog g (int s :: caps) (.im (bool (w s)))) :
 AC Tryz.prog 95 [int n,.clo g caps] (.im (u64 (zaH w (2 ^ n):Nat))):=by
 refine AC.go (rs:=[.tmp 4]) za3 zav Tryz.func95 rfl rfl rfl (by kernel_rfl) fun hl=>?_
 have h64:=zao hn
 have hsh:zkH .i64 1 (n:Int) = ((2 ^ n:Nat):Int):=za5 hn
 have hun:IntKind.u64.wrap (n:Int) = (n:Int):=za2 (by omega)
 simp (maxSteps:=5000000) -dsimp only [↓gp,gq,reduceCtorEq,reduceEqDiff,reduceLT,reduceLeDiff,reduceAdd,reduceMul,reduceSub,Nat.reduceBEq,Int.reduceToNat,Int.reduceLE,Int.reduceLT,Int.reduceNeg,reduceMod,zac,zad,zab,zaa,gT,TK.isInt,TK.agg,Array.toList]
 refine zan (fun (k:Nat) s=>s.sl 0 = int n∧s.sl 1 = .clo g caps∧s.sl 5 = u64 (zaH w k:Nat)∧s.sl 6 = int k∧(k ≤ 2 ^ n)) (fun k=>2 ^ n - k) (0) (by refine ⟨?_,?_,?_,?_,by simp⟩ <;> (first | (simp (maxSteps:=5000000) -dsimp only [gr,reduceEqDiff,reduceLT,reduceAdd,reduceMod,Nat.reduceBEq,zaa,zac,zad,zab];first | done | rfl | (simp;done)) | assumption | rfl)) ?_
 intro k sa ⟨h0a,h1a,h5a,h6a,hIa⟩
 have hlt:=zbu w k
 have h2k:(2:Nat) ^ k ≤ 2 ^ 64:=Nat.pow_le_pow_right (by omega) (by omega)
 simp (maxSteps:=5000000) -dsimp only [↓gp,gq,reduceCtorEq,reduceEqDiff,reduceLT,reduceLeDiff,reduceAdd,reduceMul,reduceSub,Nat.reduceBEq,Int.reduceToNat,Int.reduceLE,Int.reduceLT,Int.reduceNeg,reduceMod,zac,zad,zab,zaa,gT,TK.isInt,TK.agg,Array.toList,h0a,h1a,h5a,h6a,hun,hsh,hcap]
 refine ⟨fun hk=>zaf (hw k hk) ?_,fun hk=>?_⟩
 ·have huk:IntKind.u64.wrap (k:Int) = (k:Int):=za2 (by omega)
  have h2s:(2:Nat) ^ k < 18446744073709551616:=by
   have:(2:Nat) ^ k < 2 ^ 64:=Nat.pow_lt_pow_right (by omega) (by omega)
   omega
  have hor:ior .u64 (zaH w k:Nat) (zkH .u64 1 (k:Int)) = ((zaH w k ||| 2 ^ k:Nat):Int):=by
   rw [zCC (by omega),zDC (by omega) h2s]
  simp (maxSteps:=5000000) -dsimp only [↓gp,gq,reduceCtorEq,reduceEqDiff,reduceLT,reduceLeDiff,reduceAdd,reduceMul,reduceSub,Nat.reduceBEq,Int.reduceToNat,Int.reduceLE,Int.reduceLT,Int.reduceNeg,reduceMod,zac,zad,zab,zaa,gT,TK.isInt,TK.agg,Array.toList,h0a,h1a,h5a,h6a,hun,hsh,huk,hor]
  refine ⟨fun hf=>?_,fun hf=>?_⟩
  ·have hm:zaH w (k + 1) = zaH w k ||| 2 ^ k:=by rw [zaH,if_pos hf]
   exact zag (k + 1) (by refine ⟨?_,?_,?_,?_,by omega⟩ <;> (first | (simp (maxSteps:=5000000) -dsimp only [gr,reduceEqDiff,reduceLT,reduceAdd,reduceMod,Nat.reduceBEq,zaa,zac,zad,zab,h0a,h1a,h5a,h6a,zae hk (by omega),huk,hor,hm];first | done | rfl | (simp;done)) | assumption | rfl)) (by first | omega | (simp only;omega) | (dsimp only;omega) | (show _ < _;simp;omega))
  ·have hm:zaH w (k + 1) = zaH w k:=by rw [zaH,if_neg (by rw [hf];decide)]
   exact zag (k + 1) (by refine ⟨?_,?_,?_,?_,by omega⟩ <;> (first | (simp (maxSteps:=5000000) -dsimp only [gr,reduceEqDiff,reduceLT,reduceAdd,reduceMod,Nat.reduceBEq,zaa,zac,zad,zab,h0a,h1a,h5a,h6a,zae hk (by omega),hm];first | done | rfl | (simp;done)) | assumption | rfl)) (by first | omega | (simp only;omega) | (dsimp only;omega) | (show _ < _;simp;omega))
 ·have:k = 2 ^ n:=by omega
  rw [this]
theorem zuG {l:List Nat} {k:Nat} (h:k < l.length):l = l.take k ++ l.getD k 0 :: l.drop (k + 1):=by
 rw [← zdj 0 h,List.take_append_drop]
theorem zg3 {l:List Nat} {p:Nat→Bool} {k:Nat} (h:k < l.length) (hp:p (l.getD k 0) = true):(l.take (k + 1)).filter p = (l.take k).filter p ++ [l.getD k 0]:=by
 rw [zba 0 h,List.filter_append];simp only [List.filter_cons,hp,if_true,List.filter_nil]
theorem zkP {l:List Nat} {p:Nat→Bool} {k:Nat} (h:k < l.length) (hp:p (l.getD k 0) = false):(l.take (k + 1)).filter p = (l.take k).filter p:=by
 rw [zba 0 h,List.filter_append];simp only [List.filter_cons,hp,Bool.false_eq_true,if_false,List.filter_nil,List.append_nil]
theorem zg4 {l:List Nat} {p:Nat→Bool}:(l.filter p).length ≤ l.length:=List.length_filter_le _ _
theorem ziJ (F:Nat) (hF:F < 18446744073709551616):AC Tryz.prog 190 [u64 F] (.fr 3 1 (iL (ofN (ziq F.testBit false)))):=by
 refine AC.go (rs:=[.tmp 2]) za3 zav Tryz.func190 rfl rfl rfl (by kernel_rfl) fun hl=>?_
 simp (maxSteps:=5000000) -dsimp only [↓gp,gq,reduceCtorEq,reduceEqDiff,reduceLT,reduceLeDiff,reduceAdd,reduceMul,reduceSub,Nat.reduceBEq,Int.reduceToNat,Int.reduceLE,Int.reduceLT,Int.reduceNeg,reduceMod,zac,zad,zab,zaa,gT,TK.isInt,TK.agg,Array.toList]
 refine zaf (zg2 F hF) ?_
 simp (maxSteps:=5000000) -dsimp only [↓gp,gq,reduceCtorEq,reduceEqDiff,reduceLT,reduceLeDiff,reduceAdd,reduceMul,reduceSub,Nat.reduceBEq,Int.reduceToNat,Int.reduceLE,Int.reduceLT,Int.reduceNeg,reduceMod,zac,zad,zab,zaa,gT,TK.isInt,TK.agg,Array.toList]
 have hfull:=zfn F.testBit
 have hmem:∀ k,k < (zcq F.testBit).length→(zcq F.testBit).getD k 0 < 64:=fun k hk=>(zb1.1 (zaD 0 hk)).1
 have hsplit:∀ k,k < (zcq F.testBit).length→zcq F.testBit = (zcq F.testBit).take k ++ (zcq F.testBit).getD k 0 :: (zcq F.testBit).drop (k + 1):=fun k hk=>zuG hk
 have hmin:∀ k,k < (zcq F.testBit).length→((∃ t,t ∈ ((zcq F.testBit).take k).filter (zdl F.testBit false)∧t &&& (zcq F.testBit).getD k 0 = t) ↔ zdl F.testBit false ((zcq F.testBit).getD k 0) = false):=fun k hk=>zvZ (hsplit k hk)
 unfold ziq
 generalize zcq F.testBit = all at *
 refine zan (fun (za:Nat × Nat × Nat) s=>match za with | (k,v,u)=>s.sl 3 = .own 3 v∧s.rw 3 = ⟨v,.sli 3 1 false (iL (ofN ((all.take k).filter (zdl F.testBit false))))⟩∧s.sl 10 = .own 10 u∧s.rw 10 = ⟨u,.sli 3 1 false (iL (ofN all))⟩∧s.sl 11 = int all.length∧s.sl 12 = int k∧(k ≤ all.length)) (fun (k,v,u)=>all.length - k) ((0,1,1)) (by refine ⟨?_,?_,?_,?_,?_,?_,by simp⟩ <;> (first | (simp (maxSteps:=5000000) -dsimp only [gr,reduceEqDiff,reduceLT,reduceAdd,reduceMod,Nat.reduceBEq,zaa,zac,zad,zab,zak];first | done | rfl | (simp;done)) | assumption | rfl)) ?_
 intro (k,v,u) sa ⟨h3a,r3a,h10a,r10a,h11a,h12a,hIa⟩
 simp (maxSteps:=5000000) -dsimp only [↓gp,gq,reduceCtorEq,reduceEqDiff,reduceLT,reduceLeDiff,reduceAdd,reduceMul,reduceSub,Nat.reduceBEq,Int.reduceToNat,Int.reduceLE,Int.reduceLT,Int.reduceNeg,reduceMod,zac,zad,zab,zaa,gT,TK.isInt,TK.agg,Array.toList,h3a,r3a,h10a,r10a,h11a,h12a,zak]
 refine ⟨fun hk=>⟨hk,hk,?_⟩,fun hk=>?_⟩
 ·have hs:=hmem k hk
  have hge:(ofN all).getD k 0 = ((all.getD k 0:Nat):Int):=zaJ hk
  generalize hout:(all.take k).filter (zdl F.testBit false) = out at *
  have hol:out.length ≤ k:=by rw [← hout];exact Nat.le_trans zg4 (by simp;omega)
  have hom:∀ j,j < out.length→out.getD j 0 < 64:=fun j hj=>by
   have:out.getD j 0 ∈ out:=zaD 0 hj
   generalize out.getD j 0 = x at *
   rw [← hout] at this
   obtain ⟨i,hi,rfl⟩:=zbE 0 (List.mem_of_mem_take (List.mem_filter.1 this).1)
   exact hmem i hi
  refine zan (fun (j:Nat) s=>s.sl 3 = .own 3 v∧s.rw 3 = ⟨v,.sli 3 1 false (iL (ofN out))⟩∧s.sl 10 = .own 10 u∧s.rw 10 = ⟨u,.sli 3 1 false (iL (ofN all))⟩∧s.sl 11 = int all.length∧s.sl 12 = int k∧s.sl 5 = int (all.getD k 0:Nat)∧s.sl 6 = bool false∧s.sl 16 = .own 3 v∧s.sl 17 = int out.length∧s.sl 18 = int j∧(j ≤ out.length∧∀ i,i < j→out.getD i 0 &&& all.getD k 0 ≠ out.getD i 0)) (fun j=>out.length - j) (0) (by refine ⟨?_,?_,?_,?_,?_,?_,?_,?_,?_,?_,?_,by simp⟩ <;> (first | (simp (maxSteps:=5000000) -dsimp only [gr,reduceEqDiff,reduceLT,reduceAdd,reduceMod,Nat.reduceBEq,zaa,zac,zad,zab,h3a,r3a,h10a,r10a,h11a,h12a,hge,zak];first | done | rfl | (simp;done)) | assumption | rfl)) ?_
  intro j sb ⟨h3b,r3b,h10b,r10b,h11b,h12b,h5b,h6b,h16b,h17b,h18b,hIb⟩
  obtain ⟨hj,hall⟩:=hIb
  simp (maxSteps:=5000000) -dsimp only [↓gp,gq,reduceCtorEq,reduceEqDiff,reduceLT,reduceLeDiff,reduceAdd,reduceMul,reduceSub,Nat.reduceBEq,Int.reduceToNat,Int.reduceLE,Int.reduceLT,Int.reduceNeg,reduceMod,zac,zad,zab,zaa,gT,TK.isInt,TK.agg,Array.toList,h3b,r3b,h10b,r10b,h11b,h12b,h5b,h6b,h16b,h17b,h18b,zak]
  have hoj:j < out.length→(ofN out).getD j 0 = ((out.getD j 0:Nat):Int):=fun h=>zaJ h
  have hsub:j < out.length→(zbP .i64 ((ofN out).getD j 0) ((all.getD k 0:Nat):Int) = 0 ↔ out.getD j 0 &&& all.getD k 0 = out.getD j 0):=fun h=>by
   have:=hom j h
   rw [hoj h,zbr (by omega) (by omega),← zcj]
   omega
  have hmk:=hmin k hk
  rw [hout] at hmk
  refine ⟨fun h2=>⟨h2,h2,fun he=>?_,fun he=>zag (j + 1) ⟨(by (first | (simp (maxSteps:=5000000) -dsimp only [gr,reduceEqDiff,reduceLT,reduceAdd,reduceMod,Nat.reduceBEq,zaa,zac,zad,zab,h3b,r3b,h10b,r10b,h11b,h12b,h5b,h6b,h16b,h17b,h18b,zae h2 (by omega)];first | done | rfl | (simp;done)) | assumption | rfl)),(by (first | (simp (maxSteps:=5000000) -dsimp only [gr,reduceEqDiff,reduceLT,reduceAdd,reduceMod,Nat.reduceBEq,zaa,zac,zad,zab,h3b,r3b,h10b,r10b,h11b,h12b,h5b,h6b,h16b,h17b,h18b,zae h2 (by omega)];first | done | rfl | (simp;done)) | assumption | rfl)),(by (first | (simp (maxSteps:=5000000) -dsimp only [gr,reduceEqDiff,reduceLT,reduceAdd,reduceMod,Nat.reduceBEq,zaa,zac,zad,zab,h3b,r3b,h10b,r10b,h11b,h12b,h5b,h6b,h16b,h17b,h18b,zae h2 (by omega)];first | done | rfl | (simp;done)) | assumption | rfl)),(by (first | (simp (maxSteps:=5000000) -dsimp only [gr,reduceEqDiff,reduceLT,reduceAdd,reduceMod,Nat.reduceBEq,zaa,zac,zad,zab,h3b,r3b,h10b,r10b,h11b,h12b,h5b,h6b,h16b,h17b,h18b,zae h2 (by omega)];first | done | rfl | (simp;done)) | assumption | rfl)),(by (first | (simp (maxSteps:=5000000) -dsimp only [gr,reduceEqDiff,reduceLT,reduceAdd,reduceMod,Nat.reduceBEq,zaa,zac,zad,zab,h3b,r3b,h10b,r10b,h11b,h12b,h5b,h6b,h16b,h17b,h18b,zae h2 (by omega)];first | done | rfl | (simp;done)) | assumption | rfl)),(by (first | (simp (maxSteps:=5000000) -dsimp only [gr,reduceEqDiff,reduceLT,reduceAdd,reduceMod,Nat.reduceBEq,zaa,zac,zad,zab,h3b,r3b,h10b,r10b,h11b,h12b,h5b,h6b,h16b,h17b,h18b,zae h2 (by omega)];first | done | rfl | (simp;done)) | assumption | rfl)),(by (first | (simp (maxSteps:=5000000) -dsimp only [gr,reduceEqDiff,reduceLT,reduceAdd,reduceMod,Nat.reduceBEq,zaa,zac,zad,zab,h3b,r3b,h10b,r10b,h11b,h12b,h5b,h6b,h16b,h17b,h18b,zae h2 (by omega)];first | done | rfl | (simp;done)) | assumption | rfl)),(by (first | (simp (maxSteps:=5000000) -dsimp only [gr,reduceEqDiff,reduceLT,reduceAdd,reduceMod,Nat.reduceBEq,zaa,zac,zad,zab,h3b,r3b,h10b,r10b,h11b,h12b,h5b,h6b,h16b,h17b,h18b,zae h2 (by omega)];first | done | rfl | (simp;done)) | assumption | rfl)),(by (first | (simp (maxSteps:=5000000) -dsimp only [gr,reduceEqDiff,reduceLT,reduceAdd,reduceMod,Nat.reduceBEq,zaa,zac,zad,zab,h3b,r3b,h10b,r10b,h11b,h12b,h5b,h6b,h16b,h17b,h18b,zae h2 (by omega)];first | done | rfl | (simp;done)) | assumption | rfl)),(by (first | (simp (maxSteps:=5000000) -dsimp only [gr,reduceEqDiff,reduceLT,reduceAdd,reduceMod,Nat.reduceBEq,zaa,zac,zad,zab,h3b,r3b,h10b,r10b,h11b,h12b,h5b,h6b,h16b,h17b,h18b,zae h2 (by omega)];first | done | rfl | (simp;done)) | assumption | rfl)),(by (first | (simp (maxSteps:=5000000) -dsimp only [gr,reduceEqDiff,reduceLT,reduceAdd,reduceMod,Nat.reduceBEq,zaa,zac,zad,zab,h3b,r3b,h10b,r10b,h11b,h12b,h5b,h6b,h16b,h17b,h18b,zae h2 (by omega)];first | done | rfl | (simp;done)) | assumption | rfl)),⟨by omega,fun i hi=>?_⟩⟩ (by first | omega | (simp only;omega) | (dsimp only;omega) | (show _ < _;simp;omega))⟩,fun h2=>⟨by omega,?_⟩⟩
  ·have hx:zdl F.testBit false (all.getD k 0) = false:=hmk.1 ⟨_,zaD 0 h2,(hsub h2).1 (beq_iff_eq.1 he)⟩
   have hno:(all.take (k + 1)).filter (zdl F.testBit false) = out:=by rw [zkP hk hx,hout]
   exact zag ((k + 1,v,u)) (by refine ⟨?_,?_,?_,?_,?_,?_,by omega⟩ <;> (first | (simp (maxSteps:=5000000) -dsimp only [gr,reduceEqDiff,reduceLT,reduceAdd,reduceMod,Nat.reduceBEq,zaa,zac,zad,zab,h3a,r3a,h10a,r10a,h11a,h12a,h3b,r3b,h10b,r10b,h11b,h12b,h5b,h6b,h16b,h17b,h18b,zae hk (by omega),hno];first | done | rfl | (simp;done)) | assumption | rfl)) (by first | omega | (simp only;omega) | (dsimp only;omega) | (show _ < _;simp;omega))
  ·rcases Nat.lt_succ_iff_lt_or_eq.1 hi with hi | rfl
   ·exact hall i hi
   ·intro e
    rw [(hsub h2).2 e] at he
    simp at he
  ·have hx:zdl F.testBit false (all.getD k 0) = true:=by
    cases hb:zdl F.testBit false (all.getD k 0) with
    | true=>rfl
    | false =>
      obtain ⟨t,ht,hts⟩:=hmk.2 hb
      obtain ⟨i,hi,rfl⟩:=zbE 0 ht
      exact absurd hts (hall i (by omega))
   have hyes:(all.take (k + 1)).filter (zdl F.testBit false) = out ++ [all.getD k 0]:=by rw [zg3 hk hx,hout]
   exact zag ((k + 1,v + 1,u)) (by refine ⟨?_,?_,?_,?_,?_,?_,by omega⟩ <;> (first | (simp (maxSteps:=5000000) -dsimp only [gr,reduceEqDiff,reduceLT,reduceAdd,reduceMod,Nat.reduceBEq,zaa,zac,zad,zab,h3a,r3a,h10a,r10a,h11a,h12a,h3b,r3b,h10b,r10b,h11b,h12b,h5b,h6b,h16b,h17b,h18b,zae hk (by omega),hyes,zaV,zcG];first | done | rfl | (simp;done)) | assumption | rfl)) (by first | omega | (simp only;omega) | (dsimp only;omega) | (show _ < _;simp;omega))
 ·have:k = all.length:=by omega
  subst this
  rw [List.take_length]
theorem ziK (n:Int) (xs:List Int):AC Tryz.prog 189 [int n,zaN xs] (.im (bool (decide (1 ≤ n∧n ≤ 6∧xs.length ≤ 64∧∀ x ∈ xs,zcA n x = true)))):=by
 refine AC.go (rs:=[.tmp 4]) za3 zav Tryz.func189 rfl rfl rfl (by kernel_rfl) fun hl=>?_
 simp only [zaK,za7,and_true,zdb,zcr,true_and] at hl
 simp (maxSteps:=5000000) -dsimp only [↓gp,gq,reduceCtorEq,reduceEqDiff,reduceLT,reduceLeDiff,reduceAdd,reduceMul,reduceSub,Nat.reduceBEq,Int.reduceToNat,Int.reduceLE,Int.reduceLT,Int.reduceNeg,reduceMod,zac,zad,zab,zaa,gT,TK.isInt,TK.agg,Array.toList]
 refine ⟨fun h1=>⟨fun h6=>⟨fun h64 hg=>by omega,fun h64=>?_⟩,fun h6 hg=>by omega⟩,fun h1 hg=>by omega⟩
 refine zan (fun (k:Nat) s=>s.sl 0 = int n∧s.sl 18 = zaN xs∧s.sl 19 = int xs.length∧s.sl 20 = int k∧(k ≤ xs.length∧∀ i,i < k→zcA n (xs.getD i 0) = true)) (fun k=>xs.length - k) (0) (by refine ⟨?_,?_,?_,?_,by simp⟩ <;> (first | (simp (maxSteps:=5000000) -dsimp only [gr,reduceEqDiff,reduceLT,reduceAdd,reduceMod,Nat.reduceBEq,zaa,zac,zad,zab];first | done | rfl | (simp;done)) | assumption | rfl)) ?_
 intro k sa ⟨h0a,h18a,h19a,h20a,hIa⟩
 obtain ⟨hk,hall⟩:=hIa
 simp (maxSteps:=5000000) -dsimp only [↓gp,gq,reduceCtorEq,reduceEqDiff,reduceLT,reduceLeDiff,reduceAdd,reduceMul,reduceSub,Nat.reduceBEq,Int.reduceToNat,Int.reduceLE,Int.reduceLT,Int.reduceNeg,reduceMod,zac,zad,zab,zaa,gT,TK.isInt,TK.agg,Array.toList,h0a,h18a,h19a,h20a]
 refine ⟨fun h=>⟨h,h,zaf (zbV _ _) ?_⟩,fun h=>⟨by omega,by omega,by omega,fun x hx=>?_⟩⟩
 ·simp (maxSteps:=5000000) -dsimp only [↓gp,gq,reduceCtorEq,reduceEqDiff,reduceLT,reduceLeDiff,reduceAdd,reduceMul,reduceSub,Nat.reduceBEq,Int.reduceToNat,Int.reduceLE,Int.reduceLT,Int.reduceNeg,reduceMod,zac,zad,zab,zaa,gT,TK.isInt,TK.agg,Array.toList,h0a,h18a,h19a,h20a]
  refine ⟨fun hs hg=>?_,fun hs=>zag (k + 1) ⟨(by (first | (simp (maxSteps:=5000000) -dsimp only [gr,reduceEqDiff,reduceLT,reduceAdd,reduceMod,Nat.reduceBEq,zaa,zac,zad,zab,h0a,h18a,h19a,h20a,zae h hl];first | done | rfl | (simp;done)) | assumption | rfl)),(by (first | (simp (maxSteps:=5000000) -dsimp only [gr,reduceEqDiff,reduceLT,reduceAdd,reduceMod,Nat.reduceBEq,zaa,zac,zad,zab,h0a,h18a,h19a,h20a,zae h hl];first | done | rfl | (simp;done)) | assumption | rfl)),(by (first | (simp (maxSteps:=5000000) -dsimp only [gr,reduceEqDiff,reduceLT,reduceAdd,reduceMod,Nat.reduceBEq,zaa,zac,zad,zab,h0a,h18a,h19a,h20a,zae h hl];first | done | rfl | (simp;done)) | assumption | rfl)),(by (first | (simp (maxSteps:=5000000) -dsimp only [gr,reduceEqDiff,reduceLT,reduceAdd,reduceMod,Nat.reduceBEq,zaa,zac,zad,zab,h0a,h18a,h19a,h20a,zae h hl];first | done | rfl | (simp;done)) | assumption | rfl)),⟨by omega,fun i hi=>?_⟩⟩ (by first | omega | (simp only;omega) | (dsimp only;omega) | (show _ < _;simp;omega))⟩
  ·have:=hg.2.2.2 _ (zaD 0 h)
   rw [this] at hs;cases hs
  ·rcases Nat.lt_succ_iff_lt_or_eq.1 hi with hi | rfl
   ·exact hall i hi
   ·rwa [Bool.not_eq_false'] at hs
 ·obtain ⟨i,hi,rfl⟩:=zbE 0 hx
  exact hall i (by omega)
noncomputable def inF (xs:List Int) (s:Nat):Bool:=decide ((s:Int) ∈ xs)
noncomputable def zd4 (xs:List Int) (k:Nat):List Bool:=(List.range 64).map fun s=>inF (xs.take k) s
theorem zes (xs:List Int) (k:Nat):(zd4 xs k).length = 64:=by simp [zd4]
theorem zrX (xs:List Int):List.replicate 64 false = zd4 xs 0:=by
 refine List.ext_getElem (by simp [zd4]) fun j h1 h2=>?_
 rw [List.getElem_replicate]
 simp [zd4,inF]
theorem zv0 {xs:List Int} {k:Nat} (h:k < xs.length) (hx:0 ≤ xs.getD k 0∧xs.getD k 0 < 64):(zd4 xs k).set (xs.getD k 0).toNat true = zd4 xs (k + 1):=by
 refine List.ext_getElem (by simp [zd4]) fun j h1 h2=>?_
 simp only [zd4,List.getElem_set,List.getElem_map,List.getElem_range]
 have e:inF (xs.take (k + 1)) j = (inF (xs.take k) j || decide ((j:Int) = xs.getD k 0)):=by
  unfold inF
  rw [zba 0 h,← Bool.decide_or]
  exact decide_eq_decide.2 (by simp only [List.mem_append,List.mem_singleton])
 rw [e]
 by_cases hj:(xs.getD k 0).toNat = j
 ·rw [if_pos hj]
  have:(j:Int) = xs.getD k 0:=by omega
  simp only [this,decide_true,Bool.or_true]
 ·rw [if_neg hj]
  have:¬ (j:Int) = xs.getD k 0:=by omega
  simp only [this,decide_false,Bool.or_false]
theorem zdT (xs:List Int) (hx:∀ x ∈ xs,0 ≤ x∧x < 64):AC Tryz.prog 165 [zaN xs] (.fr 3 1 (iL (ofN (zcq (inF xs))))):=by
 refine AC.go (rs:=[.tmp 2]) za3 zav Tryz.func165 rfl rfl rfl (by kernel_rfl) fun hl=>?_
 simp only [zaK,za7,and_true,zdb,zcr,true_and] at hl
 simp (maxSteps:=5000000) -dsimp only [↓gp,gq,reduceCtorEq,reduceEqDiff,reduceLT,reduceLeDiff,reduceAdd,reduceMul,reduceSub,Nat.reduceBEq,Int.reduceToNat,Int.reduceLE,Int.reduceLT,Int.reduceNeg,reduceMod,zac,zad,zab,zaa,gT,TK.isInt,TK.agg,Array.toList]
 refine ⟨by decide,?_⟩
 refine zan (fun (za:Nat × Nat) s=>match za with | (k,v)=>s.sl 0 = zaN xs∧s.sl 3 = .own 8 v∧s.rw 8 = ⟨v,.sli 4 1 false (bL (zd4 xs k))⟩∧s.sl 4 = int k∧(k ≤ xs.length)) (fun (k,v)=>xs.length - k) ((0,1)) (by refine ⟨?_,?_,?_,?_,by simp⟩ <;> (first | (simp (maxSteps:=5000000) -dsimp only [gr,reduceEqDiff,reduceLT,reduceAdd,reduceMod,Nat.reduceBEq,zaa,zac,zad,zab,zeL,zrX,Int.reduceToNat];first | done | rfl | (simp;done)) | assumption | rfl)) ?_
 intro (k,v) sa ⟨h0a,h3a,r8a,h4a,hIa⟩
 simp (maxSteps:=5000000) -dsimp only [↓gp,gq,reduceCtorEq,reduceEqDiff,reduceLT,reduceLeDiff,reduceAdd,reduceMul,reduceSub,Nat.reduceBEq,Int.reduceToNat,Int.reduceLE,Int.reduceLT,Int.reduceNeg,reduceMod,zac,zad,zab,zaa,gT,TK.isInt,TK.agg,Array.toList,h0a,h3a,r8a,h4a,zes]
 refine ⟨fun hk=>?_,fun hk=>?_⟩
 ·have hx1:=hx _ (zaD 0 hk)
  refine ⟨hk,hk,by omega,by omega,by omega,?_⟩
  exact zag ((k + 1,v)) (by refine ⟨?_,?_,?_,?_,by omega⟩ <;> (first | (simp (maxSteps:=5000000) -dsimp only [gr,reduceEqDiff,reduceLT,reduceAdd,reduceMod,Nat.reduceBEq,zaa,zac,zad,zab,h0a,h3a,r8a,h4a,zae hk hl,zv0 hk hx1];first | done | rfl | (simp;done)) | assumption | rfl)) (by first | omega | (simp only;omega) | (dsimp only;omega) | (show _ < _;simp;omega))
 ·have:k = xs.length:=by omega
  subst this
  have hall:∀ s,s < 64→(zd4 xs xs.length).getD s false = inF xs s:=fun s hs=>by
   rw [zdS false (by rw [zes];exact hs)]
   simp [zd4]
  have hrl:=zes xs xs.length
  generalize zd4 xs xs.length = row at *
  refine zan (fun (zb:Nat × Nat × Nat) s=>match zb with | (k,v,u)=>s.sl 3 = .own 8 u∧s.rw 8 = ⟨u,.sli 4 1 false (bL row)⟩∧s.sl 5 = .own 21 v∧s.rw 21 = ⟨v,.sli 3 1 false (iL (ofN (zgb (inF xs) k 0)))⟩∧s.sl 6 = int k∧(k ≤ 7)) (fun (k,v,u)=>7 - k) ((0,(sa.rw 21).ver + 1,v)) (by refine ⟨?_,?_,?_,?_,?_,by simp⟩ <;> (first | (simp (maxSteps:=5000000) -dsimp only [gr,reduceEqDiff,reduceLT,reduceAdd,reduceMod,Nat.reduceBEq,zaa,zac,zad,zab,h0a,h3a,r8a,h4a];first | done | rfl | (simp;done)) | assumption | rfl)) ?_
  intro (k,v,u) sb ⟨h3b,r8b,h5b,r21b,h6b,hIb⟩
  simp (maxSteps:=5000000) -dsimp only [↓gp,gq,reduceCtorEq,reduceEqDiff,reduceLT,reduceLeDiff,reduceAdd,reduceMul,reduceSub,Nat.reduceBEq,Int.reduceToNat,Int.reduceLE,Int.reduceLT,Int.reduceNeg,reduceMod,zac,zad,zab,zaa,gT,TK.isInt,TK.agg,Array.toList,h3b,r8b,h5b,r21b,h6b]
  refine ⟨fun hk=>?_,fun hk=>?_⟩
  ·refine zan (fun (zc:Nat × Nat) s=>match zc with | (m,v)=>s.sl 3 = .own 8 u∧s.rw 8 = ⟨u,.sli 4 1 false (bL row)⟩∧s.sl 5 = .own 21 v∧s.rw 21 = ⟨v,.sli 3 1 false (iL (ofN (zgb (inF xs) k m)))⟩∧s.sl 6 = int k∧s.sl 7 = int m∧(m ≤ 64)) (fun (m,v)=>64 - m) ((0,v)) (by refine ⟨?_,?_,?_,?_,?_,?_,by simp⟩ <;> (first | (simp (maxSteps:=5000000) -dsimp only [gr,reduceEqDiff,reduceLT,reduceAdd,reduceMod,Nat.reduceBEq,zaa,zac,zad,zab,h3b,r8b,h5b,r21b,h6b];first | done | rfl | (simp;done)) | assumption | rfl)) ?_
   intro (m,v) sc ⟨h3c,r8c,h5c,r21c,h6c,h7c,hIc⟩
   simp (maxSteps:=5000000) -dsimp only [↓gp,gq,reduceCtorEq,reduceEqDiff,reduceLT,reduceLeDiff,reduceAdd,reduceMul,reduceSub,Nat.reduceBEq,Int.reduceToNat,Int.reduceLE,Int.reduceLT,Int.reduceNeg,reduceMod,zac,zad,zab,zaa,gT,TK.isInt,TK.agg,Array.toList,h3c,r8c,h5c,r21c,h6c,h7c,hrl]
   have hlen:=znN (inF xs) k m
   refine ⟨fun hm=>⟨by omega,by omega,?_⟩,fun hm=>?_⟩
   ·have hm:m < 64:=by omega
    rw [hall m hm]
    refine ⟨fun hf=>zaf (zb8 (by omega) (by omega)) ?_,fun hf=>?_⟩
    ·simp (maxSteps:=5000000) -dsimp only [↓gp,gq,reduceCtorEq,reduceEqDiff,reduceLT,reduceLeDiff,reduceAdd,reduceMul,reduceSub,Nat.reduceBEq,Int.reduceToNat,Int.reduceLE,Int.reduceLT,Int.reduceNeg,reduceMod,zac,zad,zab,zaa,gT,TK.isInt,TK.agg,Array.toList,h3c,r8c,h5c,r21c,h6c,h7c,Int.toNat_natCast]
     refine ⟨fun hp=>?_,fun hp=>?_⟩
     ·have hy:zgb (inF xs) k (m + 1) = zgb (inF xs) k m ++ [m]:=zuE (by rw [hf];simp at hp ⊢;omega)
      refine ⟨by rw [zak];omega,?_⟩
      exact zag ((m + 1,v + 1)) (by refine ⟨?_,?_,?_,?_,?_,?_,by omega⟩ <;> (first | (simp (maxSteps:=5000000) -dsimp only [gr,reduceEqDiff,reduceLT,reduceAdd,reduceMod,Nat.reduceBEq,zaa,zac,zad,zab,h3c,r8c,h5c,r21c,h6c,h7c,zae hm (by omega),hy,zaV,zcG];first | done | rfl | (simp;done)) | assumption | rfl)) (by first | omega | (simp only;omega) | (dsimp only;omega) | (show _ < _;simp;omega))
     ·have hy:zgb (inF xs) k (m + 1) = zgb (inF xs) k m:=znM (by rw [hf];simp at hp ⊢;omega)
      exact zag ((m + 1,v)) (by refine ⟨?_,?_,?_,?_,?_,?_,by omega⟩ <;> (first | (simp (maxSteps:=5000000) -dsimp only [gr,reduceEqDiff,reduceLT,reduceAdd,reduceMod,Nat.reduceBEq,zaa,zac,zad,zab,h3c,r8c,h5c,r21c,h6c,h7c,zae hm (by omega),hy];first | done | rfl | (simp;done)) | assumption | rfl)) (by first | omega | (simp only;omega) | (dsimp only;omega) | (show _ < _;simp;omega))
    ·have hy:zgb (inF xs) k (m + 1) = zgb (inF xs) k m:=znM (by rw [hf];rfl)
     exact zag ((m + 1,v)) (by refine ⟨?_,?_,?_,?_,?_,?_,by omega⟩ <;> (first | (simp (maxSteps:=5000000) -dsimp only [gr,reduceEqDiff,reduceLT,reduceAdd,reduceMod,Nat.reduceBEq,zaa,zac,zad,zab,h3c,r8c,h5c,r21c,h6c,h7c,zae hm (by omega),hy];first | done | rfl | (simp;done)) | assumption | rfl)) (by first | omega | (simp only;omega) | (dsimp only;omega) | (show _ < _;simp;omega))
   ·have:m = 64:=by omega
    subst this
    have hk:k < 7:=by omega
    exact zag ((k + 1,v,u)) (by refine ⟨?_,?_,?_,?_,?_,by omega⟩ <;> (first | (simp (maxSteps:=5000000) -dsimp only [gr,reduceEqDiff,reduceLT,reduceAdd,reduceMod,Nat.reduceBEq,zaa,zac,zad,zab,h3b,r8b,h5b,r21b,h6b,h3c,r8c,h5c,r21c,h6c,h7c,zae hk (by omega),zkN];first | done | rfl | (simp;done)) | assumption | rfl)) (by first | omega | (simp only;omega) | (dsimp only;omega) | (show _ < _;simp;omega))
  ·have:k = 7:=by omega
   subst this
   rw [znL]
theorem zeD (g:Bool) (xs:List Int) (hx:∀ x ∈ xs,0 ≤ x∧x < 64):AC Tryz.prog 184 [zaN xs,bool g] (.fr 3 1 (iL (ofN (ziq (inF xs) g)))):=by
 refine AC.go (rs:=[.tmp 4]) za3 zav Tryz.func184 rfl rfl rfl (by kernel_rfl) fun hl=>?_
 simp only [zaK,za7,and_true,zdb,zcr,true_and] at hl
 simp (maxSteps:=5000000) -dsimp only [↓gp,gq,reduceCtorEq,reduceEqDiff,reduceLT,reduceLeDiff,reduceAdd,reduceMul,reduceSub,Nat.reduceBEq,Int.reduceToNat,Int.reduceLE,Int.reduceLT,Int.reduceNeg,reduceMod,zac,zad,zab,zaa,gT,TK.isInt,TK.agg,Array.toList]
 refine zaf (zdT xs hx) ?_
 simp (maxSteps:=5000000) -dsimp only [↓gp,gq,reduceCtorEq,reduceEqDiff,reduceLT,reduceLeDiff,reduceAdd,reduceMul,reduceSub,Nat.reduceBEq,Int.reduceToNat,Int.reduceLE,Int.reduceLT,Int.reduceNeg,reduceMod,zac,zad,zab,zaa,gT,TK.isInt,TK.agg,Array.toList]
 have hfull:=zfn (inF xs)
 have hmemf:∀ t,t ∈ zcq (inF xs) ↔ t < 64∧inF xs t = true:=fun t=>zb1
 unfold ziq
 have hext:∀ s,s < 64→(zdl (inF xs) g s = true ↔ ∀ t,t ∈ zcq (inF xs)→(if g = true then s &&& t = s else t &&& s = t)→t = s):=fun s hs=>by
  cases g with
  | true=>rw [zdm];simp only [if_true];exact ⟨fun h t ht=>h t ((hmemf t).1 ht).1 ((hmemf t).1 ht).2,fun h t h1 h2=>h t ((hmemf t).2 ⟨h1,h2⟩)⟩
  | false=>rw [zjn];simp only [Bool.false_eq_true,if_false];exact ⟨fun h t ht=>h t ((hmemf t).1 ht).1 ((hmemf t).1 ht).2,fun h t h1 h2=>h t ((hmemf t).2 ⟨h1,h2⟩)⟩
 generalize zcq (inF xs) = all at *
 have hmem:∀ k,k < all.length→all.getD k 0 < 64:=fun k hk=>((hmemf _).1 (zaD 0 hk)).1
 refine zan (fun (za:Nat × Nat × Nat) s=>match za with | (k,v,u)=>s.sl 1 = bool g∧s.sl 5 = .own 13 u∧s.rw 13 = ⟨u,.sli 3 1 false (iL (ofN all))⟩∧s.sl 6 = .own 14 v∧s.rw 14 = ⟨v,.sli 3 1 false (iL (ofN ((all.take k).filter (zdl (inF xs) g))))⟩∧s.sl 7 = int k∧(k ≤ all.length)) (fun (k,v,u)=>all.length - k) ((0,1,1)) (by refine ⟨?_,?_,?_,?_,?_,?_,by simp⟩ <;> (first | (simp (maxSteps:=5000000) -dsimp only [gr,reduceEqDiff,reduceLT,reduceAdd,reduceMod,Nat.reduceBEq,zaa,zac,zad,zab];first | done | rfl | (simp;done)) | assumption | rfl)) ?_
 intro (k,v,u) sa ⟨h1a,h5a,r13a,h6a,r14a,h7a,hIa⟩
 simp (maxSteps:=5000000) -dsimp only [↓gp,gq,reduceCtorEq,reduceEqDiff,reduceLT,reduceLeDiff,reduceAdd,reduceMul,reduceSub,Nat.reduceBEq,Int.reduceToNat,Int.reduceLE,Int.reduceLT,Int.reduceNeg,reduceMod,zac,zad,zab,zaa,gT,TK.isInt,TK.agg,Array.toList,h1a,h5a,r13a,h6a,r14a,h7a,zak]
 have hol:((all.take k).filter (zdl (inF xs) g)).length ≤ k:=Nat.le_trans zg4 (by simp;omega)
 refine ⟨fun hk=>?_,fun hk=>?_⟩
 ·have hs:=hmem k hk
  refine zan (fun (zb:Nat × Bool) s=>match zb with | (j,fine)=>s.sl 1 = bool g∧s.sl 5 = .own 13 u∧s.rw 13 = ⟨u,.sli 3 1 false (iL (ofN all))⟩∧s.sl 6 = .own 14 v∧s.rw 14 = ⟨v,.sli 3 1 false (iL (ofN ((all.take k).filter (zdl (inF xs) g))))⟩∧s.sl 7 = int k∧s.sl 8 = bool fine∧s.sl 9 = int j∧(j ≤ all.length∧(fine = true ↔ ∀ i,i < j→(if g = true then all.getD k 0 &&& all.getD i 0 = all.getD k 0 else all.getD i 0 &&& all.getD k 0 = all.getD i 0)→all.getD i 0 = all.getD k 0))) (fun (j,fine)=>all.length - j) ((0,true)) (by refine ⟨?_,?_,?_,?_,?_,?_,?_,?_,by simp⟩ <;> (first | (simp (maxSteps:=5000000) -dsimp only [gr,reduceEqDiff,reduceLT,reduceAdd,reduceMod,Nat.reduceBEq,zaa,zac,zad,zab,h1a,h5a,r13a,h6a,r14a,h7a];first | done | rfl | (simp;done)) | assumption | rfl)) ?_
  intro (j,fine) sb ⟨h1b,h5b,r13b,h6b,r14b,h7b,h8b,h9b,hIb⟩
  obtain ⟨hj,hfine⟩:=hIb
  have ek:(ofN all).getD k 0 = ((all.getD k 0:Nat):Int):=zaJ hk
  have ej:j < all.length→(ofN all).getD j 0 = ((all.getD j 0:Nat):Int):=fun h=>zaJ h
  have eand:j < all.length→zb4 .i64 ((ofN all).getD k 0) ((ofN all).getD j 0) = ((all.getD k 0 &&& all.getD j 0:Nat):Int):=fun h=>by
   have:=hmem j h
   rw [ek,ej h,zaQ (by omega) (by omega)]
  have hend:j = all.length→(fine = true ↔ zdl (inF xs) g (all.getD k 0) = true):=fun h=>by
   rw [hfine,hext _ hs]
   exact ⟨fun h2 t ht=>by obtain ⟨i,hi,rfl⟩:=zbE 0 ht;exact h2 i (by omega),fun h2 i hi=>h2 _ (zaD 0 (by omega))⟩
  have hend2:j = all.length→fine = false→zdl (inF xs) g (all.getD k 0) = false:=fun h hf=>by
   cases hb:zdl (inF xs) g (all.getD k 0) with
   | false=>rfl
   | true=>rw [(hend h).2 hb] at hf;cases hf
  have pfT:(if g = true then all.getD k 0 &&& all.getD j 0 = all.getD k 0 else all.getD j 0 &&& all.getD k 0 = all.getD j 0)→all.getD j 0 ≠ all.getD k 0→(false = true ↔ ∀ i,i < j + 1→(if g = true then all.getD k 0 &&& all.getD i 0 = all.getD k 0 else all.getD i 0 &&& all.getD k 0 = all.getD i 0)→all.getD i 0 = all.getD k 0):=fun hr hne =>
   ⟨fun h=>(by cases h),fun h=>absurd (h j (by omega) hr) hne⟩
  have pfF:(¬ (if g = true then all.getD k 0 &&& all.getD j 0 = all.getD k 0 else all.getD j 0 &&& all.getD k 0 = all.getD j 0) ∨ all.getD j 0 = all.getD k 0)→(fine = true ↔ ∀ i,i < j + 1→(if g = true then all.getD k 0 &&& all.getD i 0 = all.getD k 0 else all.getD i 0 &&& all.getD k 0 = all.getD i 0)→all.getD i 0 = all.getD k 0):=fun hr=>by
   rw [hfine]
   constructor
   ·intro h i hi
    rcases Nat.lt_succ_iff_lt_or_eq.1 hi with hi | rfl
    ·exact h i hi
    ·exact fun h2=>hr.elim (fun h3=>absurd h2 h3) id
   ·intro h i hi;exact h i (by omega)
  cases g with
  | true =>
    simp (maxSteps:=5000000) -dsimp only [↓gp,gq,reduceCtorEq,reduceEqDiff,reduceLT,reduceLeDiff,reduceAdd,reduceMul,reduceSub,Nat.reduceBEq,Int.reduceToNat,Int.reduceLE,Int.reduceLT,Int.reduceNeg,reduceMod,zac,zad,zab,zaa,gT,TK.isInt,TK.agg,Array.toList,h1b,h5b,r13b,h6b,r14b,h7b,h8b,h9b,zak]
    refine ⟨fun h2=>⟨hk,hk,h2,h2,fun hne=>⟨fun he=>zag ((j + 1,fine)) ⟨(by (first | (simp (maxSteps:=5000000) -dsimp only [gr,reduceEqDiff,reduceLT,reduceAdd,reduceMod,Nat.reduceBEq,zaa,zac,zad,zab,h1b,h5b,r13b,h6b,r14b,h7b,h8b,h9b,zae h2 (by omega)];first | done | rfl | (simp;done)) | assumption | rfl)),(by (first | (simp (maxSteps:=5000000) -dsimp only [gr,reduceEqDiff,reduceLT,reduceAdd,reduceMod,Nat.reduceBEq,zaa,zac,zad,zab,h1b,h5b,r13b,h6b,r14b,h7b,h8b,h9b,zae h2 (by omega)];first | done | rfl | (simp;done)) | assumption | rfl)),(by (first | (simp (maxSteps:=5000000) -dsimp only [gr,reduceEqDiff,reduceLT,reduceAdd,reduceMod,Nat.reduceBEq,zaa,zac,zad,zab,h1b,h5b,r13b,h6b,r14b,h7b,h8b,h9b,zae h2 (by omega)];first | done | rfl | (simp;done)) | assumption | rfl)),(by (first | (simp (maxSteps:=5000000) -dsimp only [gr,reduceEqDiff,reduceLT,reduceAdd,reduceMod,Nat.reduceBEq,zaa,zac,zad,zab,h1b,h5b,r13b,h6b,r14b,h7b,h8b,h9b,zae h2 (by omega)];first | done | rfl | (simp;done)) | assumption | rfl)),(by (first | (simp (maxSteps:=5000000) -dsimp only [gr,reduceEqDiff,reduceLT,reduceAdd,reduceMod,Nat.reduceBEq,zaa,zac,zad,zab,h1b,h5b,r13b,h6b,r14b,h7b,h8b,h9b,zae h2 (by omega)];first | done | rfl | (simp;done)) | assumption | rfl)),(by (first | (simp (maxSteps:=5000000) -dsimp only [gr,reduceEqDiff,reduceLT,reduceAdd,reduceMod,Nat.reduceBEq,zaa,zac,zad,zab,h1b,h5b,r13b,h6b,r14b,h7b,h8b,h9b,zae h2 (by omega)];first | done | rfl | (simp;done)) | assumption | rfl)),(by (first | (simp (maxSteps:=5000000) -dsimp only [gr,reduceEqDiff,reduceLT,reduceAdd,reduceMod,Nat.reduceBEq,zaa,zac,zad,zab,h1b,h5b,r13b,h6b,r14b,h7b,h8b,h9b,zae h2 (by omega)];first | done | rfl | (simp;done)) | assumption | rfl)),(by (first | (simp (maxSteps:=5000000) -dsimp only [gr,reduceEqDiff,reduceLT,reduceAdd,reduceMod,Nat.reduceBEq,zaa,zac,zad,zab,h1b,h5b,r13b,h6b,r14b,h7b,h8b,h9b,zae h2 (by omega)];first | done | rfl | (simp;done)) | assumption | rfl)),⟨by omega,pfF (.inl ?_)⟩⟩ (by first | omega | (simp only;omega) | (dsimp only;omega) | (show _ < _;simp;omega)),fun he=>zag ((j + 1,false)) ⟨(by (first | (simp (maxSteps:=5000000) -dsimp only [gr,reduceEqDiff,reduceLT,reduceAdd,reduceMod,Nat.reduceBEq,zaa,zac,zad,zab,h1b,h5b,r13b,h6b,r14b,h7b,h8b,h9b,zae h2 (by omega)];first | done | rfl | (simp;done)) | assumption | rfl)),(by (first | (simp (maxSteps:=5000000) -dsimp only [gr,reduceEqDiff,reduceLT,reduceAdd,reduceMod,Nat.reduceBEq,zaa,zac,zad,zab,h1b,h5b,r13b,h6b,r14b,h7b,h8b,h9b,zae h2 (by omega)];first | done | rfl | (simp;done)) | assumption | rfl)),(by (first | (simp (maxSteps:=5000000) -dsimp only [gr,reduceEqDiff,reduceLT,reduceAdd,reduceMod,Nat.reduceBEq,zaa,zac,zad,zab,h1b,h5b,r13b,h6b,r14b,h7b,h8b,h9b,zae h2 (by omega)];first | done | rfl | (simp;done)) | assumption | rfl)),(by (first | (simp (maxSteps:=5000000) -dsimp only [gr,reduceEqDiff,reduceLT,reduceAdd,reduceMod,Nat.reduceBEq,zaa,zac,zad,zab,h1b,h5b,r13b,h6b,r14b,h7b,h8b,h9b,zae h2 (by omega)];first | done | rfl | (simp;done)) | assumption | rfl)),(by (first | (simp (maxSteps:=5000000) -dsimp only [gr,reduceEqDiff,reduceLT,reduceAdd,reduceMod,Nat.reduceBEq,zaa,zac,zad,zab,h1b,h5b,r13b,h6b,r14b,h7b,h8b,h9b,zae h2 (by omega)];first | done | rfl | (simp;done)) | assumption | rfl)),(by (first | (simp (maxSteps:=5000000) -dsimp only [gr,reduceEqDiff,reduceLT,reduceAdd,reduceMod,Nat.reduceBEq,zaa,zac,zad,zab,h1b,h5b,r13b,h6b,r14b,h7b,h8b,h9b,zae h2 (by omega)];first | done | rfl | (simp;done)) | assumption | rfl)),(by (first | (simp (maxSteps:=5000000) -dsimp only [gr,reduceEqDiff,reduceLT,reduceAdd,reduceMod,Nat.reduceBEq,zaa,zac,zad,zab,h1b,h5b,r13b,h6b,r14b,h7b,h8b,h9b,zae h2 (by omega)];first | done | rfl | (simp;done)) | assumption | rfl)),(by (first | (simp (maxSteps:=5000000) -dsimp only [gr,reduceEqDiff,reduceLT,reduceAdd,reduceMod,Nat.reduceBEq,zaa,zac,zad,zab,h1b,h5b,r13b,h6b,r14b,h7b,h8b,h9b,zae h2 (by omega)];first | done | rfl | (simp;done)) | assumption | rfl)),⟨by omega,pfT ?_ ?_⟩⟩ (by first | omega | (simp only;omega) | (dsimp only;omega) | (show _ < _;simp;omega))⟩,fun hne=>zag ((j + 1,fine)) ⟨(by (first | (simp (maxSteps:=5000000) -dsimp only [gr,reduceEqDiff,reduceLT,reduceAdd,reduceMod,Nat.reduceBEq,zaa,zac,zad,zab,h1b,h5b,r13b,h6b,r14b,h7b,h8b,h9b,zae h2 (by omega)];first | done | rfl | (simp;done)) | assumption | rfl)),(by (first | (simp (maxSteps:=5000000) -dsimp only [gr,reduceEqDiff,reduceLT,reduceAdd,reduceMod,Nat.reduceBEq,zaa,zac,zad,zab,h1b,h5b,r13b,h6b,r14b,h7b,h8b,h9b,zae h2 (by omega)];first | done | rfl | (simp;done)) | assumption | rfl)),(by (first | (simp (maxSteps:=5000000) -dsimp only [gr,reduceEqDiff,reduceLT,reduceAdd,reduceMod,Nat.reduceBEq,zaa,zac,zad,zab,h1b,h5b,r13b,h6b,r14b,h7b,h8b,h9b,zae h2 (by omega)];first | done | rfl | (simp;done)) | assumption | rfl)),(by (first | (simp (maxSteps:=5000000) -dsimp only [gr,reduceEqDiff,reduceLT,reduceAdd,reduceMod,Nat.reduceBEq,zaa,zac,zad,zab,h1b,h5b,r13b,h6b,r14b,h7b,h8b,h9b,zae h2 (by omega)];first | done | rfl | (simp;done)) | assumption | rfl)),(by (first | (simp (maxSteps:=5000000) -dsimp only [gr,reduceEqDiff,reduceLT,reduceAdd,reduceMod,Nat.reduceBEq,zaa,zac,zad,zab,h1b,h5b,r13b,h6b,r14b,h7b,h8b,h9b,zae h2 (by omega)];first | done | rfl | (simp;done)) | assumption | rfl)),(by (first | (simp (maxSteps:=5000000) -dsimp only [gr,reduceEqDiff,reduceLT,reduceAdd,reduceMod,Nat.reduceBEq,zaa,zac,zad,zab,h1b,h5b,r13b,h6b,r14b,h7b,h8b,h9b,zae h2 (by omega)];first | done | rfl | (simp;done)) | assumption | rfl)),(by (first | (simp (maxSteps:=5000000) -dsimp only [gr,reduceEqDiff,reduceLT,reduceAdd,reduceMod,Nat.reduceBEq,zaa,zac,zad,zab,h1b,h5b,r13b,h6b,r14b,h7b,h8b,h9b,zae h2 (by omega)];first | done | rfl | (simp;done)) | assumption | rfl)),(by (first | (simp (maxSteps:=5000000) -dsimp only [gr,reduceEqDiff,reduceLT,reduceAdd,reduceMod,Nat.reduceBEq,zaa,zac,zad,zab,h1b,h5b,r13b,h6b,r14b,h7b,h8b,h9b,zae h2 (by omega)];first | done | rfl | (simp;done)) | assumption | rfl)),⟨by omega,pfF (.inr ?_)⟩⟩ (by first | omega | (simp only;omega) | (dsimp only;omega) | (show _ < _;simp;omega))⟩,fun h2=>?_⟩
    ·rw [eand h2,ek] at he
     simp only [if_true]
     intro e;rw [e] at he;simp at he
    ·rw [eand h2,ek] at he
     have:=beq_iff_eq.1 he
     simp only [if_true];omega
    ·rw [ek,ej h2] at hne
     intro e;rw [e] at hne;simp at hne
    ·rw [ek,ej h2] at hne
     have:=bne_eq_false_iff_eq.1 hne
     omega
    ·refine ⟨fun hf=>⟨hk,hk,by omega,?_⟩,fun hf=>?_⟩
     ·have hx:=(hend (by omega)).1 hf
      exact zag ((k + 1,v + 1,u)) (by refine ⟨?_,?_,?_,?_,?_,?_,by omega⟩ <;> (first | (simp (maxSteps:=5000000) -dsimp only [gr,reduceEqDiff,reduceLT,reduceAdd,reduceMod,Nat.reduceBEq,zaa,zac,zad,zab,h1a,h5a,r13a,h6a,r14a,h7a,h1b,h5b,r13b,h6b,r14b,h7b,h8b,h9b,zae hk (by omega),zg3 hk hx,zaV,zcG,ek];first | done | rfl | (simp;done)) | assumption | rfl)) (by first | omega | (simp only;omega) | (dsimp only;omega) | (show _ < _;simp;omega))
     ·have hx:=hend2 (by omega) hf
      exact zag ((k + 1,v,u)) (by refine ⟨?_,?_,?_,?_,?_,?_,by omega⟩ <;> (first | (simp (maxSteps:=5000000) -dsimp only [gr,reduceEqDiff,reduceLT,reduceAdd,reduceMod,Nat.reduceBEq,zaa,zac,zad,zab,h1a,h5a,r13a,h6a,r14a,h7a,h1b,h5b,r13b,h6b,r14b,h7b,h8b,h9b,zae hk (by omega),zkP hk hx];first | done | rfl | (simp;done)) | assumption | rfl)) (by first | omega | (simp only;omega) | (dsimp only;omega) | (show _ < _;simp;omega))
  | false =>
    simp (maxSteps:=5000000) -dsimp only [↓gp,gq,reduceCtorEq,reduceEqDiff,reduceLT,reduceLeDiff,reduceAdd,reduceMul,reduceSub,Nat.reduceBEq,Int.reduceToNat,Int.reduceLE,Int.reduceLT,Int.reduceNeg,reduceMod,zac,zad,zab,zaa,gT,TK.isInt,TK.agg,Array.toList,h1b,h5b,r13b,h6b,r14b,h7b,h8b,h9b,zak]
    refine ⟨fun h2=>⟨hk,hk,h2,h2,fun hne=>⟨fun he=>zag ((j + 1,false)) ⟨(by (first | (simp (maxSteps:=5000000) -dsimp only [gr,reduceEqDiff,reduceLT,reduceAdd,reduceMod,Nat.reduceBEq,zaa,zac,zad,zab,h1b,h5b,r13b,h6b,r14b,h7b,h8b,h9b,zae h2 (by omega)];first | done | rfl | (simp;done)) | assumption | rfl)),(by (first | (simp (maxSteps:=5000000) -dsimp only [gr,reduceEqDiff,reduceLT,reduceAdd,reduceMod,Nat.reduceBEq,zaa,zac,zad,zab,h1b,h5b,r13b,h6b,r14b,h7b,h8b,h9b,zae h2 (by omega)];first | done | rfl | (simp;done)) | assumption | rfl)),(by (first | (simp (maxSteps:=5000000) -dsimp only [gr,reduceEqDiff,reduceLT,reduceAdd,reduceMod,Nat.reduceBEq,zaa,zac,zad,zab,h1b,h5b,r13b,h6b,r14b,h7b,h8b,h9b,zae h2 (by omega)];first | done | rfl | (simp;done)) | assumption | rfl)),(by (first | (simp (maxSteps:=5000000) -dsimp only [gr,reduceEqDiff,reduceLT,reduceAdd,reduceMod,Nat.reduceBEq,zaa,zac,zad,zab,h1b,h5b,r13b,h6b,r14b,h7b,h8b,h9b,zae h2 (by omega)];first | done | rfl | (simp;done)) | assumption | rfl)),(by (first | (simp (maxSteps:=5000000) -dsimp only [gr,reduceEqDiff,reduceLT,reduceAdd,reduceMod,Nat.reduceBEq,zaa,zac,zad,zab,h1b,h5b,r13b,h6b,r14b,h7b,h8b,h9b,zae h2 (by omega)];first | done | rfl | (simp;done)) | assumption | rfl)),(by (first | (simp (maxSteps:=5000000) -dsimp only [gr,reduceEqDiff,reduceLT,reduceAdd,reduceMod,Nat.reduceBEq,zaa,zac,zad,zab,h1b,h5b,r13b,h6b,r14b,h7b,h8b,h9b,zae h2 (by omega)];first | done | rfl | (simp;done)) | assumption | rfl)),(by (first | (simp (maxSteps:=5000000) -dsimp only [gr,reduceEqDiff,reduceLT,reduceAdd,reduceMod,Nat.reduceBEq,zaa,zac,zad,zab,h1b,h5b,r13b,h6b,r14b,h7b,h8b,h9b,zae h2 (by omega)];first | done | rfl | (simp;done)) | assumption | rfl)),(by (first | (simp (maxSteps:=5000000) -dsimp only [gr,reduceEqDiff,reduceLT,reduceAdd,reduceMod,Nat.reduceBEq,zaa,zac,zad,zab,h1b,h5b,r13b,h6b,r14b,h7b,h8b,h9b,zae h2 (by omega)];first | done | rfl | (simp;done)) | assumption | rfl)),⟨by omega,pfT ?_ ?_⟩⟩ (by first | omega | (simp only;omega) | (dsimp only;omega) | (show _ < _;simp;omega)),fun he=>zag ((j + 1,fine)) ⟨(by (first | (simp (maxSteps:=5000000) -dsimp only [gr,reduceEqDiff,reduceLT,reduceAdd,reduceMod,Nat.reduceBEq,zaa,zac,zad,zab,h1b,h5b,r13b,h6b,r14b,h7b,h8b,h9b,zae h2 (by omega)];first | done | rfl | (simp;done)) | assumption | rfl)),(by (first | (simp (maxSteps:=5000000) -dsimp only [gr,reduceEqDiff,reduceLT,reduceAdd,reduceMod,Nat.reduceBEq,zaa,zac,zad,zab,h1b,h5b,r13b,h6b,r14b,h7b,h8b,h9b,zae h2 (by omega)];first | done | rfl | (simp;done)) | assumption | rfl)),(by (first | (simp (maxSteps:=5000000) -dsimp only [gr,reduceEqDiff,reduceLT,reduceAdd,reduceMod,Nat.reduceBEq,zaa,zac,zad,zab,h1b,h5b,r13b,h6b,r14b,h7b,h8b,h9b,zae h2 (by omega)];first | done | rfl | (simp;done)) | assumption | rfl)),(by (first | (simp (maxSteps:=5000000) -dsimp only [gr,reduceEqDiff,reduceLT,reduceAdd,reduceMod,Nat.reduceBEq,zaa,zac,zad,zab,h1b,h5b,r13b,h6b,r14b,h7b,h8b,h9b,zae h2 (by omega)];first | done | rfl | (simp;done)) | assumption | rfl)),(by (first | (simp (maxSteps:=5000000) -dsimp only [gr,reduceEqDiff,reduceLT,reduceAdd,reduceMod,Nat.reduceBEq,zaa,zac,zad,zab,h1b,h5b,r13b,h6b,r14b,h7b,h8b,h9b,zae h2 (by omega)];first | done | rfl | (simp;done)) | assumption | rfl)),(by (first | (simp (maxSteps:=5000000) -dsimp only [gr,reduceEqDiff,reduceLT,reduceAdd,reduceMod,Nat.reduceBEq,zaa,zac,zad,zab,h1b,h5b,r13b,h6b,r14b,h7b,h8b,h9b,zae h2 (by omega)];first | done | rfl | (simp;done)) | assumption | rfl)),(by (first | (simp (maxSteps:=5000000) -dsimp only [gr,reduceEqDiff,reduceLT,reduceAdd,reduceMod,Nat.reduceBEq,zaa,zac,zad,zab,h1b,h5b,r13b,h6b,r14b,h7b,h8b,h9b,zae h2 (by omega)];first | done | rfl | (simp;done)) | assumption | rfl)),(by (first | (simp (maxSteps:=5000000) -dsimp only [gr,reduceEqDiff,reduceLT,reduceAdd,reduceMod,Nat.reduceBEq,zaa,zac,zad,zab,h1b,h5b,r13b,h6b,r14b,h7b,h8b,h9b,zae h2 (by omega)];first | done | rfl | (simp;done)) | assumption | rfl)),⟨by omega,pfF (.inl ?_)⟩⟩ (by first | omega | (simp only;omega) | (dsimp only;omega) | (show _ < _;simp;omega))⟩,fun hne=>zag ((j + 1,fine)) ⟨(by (first | (simp (maxSteps:=5000000) -dsimp only [gr,reduceEqDiff,reduceLT,reduceAdd,reduceMod,Nat.reduceBEq,zaa,zac,zad,zab,h1b,h5b,r13b,h6b,r14b,h7b,h8b,h9b,zae h2 (by omega)];first | done | rfl | (simp;done)) | assumption | rfl)),(by (first | (simp (maxSteps:=5000000) -dsimp only [gr,reduceEqDiff,reduceLT,reduceAdd,reduceMod,Nat.reduceBEq,zaa,zac,zad,zab,h1b,h5b,r13b,h6b,r14b,h7b,h8b,h9b,zae h2 (by omega)];first | done | rfl | (simp;done)) | assumption | rfl)),(by (first | (simp (maxSteps:=5000000) -dsimp only [gr,reduceEqDiff,reduceLT,reduceAdd,reduceMod,Nat.reduceBEq,zaa,zac,zad,zab,h1b,h5b,r13b,h6b,r14b,h7b,h8b,h9b,zae h2 (by omega)];first | done | rfl | (simp;done)) | assumption | rfl)),(by (first | (simp (maxSteps:=5000000) -dsimp only [gr,reduceEqDiff,reduceLT,reduceAdd,reduceMod,Nat.reduceBEq,zaa,zac,zad,zab,h1b,h5b,r13b,h6b,r14b,h7b,h8b,h9b,zae h2 (by omega)];first | done | rfl | (simp;done)) | assumption | rfl)),(by (first | (simp (maxSteps:=5000000) -dsimp only [gr,reduceEqDiff,reduceLT,reduceAdd,reduceMod,Nat.reduceBEq,zaa,zac,zad,zab,h1b,h5b,r13b,h6b,r14b,h7b,h8b,h9b,zae h2 (by omega)];first | done | rfl | (simp;done)) | assumption | rfl)),(by (first | (simp (maxSteps:=5000000) -dsimp only [gr,reduceEqDiff,reduceLT,reduceAdd,reduceMod,Nat.reduceBEq,zaa,zac,zad,zab,h1b,h5b,r13b,h6b,r14b,h7b,h8b,h9b,zae h2 (by omega)];first | done | rfl | (simp;done)) | assumption | rfl)),(by (first | (simp (maxSteps:=5000000) -dsimp only [gr,reduceEqDiff,reduceLT,reduceAdd,reduceMod,Nat.reduceBEq,zaa,zac,zad,zab,h1b,h5b,r13b,h6b,r14b,h7b,h8b,h9b,zae h2 (by omega)];first | done | rfl | (simp;done)) | assumption | rfl)),(by (first | (simp (maxSteps:=5000000) -dsimp only [gr,reduceEqDiff,reduceLT,reduceAdd,reduceMod,Nat.reduceBEq,zaa,zac,zad,zab,h1b,h5b,r13b,h6b,r14b,h7b,h8b,h9b,zae h2 (by omega)];first | done | rfl | (simp;done)) | assumption | rfl)),⟨by omega,pfF (.inr ?_)⟩⟩ (by first | omega | (simp only;omega) | (dsimp only;omega) | (show _ < _;simp;omega))⟩,fun h2=>?_⟩
    ·rw [eand h2,ej h2] at he
     have:=beq_iff_eq.1 he
     simp only [Bool.false_eq_true,if_false];rw [Nat.and_comm];omega
    ·rw [ek,ej h2] at hne
     intro e;rw [e] at hne;simp at hne
    ·rw [eand h2,ej h2] at he
     simp only [Bool.false_eq_true,if_false]
     intro e;rw [Nat.and_comm] at e;rw [e] at he;simp at he
    ·rw [ek,ej h2] at hne
     have:=bne_eq_false_iff_eq.1 hne
     omega
    ·refine ⟨fun hf=>⟨hk,hk,by omega,?_⟩,fun hf=>?_⟩
     ·have hx:=(hend (by omega)).1 hf
      exact zag ((k + 1,v + 1,u)) (by refine ⟨?_,?_,?_,?_,?_,?_,by omega⟩ <;> (first | (simp (maxSteps:=5000000) -dsimp only [gr,reduceEqDiff,reduceLT,reduceAdd,reduceMod,Nat.reduceBEq,zaa,zac,zad,zab,h1a,h5a,r13a,h6a,r14a,h7a,h1b,h5b,r13b,h6b,r14b,h7b,h8b,h9b,zae hk (by omega),zg3 hk hx,zaV,zcG,ek];first | done | rfl | (simp;done)) | assumption | rfl)) (by first | omega | (simp only;omega) | (dsimp only;omega) | (show _ < _;simp;omega))
     ·have hx:=hend2 (by omega) hf
      exact zag ((k + 1,v,u)) (by refine ⟨?_,?_,?_,?_,?_,?_,by omega⟩ <;> (first | (simp (maxSteps:=5000000) -dsimp only [gr,reduceEqDiff,reduceLT,reduceAdd,reduceMod,Nat.reduceBEq,zaa,zac,zad,zab,h1a,h5a,r13a,h6a,r14a,h7a,h1b,h5b,r13b,h6b,r14b,h7b,h8b,h9b,zae hk (by omega),zkP hk hx];first | done | rfl | (simp;done)) | assumption | rfl)) (by first | omega | (simp only;omega) | (dsimp only;omega) | (show _ < _;simp;omega))
 ·have:k = all.length:=by omega
  subst this
  rw [List.take_length]
def zc6 (xs:List Int) (s:Nat):Bool:=xs.all fun e=>zb4 .i64 (s:Int) e != 0
def zGM (n:Nat) (xs:List Int) (s:Nat):Bool:=decide (s < 2 ^ n) && zc6 xs s
def zAW (n:Nat) (xs:List Int):List Int:=ofN (ziq (zGM n xs) false)
theorem zDD (n:Nat) (xs:List Int):(zAW n xs).length ≤ 448:=by
 unfold zAW ziq
 rw [zak]
 exact Nat.le_trans zg4 (zfn _)
theorem zhI (xs:List Int) (t:Nat):AC Tryz.prog 191 [int t,.eref false [zaN xs] 0] (.im (bool (zc6 xs t))):=by
 refine AC.go (rs:=[.tmp 3]) za3 zav Tryz.func191 rfl rfl rfl (by kernel_rfl) fun hl=>?_
 have hl:xs.length ≤ 9223372036854775807:=by
  have:=hl.2.1
  have:=this (zaN xs) (by simp)
  rwa [zbR] at this
 simp (maxSteps:=5000000) -dsimp only [↓gp,gq,reduceCtorEq,reduceEqDiff,reduceLT,reduceLeDiff,reduceAdd,reduceMul,reduceSub,Nat.reduceBEq,Int.reduceToNat,Int.reduceLE,Int.reduceLT,Int.reduceNeg,reduceMod,zac,zad,zab,zaa,gT,TK.isInt,TK.agg,Array.toList]
 refine zan (fun (k:Nat) s=>s.sl 0 = int t∧s.sl 6 = zaN xs∧s.sl 7 = int xs.length∧s.sl 8 = int k∧(k ≤ xs.length∧∀ i,i < k→(zb4 .i64 (t:Int) (xs.getD i 0) != 0) = true)) (fun k=>xs.length - k) (0) (by refine ⟨?_,?_,?_,?_,by simp⟩ <;> (first | (simp (maxSteps:=5000000) -dsimp only [gr,reduceEqDiff,reduceLT,reduceAdd,reduceMod,Nat.reduceBEq,zaa,zac,zad,zab];first | done | rfl | (simp;done)) | assumption | rfl)) ?_
 intro k sa ⟨h0a,h6a,h7a,h8a,hIa⟩
 obtain ⟨hk,hall⟩:=hIa
 simp (maxSteps:=5000000) -dsimp only [↓gp,gq,reduceCtorEq,reduceEqDiff,reduceLT,reduceLeDiff,reduceAdd,reduceMul,reduceSub,Nat.reduceBEq,Int.reduceToNat,Int.reduceLE,Int.reduceLT,Int.reduceNeg,reduceMod,zac,zad,zab,zaa,gT,TK.isInt,TK.agg,Array.toList,h0a,h6a,h7a,h8a]
 refine ⟨fun h=>⟨h,h,fun he=>zEB h (by simpa using he),fun he=>zag (k + 1) ⟨(by (first | (simp (maxSteps:=5000000) -dsimp only [gr,reduceEqDiff,reduceLT,reduceAdd,reduceMod,Nat.reduceBEq,zaa,zac,zad,zab,h0a,h6a,h7a,h8a,zae h hl];first | done | rfl | (simp;done)) | assumption | rfl)),(by (first | (simp (maxSteps:=5000000) -dsimp only [gr,reduceEqDiff,reduceLT,reduceAdd,reduceMod,Nat.reduceBEq,zaa,zac,zad,zab,h0a,h6a,h7a,h8a,zae h hl];first | done | rfl | (simp;done)) | assumption | rfl)),(by (first | (simp (maxSteps:=5000000) -dsimp only [gr,reduceEqDiff,reduceLT,reduceAdd,reduceMod,Nat.reduceBEq,zaa,zac,zad,zab,h0a,h6a,h7a,h8a,zae h hl];first | done | rfl | (simp;done)) | assumption | rfl)),(by (first | (simp (maxSteps:=5000000) -dsimp only [gr,reduceEqDiff,reduceLT,reduceAdd,reduceMod,Nat.reduceBEq,zaa,zac,zad,zab,h0a,h6a,h7a,h8a,zae h hl];first | done | rfl | (simp;done)) | assumption | rfl)),⟨by omega,fun i hi=>?_⟩⟩ (by first | omega | (simp only;omega) | (dsimp only;omega) | (show _ < _;simp;omega))⟩,fun h=>zwu fun i hi=>hall i (by omega)⟩
 rcases Nat.lt_succ_iff_lt_or_eq.1 hi with hi | rfl
 ·exact hall i hi
 ·simpa using he
def zF1 (n:Int) (xs:List Int):Prop:=1 ≤ n∧n ≤ 6∧xs.length ≤ 64∧∀ x ∈ xs,zcA n x = true
theorem zAX (w:Nat→Bool) (n:Nat):(zaH w n).testBit = fun s=>decide (s < n) && w s:=by funext s;exact zcS w n s
theorem zqH (w:Nat→Bool) {n:Nat} (hn:n ≤ 6):zaH w (2 ^ n) < 18446744073709551616:=by
 have h1:=zbu w (2 ^ n)
 have h2:=zao hn
 have h3:2 ^ (2 ^ n) ≤ 2 ^ 64:=Nat.pow_le_pow_right (by omega) h2
 omega
theorem zkO (n:Nat) (xs:List Int) (h:zF1 n xs):AC Tryz.prog 130 [int n,zaN xs] (.fr 3 1 (iL (zAW n xs))):=by
 refine AC.go (rs:=[.tmp 4]) za3 zav Tryz.func130 rfl rfl rfl (by kernel_rfl) fun hl=>?_
 have hd:decide (1 ≤ (n:Int)∧(n:Int) ≤ 6∧xs.length ≤ 64∧∀ x ∈ xs,zcA n x = true) = true:=decide_eq_true h
 have hn:n ≤ 6:=by have:=h.2.1;omega
 simp (maxSteps:=5000000) -dsimp only [↓gp,gq,reduceCtorEq,reduceEqDiff,reduceLT,reduceLeDiff,reduceAdd,reduceMul,reduceSub,Nat.reduceBEq,Int.reduceToNat,Int.reduceLE,Int.reduceLT,Int.reduceNeg,reduceMod,zac,zad,zab,zaa,gT,TK.isInt,TK.agg,Array.toList]
 refine zaf (ziK _ _) ?_
 simp (maxSteps:=5000000) -dsimp only [↓gp,gq,reduceCtorEq,reduceEqDiff,reduceLT,reduceLeDiff,reduceAdd,reduceMul,reduceSub,Nat.reduceBEq,Int.reduceToNat,Int.reduceLE,Int.reduceLT,Int.reduceNeg,reduceMod,zac,zad,zab,zaa,gT,TK.isInt,TK.agg,Array.toList,hd]
 refine zaf (ze5 n hn _ [.eref false [zaN xs] 0] (zc6 xs) (fun rw=>rfl) fun s _=>zhI xs s) ?_
 simp (maxSteps:=5000000) -dsimp only [↓gp,gq,reduceCtorEq,reduceEqDiff,reduceLT,reduceLeDiff,reduceAdd,reduceMul,reduceSub,Nat.reduceBEq,Int.reduceToNat,Int.reduceLE,Int.reduceLT,Int.reduceNeg,reduceMod,zac,zad,zab,zaa,gT,TK.isInt,TK.agg,Array.toList]
 refine zaf (ziJ _ (zqH _ hn)) ?_
 simp (maxSteps:=5000000) -dsimp only [↓gp,gq,reduceCtorEq,reduceEqDiff,reduceLT,reduceLeDiff,reduceAdd,reduceMul,reduceSub,Nat.reduceBEq,Int.reduceToNat,Int.reduceLE,Int.reduceLT,Int.reduceNeg,reduceMod,zac,zad,zab,zaa,gT,TK.isInt,TK.agg,Array.toList]
 rw [zAX]
 rfl
theorem zuF {n:Nat} {p:Nat→Bool} {s:Nat}:inF (ofN ((List.range n).filter p)) s = (decide (s < n) && p s):=by
 unfold inF ofN
 rw [Bool.eq_iff_iff]
 simp only [decide_eq_true_eq,Bool.and_eq_true,List.mem_map,List.mem_filter,List.mem_range]
 constructor
 ·rintro ⟨t,⟨h1,h2⟩,e⟩
  have:t = s:=by omega
  subst this
  exact ⟨h1,h2⟩
 ·rintro ⟨h1,h2⟩;exact ⟨s,⟨h1,h2⟩,rfl⟩
theorem zy4 {p:Nat→Bool} {k:Nat} (hp:p k = true):(List.range (k + 1)).filter p = (List.range k).filter p ++ [k]:=by
 rw [List.range_succ,List.filter_append];simp only [List.filter_cons,hp,if_true,List.filter_nil]
theorem zAY {p:Nat→Bool} {k:Nat} (hp:p k = false):(List.range (k + 1)).filter p = (List.range k).filter p:=by
 rw [List.range_succ,List.filter_append];simp only [List.filter_cons,hp,Bool.false_eq_true,if_false,List.filter_nil,List.append_nil]
theorem ze4 (n:Nat) (xs:List Int) (hn:n ≤ 6):AC Tryz.prog 135 [int n,zaN xs] (.fr 3 1 (iL (zAW n xs))):=by
 refine AC.go (rs:=[.tmp 4]) za3 zav Tryz.func135 rfl rfl rfl (by kernel_rfl) fun hl=>?_
 simp only [zaK,za7,and_true,zdb,zcr,true_and] at hl
 have h64:=zao hn
 have hsh:zkH .i64 1 (n:Int) = ((2 ^ n:Nat):Int):=za5 hn
 have hun:IntKind.u64.wrap (n:Int) = (n:Int):=za2 (by omega)
 simp (maxSteps:=5000000) -dsimp only [↓gp,gq,reduceCtorEq,reduceEqDiff,reduceLT,reduceLeDiff,reduceAdd,reduceMul,reduceSub,Nat.reduceBEq,Int.reduceToNat,Int.reduceLE,Int.reduceLT,Int.reduceNeg,reduceMod,zac,zad,zab,zaa,gT,TK.isInt,TK.agg,Array.toList]
 refine zan (fun (za:Nat × Nat) s=>match za with | (k,v)=>s.sl 0 = int n∧s.sl 1 = zaN xs∧s.sl 5 = .own 9 v∧s.rw 9 = ⟨v,.sli 3 1 false (iL (ofN ((List.range k).filter (zc6 xs))))⟩∧s.sl 6 = int k∧(k ≤ 2 ^ n)) (fun (k,v)=>2 ^ n - k) ((0,1)) (by refine ⟨?_,?_,?_,?_,?_,by simp⟩ <;> (first | (simp (maxSteps:=5000000) -dsimp only [gr,reduceEqDiff,reduceLT,reduceAdd,reduceMod,Nat.reduceBEq,zaa,zac,zad,zab];first | done | rfl | (simp;done)) | assumption | rfl)) ?_
 intro (k,v) sa ⟨h0a,h1a,h5a,r9a,h6a,hIa⟩
 simp (maxSteps:=5000000) -dsimp only [↓gp,gq,reduceCtorEq,reduceEqDiff,reduceLT,reduceLeDiff,reduceAdd,reduceMul,reduceSub,Nat.reduceBEq,Int.reduceToNat,Int.reduceLE,Int.reduceLT,Int.reduceNeg,reduceMod,zac,zad,zab,zaa,gT,TK.isInt,TK.agg,Array.toList,h0a,h1a,h5a,r9a,h6a,hun,hsh]
 have hlen:((List.range k).filter (zc6 xs)).length ≤ k:=Nat.le_trans zg4 (by simp)
 refine ⟨fun hk=>?_,fun hk=>?_⟩
 ·refine zan (fun (zb:Nat × Bool) s=>match zb with | (j,fine)=>s.sl 0 = int n∧s.sl 1 = zaN xs∧s.sl 5 = .own 9 v∧s.rw 9 = ⟨v,.sli 3 1 false (iL (ofN ((List.range k).filter (zc6 xs))))⟩∧s.sl 6 = int k∧s.sl 7 = bool fine∧s.sl 8 = int j∧(j ≤ xs.length∧(fine = true ↔ ∀ i,i < j→(zb4 .i64 (k:Int) (xs.getD i 0) != 0) = true))) (fun (j,fine)=>xs.length - j) ((0,true)) (by refine ⟨?_,?_,?_,?_,?_,?_,?_,by simp⟩ <;> (first | (simp (maxSteps:=5000000) -dsimp only [gr,reduceEqDiff,reduceLT,reduceAdd,reduceMod,Nat.reduceBEq,zaa,zac,zad,zab,h0a,h1a,h5a,r9a,h6a];first | done | rfl | (simp;done)) | assumption | rfl)) ?_
  intro (j,fine) sb ⟨h0b,h1b,h5b,r9b,h6b,h7b,h8b,hIb⟩
  obtain ⟨hj,hfine⟩:=hIb
  simp (maxSteps:=5000000) -dsimp only [↓gp,gq,reduceCtorEq,reduceEqDiff,reduceLT,reduceLeDiff,reduceAdd,reduceMul,reduceSub,Nat.reduceBEq,Int.reduceToNat,Int.reduceLE,Int.reduceLT,Int.reduceNeg,reduceMod,zac,zad,zab,zaa,gT,TK.isInt,TK.agg,Array.toList,h0b,h1b,h5b,r9b,h6b,h7b,h8b,zak]
  have hm:¬j < xs.length→zc6 xs k = fine:=by
   intro hj'
   have hje:j = xs.length:=by omega
   cases fine with
   | true=>exact zwu fun i hi=>hfine.1 rfl i (by omega)
   | false =>
     refine Bool.eq_false_iff.2 fun hc=>?_
     have:=hfine.2 fun i hi=>?_
     ·cases this
     ·have hi':i < xs.length:=by omega
      have:=List.all_eq_true.1 hc (xs.getD i 0) (zaD 0 hi')
      exact this
  refine ⟨fun hjl=>⟨fun hf=>⟨hjl,hjl,zag ((j + 1,zb4 .i64 (k:Int) (xs.getD j 0) != 0)) ⟨(by (first | (simp (maxSteps:=5000000) -dsimp only [gr,reduceEqDiff,reduceLT,reduceAdd,reduceMod,Nat.reduceBEq,zaa,zac,zad,zab,h0b,h1b,h5b,r9b,h6b,h7b,h8b,zae hjl hl];first | done | rfl | (simp;done)) | assumption | rfl)),(by (first | (simp (maxSteps:=5000000) -dsimp only [gr,reduceEqDiff,reduceLT,reduceAdd,reduceMod,Nat.reduceBEq,zaa,zac,zad,zab,h0b,h1b,h5b,r9b,h6b,h7b,h8b,zae hjl hl];first | done | rfl | (simp;done)) | assumption | rfl)),(by (first | (simp (maxSteps:=5000000) -dsimp only [gr,reduceEqDiff,reduceLT,reduceAdd,reduceMod,Nat.reduceBEq,zaa,zac,zad,zab,h0b,h1b,h5b,r9b,h6b,h7b,h8b,zae hjl hl];first | done | rfl | (simp;done)) | assumption | rfl)),(by (first | (simp (maxSteps:=5000000) -dsimp only [gr,reduceEqDiff,reduceLT,reduceAdd,reduceMod,Nat.reduceBEq,zaa,zac,zad,zab,h0b,h1b,h5b,r9b,h6b,h7b,h8b,zae hjl hl];first | done | rfl | (simp;done)) | assumption | rfl)),(by (first | (simp (maxSteps:=5000000) -dsimp only [gr,reduceEqDiff,reduceLT,reduceAdd,reduceMod,Nat.reduceBEq,zaa,zac,zad,zab,h0b,h1b,h5b,r9b,h6b,h7b,h8b,zae hjl hl];first | done | rfl | (simp;done)) | assumption | rfl)),(by (first | (simp (maxSteps:=5000000) -dsimp only [gr,reduceEqDiff,reduceLT,reduceAdd,reduceMod,Nat.reduceBEq,zaa,zac,zad,zab,h0b,h1b,h5b,r9b,h6b,h7b,h8b,zae hjl hl];first | done | rfl | (simp;done)) | assumption | rfl)),(by (first | (simp (maxSteps:=5000000) -dsimp only [gr,reduceEqDiff,reduceLT,reduceAdd,reduceMod,Nat.reduceBEq,zaa,zac,zad,zab,h0b,h1b,h5b,r9b,h6b,h7b,h8b,zae hjl hl];first | done | rfl | (simp;done)) | assumption | rfl)),⟨by omega,?_⟩⟩ (by first | omega | (simp only;omega) | (dsimp only;omega) | (show _ < _;simp;omega))⟩,fun hf=>zag ((j + 1,false)) ⟨(by (first | (simp (maxSteps:=5000000) -dsimp only [gr,reduceEqDiff,reduceLT,reduceAdd,reduceMod,Nat.reduceBEq,zaa,zac,zad,zab,h0b,h1b,h5b,r9b,h6b,h7b,h8b,zae hjl hl,hf];first | done | rfl | (simp;done)) | assumption | rfl)),(by (first | (simp (maxSteps:=5000000) -dsimp only [gr,reduceEqDiff,reduceLT,reduceAdd,reduceMod,Nat.reduceBEq,zaa,zac,zad,zab,h0b,h1b,h5b,r9b,h6b,h7b,h8b,zae hjl hl,hf];first | done | rfl | (simp;done)) | assumption | rfl)),(by (first | (simp (maxSteps:=5000000) -dsimp only [gr,reduceEqDiff,reduceLT,reduceAdd,reduceMod,Nat.reduceBEq,zaa,zac,zad,zab,h0b,h1b,h5b,r9b,h6b,h7b,h8b,zae hjl hl,hf];first | done | rfl | (simp;done)) | assumption | rfl)),(by (first | (simp (maxSteps:=5000000) -dsimp only [gr,reduceEqDiff,reduceLT,reduceAdd,reduceMod,Nat.reduceBEq,zaa,zac,zad,zab,h0b,h1b,h5b,r9b,h6b,h7b,h8b,zae hjl hl,hf];first | done | rfl | (simp;done)) | assumption | rfl)),(by (first | (simp (maxSteps:=5000000) -dsimp only [gr,reduceEqDiff,reduceLT,reduceAdd,reduceMod,Nat.reduceBEq,zaa,zac,zad,zab,h0b,h1b,h5b,r9b,h6b,h7b,h8b,zae hjl hl,hf];first | done | rfl | (simp;done)) | assumption | rfl)),(by (first | (simp (maxSteps:=5000000) -dsimp only [gr,reduceEqDiff,reduceLT,reduceAdd,reduceMod,Nat.reduceBEq,zaa,zac,zad,zab,h0b,h1b,h5b,r9b,h6b,h7b,h8b,zae hjl hl,hf];first | done | rfl | (simp;done)) | assumption | rfl)),(by (first | (simp (maxSteps:=5000000) -dsimp only [gr,reduceEqDiff,reduceLT,reduceAdd,reduceMod,Nat.reduceBEq,zaa,zac,zad,zab,h0b,h1b,h5b,r9b,h6b,h7b,h8b,zae hjl hl,hf];first | done | rfl | (simp;done)) | assumption | rfl)),⟨by omega,?_⟩⟩ (by first | omega | (simp only;omega) | (dsimp only;omega) | (show _ < _;simp;omega))⟩,
   fun hjl=>⟨fun hf=>⟨by omega,zag ((k + 1,v + 1)) (by refine ⟨?_,?_,?_,?_,?_,by omega⟩ <;> (first | (simp (maxSteps:=5000000) -dsimp only [gr,reduceEqDiff,reduceLT,reduceAdd,reduceMod,Nat.reduceBEq,zaa,zac,zad,zab,h0a,h1a,h5a,r9a,h6a,zae hk (by omega),h0b,h1b,h5b,r9b,h6b,h7b,h8b,zy4 ((hm hjl).trans hf),zaV,zcG];first | done | rfl | (simp;done)) | assumption | rfl)) (by first | omega | (simp only;omega) | (dsimp only;omega) | (show _ < _;simp;omega))⟩,fun hf=>zag ((k + 1,v)) (by refine ⟨?_,?_,?_,?_,?_,by omega⟩ <;> (first | (simp (maxSteps:=5000000) -dsimp only [gr,reduceEqDiff,reduceLT,reduceAdd,reduceMod,Nat.reduceBEq,zaa,zac,zad,zab,h0a,h1a,h5a,r9a,h6a,zae hk (by omega),h0b,h1b,h5b,r9b,h6b,h7b,h8b,zAY ((hm hjl).trans hf)];first | done | rfl | (simp;done)) | assumption | rfl)) (by first | omega | (simp only;omega) | (dsimp only;omega) | (show _ < _;simp;omega))⟩⟩
  ·have h:=hfine.1 hf
   constructor
   ·intro ht i hi
    rcases Nat.lt_succ_iff_lt_or_eq.1 hi with hi | rfl
    ·exact h i hi
    ·exact ht
   ·intro ha;exact ha j (by omega)
  ·subst hf
   constructor
   ·intro ht;cases ht
   ·intro ha;exact hfine.2 fun i hi=>ha i (by omega)
 ·have:k = 2 ^ n:=by omega
  subst this
  refine zaf (zeD false _ ?_) ?_
  ·intro x hx
   simp only [ofN,List.mem_map,List.mem_filter,List.mem_range] at hx
   obtain ⟨t,⟨h1,h2⟩,rfl⟩:=hx
   omega
  ·simp (maxSteps:=5000000) -dsimp only [↓gp,gq,reduceCtorEq,reduceEqDiff,reduceLT,reduceLeDiff,reduceAdd,reduceMul,reduceSub,Nat.reduceBEq,Int.reduceToNat,Int.reduceLE,Int.reduceLT,Int.reduceNeg,reduceMod,zac,zad,zab,zaa,gT,TK.isInt,TK.agg,Array.toList]
   have e:inF (ofN ((List.range (2 ^ n)).filter (zc6 xs))) = zGM n xs:=by funext s;exact zuF
   rw [e]
   rfl
theorem zmZ {n:Int} {xs:List Int} (h:zez n xs):zF1 n xs:=by
 obtain ⟨h1,h2,h3⟩:=h
 have hin:∀ k,k < xs.length→0 ≤ xs.getD k 0∧xs.getD k 0 < 64:=fun k hk=>zcd (h3 k hk).1
 have hk:∀ k:Nat,k < xs.length→(k:Int) ≤ xs.getD k 0:=by
  intro k
  induction k with
  | zero=>intro hk;have:=hin 0 hk;omega
  | succ k ih =>
    intro hk
    have e:=(h3 (k + 1) hk).2.2 (by omega)
    rw [Nat.add_sub_cancel] at e
    have:=ih (by omega)
    omega
 refine ⟨h1,h2,?_,fun x hx=>?_⟩
 ·rcases Nat.lt_or_ge 64 xs.length with hc | hc
  ·have:=hk 64 hc;have:=hin 64 hc;omega
  ·exact hc
 ·obtain ⟨i,hi,rfl⟩:=zbE 0 hx
  exact (h3 i hi).1
noncomputable def zg1 (n:Int) (xs:List Int):List Int:=if zar n xs = true then zAW n.toNat xs else []
theorem zAZ (n:Int) (xs:List Int):(zg1 n xs).length ≤ 1048576:=by
 unfold zg1
 split
 ·exact Nat.le_trans (zDD _ _) (by omega)
 ·simp
theorem zf0 (n:Int) (xs:List Int):AC Tryz.prog 55 [.ag [int n,zaN xs]] (.fr 3 1 (iL (zg1 n xs))):=by
 refine AC.go (rs:=[.tmp 2]) za3 zav Tryz.func55 rfl rfl rfl (by kernel_rfl) fun hl=>?_
 unfold zg1
 simp (maxSteps:=5000000) -dsimp only [↓gp,gq,reduceCtorEq,reduceEqDiff,reduceLT,reduceLeDiff,reduceAdd,reduceMul,reduceSub,Nat.reduceBEq,Int.reduceToNat,Int.reduceLE,Int.reduceLT,Int.reduceNeg,reduceMod,zac,zad,zab,zaa,gT,TK.isInt,TK.agg,Array.toList]
 refine zaf (zbe n xs) ?_
 simp (maxSteps:=5000000) -dsimp only [↓gp,gq,reduceCtorEq,reduceEqDiff,reduceLT,reduceLeDiff,reduceAdd,reduceMul,reduceSub,Nat.reduceBEq,Int.reduceToNat,Int.reduceLE,Int.reduceLT,Int.reduceNeg,reduceMod,zac,zad,zab,zaa,gT,TK.isInt,TK.agg,Array.toList]
 refine ⟨fun h=>?_,fun h=>?_⟩
 ·have h:zar n xs = false:=by simpa using h
  simp [h,iL]
 ·have h:zar n xs = true:=by simpa using h
  have hg:=zaC.1 h
  obtain ⟨m,rfl⟩:∃ m:Nat,n = (m:Int):=⟨n.toNat,by have:=hg.1;omega⟩
  have:m ≤ 6:=by have:=hg.2.1;omega
  refine zaf (ze4 m xs this) ?_
  simp (maxSteps:=5000000) -dsimp only [↓gp,gq,reduceCtorEq,reduceEqDiff,reduceLT,reduceLeDiff,reduceAdd,reduceMul,reduceSub,Nat.reduceBEq,Int.reduceToNat,Int.reduceLE,Int.reduceLT,Int.reduceNeg,reduceMod,zac,zad,zab,zaa,gT,TK.isInt,TK.agg,Array.toList]
  simp [h]
theorem zf1 (n:Int) (xs:List Int):AC Tryz.prog 49 [.ag [int n,zaN xs]] (.fr 3 1 (iL (zg1 n xs))):=by
 refine AC.go (rs:=[.tmp 2]) za3 zav Tryz.func49 rfl rfl rfl (by kernel_rfl) fun hl=>?_
 unfold zg1
 simp (maxSteps:=5000000) -dsimp only [↓gp,gq,reduceCtorEq,reduceEqDiff,reduceLT,reduceLeDiff,reduceAdd,reduceMul,reduceSub,Nat.reduceBEq,Int.reduceToNat,Int.reduceLE,Int.reduceLT,Int.reduceNeg,reduceMod,zac,zad,zab,zaa,gT,TK.isInt,TK.agg,Array.toList]
 refine zaf (zb7 n xs) ?_
 simp (maxSteps:=5000000) -dsimp only [↓gp,gq,reduceCtorEq,reduceEqDiff,reduceLT,reduceLeDiff,reduceAdd,reduceMul,reduceSub,Nat.reduceBEq,Int.reduceToNat,Int.reduceLE,Int.reduceLT,Int.reduceNeg,reduceMod,zac,zad,zab,zaa,gT,TK.isInt,TK.agg,Array.toList]
 refine ⟨fun h=>?_,fun h=>?_⟩
 ·have h:zar n xs = false:=by simpa using h
  simp [h,iL]
 ·have h:zar n xs = true:=by simpa using h
  have hg:=zaC.1 h
  obtain ⟨m,rfl⟩:∃ m:Nat,n = (m:Int):=⟨n.toNat,by have:=hg.1;omega⟩
  have:m ≤ 6:=by have:=hg.2.1;omega
  refine zaf (zkO m xs (zmZ hg)) ?_
  simp (maxSteps:=5000000) -dsimp only [↓gp,gq,reduceCtorEq,reduceEqDiff,reduceLT,reduceLeDiff,reduceAdd,reduceMul,reduceSub,Nat.reduceBEq,Int.reduceToNat,Int.reduceLE,Int.reduceLT,Int.reduceNeg,reduceMod,zac,zad,zab,zaa,gT,TK.isInt,TK.agg,Array.toList]
  simp [h]
theorem zlt (n:Int) (xs:List Int):AC Tryz.prog 138 [.ag [int n,zaN xs]] (.im (bool (zjA n xs))):=by
 refine AC.go (rs:=[.tmp 2]) za3 zav Tryz.func138 rfl rfl rfl (by kernel_rfl) fun hl=>?_
 simp (maxSteps:=5000000) -dsimp only [↓gp,gq,reduceCtorEq,reduceEqDiff,reduceLT,reduceLeDiff,reduceAdd,reduceMul,reduceSub,Nat.reduceBEq,Int.reduceToNat,Int.reduceLE,Int.reduceLT,Int.reduceNeg,reduceMod,zac,zad,zab,zaa,gT,TK.isInt,TK.agg,Array.toList]
 refine zaf (zcW n xs) ?_
 simp (maxSteps:=5000000) -dsimp only [↓gp,gq,reduceCtorEq,reduceEqDiff,reduceLT,reduceLeDiff,reduceAdd,reduceMul,reduceSub,Nat.reduceBEq,Int.reduceToNat,Int.reduceLE,Int.reduceLT,Int.reduceNeg,reduceMod,zac,zad,zab,zaa,gT,TK.isInt,TK.agg,Array.toList]
def zix (xs:List Int) (m:Nat):List Nat:=(List.range m).filter fun s=>zat s == 2 && !decide ((s:Int) ∈ xs)
theorem zwt (xs:List Int) (m:Nat):zix xs (m + 1) = if zat m = 2∧¬ (m:Int) ∈ xs then zix xs m ++ [m] else zix xs m:=by
 unfold zix
 rw [List.range_succ,List.filter_append]
 by_cases h1:zat m = 2 <;> by_cases h2:(m:Int) ∈ xs <;> simp [h1,h2]
theorem zAl (xs:List Int) (m:Nat):(zix xs m).length ≤ m:=by
 unfold zix
 exact Nat.le_trans (List.length_filter_le _ _) (by simp)
noncomputable def zEy (n:Int) (xs:List Int):List Int:=if zar n xs = true then ofN (zix xs (2 ^ n.toNat)) else []
noncomputable def zEz (n:Int) (xs:List Int):Int:=if zar n xs = true then n else 0
theorem zhq (n:Int) (xs:List Int):AC Tryz.prog 21 [.ag [int n,zaN xs]] (.tup [.ag [.im (int (zEz n xs)),.fr 3 1 (iL (zEy n xs))],.im (bool (zar n xs))]):=by
 refine AC.go (rs:=[.cell 2 36,.tmp 3]) za3 zav Tryz.func21 rfl rfl rfl (by kernel_rfl) fun hl=>?_
 simp (maxSteps:=5000000) -dsimp only [↓gp,gq,reduceCtorEq,reduceEqDiff,reduceLT,reduceLeDiff,reduceAdd,reduceMul,reduceSub,Nat.reduceBEq,Int.reduceToNat,Int.reduceLE,Int.reduceLT,Int.reduceNeg,reduceMod,zac,zad,zab,zaa,gT,TK.isInt,TK.agg,Array.toList]
 refine zaf (zbe n xs) ?_
 simp (maxSteps:=5000000) -dsimp only [↓gp,gq,reduceCtorEq,reduceEqDiff,reduceLT,reduceLeDiff,reduceAdd,reduceMul,reduceSub,Nat.reduceBEq,Int.reduceToNat,Int.reduceLE,Int.reduceLT,Int.reduceNeg,reduceMod,zac,zad,zab,zaa,gT,TK.isInt,TK.agg,Array.toList]
 unfold zEz zEy
 refine ⟨fun hg=>?_,fun hg=>?_⟩
 ·have hg:zar n xs = false:=by simpa using hg
  rw [hg];exact ⟨rfl,rfl,rfl⟩
 ·have hg:zar n xs = true:=by simpa using hg
  obtain ⟨m,rfl,h1,h6,_⟩:=zcM (zaC.1 hg)
  rw [if_pos hg,if_pos hg,hg,Int.toNat_natCast]
  have h64:=zao h6
  have hsh:zkH .i64 1 (m:Int) = ((2 ^ m:Nat):Int):=za5 (by omega)
  have hun:IntKind.u64.wrap (m:Int) = (m:Int):=za2 (by omega)
  have hz:iL (ofN []) = []:=rfl
  refine znP (fun (za:Nat × Nat) s=>match za with | (k,v)=>s.sl 1 = .ref 1 1 0∧s.rw 1 = ⟨1,.box 36 [int m,zaN xs]⟩∧s.sl 2 = .ref 2 1 0∧s.rw 2 = ⟨1,.box 36 [int 0,.v (.slice none 0 0)]⟩∧s.sl 4 = .ref 4 1 0∧s.rw 4 = ⟨1,.box 36 [int m,.own 90 v]⟩∧s.rw 90 = ⟨v,.sli 3 1 false (iL (ofN (zix xs k)))⟩∧s.sl 5 = int k∧(k ≤ 2 ^ m)) (fun (k,v)=>2 ^ m - k) ((0,1)) (Wk.nilBox (j:=4) (v:=1) (t:=36) (o:=1) (c:=[int m,.v (.slice none 0 0)]) 90 3 (by simp (maxSteps:=5000000) -dsimp only [gr,reduceEqDiff,reduceLT,reduceAdd,reduceMod,Nat.reduceBEq,zaa,zac,zad,zab]) rfl (by decide)) (by refine ⟨?_,?_,?_,?_,?_,?_,?_,?_,Nat.zero_le _⟩ <;> (first | (simp (maxSteps:=5000000) -dsimp only [gr,reduceEqDiff,reduceLT,reduceAdd,reduceMod,Nat.reduceBEq,zaa,zac,zad,zab,zix,List.range_zero,List.filter_nil,hz];first | done | rfl | (simp;done)) | assumption | rfl)) ?_
  intro (k,v) sa ⟨h1a,r1a,h2a,r2a,h4a,r4a,r90a,h5a,hIa⟩
  simp (maxSteps:=5000000) -dsimp only [↓gp,gq,reduceCtorEq,reduceEqDiff,reduceLT,reduceLeDiff,reduceAdd,reduceMul,reduceSub,Nat.reduceBEq,Int.reduceToNat,Int.reduceLE,Int.reduceLT,Int.reduceNeg,reduceMod,zac,zad,zab,zaa,gT,TK.isInt,TK.agg,Array.toList,h1a,r1a,h2a,r2a,h4a,r4a,r90a,h5a,hsh,hun]
  have hol:=zAl xs k
  have hos:=zwt xs k
  refine ⟨fun hlt=>zaf (zaL k (by omega)) ?_,fun hlt=>?_⟩
  ·simp (maxSteps:=5000000) -dsimp only [↓gp,gq,reduceCtorEq,reduceEqDiff,reduceLT,reduceLeDiff,reduceAdd,reduceMul,reduceSub,Nat.reduceBEq,Int.reduceToNat,Int.reduceLE,Int.reduceLT,Int.reduceNeg,reduceMod,zac,zad,zab,zaa,gT,TK.isInt,TK.agg,Array.toList,h1a,r1a,h2a,r2a,h4a,r4a,r90a,h5a,hsh,hun]
   refine ⟨fun he=>zaf (zh0 xs k) ?_,fun he=>?_⟩
   ·have he:zat k = 2:=by
     have:((zat k:Nat):Int) = 2:=by simpa using he
     omega
    simp (maxSteps:=5000000) -dsimp only [↓gp,gq,reduceCtorEq,reduceEqDiff,reduceLT,reduceLeDiff,reduceAdd,reduceMul,reduceSub,Nat.reduceBEq,Int.reduceToNat,Int.reduceLE,Int.reduceLT,Int.reduceNeg,reduceMod,zac,zad,zab,zaa,gT,TK.isInt,TK.agg,Array.toList,h1a,r1a,h2a,r2a,h4a,r4a,r90a,h5a,hsh,hun,zak]
    refine ⟨fun hb=>⟨by omega,?_⟩,fun hb=>?_⟩
    ·rw [if_pos ⟨he,by simpa using hb⟩] at hos
     exact zag ((k + 1,v + 1)) (by refine ⟨?_,?_,?_,?_,?_,?_,?_,?_,by dsimp only;omega⟩ <;> (first | (simp (maxSteps:=5000000) -dsimp only [gr,reduceEqDiff,reduceLT,reduceAdd,reduceMod,Nat.reduceBEq,zaa,zac,zad,zab,h1a,r1a,h2a,r2a,h4a,r4a,r90a,h5a,hos,zaV,zcG,zae hlt (by omega)];first | done | rfl | (simp;done)) | assumption | rfl)) (by first | omega | (simp only;omega) | (dsimp only;omega) | (show _ < _;simp;omega))
    ·rw [if_neg (fun hh=>by simp [hh.2] at hb)] at hos
     exact zag ((k + 1,v)) (by refine ⟨?_,?_,?_,?_,?_,?_,?_,?_,by dsimp only;omega⟩ <;> (first | (simp (maxSteps:=5000000) -dsimp only [gr,reduceEqDiff,reduceLT,reduceAdd,reduceMod,Nat.reduceBEq,zaa,zac,zad,zab,h1a,r1a,h2a,r2a,h4a,r4a,r90a,h5a,hos,zae hlt (by omega)];first | done | rfl | (simp;done)) | assumption | rfl)) (by first | omega | (simp only;omega) | (dsimp only;omega) | (show _ < _;simp;omega))
   ·have he:¬ zat k = 2:=fun e=>by rw [e] at he;simp at he
    rw [if_neg (fun hh=>he hh.1)] at hos
    exact zag ((k + 1,v)) (by refine ⟨?_,?_,?_,?_,?_,?_,?_,?_,by dsimp only;omega⟩ <;> (first | (simp (maxSteps:=5000000) -dsimp only [gr,reduceEqDiff,reduceLT,reduceAdd,reduceMod,Nat.reduceBEq,zaa,zac,zad,zab,h1a,r1a,h2a,r2a,h4a,r4a,r90a,h5a,hos,zae hlt (by omega)];first | done | rfl | (simp;done)) | assumption | rfl)) (by first | omega | (simp only;omega) | (dsimp only;omega) | (show _ < _;simp;omega))
  ·have hk:k = 2 ^ m:=by omega
   rw [hk] at r90a ⊢
def zrj (xs:List Int) (s i k:Nat):Bool:=(List.range k).all fun k=>!(s.testBit i && s.testBit k) || decide (((2 ^ i + 2 ^ k:Nat):Int) ∈ xs)
def zjw (xs:List Int) (s n:Nat):Bool:=(List.range n).all fun i=>zrj xs s i i
theorem zEA:∀ s,s < 64→∀ i,i < 6→∀ k,k < i→(zb4 .i64 (s:Nat) ((2 ^ i + 2 ^ k:Nat):Int) == ((2 ^ i + 2 ^ k:Nat):Int)) = (s.testBit i && s.testBit k):=by decide +kernel
theorem zvg (xs:List Int) (s i k:Nat):zrj xs s i (k + 1) = (zrj xs s i k && (!(s.testBit i && s.testBit k) || decide (((2 ^ i + 2 ^ k:Nat):Int) ∈ xs))):=by
 unfold zrj;rw [List.range_succ,List.all_append];simp
theorem zAm {xs:List Int} {s i k:Nat} (hk:k < i) (h:(!(s.testBit i && s.testBit k) || decide (((2 ^ i + 2 ^ k:Nat):Int) ∈ xs)) = false) {n:Nat} (hi:i < n):zjw xs s n = false:=by
 unfold zjw
 rw [List.all_eq_false]
 refine ⟨i,List.mem_range.2 hi,?_⟩
 unfold zrj
 rw [List.all_eq_true]
 intro hh
 have:=hh k (List.mem_range.2 hk)
 rw [h] at this;cases this
theorem ziy (n:Nat) (hn:n ≤ 6) (xs:List Int) (u:Nat) (hu:u < 64):AC Tryz.prog 116 [.ag [int n,zaN xs],int u] (.im (bool (zjw xs u n))):=by
 refine AC.go (rs:=[.tmp 4]) za3 zav Tryz.func116 rfl rfl rfl (by kernel_rfl) fun hl=>?_
 simp (maxSteps:=5000000) -dsimp only [↓gp,gq,reduceCtorEq,reduceEqDiff,reduceLT,reduceLeDiff,reduceAdd,reduceMul,reduceSub,Nat.reduceBEq,Int.reduceToNat,Int.reduceLE,Int.reduceLT,Int.reduceNeg,reduceMod,zac,zad,zab,zaa,gT,TK.isInt,TK.agg,Array.toList]
 refine zan (fun (i:Nat) s=>s.sl 1 = int u∧s.sl 2 = .ref 2 1 0∧s.rw 2 = ⟨1,.box 36 [int n,zaN xs]⟩∧s.sl 5 = int i∧(i ≤ n∧zjw xs u i = true)) (fun i=>n - i) (0) (by refine ⟨?_,?_,?_,?_,⟨Nat.zero_le _,rfl⟩⟩ <;> (first | (simp (maxSteps:=5000000) -dsimp only [gr,reduceEqDiff,reduceLT,reduceAdd,reduceMod,Nat.reduceBEq,zaa,zac,zad,zab];first | done | rfl | (simp;done)) | assumption | rfl)) ?_
 intro i sa ⟨h1a,h2a,r2a,h5a,hIa⟩
 obtain ⟨hi,hja⟩:=hIa
 simp (maxSteps:=5000000) -dsimp only [↓gp,gq,reduceCtorEq,reduceEqDiff,reduceLT,reduceLeDiff,reduceAdd,reduceMul,reduceSub,Nat.reduceBEq,Int.reduceToNat,Int.reduceLE,Int.reduceLT,Int.reduceNeg,reduceMod,zac,zad,zab,zaa,gT,TK.isInt,TK.agg,Array.toList,h1a,h2a,r2a,h5a]
 refine ⟨fun hlt=>?_,fun hlt=>?_⟩
 ·have hlt:i < n:=by omega
  refine zan (fun (k:Nat) s=>s.sl 1 = int u∧s.sl 2 = .ref 2 1 0∧s.rw 2 = ⟨1,.box 36 [int n,zaN xs]⟩∧s.sl 5 = int i∧s.sl 6 = int k∧(k ≤ i∧zrj xs u i k = true)) (fun k=>i - k) (0) (by refine ⟨?_,?_,?_,?_,?_,⟨Nat.zero_le _,rfl⟩⟩ <;> (first | (simp (maxSteps:=5000000) -dsimp only [gr,reduceEqDiff,reduceLT,reduceAdd,reduceMod,Nat.reduceBEq,zaa,zac,zad,zab,h1a,h2a,r2a,h5a];first | done | rfl | (simp;done)) | assumption | rfl)) ?_
  intro k sb ⟨h1b,h2b,r2b,h5b,h6b,hIb⟩
  obtain ⟨hk,hjb⟩:=hIb
  have hun:IntKind.u64.wrap (i:Int) = (i:Int):=za2 (by omega)
  have hun2:IntKind.u64.wrap (k:Int) = (k:Int):=za2 (by omega)
  have hp1:2 ^ i ≤ 2 ^ 5:=Nat.pow_le_pow_right (by decide) (by omega)
  have hp2:2 ^ k ≤ 2 ^ 6:=Nat.pow_le_pow_right (by decide) (by omega)
  have hi6:i ≤ 6:=by omega
  have hsh:zkH .i64 1 (i:Int) = ((2 ^ i:Nat):Int):=za5 (by omega)
  have hsh2:zkH .i64 1 (k:Int) = ((2 ^ k:Nat):Int):=za5 (by omega)
  have hw:IntKind.i64.wrap (((2 ^ i:Nat):Int) + ((2 ^ k:Nat):Int)) = ((2 ^ i + 2 ^ k:Nat):Int):=by
   clear hsh hsh2
   generalize 2 ^ i = a at *
   generalize 2 ^ k = b at *
   rw [zap (by omega) (by omega)];omega
  have hpa:k < i→(zb4 .i64 (u:Nat) ((2 ^ i + 2 ^ k:Nat):Int) == ((2 ^ i + 2 ^ k:Nat):Int)) = (u.testBit i && u.testBit k):=fun h=>zEA u hu i (by omega) k h
  have hjs:=zvg xs u i k
  simp (maxSteps:=5000000) -dsimp only [↓gp,gq,reduceCtorEq,reduceEqDiff,reduceLT,reduceLeDiff,reduceAdd,reduceMul,reduceSub,Nat.reduceBEq,Int.reduceToNat,Int.reduceLE,Int.reduceLT,Int.reduceNeg,reduceMod,zac,zad,zab,zaa,gT,TK.isInt,TK.agg,Array.toList,h1b,h2b,r2b,h5b,h6b,hun,hun2,hsh,hsh2,hw]
  refine ⟨fun hki=>?_,fun hki=>?_⟩
  ·have hki:k < i:=by omega
   rw [hpa hki]
   have hno:=zAm (xs:=xs) (s:=u) hki (n:=n)
   generalize (u.testBit i && u.testBit k) = B at *
   refine ⟨fun hb=>zaf (zh0 xs _) ?_,fun hb=>?_⟩
   ·simp (maxSteps:=5000000) -dsimp only [↓gp,gq,reduceCtorEq,reduceEqDiff,reduceLT,reduceLeDiff,reduceAdd,reduceMul,reduceSub,Nat.reduceBEq,Int.reduceToNat,Int.reduceLE,Int.reduceLT,Int.reduceNeg,reduceMod,zac,zad,zab,zaa,gT,TK.isInt,TK.agg,Array.toList,h1b,h2b,r2b,h5b,h6b]
    refine ⟨fun hm=>?_,fun hm=>?_⟩
    ·have hm:¬ ((2 ^ i + 2 ^ k:Nat):Int) ∈ xs:=by simpa using hm
     exact hno (by rw [hb,decide_eq_false hm];rfl) hlt
    ·have hm:((2 ^ i + 2 ^ k:Nat):Int) ∈ xs:=by simpa using hm
     exact zag (k + 1) (by refine ⟨?_,?_,?_,?_,?_,⟨by omega,by rw [hjs,hjb,decide_eq_true hm];simp⟩⟩ <;> (first | (simp (maxSteps:=5000000) -dsimp only [gr,reduceEqDiff,reduceLT,reduceAdd,reduceMod,Nat.reduceBEq,zaa,zac,zad,zab,h1b,h2b,r2b,h5b,h6b,zae hki (by omega)];first | done | rfl | (simp;done)) | assumption | rfl)) (by first | omega | (simp only;omega) | (dsimp only;omega) | (show _ < _;simp;omega))
   ·have hb:B = false:=by simpa using hb
    exact zag (k + 1) (by refine ⟨?_,?_,?_,?_,?_,⟨by omega,by rw [hjs,hjb,hb];rfl⟩⟩ <;> (first | (simp (maxSteps:=5000000) -dsimp only [gr,reduceEqDiff,reduceLT,reduceAdd,reduceMod,Nat.reduceBEq,zaa,zac,zad,zab,h1b,h2b,r2b,h5b,h6b,zae hki (by omega)];first | done | rfl | (simp;done)) | assumption | rfl)) (by first | omega | (simp only;omega) | (dsimp only;omega) | (show _ < _;simp;omega))
  ·have hki:k = i:=by omega
   subst hki
   have hjo:zjw xs u (k + 1) = true:=by unfold zjw at *;rw [List.range_succ,List.all_append,hja];simp [hjb]
   exact zag (k + 1) (by refine ⟨?_,?_,?_,?_,⟨by omega,hjo⟩⟩ <;> (first | (simp (maxSteps:=5000000) -dsimp only [gr,reduceEqDiff,reduceLT,reduceAdd,reduceMod,Nat.reduceBEq,zaa,zac,zad,zab,h1a,h2a,r2a,h5a,h1b,h2b,r2b,h5b,h6b,zae hlt (by omega)];first | done | rfl | (simp;done)) | assumption | rfl)) (by first | omega | (simp only;omega) | (dsimp only;omega) | (show _ < _;simp;omega))
 ·have:i = n:=by omega
  rw [← this,hja]
end Go.Proofs.YtpnknaaehcljoaaGreat

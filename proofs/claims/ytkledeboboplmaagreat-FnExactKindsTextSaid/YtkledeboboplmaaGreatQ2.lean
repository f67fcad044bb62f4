/- DERIVED by an AI agent. -/
import Derived.Test.YtkledeboboplmaaGreatQ1
import Derived.Test.YtkledeboboplmaaGreatP1
namespace Go.Proofs.YtkledeboboplmaaGreat
open Go.Abs
open Nat (reduceEqDiff reduceMod reduceAdd reduceLT reduceLeDiff reduceSub reduceMul)
set_option linter.unusedSimpArgs false
set_option linter.unusedVariables false
theorem zbF (F s:Nat) (hF:F < 18446744073709551616) (hs:s < 64):AC Tryz.prog 108 [u64 F,int s] (.im (bool (F.testBit s))):=by
 refine AC.go (rs:=[.tmp 4]) zaL mixed Tryz.func108 rfl rfl rfl (by kernel_rfl) fun hl=>?_
 have hw:IntKind.u64.wrap (s:Int) = (s:Int):=zba (by omega)
 simp (maxSteps:=9^7) -dsimp only [↓gp,gq,reduceCtorEq,reduceEqDiff,reduceLT,reduceLeDiff,reduceAdd,reduceMul,reduceSub,Nat.reduceBEq,Int.reduceToNat,Int.reduceLE,Int.reduceLT,Int.reduceNeg,reduceMod,gT,hw,zBp hF hs]
theorem zeg (F:Nat) (hF:F < 18446744073709551616):AC Tryz.prog 103 [u64 F] (.fr 3 1 (iL (ofN (za9 F.testBit)))):=by
 refine AC.go (rs:=[.tmp 2]) zaL mixed Tryz.func103 rfl rfl rfl (by kernel_rfl) fun hl=>?_
 simp (maxSteps:=9^7) -dsimp only [↓gp,gq,reduceCtorEq,reduceEqDiff,reduceLT,reduceLeDiff,reduceAdd,reduceMul,reduceSub,Nat.reduceBEq,Int.reduceToNat,Int.reduceLE,Int.reduceLT,Int.reduceNeg,reduceMod,gT]
 refine zah (fun (za:Nat × Nat) s=>match za with | (k,v)=>s.sl 0 = u64 F∧s.sl 3 = .own 3 v∧s.rw 3 = ⟨v,.sli 3 1 false (iL (ofN (zgb F.testBit k 0)))⟩∧s.sl 4 = int k∧(k ≤ 7)) (fun (k,v)=>7 - k) ((0,1)) (by refine ⟨?_,?_,?_,?_,by simp⟩ <;> (first | (simp (maxSteps:=9^7) -dsimp only [gr,reduceEqDiff,reduceLT,reduceAdd,reduceMod,Nat.reduceBEq];first | done | rfl | (simp;done)) | assumption | rfl)) ?_
 intro (k,v) sa ⟨h0a,h3a,r3a,h4a,hIa⟩
 simp (maxSteps:=9^7) -dsimp only [↓gp,gq,reduceCtorEq,reduceEqDiff,reduceLT,reduceLeDiff,reduceAdd,reduceMul,reduceSub,Nat.reduceBEq,Int.reduceToNat,Int.reduceLE,Int.reduceLT,Int.reduceNeg,reduceMod,gT,h0a,h3a,r3a,h4a]
 refine ⟨fun hk=>?_,fun hk=>?_⟩
 ·refine zah (fun (zb:Nat × Nat) s=>match zb with | (m,v)=>s.sl 0 = u64 F∧s.sl 3 = .own 3 v∧s.rw 3 = ⟨v,.sli 3 1 false (iL (ofN (zgb F.testBit k m)))⟩∧s.sl 4 = int k∧s.sl 5 = int m∧(m ≤ 64)) (fun (m,v)=>64 - m) ((0,v)) (by refine ⟨?_,?_,?_,?_,?_,by simp⟩ <;> (first | (simp (maxSteps:=9^7) -dsimp only [gr,reduceEqDiff,reduceLT,reduceAdd,reduceMod,Nat.reduceBEq,h0a,h3a,r3a,h4a];first | done | rfl | (simp;done)) | assumption | rfl)) ?_
  intro (m,v) sb ⟨h0b,h3b,r3b,h4b,h5b,hIb⟩
  simp (maxSteps:=9^7) -dsimp only [↓gp,gq,reduceCtorEq,reduceEqDiff,reduceLT,reduceLeDiff,reduceAdd,reduceMul,reduceSub,Nat.reduceBEq,Int.reduceToNat,Int.reduceLE,Int.reduceLT,Int.reduceNeg,reduceMod,gT,h0b,h3b,r3b,h4b,h5b]
  refine ⟨fun hm=>?_,fun hm=>?_⟩
  ·have hm:m < 64:=by omega
   refine zab (zbF F m hF hm) ?_
   simp (maxSteps:=9^7) -dsimp only [↓gp,gq,reduceCtorEq,reduceEqDiff,reduceLT,reduceLeDiff,reduceAdd,reduceMul,reduceSub,Nat.reduceBEq,Int.reduceToNat,Int.reduceLE,Int.reduceLT,Int.reduceNeg,reduceMod,gT,h0b,h3b,r3b,h4b,h5b]
   have hlen:=znS F.testBit k m
   have hz:zlz (m:Int) = (zat m:Nat):=by rw [zlz,if_pos (by omega)];simp
   refine ⟨fun hf=>zab (zaz _) ?_,fun hf=>?_⟩
   ·simp (maxSteps:=9^7) -dsimp only [↓gp,gq,reduceCtorEq,reduceEqDiff,reduceLT,reduceLeDiff,reduceAdd,reduceMul,reduceSub,Nat.reduceBEq,Int.reduceToNat,Int.reduceLE,Int.reduceLT,Int.reduceNeg,reduceMod,gT,h0b,h3b,r3b,h4b,h5b,hz]
    refine ⟨fun hp=>?_,fun hp=>?_⟩
    ·have hy:zgb F.testBit k (m + 1) = zgb F.testBit k m ++ [m]:=zuT (by rw [hf];simp at hp ⊢;omega)
     refine ⟨by rw [zad];omega,?_⟩
     exact zac ((m + 1,v + 1)) (by refine ⟨?_,?_,?_,?_,?_,by omega⟩ <;> (first | (simp (maxSteps:=9^7) -dsimp only [gr,reduceEqDiff,reduceLT,reduceAdd,reduceMod,Nat.reduceBEq,h0b,h3b,r3b,h4b,h5b,zaa hm (by omega),hy,zaR,zdA];first | done | rfl | (simp;done)) | assumption | rfl)) (by first | omega | (simp only;omega) | (dsimp only;omega) | (show _ < _;simp;omega))
    ·have hy:zgb F.testBit k (m + 1) = zgb F.testBit k m:=znR (by rw [hf];simp at hp ⊢;omega)
     exact zac ((m + 1,v)) (by refine ⟨?_,?_,?_,?_,?_,by omega⟩ <;> (first | (simp (maxSteps:=9^7) -dsimp only [gr,reduceEqDiff,reduceLT,reduceAdd,reduceMod,Nat.reduceBEq,h0b,h3b,r3b,h4b,h5b,zaa hm (by omega),hy];first | done | rfl | (simp;done)) | assumption | rfl)) (by first | omega | (simp only;omega) | (dsimp only;omega) | (show _ < _;simp;omega))
   ·have hy:zgb F.testBit k (m + 1) = zgb F.testBit k m:=znR (by rw [hf];rfl)
    exact zac ((m + 1,v)) (by refine ⟨?_,?_,?_,?_,?_,by omega⟩ <;> (first | (simp (maxSteps:=9^7) -dsimp only [gr,reduceEqDiff,reduceLT,reduceAdd,reduceMod,Nat.reduceBEq,h0b,h3b,r3b,h4b,h5b,zaa hm (by omega),hy];first | done | rfl | (simp;done)) | assumption | rfl)) (by first | omega | (simp only;omega) | (dsimp only;omega) | (show _ < _;simp;omega))
  ·have:m = 64:=by omega
   subst this
   have hk:k < 7:=by omega
   exact zac ((k + 1,v)) (by refine ⟨?_,?_,?_,?_,by omega⟩ <;> (first | (simp (maxSteps:=9^7) -dsimp only [gr,reduceEqDiff,reduceLT,reduceAdd,reduceMod,Nat.reduceBEq,h0a,h3a,r3a,h4a,h0b,h3b,r3b,h4b,h5b,zaa hk (by omega),zkt];first | done | rfl | (simp;done)) | assumption | rfl)) (by first | omega | (simp only;omega) | (dsimp only;omega) | (show _ < _;simp;omega))
 ·have:k = 7:=by omega
  subst this
  rw [znQ]
theorem zdf (n:Nat) (hn:n ≤ 6) (g:FuncId) (caps:List PV) (w:Nat→Bool) (hcap:∀ rw,caps.map (zck rw 3) = caps) (hw:∀ s:Nat,s < 2 ^ n→AC Tryz.prog g (int s :: caps) (.im (bool (w s)))) :
 AC Tryz.prog 122 [int n,.clo g caps] (.im (u64 (zaB w (2 ^ n):Nat))):=by
 refine AC.go (rs:=[.tmp 4]) zaL mixed Tryz.func122 rfl rfl rfl (by kernel_rfl) fun hl=>?_
 have h64:=zcg hn
 have hsh:znL .i64 1 (n:Int) = ((2 ^ n:Nat):Int):=zbt hn
 have hun:IntKind.u64.wrap (n:Int) = (n:Int):=zba (by omega)
 simp (maxSteps:=9^7) -dsimp only [↓gp,gq,reduceCtorEq,reduceEqDiff,reduceLT,reduceLeDiff,reduceAdd,reduceMul,reduceSub,Nat.reduceBEq,Int.reduceToNat,Int.reduceLE,Int.reduceLT,Int.reduceNeg,reduceMod,gT]
 refine zah (fun (k:Nat) s=>s.sl 0 = int n∧s.sl 1 = .clo g caps∧s.sl 5 = u64 (zaB w k:Nat)∧s.sl 6 = int k∧(k ≤ 2 ^ n)) (fun k=>2 ^ n - k) (0) (by refine ⟨?_,?_,?_,?_,by simp⟩ <;> (first | (simp (maxSteps:=9^7) -dsimp only [gr,reduceEqDiff,reduceLT,reduceAdd,reduceMod,Nat.reduceBEq];first | done | rfl | (simp;done)) | assumption | rfl)) ?_
 intro k sa ⟨h0a,h1a,h5a,h6a,hIa⟩
 have hlt:=zbl w k
 have h2k:(2:Nat) ^ k ≤ 2 ^ 64:=Nat.pow_le_pow_right (by omega) (by omega)
 simp (maxSteps:=9^7) -dsimp only [↓gp,gq,reduceCtorEq,reduceEqDiff,reduceLT,reduceLeDiff,reduceAdd,reduceMul,reduceSub,Nat.reduceBEq,Int.reduceToNat,Int.reduceLE,Int.reduceLT,Int.reduceNeg,reduceMod,gT,h0a,h1a,h5a,h6a,hun,hsh,hcap]
 refine ⟨fun hk=>zab (hw k hk) ?_,fun hk=>?_⟩
 ·have huk:IntKind.u64.wrap (k:Int) = (k:Int):=zba (by omega)
  have h2s:(2:Nat) ^ k < 18446744073709551616:=by
   have:(2:Nat) ^ k < 2 ^ 64:=Nat.pow_lt_pow_right (by omega) (by omega)
   omega
  have hor:ior .u64 (zaB w k:Nat) (znL .u64 1 (k:Int)) = ((zaB w k ||| 2 ^ k:Nat):Int):=by
   rw [zDr (by omega),zEh (by omega) h2s]
  simp (maxSteps:=9^7) -dsimp only [↓gp,gq,reduceCtorEq,reduceEqDiff,reduceLT,reduceLeDiff,reduceAdd,reduceMul,reduceSub,Nat.reduceBEq,Int.reduceToNat,Int.reduceLE,Int.reduceLT,Int.reduceNeg,reduceMod,gT,h0a,h1a,h5a,h6a,hun,hsh,huk,hor]
  refine ⟨fun hf=>?_,fun hf=>?_⟩
  ·have hm:zaB w (k + 1) = zaB w k ||| 2 ^ k:=by rw [zaB,if_pos hf]
   exact zac (k + 1) (by refine ⟨?_,?_,?_,?_,by omega⟩ <;> (first | (simp (maxSteps:=9^7) -dsimp only [gr,reduceEqDiff,reduceLT,reduceAdd,reduceMod,Nat.reduceBEq,h0a,h1a,h5a,h6a,zaa hk (by omega),huk,hor,hm];first | done | rfl | (simp;done)) | assumption | rfl)) (by first | omega | (simp only;omega) | (dsimp only;omega) | (show _ < _;simp;omega))
  ·have hm:zaB w (k + 1) = zaB w k:=by rw [zaB,if_neg (by rw [hf];decide)]
   exact zac (k + 1) (by refine ⟨?_,?_,?_,?_,by omega⟩ <;> (first | (simp (maxSteps:=9^7) -dsimp only [gr,reduceEqDiff,reduceLT,reduceAdd,reduceMod,Nat.reduceBEq,h0a,h1a,h5a,h6a,zaa hk (by omega),hm];first | done | rfl | (simp;done)) | assumption | rfl)) (by first | omega | (simp only;omega) | (dsimp only;omega) | (show _ < _;simp;omega))
 ·have:k = 2 ^ n:=by omega
  rw [this]
theorem zu4 {l:List Nat} {k:Nat} (h:k < l.length):l = l.take k ++ l.getD k 0 :: l.drop (k + 1):=by
 rw [← zzk 0 h,List.take_append_drop]
theorem zg2 {l:List Nat} {p:Nat→Bool} {k:Nat} (h:k < l.length) (hp:p (l.getD k 0) = true):(l.take (k + 1)).filter p = (l.take k).filter p ++ [l.getD k 0]:=by
 rw [zay 0 h,List.filter_append];simp only [List.filter_cons,hp,if_true,List.filter_nil]
theorem zkJ {l:List Nat} {p:Nat→Bool} {k:Nat} (h:k < l.length) (hp:p (l.getD k 0) = false):(l.take (k + 1)).filter p = (l.take k).filter p:=by
 rw [zay 0 h,List.filter_append];simp only [List.filter_cons,hp,Bool.false_eq_true,if_false,List.filter_nil,List.append_nil]
theorem zn3 {l:List Nat} {p:Nat→Bool}:(l.filter p).length ≤ l.length:=List.length_filter_le _ _
theorem ziz (F:Nat) (hF:F < 18446744073709551616):AC Tryz.prog 128 [u64 F] (.fr 3 1 (iL (ofN (zdW F.testBit false)))):=by
 refine AC.go (rs:=[.tmp 2]) zaL mixed Tryz.func128 rfl rfl rfl (by kernel_rfl) fun hl=>?_
 simp (maxSteps:=9^7) -dsimp only [↓gp,gq,reduceCtorEq,reduceEqDiff,reduceLT,reduceLeDiff,reduceAdd,reduceMul,reduceSub,Nat.reduceBEq,Int.reduceToNat,Int.reduceLE,Int.reduceLT,Int.reduceNeg,reduceMod,gT]
 refine zab (zeg F hF) ?_
 simp (maxSteps:=9^7) -dsimp only [↓gp,gq,reduceCtorEq,reduceEqDiff,reduceLT,reduceLeDiff,reduceAdd,reduceMul,reduceSub,Nat.reduceBEq,Int.reduceToNat,Int.reduceLE,Int.reduceLT,Int.reduceNeg,reduceMod,gT]
 have hfull:=zcY F.testBit
 have hmem:∀ k,k < (za9 F.testBit).length→(za9 F.testBit).getD k 0 < 64:=fun k hk=>(zaZ.1 (zan 0 hk)).1
 have hsplit:∀ k,k < (za9 F.testBit).length→za9 F.testBit = (za9 F.testBit).take k ++ (za9 F.testBit).getD k 0 :: (za9 F.testBit).drop (k + 1):=fun k hk=>zu4 hk
 have hmin:∀ k,k < (za9 F.testBit).length→((∃ t,t ∈ ((za9 F.testBit).take k).filter (zc3 F.testBit false)∧t &&& (za9 F.testBit).getD k 0 = t) ↔ zc3 F.testBit false ((za9 F.testBit).getD k 0) = false):=fun k hk=>zv7 (hsplit k hk)
 unfold zdW
 generalize za9 F.testBit = all at *
 refine zah (fun (za:Nat × Nat × Nat) s=>match za with | (k,v,u)=>s.sl 3 = .own 3 v∧s.rw 3 = ⟨v,.sli 3 1 false (iL (ofN ((all.take k).filter (zc3 F.testBit false))))⟩∧s.sl 10 = .own 10 u∧s.rw 10 = ⟨u,.sli 3 1 false (iL (ofN all))⟩∧s.sl 11 = int all.length∧s.sl 12 = int k∧(k ≤ all.length)) (fun (k,v,u)=>all.length - k) ((0,1,1)) (by refine ⟨?_,?_,?_,?_,?_,?_,by simp⟩ <;> (first | (simp (maxSteps:=9^7) -dsimp only [gr,reduceEqDiff,reduceLT,reduceAdd,reduceMod,Nat.reduceBEq,zad];first | done | rfl | (simp;done)) | assumption | rfl)) ?_
 intro (k,v,u) sa ⟨h3a,r3a,h10a,r10a,h11a,h12a,hIa⟩
 simp (maxSteps:=9^7) -dsimp only [↓gp,gq,reduceCtorEq,reduceEqDiff,reduceLT,reduceLeDiff,reduceAdd,reduceMul,reduceSub,Nat.reduceBEq,Int.reduceToNat,Int.reduceLE,Int.reduceLT,Int.reduceNeg,reduceMod,gT,h3a,r3a,h10a,r10a,h11a,h12a,zad]
 refine ⟨fun hk=>⟨hk,hk,?_⟩,fun hk=>?_⟩
 ·have hs:=hmem k hk
  have hge:(ofN all).getD k 0 = ((all.getD k 0:Nat):Int):=zaF hk
  generalize hout:(all.take k).filter (zc3 F.testBit false) = out at *
  have hol:out.length ≤ k:=by rw [← hout];exact Nat.le_trans zn3 (by simp;omega)
  have hom:∀ j,j < out.length→out.getD j 0 < 64:=fun j hj=>by
   have:out.getD j 0 ∈ out:=zan 0 hj
   generalize out.getD j 0 = x at *
   rw [← hout] at this
   obtain ⟨i,hi,rfl⟩:=zaY 0 (List.mem_of_mem_take (List.mem_filter.1 this).1)
   exact hmem i hi
  refine zah (fun (j:Nat) s=>s.sl 3 = .own 3 v∧s.rw 3 = ⟨v,.sli 3 1 false (iL (ofN out))⟩∧s.sl 10 = .own 10 u∧s.rw 10 = ⟨u,.sli 3 1 false (iL (ofN all))⟩∧s.sl 11 = int all.length∧s.sl 12 = int k∧s.sl 5 = int (all.getD k 0:Nat)∧s.sl 6 = bool false∧s.sl 16 = .own 3 v∧s.sl 17 = int out.length∧s.sl 18 = int j∧(j ≤ out.length∧∀ i,i < j→out.getD i 0 &&& all.getD k 0 ≠ out.getD i 0)) (fun j=>out.length - j) (0) (by refine ⟨?_,?_,?_,?_,?_,?_,?_,?_,?_,?_,?_,by simp⟩ <;> (first | (simp (maxSteps:=9^7) -dsimp only [gr,reduceEqDiff,reduceLT,reduceAdd,reduceMod,Nat.reduceBEq,h3a,r3a,h10a,r10a,h11a,h12a,hge,zad];first | done | rfl | (simp;done)) | assumption | rfl)) ?_
  intro j sb ⟨h3b,r3b,h10b,r10b,h11b,h12b,h5b,h6b,h16b,h17b,h18b,hIb⟩
  obtain ⟨hj,hall⟩:=hIb
  simp (maxSteps:=9^7) -dsimp only [↓gp,gq,reduceCtorEq,reduceEqDiff,reduceLT,reduceLeDiff,reduceAdd,reduceMul,reduceSub,Nat.reduceBEq,Int.reduceToNat,Int.reduceLE,Int.reduceLT,Int.reduceNeg,reduceMod,gT,h3b,r3b,h10b,r10b,h11b,h12b,h5b,h6b,h16b,h17b,h18b,zad]
  have hoj:j < out.length→(ofN out).getD j 0 = ((out.getD j 0:Nat):Int):=fun h=>zaF h
  have hsub:j < out.length→(zcv .i64 ((ofN out).getD j 0) ((all.getD k 0:Nat):Int) = 0 ↔ out.getD j 0 &&& all.getD k 0 = out.getD j 0):=fun h=>by
   have:=hom j h
   rw [hoj h,zbm (by omega) (by omega),← zbP]
   omega
  have hmk:=hmin k hk
  rw [hout] at hmk
  refine ⟨fun h2=>⟨h2,h2,fun he=>?_,fun he=>zac (j + 1) ⟨(by (first | (simp (maxSteps:=9^7) -dsimp only [gr,reduceEqDiff,reduceLT,reduceAdd,reduceMod,Nat.reduceBEq,h3b,r3b,h10b,r10b,h11b,h12b,h5b,h6b,h16b,h17b,h18b,zaa h2 (by omega)];first | done | rfl | (simp;done)) | assumption | rfl)),(by (first | (simp (maxSteps:=9^7) -dsimp only [gr,reduceEqDiff,reduceLT,reduceAdd,reduceMod,Nat.reduceBEq,h3b,r3b,h10b,r10b,h11b,h12b,h5b,h6b,h16b,h17b,h18b,zaa h2 (by omega)];first | done | rfl | (simp;done)) | assumption | rfl)),(by (first | (simp (maxSteps:=9^7) -dsimp only [gr,reduceEqDiff,reduceLT,reduceAdd,reduceMod,Nat.reduceBEq,h3b,r3b,h10b,r10b,h11b,h12b,h5b,h6b,h16b,h17b,h18b,zaa h2 (by omega)];first | done | rfl | (simp;done)) | assumption | rfl)),(by (first | (simp (maxSteps:=9^7) -dsimp only [gr,reduceEqDiff,reduceLT,reduceAdd,reduceMod,Nat.reduceBEq,h3b,r3b,h10b,r10b,h11b,h12b,h5b,h6b,h16b,h17b,h18b,zaa h2 (by omega)];first | done | rfl | (simp;done)) | assumption | rfl)),(by (first | (simp (maxSteps:=9^7) -dsimp only [gr,reduceEqDiff,reduceLT,reduceAdd,reduceMod,Nat.reduceBEq,h3b,r3b,h10b,r10b,h11b,h12b,h5b,h6b,h16b,h17b,h18b,zaa h2 (by omega)];first | done | rfl | (simp;done)) | assumption | rfl)),(by (first | (simp (maxSteps:=9^7) -dsimp only [gr,reduceEqDiff,reduceLT,reduceAdd,reduceMod,Nat.reduceBEq,h3b,r3b,h10b,r10b,h11b,h12b,h5b,h6b,h16b,h17b,h18b,zaa h2 (by omega)];first | done | rfl | (simp;done)) | assumption | rfl)),(by (first | (simp (maxSteps:=9^7) -dsimp only [gr,reduceEqDiff,reduceLT,reduceAdd,reduceMod,Nat.reduceBEq,h3b,r3b,h10b,r10b,h11b,h12b,h5b,h6b,h16b,h17b,h18b,zaa h2 (by omega)];first | done | rfl | (simp;done)) | assumption | rfl)),(by (first | (simp (maxSteps:=9^7) -dsimp only [gr,reduceEqDiff,reduceLT,reduceAdd,reduceMod,Nat.reduceBEq,h3b,r3b,h10b,r10b,h11b,h12b,h5b,h6b,h16b,h17b,h18b,zaa h2 (by omega)];first | done | rfl | (simp;done)) | assumption | rfl)),(by (first | (simp (maxSteps:=9^7) -dsimp only [gr,reduceEqDiff,reduceLT,reduceAdd,reduceMod,Nat.reduceBEq,h3b,r3b,h10b,r10b,h11b,h12b,h5b,h6b,h16b,h17b,h18b,zaa h2 (by omega)];first | done | rfl | (simp;done)) | assumption | rfl)),(by (first | (simp (maxSteps:=9^7) -dsimp only [gr,reduceEqDiff,reduceLT,reduceAdd,reduceMod,Nat.reduceBEq,h3b,r3b,h10b,r10b,h11b,h12b,h5b,h6b,h16b,h17b,h18b,zaa h2 (by omega)];first | done | rfl | (simp;done)) | assumption | rfl)),(by (first | (simp (maxSteps:=9^7) -dsimp only [gr,reduceEqDiff,reduceLT,reduceAdd,reduceMod,Nat.reduceBEq,h3b,r3b,h10b,r10b,h11b,h12b,h5b,h6b,h16b,h17b,h18b,zaa h2 (by omega)];first | done | rfl | (simp;done)) | assumption | rfl)),⟨by omega,fun i hi=>?_⟩⟩ (by first | omega | (simp only;omega) | (dsimp only;omega) | (show _ < _;simp;omega))⟩,fun h2=>⟨by omega,?_⟩⟩
  ·have hx:zc3 F.testBit false (all.getD k 0) = false:=hmk.1 ⟨_,zan 0 h2,(hsub h2).1 (beq_iff_eq.1 he)⟩
   have hno:(all.take (k + 1)).filter (zc3 F.testBit false) = out:=by rw [zkJ hk hx,hout]
   exact zac ((k + 1,v,u)) (by refine ⟨?_,?_,?_,?_,?_,?_,by omega⟩ <;> (first | (simp (maxSteps:=9^7) -dsimp only [gr,reduceEqDiff,reduceLT,reduceAdd,reduceMod,Nat.reduceBEq,h3a,r3a,h10a,r10a,h11a,h12a,h3b,r3b,h10b,r10b,h11b,h12b,h5b,h6b,h16b,h17b,h18b,zaa hk (by omega),hno];first | done | rfl | (simp;done)) | assumption | rfl)) (by first | omega | (simp only;omega) | (dsimp only;omega) | (show _ < _;simp;omega))
  ·rcases Nat.lt_succ_iff_lt_or_eq.1 hi with hi | rfl
   ·exact hall i hi
   ·intro e
    rw [(hsub h2).2 e] at he
    simp at he
  ·have hx:zc3 F.testBit false (all.getD k 0) = true:=by
    cases hb:zc3 F.testBit false (all.getD k 0) with
    | true=>rfl
    | false =>
      obtain ⟨t,ht,hts⟩:=hmk.2 hb
      obtain ⟨i,hi,rfl⟩:=zaY 0 ht
      exact absurd hts (hall i (by omega))
   have hyes:(all.take (k + 1)).filter (zc3 F.testBit false) = out ++ [all.getD k 0]:=by rw [zg2 hk hx,hout]
   exact zac ((k + 1,v + 1,u)) (by refine ⟨?_,?_,?_,?_,?_,?_,by omega⟩ <;> (first | (simp (maxSteps:=9^7) -dsimp only [gr,reduceEqDiff,reduceLT,reduceAdd,reduceMod,Nat.reduceBEq,h3a,r3a,h10a,r10a,h11a,h12a,h3b,r3b,h10b,r10b,h11b,h12b,h5b,h6b,h16b,h17b,h18b,zaa hk (by omega),hyes,zaR,zdA];first | done | rfl | (simp;done)) | assumption | rfl)) (by first | omega | (simp only;omega) | (dsimp only;omega) | (show _ < _;simp;omega))
 ·have:k = all.length:=by omega
  subst this
  rw [List.take_length]
noncomputable def inF (xs:List Int) (s:Nat):Bool:=decide ((s:Int) ∈ xs)
noncomputable def zdT (xs:List Int) (k:Nat):List Bool:=(List.range 64).map fun s=>inF (xs.take k) s
theorem zeh (xs:List Int) (k:Nat):(zdT xs k).length = 64:=by simp [zdT]
theorem zse (xs:List Int):List.replicate 64 false = zdT xs 0:=by
 refine List.ext_getElem (by simp [zdT]) fun j h1 h2=>?_
 rw [List.getElem_replicate]
 simp [zdT,inF]
theorem zwe {xs:List Int} {k:Nat} (h:k < xs.length) (hx:0 ≤ xs.getD k 0∧xs.getD k 0 < 64):(zdT xs k).set (xs.getD k 0).toNat true = zdT xs (k + 1):=by
 refine List.ext_getElem (by simp [zdT]) fun j h1 h2=>?_
 simp only [zdT,List.getElem_set,List.getElem_map,List.getElem_range]
 have e:inF (xs.take (k + 1)) j = (inF (xs.take k) j || decide ((j:Int) = xs.getD k 0)):=by
  unfold inF
  rw [zay 0 h,← Bool.decide_or]
  exact decide_eq_decide.2 (by simp only [List.mem_append,List.mem_singleton])
 rw [e]
 by_cases hj:(xs.getD k 0).toNat = j
 ·rw [if_pos hj]
  have:(j:Int) = xs.getD k 0:=by omega
  simp only [this,decide_true,Bool.or_true]
 ·rw [if_neg hj]
  have:¬ (j:Int) = xs.getD k 0:=by omega
  simp only [this,decide_false,Bool.or_false]
theorem zdC (xs:List Int) (hx:∀ x ∈ xs,0 ≤ x∧x < 64):AC Tryz.prog 89 [zaH xs] (.fr 3 1 (iL (ofN (za9 (inF xs))))):=by
 refine AC.go (rs:=[.tmp 2]) zaL mixed Tryz.func89 rfl rfl rfl (by kernel_rfl) fun hl=>?_
 simp only [zaJ,zaX,and_true,zcl,zbx,true_and] at hl
 simp (maxSteps:=9^7) -dsimp only [↓gp,gq,reduceCtorEq,reduceEqDiff,reduceLT,reduceLeDiff,reduceAdd,reduceMul,reduceSub,Nat.reduceBEq,Int.reduceToNat,Int.reduceLE,Int.reduceLT,Int.reduceNeg,reduceMod,gT]
 refine ⟨by decide,?_⟩
 refine zah (fun (za:Nat × Nat) s=>match za with | (k,v)=>s.sl 0 = zaH xs∧s.sl 3 = .own 8 v∧s.rw 8 = ⟨v,.sli 4 1 false (bL (zdT xs k))⟩∧s.sl 4 = int k∧(k ≤ xs.length)) (fun (k,v)=>xs.length - k) ((0,1)) (by refine ⟨?_,?_,?_,?_,by simp⟩ <;> (first | (simp (maxSteps:=9^7) -dsimp only [gr,reduceEqDiff,reduceLT,reduceAdd,reduceMod,Nat.reduceBEq,zeI,zse,Int.reduceToNat];first | done | rfl | (simp;done)) | assumption | rfl)) ?_
 intro (k,v) sa ⟨h0a,h3a,r8a,h4a,hIa⟩
 simp (maxSteps:=9^7) -dsimp only [↓gp,gq,reduceCtorEq,reduceEqDiff,reduceLT,reduceLeDiff,reduceAdd,reduceMul,reduceSub,Nat.reduceBEq,Int.reduceToNat,Int.reduceLE,Int.reduceLT,Int.reduceNeg,reduceMod,gT,h0a,h3a,r8a,h4a,zeh]
 refine ⟨fun hk=>?_,fun hk=>?_⟩
 ·have hx1:=hx _ (zan 0 hk)
  refine ⟨hk,hk,by omega,by omega,by omega,?_⟩
  exact zac ((k + 1,v)) (by refine ⟨?_,?_,?_,?_,by omega⟩ <;> (first | (simp (maxSteps:=9^7) -dsimp only [gr,reduceEqDiff,reduceLT,reduceAdd,reduceMod,Nat.reduceBEq,h0a,h3a,r8a,h4a,zaa hk hl,zwe hk hx1];first | done | rfl | (simp;done)) | assumption | rfl)) (by first | omega | (simp only;omega) | (dsimp only;omega) | (show _ < _;simp;omega))
 ·have:k = xs.length:=by omega
  subst this
  have hall:∀ s,s < 64→(zdT xs xs.length).getD s false = inF xs s:=fun s hs=>by
   rw [zb9 false (by rw [zeh];exact hs)]
   simp [zdT]
  have hrl:=zeh xs xs.length
  generalize zdT xs xs.length = row at *
  refine zah (fun (zb:Nat × Nat × Nat) s=>match zb with | (k,v,u)=>s.sl 3 = .own 8 u∧s.rw 8 = ⟨u,.sli 4 1 false (bL row)⟩∧s.sl 5 = .own 21 v∧s.rw 21 = ⟨v,.sli 3 1 false (iL (ofN (zgb (inF xs) k 0)))⟩∧s.sl 6 = int k∧(k ≤ 7)) (fun (k,v,u)=>7 - k) ((0,(sa.rw 21).ver + 1,v)) (by refine ⟨?_,?_,?_,?_,?_,by simp⟩ <;> (first | (simp (maxSteps:=9^7) -dsimp only [gr,reduceEqDiff,reduceLT,reduceAdd,reduceMod,Nat.reduceBEq,h0a,h3a,r8a,h4a];first | done | rfl | (simp;done)) | assumption | rfl)) ?_
  intro (k,v,u) sb ⟨h3b,r8b,h5b,r21b,h6b,hIb⟩
  simp (maxSteps:=9^7) -dsimp only [↓gp,gq,reduceCtorEq,reduceEqDiff,reduceLT,reduceLeDiff,reduceAdd,reduceMul,reduceSub,Nat.reduceBEq,Int.reduceToNat,Int.reduceLE,Int.reduceLT,Int.reduceNeg,reduceMod,gT,h3b,r8b,h5b,r21b,h6b]
  refine ⟨fun hk=>?_,fun hk=>?_⟩
  ·refine zah (fun (zc:Nat × Nat) s=>match zc with | (m,v)=>s.sl 3 = .own 8 u∧s.rw 8 = ⟨u,.sli 4 1 false (bL row)⟩∧s.sl 5 = .own 21 v∧s.rw 21 = ⟨v,.sli 3 1 false (iL (ofN (zgb (inF xs) k m)))⟩∧s.sl 6 = int k∧s.sl 7 = int m∧(m ≤ 64)) (fun (m,v)=>64 - m) ((0,v)) (by refine ⟨?_,?_,?_,?_,?_,?_,by simp⟩ <;> (first | (simp (maxSteps:=9^7) -dsimp only [gr,reduceEqDiff,reduceLT,reduceAdd,reduceMod,Nat.reduceBEq,h3b,r8b,h5b,r21b,h6b];first | done | rfl | (simp;done)) | assumption | rfl)) ?_
   intro (m,v) sc ⟨h3c,r8c,h5c,r21c,h6c,h7c,hIc⟩
   simp (maxSteps:=9^7) -dsimp only [↓gp,gq,reduceCtorEq,reduceEqDiff,reduceLT,reduceLeDiff,reduceAdd,reduceMul,reduceSub,Nat.reduceBEq,Int.reduceToNat,Int.reduceLE,Int.reduceLT,Int.reduceNeg,reduceMod,gT,h3c,r8c,h5c,r21c,h6c,h7c,hrl]
   have hlen:=znS (inF xs) k m
   refine ⟨fun hm=>⟨by omega,by omega,?_⟩,fun hm=>?_⟩
   ·have hm:m < 64:=by omega
    rw [hall m hm]
    refine ⟨fun hf=>zab (zcD (by omega) (by omega)) ?_,fun hf=>?_⟩
    ·simp (maxSteps:=9^7) -dsimp only [↓gp,gq,reduceCtorEq,reduceEqDiff,reduceLT,reduceLeDiff,reduceAdd,reduceMul,reduceSub,Nat.reduceBEq,Int.reduceToNat,Int.reduceLE,Int.reduceLT,Int.reduceNeg,reduceMod,gT,h3c,r8c,h5c,r21c,h6c,h7c,Int.toNat_natCast]
     refine ⟨fun hp=>?_,fun hp=>?_⟩
     ·have hy:zgb (inF xs) k (m + 1) = zgb (inF xs) k m ++ [m]:=zuT (by rw [hf];simp at hp ⊢;omega)
      refine ⟨by rw [zad];omega,?_⟩
      exact zac ((m + 1,v + 1)) (by refine ⟨?_,?_,?_,?_,?_,?_,by omega⟩ <;> (first | (simp (maxSteps:=9^7) -dsimp only [gr,reduceEqDiff,reduceLT,reduceAdd,reduceMod,Nat.reduceBEq,h3c,r8c,h5c,r21c,h6c,h7c,zaa hm (by omega),hy,zaR,zdA];first | done | rfl | (simp;done)) | assumption | rfl)) (by first | omega | (simp only;omega) | (dsimp only;omega) | (show _ < _;simp;omega))
     ·have hy:zgb (inF xs) k (m + 1) = zgb (inF xs) k m:=znR (by rw [hf];simp at hp ⊢;omega)
      exact zac ((m + 1,v)) (by refine ⟨?_,?_,?_,?_,?_,?_,by omega⟩ <;> (first | (simp (maxSteps:=9^7) -dsimp only [gr,reduceEqDiff,reduceLT,reduceAdd,reduceMod,Nat.reduceBEq,h3c,r8c,h5c,r21c,h6c,h7c,zaa hm (by omega),hy];first | done | rfl | (simp;done)) | assumption | rfl)) (by first | omega | (simp only;omega) | (dsimp only;omega) | (show _ < _;simp;omega))
    ·have hy:zgb (inF xs) k (m + 1) = zgb (inF xs) k m:=znR (by rw [hf];rfl)
     exact zac ((m + 1,v)) (by refine ⟨?_,?_,?_,?_,?_,?_,by omega⟩ <;> (first | (simp (maxSteps:=9^7) -dsimp only [gr,reduceEqDiff,reduceLT,reduceAdd,reduceMod,Nat.reduceBEq,h3c,r8c,h5c,r21c,h6c,h7c,zaa hm (by omega),hy];first | done | rfl | (simp;done)) | assumption | rfl)) (by first | omega | (simp only;omega) | (dsimp only;omega) | (show _ < _;simp;omega))
   ·have:m = 64:=by omega
    subst this
    have hk:k < 7:=by omega
    exact zac ((k + 1,v,u)) (by refine ⟨?_,?_,?_,?_,?_,by omega⟩ <;> (first | (simp (maxSteps:=9^7) -dsimp only [gr,reduceEqDiff,reduceLT,reduceAdd,reduceMod,Nat.reduceBEq,h3b,r8b,h5b,r21b,h6b,h3c,r8c,h5c,r21c,h6c,h7c,zaa hk (by omega),zkt];first | done | rfl | (simp;done)) | assumption | rfl)) (by first | omega | (simp only;omega) | (dsimp only;omega) | (show _ < _;simp;omega))
  ·have:k = 7:=by omega
   subst this
   rw [znQ]
theorem zey (g:Bool) (xs:List Int) (hx:∀ x ∈ xs,0 ≤ x∧x < 64):AC Tryz.prog 94 [zaH xs,bool g] (.fr 3 1 (iL (ofN (zdW (inF xs) g)))):=by
 refine AC.go (rs:=[.tmp 4]) zaL mixed Tryz.func94 rfl rfl rfl (by kernel_rfl) fun hl=>?_
 simp only [zaJ,zaX,and_true,zcl,zbx,true_and] at hl
 simp (maxSteps:=9^7) -dsimp only [↓gp,gq,reduceCtorEq,reduceEqDiff,reduceLT,reduceLeDiff,reduceAdd,reduceMul,reduceSub,Nat.reduceBEq,Int.reduceToNat,Int.reduceLE,Int.reduceLT,Int.reduceNeg,reduceMod,gT]
 refine zab (zdC xs hx) ?_
 simp (maxSteps:=9^7) -dsimp only [↓gp,gq,reduceCtorEq,reduceEqDiff,reduceLT,reduceLeDiff,reduceAdd,reduceMul,reduceSub,Nat.reduceBEq,Int.reduceToNat,Int.reduceLE,Int.reduceLT,Int.reduceNeg,reduceMod,gT]
 have hfull:=zcY (inF xs)
 have hmemf:∀ t,t ∈ za9 (inF xs) ↔ t < 64∧inF xs t = true:=fun t=>zaZ
 unfold zdW
 have hext:∀ s,s < 64→(zc3 (inF xs) g s = true ↔ ∀ t,t ∈ za9 (inF xs)→(if g = true then s &&& t = s else t &&& s = t)→t = s):=fun s hs=>by
  cases g with
  | true=>rw [zcL];simp only [if_true];exact ⟨fun h t ht=>h t ((hmemf t).1 ht).1 ((hmemf t).1 ht).2,fun h t h1 h2=>h t ((hmemf t).2 ⟨h1,h2⟩)⟩
  | false=>rw [zi4];simp only [Bool.false_eq_true,if_false];exact ⟨fun h t ht=>h t ((hmemf t).1 ht).1 ((hmemf t).1 ht).2,fun h t h1 h2=>h t ((hmemf t).2 ⟨h1,h2⟩)⟩
 generalize za9 (inF xs) = all at *
 have hmem:∀ k,k < all.length→all.getD k 0 < 64:=fun k hk=>((hmemf _).1 (zan 0 hk)).1
 refine zah (fun (za:Nat × Nat × Nat) s=>match za with | (k,v,u)=>s.sl 1 = bool g∧s.sl 5 = .own 13 u∧s.rw 13 = ⟨u,.sli 3 1 false (iL (ofN all))⟩∧s.sl 6 = .own 14 v∧s.rw 14 = ⟨v,.sli 3 1 false (iL (ofN ((all.take k).filter (zc3 (inF xs) g))))⟩∧s.sl 7 = int k∧(k ≤ all.length)) (fun (k,v,u)=>all.length - k) ((0,1,1)) (by refine ⟨?_,?_,?_,?_,?_,?_,by simp⟩ <;> (first | (simp (maxSteps:=9^7) -dsimp only [gr,reduceEqDiff,reduceLT,reduceAdd,reduceMod,Nat.reduceBEq];first | done | rfl | (simp;done)) | assumption | rfl)) ?_
 intro (k,v,u) sa ⟨h1a,h5a,r13a,h6a,r14a,h7a,hIa⟩
 simp (maxSteps:=9^7) -dsimp only [↓gp,gq,reduceCtorEq,reduceEqDiff,reduceLT,reduceLeDiff,reduceAdd,reduceMul,reduceSub,Nat.reduceBEq,Int.reduceToNat,Int.reduceLE,Int.reduceLT,Int.reduceNeg,reduceMod,gT,h1a,h5a,r13a,h6a,r14a,h7a,zad]
 have hol:((all.take k).filter (zc3 (inF xs) g)).length ≤ k:=Nat.le_trans zn3 (by simp;omega)
 refine ⟨fun hk=>?_,fun hk=>?_⟩
 ·have hs:=hmem k hk
  refine zah (fun (zb:Nat × Bool) s=>match zb with | (j,fine)=>s.sl 1 = bool g∧s.sl 5 = .own 13 u∧s.rw 13 = ⟨u,.sli 3 1 false (iL (ofN all))⟩∧s.sl 6 = .own 14 v∧s.rw 14 = ⟨v,.sli 3 1 false (iL (ofN ((all.take k).filter (zc3 (inF xs) g))))⟩∧s.sl 7 = int k∧s.sl 8 = bool fine∧s.sl 9 = int j∧(j ≤ all.length∧(fine = true ↔ ∀ i,i < j→(if g = true then all.getD k 0 &&& all.getD i 0 = all.getD k 0 else all.getD i 0 &&& all.getD k 0 = all.getD i 0)→all.getD i 0 = all.getD k 0))) (fun (j,fine)=>all.length - j) ((0,true)) (by refine ⟨?_,?_,?_,?_,?_,?_,?_,?_,by simp⟩ <;> (first | (simp (maxSteps:=9^7) -dsimp only [gr,reduceEqDiff,reduceLT,reduceAdd,reduceMod,Nat.reduceBEq,h1a,h5a,r13a,h6a,r14a,h7a];first | done | rfl | (simp;done)) | assumption | rfl)) ?_
  intro (j,fine) sb ⟨h1b,h5b,r13b,h6b,r14b,h7b,h8b,h9b,hIb⟩
  obtain ⟨hj,hfine⟩:=hIb
  have ek:(ofN all).getD k 0 = ((all.getD k 0:Nat):Int):=zaF hk
  have ej:j < all.length→(ofN all).getD j 0 = ((all.getD j 0:Nat):Int):=fun h=>zaF h
  have eand:j < all.length→zfO .i64 ((ofN all).getD k 0) ((ofN all).getD j 0) = ((all.getD k 0 &&& all.getD j 0:Nat):Int):=fun h=>by
   have:=hmem j h
   rw [ek,ej h,za7 (by omega) (by omega)]
  have hend:j = all.length→(fine = true ↔ zc3 (inF xs) g (all.getD k 0) = true):=fun h=>by
   rw [hfine,hext _ hs]
   exact ⟨fun h2 t ht=>by obtain ⟨i,hi,rfl⟩:=zaY 0 ht;exact h2 i (by omega),fun h2 i hi=>h2 _ (zan 0 (by omega))⟩
  have hend2:j = all.length→fine = false→zc3 (inF xs) g (all.getD k 0) = false:=fun h hf=>by
   cases hb:zc3 (inF xs) g (all.getD k 0) with
   | false=>rfl
   | true=>rw [(hend h).2 hb] at hf;cases hf
  have pfT:(if g = true then all.getD k 0 &&& all.getD j 0 = all.getD k 0 else all.getD j 0 &&& all.getD k 0 = all.getD j 0)→all.getD j 0 ≠ all.getD k 0→(false = true ↔ ∀ i,i < j + 1→(if g = true then all.getD k 0 &&& all.getD i 0 = all.getD k 0 else all.getD i 0 &&& all.getD k 0 = all.getD i 0)→all.getD i 0 = all.getD k 0):=fun hr hne =>
   ⟨fun h=>(by cases h),fun h=>absurd (h j (by omega) hr) hne⟩
  have pfF:(¬ (if g = true then all.getD k 0 &&& all.getD j 0 = all.getD k 0 else all.getD j 0 &&& all.getD k 0 = all.getD j 0) ∨ all.getD j 0 = all.getD k 0)→(fine = true ↔ ∀ i,i < j + 1→(if g = true then all.getD k 0 &&& all.getD i 0 = all.getD k 0 else all.getD i 0 &&& all.getD k 0 = all.getD i 0)→all.getD i 0 = all.getD k 0):=fun hr=>by
   rw [hfine]
   constructor
   ·intro h i hi
    rcases Nat.lt_succ_iff_lt_or_eq.1 hi with hi | rfl
    ·exact h i hi
    ·exact fun h2=>hr.elim (fun h3=>absurd h2 h3) id
   ·intro h i hi;exact h i (by omega)
  cases g with
  | true =>
    simp (maxSteps:=9^7) -dsimp only [↓gp,gq,reduceCtorEq,reduceEqDiff,reduceLT,reduceLeDiff,reduceAdd,reduceMul,reduceSub,Nat.reduceBEq,Int.reduceToNat,Int.reduceLE,Int.reduceLT,Int.reduceNeg,reduceMod,gT,h1b,h5b,r13b,h6b,r14b,h7b,h8b,h9b,zad]
    refine ⟨fun h2=>⟨hk,hk,h2,h2,fun hne=>⟨fun he=>zac ((j + 1,fine)) ⟨(by (first | (simp (maxSteps:=9^7) -dsimp only [gr,reduceEqDiff,reduceLT,reduceAdd,reduceMod,Nat.reduceBEq,h1b,h5b,r13b,h6b,r14b,h7b,h8b,h9b,zaa h2 (by omega)];first | done | rfl | (simp;done)) | assumption | rfl)),(by (first | (simp (maxSteps:=9^7) -dsimp only [gr,reduceEqDiff,reduceLT,reduceAdd,reduceMod,Nat.reduceBEq,h1b,h5b,r13b,h6b,r14b,h7b,h8b,h9b,zaa h2 (by omega)];first | done | rfl | (simp;done)) | assumption | rfl)),(by (first | (simp (maxSteps:=9^7) -dsimp only [gr,reduceEqDiff,reduceLT,reduceAdd,reduceMod,Nat.reduceBEq,h1b,h5b,r13b,h6b,r14b,h7b,h8b,h9b,zaa h2 (by omega)];first | done | rfl | (simp;done)) | assumption | rfl)),(by (first | (simp (maxSteps:=9^7) -dsimp only [gr,reduceEqDiff,reduceLT,reduceAdd,reduceMod,Nat.reduceBEq,h1b,h5b,r13b,h6b,r14b,h7b,h8b,h9b,zaa h2 (by omega)];first | done | rfl | (simp;done)) | assumption | rfl)),(by (first | (simp (maxSteps:=9^7) -dsimp only [gr,reduceEqDiff,reduceLT,reduceAdd,reduceMod,Nat.reduceBEq,h1b,h5b,r13b,h6b,r14b,h7b,h8b,h9b,zaa h2 (by omega)];first | done | rfl | (simp;done)) | assumption | rfl)),(by (first | (simp (maxSteps:=9^7) -dsimp only [gr,reduceEqDiff,reduceLT,reduceAdd,reduceMod,Nat.reduceBEq,h1b,h5b,r13b,h6b,r14b,h7b,h8b,h9b,zaa h2 (by omega)];first | done | rfl | (simp;done)) | assumption | rfl)),(by (first | (simp (maxSteps:=9^7) -dsimp only [gr,reduceEqDiff,reduceLT,reduceAdd,reduceMod,Nat.reduceBEq,h1b,h5b,r13b,h6b,r14b,h7b,h8b,h9b,zaa h2 (by omega)];first | done | rfl | (simp;done)) | assumption | rfl)),(by (first | (simp (maxSteps:=9^7) -dsimp only [gr,reduceEqDiff,reduceLT,reduceAdd,reduceMod,Nat.reduceBEq,h1b,h5b,r13b,h6b,r14b,h7b,h8b,h9b,zaa h2 (by omega)];first | done | rfl | (simp;done)) | assumption | rfl)),⟨by omega,pfF (.inl ?_)⟩⟩ (by first | omega | (simp only;omega) | (dsimp only;omega) | (show _ < _;simp;omega)),fun he=>zac ((j + 1,false)) ⟨(by (first | (simp (maxSteps:=9^7) -dsimp only [gr,reduceEqDiff,reduceLT,reduceAdd,reduceMod,Nat.reduceBEq,h1b,h5b,r13b,h6b,r14b,h7b,h8b,h9b,zaa h2 (by omega)];first | done | rfl | (simp;done)) | assumption | rfl)),(by (first | (simp (maxSteps:=9^7) -dsimp only [gr,reduceEqDiff,reduceLT,reduceAdd,reduceMod,Nat.reduceBEq,h1b,h5b,r13b,h6b,r14b,h7b,h8b,h9b,zaa h2 (by omega)];first | done | rfl | (simp;done)) | assumption | rfl)),(by (first | (simp (maxSteps:=9^7) -dsimp only [gr,reduceEqDiff,reduceLT,reduceAdd,reduceMod,Nat.reduceBEq,h1b,h5b,r13b,h6b,r14b,h7b,h8b,h9b,zaa h2 (by omega)];first | done | rfl | (simp;done)) | assumption | rfl)),(by (first | (simp (maxSteps:=9^7) -dsimp only [gr,reduceEqDiff,reduceLT,reduceAdd,reduceMod,Nat.reduceBEq,h1b,h5b,r13b,h6b,r14b,h7b,h8b,h9b,zaa h2 (by omega)];first | done | rfl | (simp;done)) | assumption | rfl)),(by (first | (simp (maxSteps:=9^7) -dsimp only [gr,reduceEqDiff,reduceLT,reduceAdd,reduceMod,Nat.reduceBEq,h1b,h5b,r13b,h6b,r14b,h7b,h8b,h9b,zaa h2 (by omega)];first | done | rfl | (simp;done)) | assumption | rfl)),(by (first | (simp (maxSteps:=9^7) -dsimp only [gr,reduceEqDiff,reduceLT,reduceAdd,reduceMod,Nat.reduceBEq,h1b,h5b,r13b,h6b,r14b,h7b,h8b,h9b,zaa h2 (by omega)];first | done | rfl | (simp;done)) | assumption | rfl)),(by (first | (simp (maxSteps:=9^7) -dsimp only [gr,reduceEqDiff,reduceLT,reduceAdd,reduceMod,Nat.reduceBEq,h1b,h5b,r13b,h6b,r14b,h7b,h8b,h9b,zaa h2 (by omega)];first | done | rfl | (simp;done)) | assumption | rfl)),(by (first | (simp (maxSteps:=9^7) -dsimp only [gr,reduceEqDiff,reduceLT,reduceAdd,reduceMod,Nat.reduceBEq,h1b,h5b,r13b,h6b,r14b,h7b,h8b,h9b,zaa h2 (by omega)];first | done | rfl | (simp;done)) | assumption | rfl)),⟨by omega,pfT ?_ ?_⟩⟩ (by first | omega | (simp only;omega) | (dsimp only;omega) | (show _ < _;simp;omega))⟩,fun hne=>zac ((j + 1,fine)) ⟨(by (first | (simp (maxSteps:=9^7) -dsimp only [gr,reduceEqDiff,reduceLT,reduceAdd,reduceMod,Nat.reduceBEq,h1b,h5b,r13b,h6b,r14b,h7b,h8b,h9b,zaa h2 (by omega)];first | done | rfl | (simp;done)) | assumption | rfl)),(by (first | (simp (maxSteps:=9^7) -dsimp only [gr,reduceEqDiff,reduceLT,reduceAdd,reduceMod,Nat.reduceBEq,h1b,h5b,r13b,h6b,r14b,h7b,h8b,h9b,zaa h2 (by omega)];first | done | rfl | (simp;done)) | assumption | rfl)),(by (first | (simp (maxSteps:=9^7) -dsimp only [gr,reduceEqDiff,reduceLT,reduceAdd,reduceMod,Nat.reduceBEq,h1b,h5b,r13b,h6b,r14b,h7b,h8b,h9b,zaa h2 (by omega)];first | done | rfl | (simp;done)) | assumption | rfl)),(by (first | (simp (maxSteps:=9^7) -dsimp only [gr,reduceEqDiff,reduceLT,reduceAdd,reduceMod,Nat.reduceBEq,h1b,h5b,r13b,h6b,r14b,h7b,h8b,h9b,zaa h2 (by omega)];first | done | rfl | (simp;done)) | assumption | rfl)),(by (first | (simp (maxSteps:=9^7) -dsimp only [gr,reduceEqDiff,reduceLT,reduceAdd,reduceMod,Nat.reduceBEq,h1b,h5b,r13b,h6b,r14b,h7b,h8b,h9b,zaa h2 (by omega)];first | done | rfl | (simp;done)) | assumption | rfl)),(by (first | (simp (maxSteps:=9^7) -dsimp only [gr,reduceEqDiff,reduceLT,reduceAdd,reduceMod,Nat.reduceBEq,h1b,h5b,r13b,h6b,r14b,h7b,h8b,h9b,zaa h2 (by omega)];first | done | rfl | (simp;done)) | assumption | rfl)),(by (first | (simp (maxSteps:=9^7) -dsimp only [gr,reduceEqDiff,reduceLT,reduceAdd,reduceMod,Nat.reduceBEq,h1b,h5b,r13b,h6b,r14b,h7b,h8b,h9b,zaa h2 (by omega)];first | done | rfl | (simp;done)) | assumption | rfl)),(by (first | (simp (maxSteps:=9^7) -dsimp only [gr,reduceEqDiff,reduceLT,reduceAdd,reduceMod,Nat.reduceBEq,h1b,h5b,r13b,h6b,r14b,h7b,h8b,h9b,zaa h2 (by omega)];first | done | rfl | (simp;done)) | assumption | rfl)),⟨by omega,pfF (.inr ?_)⟩⟩ (by first | omega | (simp only;omega) | (dsimp only;omega) | (show _ < _;simp;omega))⟩,fun h2=>?_⟩
    ·rw [eand h2,ek] at he
     simp only [if_true]
     intro e;rw [e] at he;simp at he
    ·rw [eand h2,ek] at he
     have:=beq_iff_eq.1 he
     simp only [if_true];omega
    ·rw [ek,ej h2] at hne
     intro e;rw [e] at hne;simp at hne
    ·rw [ek,ej h2] at hne
     have:=bne_eq_false_iff_eq.1 hne
     omega
    ·refine ⟨fun hf=>⟨hk,hk,by omega,?_⟩,fun hf=>?_⟩
     ·have hx:=(hend (by omega)).1 hf
      exact zac ((k + 1,v + 1,u)) (by refine ⟨?_,?_,?_,?_,?_,?_,by omega⟩ <;> (first | (simp (maxSteps:=9^7) -dsimp only [gr,reduceEqDiff,reduceLT,reduceAdd,reduceMod,Nat.reduceBEq,h1a,h5a,r13a,h6a,r14a,h7a,h1b,h5b,r13b,h6b,r14b,h7b,h8b,h9b,zaa hk (by omega),zg2 hk hx,zaR,zdA,ek];first | done | rfl | (simp;done)) | assumption | rfl)) (by first | omega | (simp only;omega) | (dsimp only;omega) | (show _ < _;simp;omega))
     ·have hx:=hend2 (by omega) hf
      exact zac ((k + 1,v,u)) (by refine ⟨?_,?_,?_,?_,?_,?_,by omega⟩ <;> (first | (simp (maxSteps:=9^7) -dsimp only [gr,reduceEqDiff,reduceLT,reduceAdd,reduceMod,Nat.reduceBEq,h1a,h5a,r13a,h6a,r14a,h7a,h1b,h5b,r13b,h6b,r14b,h7b,h8b,h9b,zaa hk (by omega),zkJ hk hx];first | done | rfl | (simp;done)) | assumption | rfl)) (by first | omega | (simp only;omega) | (dsimp only;omega) | (show _ < _;simp;omega))
  | false =>
    simp (maxSteps:=9^7) -dsimp only [↓gp,gq,reduceCtorEq,reduceEqDiff,reduceLT,reduceLeDiff,reduceAdd,reduceMul,reduceSub,Nat.reduceBEq,Int.reduceToNat,Int.reduceLE,Int.reduceLT,Int.reduceNeg,reduceMod,gT,h1b,h5b,r13b,h6b,r14b,h7b,h8b,h9b,zad]
    refine ⟨fun h2=>⟨hk,hk,h2,h2,fun hne=>⟨fun he=>zac ((j + 1,false)) ⟨(by (first | (simp (maxSteps:=9^7) -dsimp only [gr,reduceEqDiff,reduceLT,reduceAdd,reduceMod,Nat.reduceBEq,h1b,h5b,r13b,h6b,r14b,h7b,h8b,h9b,zaa h2 (by omega)];first | done | rfl | (simp;done)) | assumption | rfl)),(by (first | (simp (maxSteps:=9^7) -dsimp only [gr,reduceEqDiff,reduceLT,reduceAdd,reduceMod,Nat.reduceBEq,h1b,h5b,r13b,h6b,r14b,h7b,h8b,h9b,zaa h2 (by omega)];first | done | rfl | (simp;done)) | assumption | rfl)),(by (first | (simp (maxSteps:=9^7) -dsimp only [gr,reduceEqDiff,reduceLT,reduceAdd,reduceMod,Nat.reduceBEq,h1b,h5b,r13b,h6b,r14b,h7b,h8b,h9b,zaa h2 (by omega)];first | done | rfl | (simp;done)) | assumption | rfl)),(by (first | (simp (maxSteps:=9^7) -dsimp only [gr,reduceEqDiff,reduceLT,reduceAdd,reduceMod,Nat.reduceBEq,h1b,h5b,r13b,h6b,r14b,h7b,h8b,h9b,zaa h2 (by omega)];first | done | rfl | (simp;done)) | assumption | rfl)),(by (first | (simp (maxSteps:=9^7) -dsimp only [gr,reduceEqDiff,reduceLT,reduceAdd,reduceMod,Nat.reduceBEq,h1b,h5b,r13b,h6b,r14b,h7b,h8b,h9b,zaa h2 (by omega)];first | done | rfl | (simp;done)) | assumption | rfl)),(by (first | (simp (maxSteps:=9^7) -dsimp only [gr,reduceEqDiff,reduceLT,reduceAdd,reduceMod,Nat.reduceBEq,h1b,h5b,r13b,h6b,r14b,h7b,h8b,h9b,zaa h2 (by omega)];first | done | rfl | (simp;done)) | assumption | rfl)),(by (first | (simp (maxSteps:=9^7) -dsimp only [gr,reduceEqDiff,reduceLT,reduceAdd,reduceMod,Nat.reduceBEq,h1b,h5b,r13b,h6b,r14b,h7b,h8b,h9b,zaa h2 (by omega)];first | done | rfl | (simp;done)) | assumption | rfl)),(by (first | (simp (maxSteps:=9^7) -dsimp only [gr,reduceEqDiff,reduceLT,reduceAdd,reduceMod,Nat.reduceBEq,h1b,h5b,r13b,h6b,r14b,h7b,h8b,h9b,zaa h2 (by omega)];first | done | rfl | (simp;done)) | assumption | rfl)),⟨by omega,pfT ?_ ?_⟩⟩ (by first | omega | (simp only;omega) | (dsimp only;omega) | (show _ < _;simp;omega)),fun he=>zac ((j + 1,fine)) ⟨(by (first | (simp (maxSteps:=9^7) -dsimp only [gr,reduceEqDiff,reduceLT,reduceAdd,reduceMod,Nat.reduceBEq,h1b,h5b,r13b,h6b,r14b,h7b,h8b,h9b,zaa h2 (by omega)];first | done | rfl | (simp;done)) | assumption | rfl)),(by (first | (simp (maxSteps:=9^7) -dsimp only [gr,reduceEqDiff,reduceLT,reduceAdd,reduceMod,Nat.reduceBEq,h1b,h5b,r13b,h6b,r14b,h7b,h8b,h9b,zaa h2 (by omega)];first | done | rfl | (simp;done)) | assumption | rfl)),(by (first | (simp (maxSteps:=9^7) -dsimp only [gr,reduceEqDiff,reduceLT,reduceAdd,reduceMod,Nat.reduceBEq,h1b,h5b,r13b,h6b,r14b,h7b,h8b,h9b,zaa h2 (by omega)];first | done | rfl | (simp;done)) | assumption | rfl)),(by (first | (simp (maxSteps:=9^7) -dsimp only [gr,reduceEqDiff,reduceLT,reduceAdd,reduceMod,Nat.reduceBEq,h1b,h5b,r13b,h6b,r14b,h7b,h8b,h9b,zaa h2 (by omega)];first | done | rfl | (simp;done)) | assumption | rfl)),(by (first | (simp (maxSteps:=9^7) -dsimp only [gr,reduceEqDiff,reduceLT,reduceAdd,reduceMod,Nat.reduceBEq,h1b,h5b,r13b,h6b,r14b,h7b,h8b,h9b,zaa h2 (by omega)];first | done | rfl | (simp;done)) | assumption | rfl)),(by (first | (simp (maxSteps:=9^7) -dsimp only [gr,reduceEqDiff,reduceLT,reduceAdd,reduceMod,Nat.reduceBEq,h1b,h5b,r13b,h6b,r14b,h7b,h8b,h9b,zaa h2 (by omega)];first | done | rfl | (simp;done)) | assumption | rfl)),(by (first | (simp (maxSteps:=9^7) -dsimp only [gr,reduceEqDiff,reduceLT,reduceAdd,reduceMod,Nat.reduceBEq,h1b,h5b,r13b,h6b,r14b,h7b,h8b,h9b,zaa h2 (by omega)];first | done | rfl | (simp;done)) | assumption | rfl)),(by (first | (simp (maxSteps:=9^7) -dsimp only [gr,reduceEqDiff,reduceLT,reduceAdd,reduceMod,Nat.reduceBEq,h1b,h5b,r13b,h6b,r14b,h7b,h8b,h9b,zaa h2 (by omega)];first | done | rfl | (simp;done)) | assumption | rfl)),⟨by omega,pfF (.inl ?_)⟩⟩ (by first | omega | (simp only;omega) | (dsimp only;omega) | (show _ < _;simp;omega))⟩,fun hne=>zac ((j + 1,fine)) ⟨(by (first | (simp (maxSteps:=9^7) -dsimp only [gr,reduceEqDiff,reduceLT,reduceAdd,reduceMod,Nat.reduceBEq,h1b,h5b,r13b,h6b,r14b,h7b,h8b,h9b,zaa h2 (by omega)];first | done | rfl | (simp;done)) | assumption | rfl)),(by (first | (simp (maxSteps:=9^7) -dsimp only [gr,reduceEqDiff,reduceLT,reduceAdd,reduceMod,Nat.reduceBEq,h1b,h5b,r13b,h6b,r14b,h7b,h8b,h9b,zaa h2 (by omega)];first | done | rfl | (simp;done)) | assumption | rfl)),(by (first | (simp (maxSteps:=9^7) -dsimp only [gr,reduceEqDiff,reduceLT,reduceAdd,reduceMod,Nat.reduceBEq,h1b,h5b,r13b,h6b,r14b,h7b,h8b,h9b,zaa h2 (by omega)];first | done | rfl | (simp;done)) | assumption | rfl)),(by (first | (simp (maxSteps:=9^7) -dsimp only [gr,reduceEqDiff,reduceLT,reduceAdd,reduceMod,Nat.reduceBEq,h1b,h5b,r13b,h6b,r14b,h7b,h8b,h9b,zaa h2 (by omega)];first | done | rfl | (simp;done)) | assumption | rfl)),(by (first | (simp (maxSteps:=9^7) -dsimp only [gr,reduceEqDiff,reduceLT,reduceAdd,reduceMod,Nat.reduceBEq,h1b,h5b,r13b,h6b,r14b,h7b,h8b,h9b,zaa h2 (by omega)];first | done | rfl | (simp;done)) | assumption | rfl)),(by (first | (simp (maxSteps:=9^7) -dsimp only [gr,reduceEqDiff,reduceLT,reduceAdd,reduceMod,Nat.reduceBEq,h1b,h5b,r13b,h6b,r14b,h7b,h8b,h9b,zaa h2 (by omega)];first | done | rfl | (simp;done)) | assumption | rfl)),(by (first | (simp (maxSteps:=9^7) -dsimp only [gr,reduceEqDiff,reduceLT,reduceAdd,reduceMod,Nat.reduceBEq,h1b,h5b,r13b,h6b,r14b,h7b,h8b,h9b,zaa h2 (by omega)];first | done | rfl | (simp;done)) | assumption | rfl)),(by (first | (simp (maxSteps:=9^7) -dsimp only [gr,reduceEqDiff,reduceLT,reduceAdd,reduceMod,Nat.reduceBEq,h1b,h5b,r13b,h6b,r14b,h7b,h8b,h9b,zaa h2 (by omega)];first | done | rfl | (simp;done)) | assumption | rfl)),⟨by omega,pfF (.inr ?_)⟩⟩ (by first | omega | (simp only;omega) | (dsimp only;omega) | (show _ < _;simp;omega))⟩,fun h2=>?_⟩
    ·rw [eand h2,ej h2] at he
     have:=beq_iff_eq.1 he
     simp only [Bool.false_eq_true,if_false];rw [Nat.and_comm];omega
    ·rw [ek,ej h2] at hne
     intro e;rw [e] at hne;simp at hne
    ·rw [eand h2,ej h2] at he
     simp only [Bool.false_eq_true,if_false]
     intro e;rw [Nat.and_comm] at e;rw [e] at he;simp at he
    ·rw [ek,ej h2] at hne
     have:=bne_eq_false_iff_eq.1 hne
     omega
    ·refine ⟨fun hf=>⟨hk,hk,by omega,?_⟩,fun hf=>?_⟩
     ·have hx:=(hend (by omega)).1 hf
      exact zac ((k + 1,v + 1,u)) (by refine ⟨?_,?_,?_,?_,?_,?_,by omega⟩ <;> (first | (simp (maxSteps:=9^7) -dsimp only [gr,reduceEqDiff,reduceLT,reduceAdd,reduceMod,Nat.reduceBEq,h1a,h5a,r13a,h6a,r14a,h7a,h1b,h5b,r13b,h6b,r14b,h7b,h8b,h9b,zaa hk (by omega),zg2 hk hx,zaR,zdA,ek];first | done | rfl | (simp;done)) | assumption | rfl)) (by first | omega | (simp only;omega) | (dsimp only;omega) | (show _ < _;simp;omega))
     ·have hx:=hend2 (by omega) hf
      exact zac ((k + 1,v,u)) (by refine ⟨?_,?_,?_,?_,?_,?_,by omega⟩ <;> (first | (simp (maxSteps:=9^7) -dsimp only [gr,reduceEqDiff,reduceLT,reduceAdd,reduceMod,Nat.reduceBEq,h1a,h5a,r13a,h6a,r14a,h7a,h1b,h5b,r13b,h6b,r14b,h7b,h8b,h9b,zaa hk (by omega),zkJ hk hx];first | done | rfl | (simp;done)) | assumption | rfl)) (by first | omega | (simp only;omega) | (dsimp only;omega) | (show _ < _;simp;omega))
 ·have:k = all.length:=by omega
  subst this
  rw [List.take_length]
theorem zqU (w:Nat→Bool) {n:Nat} (hn:n ≤ 6):zaB w (2 ^ n) < 18446744073709551616:=by
 have h1:=zbl w (2 ^ n)
 have h2:=zcg hn
 have h3:2 ^ (2 ^ n) ≤ 2 ^ 64:=Nat.pow_le_pow_right (by omega) h2
 omega
def okS (xs:List Int):Prop:=∀ x ∈ xs,0 ≤ x∧x < 64
theorem zqS {xs:List Int} (h:okS xs) {k:Nat} (hk:k < xs.length):0 ≤ xs.getD k 0∧xs.getD k 0 < 64:=h _ (zan 0 hk)
theorem zcQ {n:Int} {xs:List Int} (h:zaV n xs = true):okS xs:=fun x hx=>by
 obtain ⟨i,hi,rfl⟩:=zaY 0 hx
 exact zd9 ((za2.1 h).2.2 i hi).1
theorem zqT {x:Int} (hx:0 ≤ x∧x < 64) {s:Nat} (hs:s < 64):(zfO .i64 x (s:Int) == (s:Int)) = (x.toNat &&& s == s):=by
 have e:x = ((x.toNat:Nat):Int):=by omega
 rw [e,za7 (by omega) (by omega)]
 have:((x.toNat:Nat):Int).toNat = x.toNat:=by omega
 rw [this]
 cases h:(x.toNat &&& s == s) with
 | true=>rw [beq_iff_eq] at h;rw [h];simp
 | false =>
   have h:=beq_eq_false_iff_ne.1 h
   rw [beq_eq_false_iff_ne]
   exact fun e=>h (by omega)
theorem zdu (n:Int) (xs:List Int) (u:Nat) (hx:okS xs) (hs:u < 64):AC Tryz.prog 88 [.ag [int n,zaH xs],int u] (.im (bool (zal xs u))):=by
 refine AC.go (rs:=[.tmp 4]) zaL mixed Tryz.func88 rfl rfl rfl (by kernel_rfl) fun hl=>?_
 simp only [zaJ,zaX,and_true,zbM,zc6,zcm,zcl,true_and] at hl
 simp (maxSteps:=9^7) -dsimp only [↓gp,gq,reduceCtorEq,reduceEqDiff,reduceLT,reduceLeDiff,reduceAdd,reduceMul,reduceSub,Nat.reduceBEq,Int.reduceToNat,Int.reduceLE,Int.reduceLT,Int.reduceNeg,reduceMod,gT]
 refine zah (fun (k:Nat) s=>s.sl 1 = int u∧s.sl 2 = .ref 2 1 0∧s.rw 2 = ⟨1,.box 27 [int n,zaH xs]⟩∧s.sl 5 = int k∧(k ≤ xs.length∧∀ i,i < k→((xs.getD i 0).toNat &&& u == u) = false)) (fun k=>xs.length - k) (0) (by refine ⟨?_,?_,?_,?_,by simp⟩ <;> (first | (simp (maxSteps:=9^7) -dsimp only [gr,reduceEqDiff,reduceLT,reduceAdd,reduceMod,Nat.reduceBEq];first | done | rfl | (simp;done)) | assumption | rfl)) ?_
 intro k sa ⟨h1a,h2a,r2a,h5a,hIa⟩
 obtain ⟨hk,hall⟩:=hIa
 simp (maxSteps:=9^7) -dsimp only [↓gp,gq,reduceCtorEq,reduceEqDiff,reduceLT,reduceLeDiff,reduceAdd,reduceMul,reduceSub,Nat.reduceBEq,Int.reduceToNat,Int.reduceLE,Int.reduceLT,Int.reduceNeg,reduceMod,gT,h1a,h2a,r2a,h5a]
 refine ⟨fun h=>⟨h,h,fun he=>?_,fun he=>zac (k + 1) ⟨(by (first | (simp (maxSteps:=9^7) -dsimp only [gr,reduceEqDiff,reduceLT,reduceAdd,reduceMod,Nat.reduceBEq,h1a,h2a,r2a,h5a,zaa h hl];first | done | rfl | (simp;done)) | assumption | rfl)),(by (first | (simp (maxSteps:=9^7) -dsimp only [gr,reduceEqDiff,reduceLT,reduceAdd,reduceMod,Nat.reduceBEq,h1a,h2a,r2a,h5a,zaa h hl];first | done | rfl | (simp;done)) | assumption | rfl)),(by (first | (simp (maxSteps:=9^7) -dsimp only [gr,reduceEqDiff,reduceLT,reduceAdd,reduceMod,Nat.reduceBEq,h1a,h2a,r2a,h5a,zaa h hl];first | done | rfl | (simp;done)) | assumption | rfl)),(by (first | (simp (maxSteps:=9^7) -dsimp only [gr,reduceEqDiff,reduceLT,reduceAdd,reduceMod,Nat.reduceBEq,h1a,h2a,r2a,h5a,zaa h hl];first | done | rfl | (simp;done)) | assumption | rfl)),⟨by omega,fun i hi=>?_⟩⟩ (by first | omega | (simp only;omega) | (dsimp only;omega) | (show _ < _;simp;omega))⟩,fun h=>?_⟩
 ·rw [zqT (zqS hx h) hs] at he
  exact zb1.2 ⟨_,zan 0 h,by simpa using he⟩
 ·rw [zqT (zqS hx h) hs] at he
  rcases Nat.lt_succ_iff_lt_or_eq.1 hi with hi | rfl
  ·exact hall i hi
  ·exact he
 ·cases hf:zal xs u with
  | false=>rfl
  | true =>
    obtain ⟨x,hx',hx2⟩:=zb1.1 hf
    obtain ⟨i,hi,rfl⟩:=zaY 0 hx'
    have:=hall i (by omega)
    rw [hx2] at this
    simp at this
noncomputable def zbb (n:Int) (xs:List Int) (s:Nat):Bool:=zaV n xs && zal xs s
theorem zkI (l:List Nat) (s:Nat):inF (ofN l) s = decide (s ∈ l):=by
 unfold inF ofN
 refine decide_eq_decide.2 ?_
 simp only [List.mem_map]
 exact ⟨fun ⟨a,h1,h2⟩=>by have:a = s:=by omega
                          exact this ▸ h1,fun h=>⟨s,h,rfl⟩⟩
theorem zzQ {l:List Nat} (h:∀ s ∈ l,s < 64):∀ x ∈ ofN l,0 ≤ x∧x < 64:=fun x hx=>by
 obtain ⟨s,hs,rfl⟩:=List.mem_map.1 hx
 have:=h s hs
 omega
theorem zcG (n:Int) (xs:List Int):AC Tryz.prog 62 [.ag [int n,zaH xs]] (.fr 3 1 (iL (ofN (za9 (zbb n xs))))):=by
 refine AC.go (rs:=[.tmp 2]) zaL mixed Tryz.func62 rfl rfl rfl (by kernel_rfl) fun hl=>?_
 simp (maxSteps:=9^7) -dsimp only [↓gp,gq,reduceCtorEq,reduceEqDiff,reduceLT,reduceLeDiff,reduceAdd,reduceMul,reduceSub,Nat.reduceBEq,Int.reduceToNat,Int.reduceLE,Int.reduceLT,Int.reduceNeg,reduceMod,gT]
 have fin:∀ m,m = 64→za9 (inF (ofN ((List.range m).filter (zbb n xs)))) = za9 (zbb n xs):=fun m hm=>by
  refine zfq fun s hs=>?_
  rw [zkI,hm]
  cases h:zbb n xs s <;> simp [h,hs]
 have hmem:∀ m,m ≤ 64→∀ s ∈ (List.range m).filter (zbb n xs),s < 64:=fun m hm s hs=>by
  have:=List.mem_range.1 (List.mem_filter.1 hs).1;omega
 refine zah (fun (za:Nat × Nat) s=>match za with | (m,v)=>s.sl 1 = .ref 1 1 0∧s.rw 1 = ⟨1,.box 27 [int n,zaH xs]⟩∧s.sl 3 = .own 5 v∧s.rw 5 = ⟨v,.sli 3 1 false (iL (ofN ((List.range m).filter (zbb n xs))))⟩∧s.sl 4 = int m∧(m ≤ 64)) (fun (m,v)=>64 - m) ((0,1)) (by refine ⟨?_,?_,?_,?_,?_,by simp⟩ <;> (first | (simp (maxSteps:=9^7) -dsimp only [gr,reduceEqDiff,reduceLT,reduceAdd,reduceMod,Nat.reduceBEq];first | done | rfl | (simp;done)) | assumption | rfl)) ?_
 intro (m,v) sa ⟨h1a,r1a,h3a,r5a,h4a,hIa⟩
 have hflen:((List.range m).filter (zbb n xs)).length ≤ 64:=by
  have:=List.length_filter_le (zbb n xs) (List.range m);rw [List.length_range] at this;omega
 simp (maxSteps:=9^7) -dsimp only [↓gp,gq,reduceCtorEq,reduceEqDiff,reduceLT,reduceLeDiff,reduceAdd,reduceMul,reduceSub,Nat.reduceBEq,Int.reduceToNat,Int.reduceLE,Int.reduceLT,Int.reduceNeg,reduceMod,gT,h1a,r1a,h3a,r5a,h4a]
 refine ⟨fun h=>zab (zaI n xs) ?_,fun h=>?_⟩
 ·simp (maxSteps:=9^7) -dsimp only [↓gp,gq,reduceCtorEq,reduceEqDiff,reduceLT,reduceLeDiff,reduceAdd,reduceMul,reduceSub,Nat.reduceBEq,Int.reduceToNat,Int.reduceLE,Int.reduceLT,Int.reduceNeg,reduceMod,gT,h1a,r1a,h3a,r5a,h4a]
  have hm:m < 64:=by omega
  refine ⟨fun hc=>zab (zdu n xs m (zcQ hc) hm) ?_,fun hc=>zab (zdC _ (zzQ (hmem m hIa))) ?_⟩
  ·simp (maxSteps:=9^7) -dsimp only [↓gp,gq,reduceCtorEq,reduceEqDiff,reduceLT,reduceLeDiff,reduceAdd,reduceMul,reduceSub,Nat.reduceBEq,Int.reduceToNat,Int.reduceLE,Int.reduceLT,Int.reduceNeg,reduceMod,gT,h1a,r1a,h3a,r5a,h4a,zad]
   refine ⟨fun hf=>?_,fun hf=>?_⟩
   ·have e:(List.range (m + 1)).filter (zbb n xs) = (List.range m).filter (zbb n xs) ++ [m]:=by
     rw [List.range_succ,List.filter_append]
     simp [zbb,hc,hf]
    refine ⟨by omega,?_⟩
    exact zac ((m + 1,v + 1)) (by refine ⟨?_,?_,?_,?_,?_,by dsimp only;omega⟩ <;> (first | (simp (maxSteps:=9^7) -dsimp only [gr,reduceEqDiff,reduceLT,reduceAdd,reduceMod,Nat.reduceBEq,h1a,r1a,h3a,r5a,h4a,zaa hm (by omega),e,zaR,zdA];first | done | rfl | (simp;done)) | assumption | rfl)) (by first | omega | (simp only;omega) | (dsimp only;omega) | (show _ < _;simp;omega))
   ·have e:(List.range (m + 1)).filter (zbb n xs) = (List.range m).filter (zbb n xs):=by
     rw [List.range_succ,List.filter_append]
     simp [zbb,hc,hf]
    exact zac ((m + 1,v)) (by refine ⟨?_,?_,?_,?_,?_,by dsimp only;omega⟩ <;> (first | (simp (maxSteps:=9^7) -dsimp only [gr,reduceEqDiff,reduceLT,reduceAdd,reduceMod,Nat.reduceBEq,h1a,r1a,h3a,r5a,h4a,zaa hm (by omega),e];first | done | rfl | (simp;done)) | assumption | rfl)) (by first | omega | (simp only;omega) | (dsimp only;omega) | (show _ < _;simp;omega))
  ·simp (maxSteps:=9^7) -dsimp only [↓gp,gq,reduceCtorEq,reduceEqDiff,reduceLT,reduceLeDiff,reduceAdd,reduceMul,reduceSub,Nat.reduceBEq,Int.reduceToNat,Int.reduceLE,Int.reduceLT,Int.reduceNeg,reduceMod,gT,h1a,r1a,h3a,r5a,h4a]
   have e1:(List.range m).filter (zbb n xs) = []:=by
    rw [List.filter_eq_nil_iff];intro s _;simp [zbb,hc]
   have e2:za9 (zbb n xs) = za9 (inF (ofN [])):=zfq fun s _=>by rw [zkI];simp [zbb,hc]
   rw [e1,e2]
 ·have:m = 64:=by omega
  refine zab (zdC _ (zzQ (hmem m hIa))) ?_
  simp (maxSteps:=9^7) -dsimp only [↓gp,gq,reduceCtorEq,reduceEqDiff,reduceLT,reduceLeDiff,reduceAdd,reduceMul,reduceSub,Nat.reduceBEq,Int.reduceToNat,Int.reduceLE,Int.reduceLT,Int.reduceNeg,reduceMod,gT,h1a,r1a,h3a,r5a,h4a]
  rw [fin m this]
theorem zm0 {f:Nat→Bool} {k:Nat} (h:k < (za9 f).length):(za9 f).getD k 0 < 64:=(zaZ.1 (zan 0 h)).1
theorem zg1 (n:Int) (xs:List Int) (k:Int):AC Tryz.prog 95 [.ag [int n,zaH xs],int k] (.fr 3 1 (iL (ofN ((za9 (zbb n xs)).filter fun s=>(zat s:Int) == k)))):=by
 refine AC.go (rs:=[.tmp 4]) zaL mixed Tryz.func95 rfl rfl rfl (by kernel_rfl) fun hl=>?_
 simp (maxSteps:=9^7) -dsimp only [↓gp,gq,reduceCtorEq,reduceEqDiff,reduceLT,reduceLeDiff,reduceAdd,reduceMul,reduceSub,Nat.reduceBEq,Int.reduceToNat,Int.reduceLE,Int.reduceLT,Int.reduceNeg,reduceMod,gT]
 refine zab (zcG n xs) ?_
 simp (maxSteps:=9^7) -dsimp only [↓gp,gq,reduceCtorEq,reduceEqDiff,reduceLT,reduceLeDiff,reduceAdd,reduceMul,reduceSub,Nat.reduceBEq,Int.reduceToNat,Int.reduceLE,Int.reduceLT,Int.reduceNeg,reduceMod,gT]
 have hfull:=zcY (zbb n xs)
 have hmem:∀ i,i < (za9 (zbb n xs)).length→(za9 (zbb n xs)).getD i 0 < 64:=fun i h=>zm0 h
 generalize za9 (zbb n xs) = all at *
 refine zah (fun (za:Nat × Nat × Nat) s=>match za with | (i,v,u)=>s.sl 1 = int k∧s.sl 5 = .own 8 v∧s.rw 8 = ⟨v,.sli 3 1 false (iL (ofN ((all.take i).filter fun s=>(zat s:Int) == k)))⟩∧s.sl 6 = .own 10 u∧s.rw 10 = ⟨u,.sli 3 1 false (iL (ofN all))⟩∧s.sl 7 = int i∧(i ≤ all.length)) (fun (i,v,u)=>all.length - i) ((0,1,1)) (by refine ⟨?_,?_,?_,?_,?_,?_,by simp⟩ <;> (first | (simp (maxSteps:=9^7) -dsimp only [gr,reduceEqDiff,reduceLT,reduceAdd,reduceMod,Nat.reduceBEq];first | done | rfl | (simp;done)) | assumption | rfl)) ?_
 intro (i,v,u) sa ⟨h1a,h5a,r8a,h6a,r10a,h7a,hIa⟩
 have hfl:((all.take i).filter fun s=>(zat s:Int) == k).length ≤ i:=by
  have:=List.length_filter_le (fun s=>(zat s:Int) == k) (all.take i);rw [List.length_take] at this;omega
 simp (maxSteps:=9^7) -dsimp only [↓gp,gq,reduceCtorEq,reduceEqDiff,reduceLT,reduceLeDiff,reduceAdd,reduceMul,reduceSub,Nat.reduceBEq,Int.reduceToNat,Int.reduceLE,Int.reduceLT,Int.reduceNeg,reduceMod,gT,h1a,h5a,r8a,h6a,r10a,h7a,zad]
 refine ⟨fun h=>?_,fun h=>?_⟩
 ·have hi:=hmem i h
  have hge:(ofN all).getD i 0 = ((all.getD i 0:Nat):Int):=zaF h
  rw [hge]
  refine ⟨h,h,zab (zaP _ (by omega)) ?_⟩
  simp (maxSteps:=9^7) -dsimp only [↓gp,gq,reduceCtorEq,reduceEqDiff,reduceLT,reduceLeDiff,reduceAdd,reduceMul,reduceSub,Nat.reduceBEq,Int.reduceToNat,Int.reduceLE,Int.reduceLT,Int.reduceNeg,reduceMod,gT,h1a,h5a,r8a,h6a,r10a,h7a,zad,hge]
  refine ⟨fun hp=>⟨h,h,by omega,?_⟩,fun hp=>?_⟩
  ·have e:(all.take (i + 1)).filter (fun s=>(zat s:Int) == k) = (all.take i).filter (fun s=>(zat s:Int) == k) ++ [all.getD i 0]:=zg2 h hp
   exact zac ((i + 1,v + 1,u)) (by refine ⟨?_,?_,?_,?_,?_,?_,by dsimp only;omega⟩ <;> (first | (simp (maxSteps:=9^7) -dsimp only [gr,reduceEqDiff,reduceLT,reduceAdd,reduceMod,Nat.reduceBEq,h1a,h5a,r8a,h6a,r10a,h7a,zaa h (by omega),e,zaR,zdA,hge];first | done | rfl | (simp;done)) | assumption | rfl)) (by first | omega | (simp only;omega) | (dsimp only;omega) | (show _ < _;simp;omega))
  ·have e:(all.take (i + 1)).filter (fun s=>(zat s:Int) == k) = (all.take i).filter (fun s=>(zat s:Int) == k):=zkJ h hp
   exact zac ((i + 1,v,u)) (by refine ⟨?_,?_,?_,?_,?_,?_,by dsimp only;omega⟩ <;> (first | (simp (maxSteps:=9^7) -dsimp only [gr,reduceEqDiff,reduceLT,reduceAdd,reduceMod,Nat.reduceBEq,h1a,h5a,r8a,h6a,r10a,h7a,zaa h (by omega),e];first | done | rfl | (simp;done)) | assumption | rfl)) (by first | omega | (simp only;omega) | (dsimp only;omega) | (show _ < _;simp;omega))
 ·have:i = all.length:=by omega
  rw [this,List.take_length]
theorem zsd (f:Nat→Bool) (k:Nat):(za9 f).filter (fun s=>(zat s:Int) == (k:Int)) = zaN f k 64:=by
 rw [← zkL f k]
 refine List.filter_congr fun s _=>?_
 cases h:(zat s == k) with
 | true=>have:=beq_iff_eq.1 h;simp [this]
 | false=>have:=beq_eq_false_iff_ne.1 h;rw [beq_eq_false_iff_ne];exact fun e=>this (by omega)
theorem zcb (n:Int) (xs:List Int) (k:Nat):AC Tryz.prog 95 [.ag [int n,zaH xs],int k] (.fr 3 1 (iL (ofN (zaN (zbb n xs) k 64)))):=by
 have:=zg1 n xs k
 rwa [zsd] at this
theorem zcc (p:Int):AC Tryz.prog 63 [int p] (.im (bool (isP p))):=by
 refine AC.go (rs:=[.tmp 2]) zaL mixed Tryz.func63 rfl rfl rfl (by kernel_rfl) fun hl=>?_
 simp (maxSteps:=9^7) -dsimp only [↓gp,gq,reduceCtorEq,reduceEqDiff,reduceLT,reduceLeDiff,reduceAdd,reduceMul,reduceSub,Nat.reduceBEq,Int.reduceToNat,Int.reduceLE,Int.reduceLT,Int.reduceNeg,reduceMod,gT]
 unfold isP
 exact ⟨fun h=>⟨fun h2=>by simp [h,h2],fun h2=>by simp [h,h2]⟩,fun h=>by simp [h]⟩
theorem zdg (p:Int):AC Tryz.prog 50 [int p] (.im (bool (isP p))):=by
 refine AC.go (rs:=[.tmp 2]) zaL mixed Tryz.func50 rfl rfl rfl (by kernel_rfl) fun hl=>?_
 simp (maxSteps:=9^7) -dsimp only [↓gp,gq,reduceCtorEq,reduceEqDiff,reduceLT,reduceLeDiff,reduceAdd,reduceMul,reduceSub,Nat.reduceBEq,Int.reduceToNat,Int.reduceLE,Int.reduceLT,Int.reduceNeg,reduceMod,gT]
 unfold isP
 exact ⟨fun h=>⟨fun h2=>by simp [h,h2],fun h2=>by simp [h,h2]⟩,fun h=>by simp [h]⟩
theorem zm3 {a p:Int} (hp:0 < p):-p < a.tmod p∧a.tmod p < p:=⟨Int.lt_tmod_of_pos a hp,Int.tmod_lt_of_pos a hp⟩
theorem zei (a p:Int) (hp:isP p = true):AC Tryz.prog 130 [int a,int p] (.im (int (a % p))):=by
 refine AC.go (rs:=[.tmp 4]) zaL mixed Tryz.func130 rfl rfl rfl (by kernel_rfl) fun hl=>?_
 have hp:=zca hp
 have h1:=zm3 (a:=a) (by omega:0 < p)
 have hw:IntKind.i64.wrap (a.tmod p + p) = a.tmod p + p:=zap (by omega) (by omega)
 have hm:=zzI a p (by omega)
 simp (maxSteps:=9^7) -dsimp only [↓gp,gq,reduceCtorEq,reduceEqDiff,reduceLT,reduceLeDiff,reduceAdd,reduceMul,reduceSub,Nat.reduceBEq,Int.reduceToNat,Int.reduceLE,Int.reduceLT,Int.reduceNeg,reduceMod,gT,hw,hm]
 omega
theorem zfR (a p:Int) (hp:isP p = true):AC Tryz.prog 155 [int a,int p] (.im (int (a % p))):=by
 refine AC.go (rs:=[.tmp 4]) zaL mixed Tryz.func155 rfl rfl rfl (by kernel_rfl) fun hl=>?_
 have hp:=zca hp
 have h1:=zm3 (a:=a) (by omega:0 < p)
 have hw:IntKind.i64.wrap (a.tmod p + p) = a.tmod p + p:=zap (by omega) (by omega)
 have hm:=zzI a p (by omega)
 simp (maxSteps:=9^7) -dsimp only [↓gp,gq,reduceCtorEq,reduceEqDiff,reduceLT,reduceLeDiff,reduceAdd,reduceMul,reduceSub,Nat.reduceBEq,Int.reduceToNat,Int.reduceLE,Int.reduceLT,Int.reduceNeg,reduceMod,gT,hw]
 refine ⟨by omega,fun h=>?_,fun h=>?_⟩
 ·rw [← hm,zee (by omega),Int.emod_eq_of_lt (by omega) (by omega)]
 ·rw [← hm,Int.tmod_eq_emod_of_nonneg (by omega),Int.add_emod_right,Int.emod_eq_of_lt (by omega) (by omega)]
theorem zi6 {p r b:Int} (h:b < p):zcP p r b (p - b).toNat = if r * b % p = 1 then b else zcP p r (b + 1) (p - (b + 1)).toNat:=by
 have e:(p - b).toNat = (p - (b + 1)).toNat + 1:=by omega
 rw [e,zcP]
theorem zhJ (a p:Int) (hp:isP p = true):AC Tryz.prog 147 [int a,int p] (.im (int (zlm p a))):=by
 refine AC.go (rs:=[.tmp 4]) zaL mixed Tryz.func147 rfl rfl rfl (by kernel_rfl) fun hl=>?_
 have hp2:=zca hp
 simp (maxSteps:=9^7) -dsimp only [↓gp,gq,reduceCtorEq,reduceEqDiff,reduceLT,reduceLeDiff,reduceAdd,reduceMul,reduceSub,Nat.reduceBEq,Int.reduceToNat,Int.reduceLE,Int.reduceLT,Int.reduceNeg,reduceMod,gT]
 refine zab (zcc p) ?_
 simp (maxSteps:=9^7) -dsimp only [↓gp,gq,reduceCtorEq,reduceEqDiff,reduceLT,reduceLeDiff,reduceAdd,reduceMul,reduceSub,Nat.reduceBEq,Int.reduceToNat,Int.reduceLE,Int.reduceLT,Int.reduceNeg,reduceMod,gT,hp]
 have hr:=Int.emod_nonneg a (by omega:p ≠ 0)
 have hr2:=Int.emod_lt_of_pos a (by omega:0 < p)
 refine zah (fun (b:Int) s=>s.sl 0 = int a∧s.sl 1 = int p∧s.sl 5 = int b∧(1 ≤ b∧b ≤ p∧zlm p a = zcP p (a % p) b (p - b).toNat)) (fun b=>(p - b).toNat) (1) (by refine ⟨?_,?_,?_,⟨by omega,by omega,rfl⟩⟩ <;> (first | (simp (maxSteps:=9^7) -dsimp only [gr,reduceEqDiff,reduceLT,reduceAdd,reduceMod,Nat.reduceBEq];first | done | rfl | (simp;done)) | assumption | rfl)) ?_
 intro b sa ⟨h0a,h1a,h5a,hIa⟩
 obtain ⟨hb,hb2,hv⟩:=hIa
 simp (maxSteps:=9^7) -dsimp only [↓gp,gq,reduceCtorEq,reduceEqDiff,reduceLT,reduceLeDiff,reduceAdd,reduceMul,reduceSub,Nat.reduceBEq,Int.reduceToNat,Int.reduceLE,Int.reduceLT,Int.reduceNeg,reduceMod,gT,h0a,h1a,h5a]
 refine ⟨fun h=>zab (zei a p hp) ?_,fun h=>?_⟩
 ·have hm:0 ≤ a % p * b∧a % p * b ≤ 20:=by
   refine ⟨Int.mul_nonneg hr (by omega),?_⟩
   have:=Int.mul_le_mul (show a % p ≤ 4 by omega) (show b ≤ 5 by omega) (by omega) (by omega)
   omega
  have hw:IntKind.i64.wrap (a % p * b) = a % p * b:=zap (by omega) (by omega)
  have hw2:IntKind.i64.wrap (b + 1) = b + 1:=zap (by omega) (by omega)
  simp (maxSteps:=9^7) -dsimp only [↓gp,gq,reduceCtorEq,reduceEqDiff,reduceLT,reduceLeDiff,reduceAdd,reduceMul,reduceSub,Nat.reduceBEq,Int.reduceToNat,Int.reduceLE,Int.reduceLT,Int.reduceNeg,reduceMod,gT,h0a,h1a,h5a,hw,hw2,zee hm.1]
  refine ⟨by omega,fun h1=>?_,fun h1=>zac (b + 1) ⟨(by (first | (simp (maxSteps:=9^7) -dsimp only [gr,reduceEqDiff,reduceLT,reduceAdd,reduceMod,Nat.reduceBEq,h0a,h1a,h5a,hw2];first | done | rfl | (simp;done)) | assumption | rfl)),(by (first | (simp (maxSteps:=9^7) -dsimp only [gr,reduceEqDiff,reduceLT,reduceAdd,reduceMod,Nat.reduceBEq,h0a,h1a,h5a,hw2];first | done | rfl | (simp;done)) | assumption | rfl)),(by (first | (simp (maxSteps:=9^7) -dsimp only [gr,reduceEqDiff,reduceLT,reduceAdd,reduceMod,Nat.reduceBEq,h0a,h1a,h5a,hw2];first | done | rfl | (simp;done)) | assumption | rfl)),⟨by omega,by omega,?_⟩⟩ (by first | omega | (simp only;omega) | (dsimp only;omega) | (show _ < _;simp;omega))⟩
  ·have h1:=beq_iff_eq.1 h1
   rw [hv,zi6 h,if_pos h1]
  ·have h1:¬ a % p * b % p = 1:=by simpa using h1
   rw [hv,zi6 h,if_neg h1]
 ·have:(p - b).toNat = 0:=by omega
  rw [hv,this];rfl
theorem zhK (a p:Int) (hp:isP p = true):AC Tryz.prog 154 [int a,int p] (.im (int (zlm p a))):=by
 refine AC.go (rs:=[.tmp 4]) zaL mixed Tryz.func154 rfl rfl rfl (by kernel_rfl) fun hl=>?_
 have hp2:=zca hp
 simp (maxSteps:=9^7) -dsimp only [↓gp,gq,reduceCtorEq,reduceEqDiff,reduceLT,reduceLeDiff,reduceAdd,reduceMul,reduceSub,Nat.reduceBEq,Int.reduceToNat,Int.reduceLE,Int.reduceLT,Int.reduceNeg,reduceMod,gT]
 refine zab (zdg p) ?_
 simp (maxSteps:=9^7) -dsimp only [↓gp,gq,reduceCtorEq,reduceEqDiff,reduceLT,reduceLeDiff,reduceAdd,reduceMul,reduceSub,Nat.reduceBEq,Int.reduceToNat,Int.reduceLE,Int.reduceLT,Int.reduceNeg,reduceMod,gT,hp]
 have hr:=Int.emod_nonneg a (by omega:p ≠ 0)
 have hr2:=Int.emod_lt_of_pos a (by omega:0 < p)
 refine zab (zfR a p hp) ?_
 simp (maxSteps:=9^7) -dsimp only [↓gp,gq,reduceCtorEq,reduceEqDiff,reduceLT,reduceLeDiff,reduceAdd,reduceMul,reduceSub,Nat.reduceBEq,Int.reduceToNat,Int.reduceLE,Int.reduceLT,Int.reduceNeg,reduceMod,gT]
 refine zah (fun (b:Int) s=>s.sl 1 = int p∧s.sl 5 = int (a % p)∧s.sl 6 = int b∧(1 ≤ b∧b ≤ p∧zlm p a = zcP p (a % p) b (p - b).toNat)) (fun b=>(p - b).toNat) (1) (by refine ⟨?_,?_,?_,⟨by omega,by omega,rfl⟩⟩ <;> (first | (simp (maxSteps:=9^7) -dsimp only [gr,reduceEqDiff,reduceLT,reduceAdd,reduceMod,Nat.reduceBEq];first | done | rfl | (simp;done)) | assumption | rfl)) ?_
 intro b sa ⟨h1a,h5a,h6a,hIa⟩
 obtain ⟨hb,hb2,hv⟩:=hIa
 have hm:0 ≤ a % p * b∧a % p * b ≤ 20:=by
  refine ⟨Int.mul_nonneg hr (by omega),?_⟩
  have:=Int.mul_le_mul (show a % p ≤ 4 by omega) (show b ≤ 5 by omega) (by omega) (by omega)
  omega
 have hw:IntKind.i64.wrap (a % p * b) = a % p * b:=zap (by omega) (by omega)
 have hw2:IntKind.i64.wrap (b + 1) = b + 1:=zap (by omega) (by omega)
 simp (maxSteps:=9^7) -dsimp only [↓gp,gq,reduceCtorEq,reduceEqDiff,reduceLT,reduceLeDiff,reduceAdd,reduceMul,reduceSub,Nat.reduceBEq,Int.reduceToNat,Int.reduceLE,Int.reduceLT,Int.reduceNeg,reduceMod,gT,h1a,h5a,h6a,hw,hw2,zee hm.1]
 refine ⟨fun h=>⟨by omega,fun h1=>?_,fun h1=>zac (b + 1) ⟨(by (first | (simp (maxSteps:=9^7) -dsimp only [gr,reduceEqDiff,reduceLT,reduceAdd,reduceMod,Nat.reduceBEq,h1a,h5a,h6a,hw2];first | done | rfl | (simp;done)) | assumption | rfl)),(by (first | (simp (maxSteps:=9^7) -dsimp only [gr,reduceEqDiff,reduceLT,reduceAdd,reduceMod,Nat.reduceBEq,h1a,h5a,h6a,hw2];first | done | rfl | (simp;done)) | assumption | rfl)),(by (first | (simp (maxSteps:=9^7) -dsimp only [gr,reduceEqDiff,reduceLT,reduceAdd,reduceMod,Nat.reduceBEq,h1a,h5a,h6a,hw2];first | done | rfl | (simp;done)) | assumption | rfl)),⟨by omega,by omega,?_⟩⟩ (by first | omega | (simp only;omega) | (dsimp only;omega) | (show _ < _;simp;omega))⟩,fun h=>?_⟩
 ·have h1:=beq_iff_eq.1 h1
  rw [hv,zi6 h,if_pos h1]
 ·have h1:¬ a % p * b % p = 1:=by simpa using h1
  rw [hv,zi6 h,if_neg h1]
 ·have:(p - b).toNat = 0:=by omega
  rw [hv,this];rfl
theorem zu9 (p:Int) {r:List Int} {j:Nat} (h:j < r.length):(r.map fun x=>x % p).getD j 0 = r.getD j 0 % p:=by simp [List.getD,h]
theorem zqY (p:Int) {M:Mat} {i:Nat} (h:i < M.length):zgd p (M.take i) ++ [(M.getD i []).map fun x=>x % p] = zgd p (M.take (i + 1)):=by
 rw [zay [] h];simp [zgd]
theorem zg5 (p:Int) {M:Mat} {i:Nat} (h:i ≤ M.length):(zgd p (M.take i)).length = i:=by simp [zgd];omega
theorem ziC (M:Mat) (p:Int) (hp:isP p = true) (hM:M.length ≤ 900) (hr:∀ i,i < M.length→(M.getD i []).length ≤ 1000):AC Tryz.prog 145 [zAL M,int p] (.tb 22 3 ((zgd p M).map iL)):=by
 refine AC.go (rs:=[.tmp 4]) zaL mixed Tryz.func145 rfl rfl rfl (by kernel_rfl) fun hl=>?_
 simp (maxSteps:=9^7) -dsimp only [↓gp,gq,reduceCtorEq,reduceEqDiff,reduceLT,reduceLeDiff,reduceAdd,reduceMul,reduceSub,Nat.reduceBEq,Int.reduceToNat,Int.reduceLE,Int.reduceLT,Int.reduceNeg,reduceMod,gT]
 refine ⟨by omega,by omega,?_⟩
 refine zu2 (k:=12) (v:=1) (e:=22) (e2:=3) (n:=M.length) (by simp (maxSteps:=9^7) -dsimp only [gr,reduceEqDiff,reduceLT,reduceAdd,reduceMod,Nat.reduceBEq]) (fun j=>by simp (maxSteps:=9^7) -dsimp only [gr,reduceEqDiff,reduceLT,reduceAdd,reduceMod,Nat.reduceBEq]) (fun (i:Nat) s=>s.sl 0 = zAL M∧s.sl 1 = int p∧s.sl 5 = .own 12 1∧s.sl 13 = zAL M∧s.sl 14 = int M.length∧s.sl 15 = int i∧(i ≤ M.length∧TabP s.rw 12 1 22 3 M.length i (zgd p (M.take i)))) (fun i=>M.length - i) (0) (fun sX htX hslX hoX=>(by refine ⟨?_,?_,?_,?_,?_,?_,⟨by omega,htX⟩⟩ <;> (first | (simp (maxSteps:=9^7) -dsimp only [gr,reduceEqDiff,reduceLT,reduceAdd,reduceMod,Nat.reduceBEq,hslX,hoX];first | done | rfl | (simp;done)) | assumption | rfl))) ?_
 intro i sa ⟨h0a,h1a,h5a,h13a,h14a,h15a,hIa⟩
 obtain ⟨hi,ht⟩:=hIa
 simp (maxSteps:=9^7) -dsimp only [↓gp,gq,reduceCtorEq,reduceEqDiff,reduceLT,reduceLeDiff,reduceAdd,reduceMul,reduceSub,Nat.reduceBEq,Int.reduceToNat,Int.reduceLE,Int.reduceLT,Int.reduceNeg,reduceMod,gT,h0a,h1a,h5a,h13a,h14a,h15a,ht.top,zbE]
 refine ⟨fun h=>⟨h,h,by have:=hr i h;omega,by have:=hr i h;omega,h,by omega,?_⟩,fun h=>?_⟩
 ·have hri:=hr i h
  have hlen:=zg5 p hi
  generalize hrow:M.getD i [] = row at *
  refine zqO (k:=12) (v:=1) (e:=22) (e2:=3) (n:=M.length) (i:=i) (d:=24) (vd:=(sa.rw 24).ver + 1) (M:=zgd p (M.take i)) (r:=List.replicate row.length 0) (by simp (maxSteps:=9^7) -dsimp only [gr,reduceEqDiff,reduceLT,reduceAdd,reduceMod,Nat.reduceBEq,ht.top]) hlen (fun j hj=>by simp (maxSteps:=9^7) -dsimp only [gr,reduceEqDiff,reduceLT,reduceAdd,reduceMod,Nat.reduceBEq,ht.row j hj]) (fun j hj=>by simp (maxSteps:=9^7) -dsimp only [gr,reduceEqDiff,reduceLT,reduceAdd,reduceMod,Nat.reduceBEq,ht.rest j hj]) (by simp (maxSteps:=9^7) -dsimp only [gr,reduceEqDiff,reduceLT,reduceAdd,reduceMod,Nat.reduceBEq]) (by decide) (by decide) h (fun (j:Nat) s=>s.sl 0 = zAL M∧s.sl 1 = int p∧s.sl 5 = .own 12 1∧s.sl 13 = zAL M∧s.sl 14 = int M.length∧s.sl 15 = int i∧s.sl 6 = int i∧s.sl 7 = zaH row∧s.sl 26 = zaH row∧s.sl 27 = int row.length∧s.sl 28 = int j∧(j ≤ row.length∧TabP s.rw 12 1 22 3 M.length (i + 1) (zgd p (M.take i) ++ [prt (row.map fun x=>x % p) (List.replicate row.length 0) j]))) (fun j=>row.length - j) (0) (fun sX htX hslX hoX=>(by refine ⟨?_,?_,?_,?_,?_,?_,?_,?_,?_,?_,?_,⟨by omega,by rw [zed];exact htX⟩⟩ <;> (first | (simp (maxSteps:=9^7) -dsimp only [gr,reduceEqDiff,reduceLT,reduceAdd,reduceMod,Nat.reduceBEq,hslX,hoX,h0a,h1a,h5a,h13a,h14a,h15a];first | done | rfl | (simp;done)) | assumption | rfl))) ?_
  intro j sb ⟨h0b,h1b,h5b,h13b,h14b,h15b,h6b,h7b,h26b,h27b,h28b,hIb⟩
  obtain ⟨hj,ht2⟩:=hIb
  have hrr:=ht2.row i (by omega)
  rw [zqP hlen] at hrr
  have hpl:∀ t,(prt (row.map fun x=>x % p) (List.replicate row.length 0) t).length = row.length:=fun t=>by rw [zcy (by simp)];simp
  simp (maxSteps:=9^7) -dsimp only [↓gp,gq,reduceCtorEq,reduceEqDiff,reduceLT,reduceLeDiff,reduceAdd,reduceMul,reduceSub,Nat.reduceBEq,Int.reduceToNat,Int.reduceLE,Int.reduceLT,Int.reduceNeg,reduceMod,gT,h0b,h1b,h5b,h13b,h14b,h15b,h6b,h7b,h26b,h27b,h28b,ht2.top,zkC,hrr,hpl,zbE]
  refine ⟨fun h2=>⟨h2,h2,by kernel_rfl,h,h,zab (zfR _ p hp) ?_⟩,fun h2=>?_⟩
  ·simp (maxSteps:=9^7) -dsimp only [↓gp,gq,reduceCtorEq,reduceEqDiff,reduceLT,reduceLeDiff,reduceAdd,reduceMul,reduceSub,Nat.reduceBEq,Int.reduceToNat,Int.reduceLE,Int.reduceLT,Int.reduceNeg,reduceMod,gT,h0b,h1b,h5b,h13b,h14b,h15b,h6b,h7b,h26b,h27b,h28b,ht2.top,zkC,hrr,hpl,zbE]
   refine ⟨h2,by omega,by kernel_rfl,zac (j + 1) ⟨(by (first | (simp (maxSteps:=9^7) -dsimp only [gr,reduceEqDiff,reduceLT,reduceAdd,reduceMod,Nat.reduceBEq,h0b,h1b,h5b,h13b,h14b,h15b,h6b,h7b,h26b,h27b,h28b,zaa h2 (by omega)];first | done | rfl | (simp;done)) | assumption | rfl)),(by (first | (simp (maxSteps:=9^7) -dsimp only [gr,reduceEqDiff,reduceLT,reduceAdd,reduceMod,Nat.reduceBEq,h0b,h1b,h5b,h13b,h14b,h15b,h6b,h7b,h26b,h27b,h28b,zaa h2 (by omega)];first | done | rfl | (simp;done)) | assumption | rfl)),(by (first | (simp (maxSteps:=9^7) -dsimp only [gr,reduceEqDiff,reduceLT,reduceAdd,reduceMod,Nat.reduceBEq,h0b,h1b,h5b,h13b,h14b,h15b,h6b,h7b,h26b,h27b,h28b,zaa h2 (by omega)];first | done | rfl | (simp;done)) | assumption | rfl)),(by (first | (simp (maxSteps:=9^7) -dsimp only [gr,reduceEqDiff,reduceLT,reduceAdd,reduceMod,Nat.reduceBEq,h0b,h1b,h5b,h13b,h14b,h15b,h6b,h7b,h26b,h27b,h28b,zaa h2 (by omega)];first | done | rfl | (simp;done)) | assumption | rfl)),(by (first | (simp (maxSteps:=9^7) -dsimp only [gr,reduceEqDiff,reduceLT,reduceAdd,reduceMod,Nat.reduceBEq,h0b,h1b,h5b,h13b,h14b,h15b,h6b,h7b,h26b,h27b,h28b,zaa h2 (by omega)];first | done | rfl | (simp;done)) | assumption | rfl)),(by (first | (simp (maxSteps:=9^7) -dsimp only [gr,reduceEqDiff,reduceLT,reduceAdd,reduceMod,Nat.reduceBEq,h0b,h1b,h5b,h13b,h14b,h15b,h6b,h7b,h26b,h27b,h28b,zaa h2 (by omega)];first | done | rfl | (simp;done)) | assumption | rfl)),(by (first | (simp (maxSteps:=9^7) -dsimp only [gr,reduceEqDiff,reduceLT,reduceAdd,reduceMod,Nat.reduceBEq,h0b,h1b,h5b,h13b,h14b,h15b,h6b,h7b,h26b,h27b,h28b,zaa h2 (by omega)];first | done | rfl | (simp;done)) | assumption | rfl)),(by (first | (simp (maxSteps:=9^7) -dsimp only [gr,reduceEqDiff,reduceLT,reduceAdd,reduceMod,Nat.reduceBEq,h0b,h1b,h5b,h13b,h14b,h15b,h6b,h7b,h26b,h27b,h28b,zaa h2 (by omega)];first | done | rfl | (simp;done)) | assumption | rfl)),(by (first | (simp (maxSteps:=9^7) -dsimp only [gr,reduceEqDiff,reduceLT,reduceAdd,reduceMod,Nat.reduceBEq,h0b,h1b,h5b,h13b,h14b,h15b,h6b,h7b,h26b,h27b,h28b,zaa h2 (by omega)];first | done | rfl | (simp;done)) | assumption | rfl)),(by (first | (simp (maxSteps:=9^7) -dsimp only [gr,reduceEqDiff,reduceLT,reduceAdd,reduceMod,Nat.reduceBEq,h0b,h1b,h5b,h13b,h14b,h15b,h6b,h7b,h26b,h27b,h28b,zaa h2 (by omega)];first | done | rfl | (simp;done)) | assumption | rfl)),(by (first | (simp (maxSteps:=9^7) -dsimp only [gr,reduceEqDiff,reduceLT,reduceAdd,reduceMod,Nat.reduceBEq,h0b,h1b,h5b,h13b,h14b,h15b,h6b,h7b,h26b,h27b,h28b,zaa h2 (by omega)];first | done | rfl | (simp;done)) | assumption | rfl)),⟨by omega,?_⟩⟩ (by first | omega | (simp only;omega) | (dsimp only;omega) | (show _ < _;simp;omega))⟩
   have e:zgd p (M.take i) ++ [prt (row.map fun x=>x % p) (List.replicate row.length 0) (j + 1)] = (zgd p (M.take i) ++ [prt (row.map fun x=>x % p) (List.replicate row.length 0) j]).set i ((prt (row.map fun x=>x % p) (List.replicate row.length 0) j).set j (row.getD j 0 % p)):=by
    rw [zu3 hlen,← zf3 (by simp) (by simpa using h2),zu9 p h2]
   rw [e]
   exact ht2.set (by omega) (by simp (maxSteps:=9^7) -dsimp only [gr,reduceEqDiff,reduceLT,reduceAdd,reduceMod,Nat.reduceBEq,h0b,h1b,h5b,h13b,h14b,h15b,h6b,h7b,h26b,h27b,h28b]) (by simp (maxSteps:=9^7) -dsimp only [gr,reduceEqDiff,reduceLT,reduceAdd,reduceMod,Nat.reduceBEq,h0b,h1b,h5b,h13b,h14b,h15b,h6b,h7b,h26b,h27b,h28b]) (fun x hx=>by simp (maxSteps:=9^7) -dsimp only [gr,reduceEqDiff,reduceLT,reduceAdd,reduceMod,Nat.reduceBEq,h0b,h1b,h5b,h13b,h14b,h15b,h6b,h7b,h26b,h27b,h28b,hx])
  ·have:j = row.length:=by omega
   subst this
   refine zac (i + 1) ⟨(by (first | (simp (maxSteps:=9^7) -dsimp only [gr,reduceEqDiff,reduceLT,reduceAdd,reduceMod,Nat.reduceBEq,h0a,h1a,h5a,h13a,h14a,h15a,h0b,h1b,h5b,h13b,h14b,h15b,h6b,h7b,h26b,h27b,h28b,zaa h (by omega)];first | done | rfl | (simp;done)) | assumption | rfl)),(by (first | (simp (maxSteps:=9^7) -dsimp only [gr,reduceEqDiff,reduceLT,reduceAdd,reduceMod,Nat.reduceBEq,h0a,h1a,h5a,h13a,h14a,h15a,h0b,h1b,h5b,h13b,h14b,h15b,h6b,h7b,h26b,h27b,h28b,zaa h (by omega)];first | done | rfl | (simp;done)) | assumption | rfl)),(by (first | (simp (maxSteps:=9^7) -dsimp only [gr,reduceEqDiff,reduceLT,reduceAdd,reduceMod,Nat.reduceBEq,h0a,h1a,h5a,h13a,h14a,h15a,h0b,h1b,h5b,h13b,h14b,h15b,h6b,h7b,h26b,h27b,h28b,zaa h (by omega)];first | done | rfl | (simp;done)) | assumption | rfl)),(by (first | (simp (maxSteps:=9^7) -dsimp only [gr,reduceEqDiff,reduceLT,reduceAdd,reduceMod,Nat.reduceBEq,h0a,h1a,h5a,h13a,h14a,h15a,h0b,h1b,h5b,h13b,h14b,h15b,h6b,h7b,h26b,h27b,h28b,zaa h (by omega)];first | done | rfl | (simp;done)) | assumption | rfl)),(by (first | (simp (maxSteps:=9^7) -dsimp only [gr,reduceEqDiff,reduceLT,reduceAdd,reduceMod,Nat.reduceBEq,h0a,h1a,h5a,h13a,h14a,h15a,h0b,h1b,h5b,h13b,h14b,h15b,h6b,h7b,h26b,h27b,h28b,zaa h (by omega)];first | done | rfl | (simp;done)) | assumption | rfl)),(by (first | (simp (maxSteps:=9^7) -dsimp only [gr,reduceEqDiff,reduceLT,reduceAdd,reduceMod,Nat.reduceBEq,h0a,h1a,h5a,h13a,h14a,h15a,h0b,h1b,h5b,h13b,h14b,h15b,h6b,h7b,h26b,h27b,h28b,zaa h (by omega)];first | done | rfl | (simp;done)) | assumption | rfl)),⟨by omega,?_⟩⟩ (by first | omega | (simp only;omega) | (dsimp only;omega) | (show _ < _;simp;omega))
   have e:prt (row.map fun x=>x % p) (List.replicate row.length 0) row.length = row.map fun x=>x % p:=by
    have:=zf2 (new:=row.map fun x=>x % p) (old:=List.replicate row.length 0) (by simp)
    simpa using this
   have ht3:=ht2
   rw [e,← hrow,zqY p h] at ht3
   exact ht3.same (by simp (maxSteps:=9^7) -dsimp only [gr,reduceEqDiff,reduceLT,reduceAdd,reduceMod,Nat.reduceBEq]) (fun x=>by simp (maxSteps:=9^7) -dsimp only [gr,reduceEqDiff,reduceLT,reduceAdd,reduceMod,Nat.reduceBEq])
 ·have:i = M.length:=by omega
  subst this
  rw [List.take_length] at ht
  exact zqN ht.done (by decide) (fun j hj=>by have:=List.mem_range.1 hj;omega)
end Go.Proofs.YtkledeboboplmaaGreat

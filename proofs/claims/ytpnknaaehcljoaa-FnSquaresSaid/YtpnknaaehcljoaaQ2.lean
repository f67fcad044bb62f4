/- DERIVED by an AI agent. -/
import Derived.Test.YtpnknaaehcljoaaQ1
import Derived.Test.YtpnknaaehcljoaaP1
import Derived.Test.YtpnknaaehcljoaaA12
namespace Go.Proofs.Ytpnknaaehcljoaa
open Go.Abs
open Nat (reduceEqDiff reduceMod reduceAdd reduceLT reduceLeDiff reduceSub reduceMul)
set_option linter.unusedSimpArgs false
set_option linter.unusedVariables false
theorem zlF (F s:Nat) (hF:F < 18446744073709551616) (hs:s < 64):AC Try.prog 130 [u64 F,int s] (.im (bool (F.testBit s))):=by
 refine AC.go (rs:=[.tmp 4]) zbq zaD Try.func130 rfl rfl rfl (by kernel_rfl) fun hl=>?_
 have hw:IntKind.u64.wrap (s:Int) = (s:Int):=zba (by omega)
 simp (maxSteps:=5000000) -dsimp only [↓gp,gq,reduceCtorEq,reduceEqDiff,reduceLT,reduceLeDiff,reduceAdd,reduceMul,reduceSub,Nat.reduceBEq,Int.reduceToNat,Int.reduceLE,Int.reduceLT,Int.reduceNeg,reduceMod,zac,zad,zab,zaa,gT,TK.isInt,TK.agg,Array.toList,hw,zxI hF hs]
theorem zlG (F:Nat) (hF:F < 18446744073709551616):AC Try.prog 126 [u64 F] (.fr 3 1 (iL (ofN (zcM F.testBit)))):=by
 refine AC.go (rs:=[.tmp 2]) zbq zaD Try.func126 rfl rfl rfl (by kernel_rfl) fun hl=>?_
 simp (maxSteps:=5000000) -dsimp only [↓gp,gq,reduceCtorEq,reduceEqDiff,reduceLT,reduceLeDiff,reduceAdd,reduceMul,reduceSub,Nat.reduceBEq,Int.reduceToNat,Int.reduceLE,Int.reduceLT,Int.reduceNeg,reduceMod,zac,zad,zab,zaa,gT,TK.isInt,TK.agg,Array.toList]
 refine zas (fun (za:Nat × Nat) s=>match za with | (k,v)=>s.sl 0 = u64 F∧s.sl 3 = .own 3 v∧s.rw 3 = ⟨v,.sli 3 1 false (iL (ofN (zeW F.testBit k 0)))⟩∧s.sl 4 = int k∧(k ≤ 7)) (fun (k,v)=>7 - k) ((0,1)) (by refine ⟨?_,?_,?_,?_,by simp⟩ <;> (first | (simp (maxSteps:=5000000) -dsimp only [gr,reduceEqDiff,reduceLT,reduceAdd,reduceMod,Nat.reduceBEq,zaa,zac,zad,zab];first | done | rfl | (simp;done)) | assumption | rfl)) ?_
 intro (k,v) sa ⟨h0a,h3a,r3a,h4a,hIa⟩
 simp (maxSteps:=5000000) -dsimp only [↓gp,gq,reduceCtorEq,reduceEqDiff,reduceLT,reduceLeDiff,reduceAdd,reduceMul,reduceSub,Nat.reduceBEq,Int.reduceToNat,Int.reduceLE,Int.reduceLT,Int.reduceNeg,reduceMod,zac,zad,zab,zaa,gT,TK.isInt,TK.agg,Array.toList,h0a,h3a,r3a,h4a]
 refine ⟨fun hk=>?_,fun hk=>?_⟩
 ·refine zas (fun (zb:Nat × Nat) s=>match zb with | (m,v)=>s.sl 0 = u64 F∧s.sl 3 = .own 3 v∧s.rw 3 = ⟨v,.sli 3 1 false (iL (ofN (zeW F.testBit k m)))⟩∧s.sl 4 = int k∧s.sl 5 = int m∧(m ≤ 64)) (fun (m,v)=>64 - m) ((0,v)) (by refine ⟨?_,?_,?_,?_,?_,by simp⟩ <;> (first | (simp (maxSteps:=5000000) -dsimp only [gr,reduceEqDiff,reduceLT,reduceAdd,reduceMod,Nat.reduceBEq,zaa,zac,zad,zab,h0a,h3a,r3a,h4a];first | done | rfl | (simp;done)) | assumption | rfl)) ?_
  intro (m,v) sb ⟨h0b,h3b,r3b,h4b,h5b,hIb⟩
  simp (maxSteps:=5000000) -dsimp only [↓gp,gq,reduceCtorEq,reduceEqDiff,reduceLT,reduceLeDiff,reduceAdd,reduceMul,reduceSub,Nat.reduceBEq,Int.reduceToNat,Int.reduceLE,Int.reduceLT,Int.reduceNeg,reduceMod,zac,zad,zab,zaa,gT,TK.isInt,TK.agg,Array.toList,h0b,h3b,r3b,h4b,h5b]
  refine ⟨fun hm=>?_,fun hm=>?_⟩
  ·have hm:m < 64:=by omega
   refine zak (zlF F m hF hm) ?_
   simp (maxSteps:=5000000) -dsimp only [↓gp,gq,reduceCtorEq,reduceEqDiff,reduceLT,reduceLeDiff,reduceAdd,reduceMul,reduceSub,Nat.reduceBEq,Int.reduceToNat,Int.reduceLE,Int.reduceLT,Int.reduceNeg,reduceMod,zac,zad,zab,zaa,gT,TK.isInt,TK.agg,Array.toList,h0b,h3b,r3b,h4b,h5b]
   have hlen:=zlt F.testBit k m
   have hz:zlW (m:Int) = (zaX m:Nat):=by rw [zlW,if_pos (by omega)];simp
   refine ⟨fun hf=>zak (za6 _) ?_,fun hf=>?_⟩
   ·simp (maxSteps:=5000000) -dsimp only [↓gp,gq,reduceCtorEq,reduceEqDiff,reduceLT,reduceLeDiff,reduceAdd,reduceMul,reduceSub,Nat.reduceBEq,Int.reduceToNat,Int.reduceLE,Int.reduceLT,Int.reduceNeg,reduceMod,zac,zad,zab,zaa,gT,TK.isInt,TK.agg,Array.toList,h0b,h3b,r3b,h4b,h5b,hz]
    refine ⟨fun hp=>?_,fun hp=>?_⟩
    ·have hy:zeW F.testBit k (m + 1) = zeW F.testBit k m ++ [m]:=zrY (by rw [hf];simp at hp ⊢;omega)
     refine ⟨by rw [zav];omega,?_⟩
     exact zai ((m + 1,v + 1)) (by refine ⟨?_,?_,?_,?_,?_,by omega⟩ <;> (first | (simp (maxSteps:=5000000) -dsimp only [gr,reduceEqDiff,reduceLT,reduceAdd,reduceMod,Nat.reduceBEq,zaa,zac,zad,zab,h0b,h3b,r3b,h4b,h5b,zaf hm (by omega),hy,za4,zdz];first | done | rfl | (simp;done)) | assumption | rfl)) (by first | omega | (simp only;omega) | (dsimp only;omega) | (show _ < _;simp;omega))
    ·have hy:zeW F.testBit k (m + 1) = zeW F.testBit k m:=zls (by rw [hf];simp at hp ⊢;omega)
     exact zai ((m + 1,v)) (by refine ⟨?_,?_,?_,?_,?_,by omega⟩ <;> (first | (simp (maxSteps:=5000000) -dsimp only [gr,reduceEqDiff,reduceLT,reduceAdd,reduceMod,Nat.reduceBEq,zaa,zac,zad,zab,h0b,h3b,r3b,h4b,h5b,zaf hm (by omega),hy];first | done | rfl | (simp;done)) | assumption | rfl)) (by first | omega | (simp only;omega) | (dsimp only;omega) | (show _ < _;simp;omega))
   ·have hy:zeW F.testBit k (m + 1) = zeW F.testBit k m:=zls (by rw [hf];rfl)
    exact zai ((m + 1,v)) (by refine ⟨?_,?_,?_,?_,?_,by omega⟩ <;> (first | (simp (maxSteps:=5000000) -dsimp only [gr,reduceEqDiff,reduceLT,reduceAdd,reduceMod,Nat.reduceBEq,zaa,zac,zad,zab,h0b,h3b,r3b,h4b,h5b,zaf hm (by omega),hy];first | done | rfl | (simp;done)) | assumption | rfl)) (by first | omega | (simp only;omega) | (dsimp only;omega) | (show _ < _;simp;omega))
  ·have:m = 64:=by omega
   subst this
   have hk:k < 7:=by omega
   exact zai ((k + 1,v)) (by refine ⟨?_,?_,?_,?_,by omega⟩ <;> (first | (simp (maxSteps:=5000000) -dsimp only [gr,reduceEqDiff,reduceLT,reduceAdd,reduceMod,Nat.reduceBEq,zaa,zac,zad,zab,h0a,h3a,r3a,h4a,h0b,h3b,r3b,h4b,h5b,zaf hk (by omega),ziW];first | done | rfl | (simp;done)) | assumption | rfl)) (by first | omega | (simp only;omega) | (dsimp only;omega) | (show _ < _;simp;omega))
 ·have:k = 7:=by omega
  subst this
  rw [zlr]
theorem zxU {l:List Nat} {k:Nat} (h:k < l.length):l = l.take k ++ l.getD k 0 :: l.drop (k + 1):=by
 rw [← zbF 0 h,List.take_append_drop]
theorem zlH {l:List Nat} {p:Nat→Bool} {k:Nat} (h:k < l.length) (hp:p (l.getD k 0) = true):(l.take (k + 1)).filter p = (l.take k).filter p ++ [l.getD k 0]:=by
 rw [zaF 0 h,List.filter_append];simp only [List.filter_cons,hp,if_true,List.filter_nil]
theorem zpp {l:List Nat} {p:Nat→Bool} {k:Nat} (h:k < l.length) (hp:p (l.getD k 0) = false):(l.take (k + 1)).filter p = (l.take k).filter p:=by
 rw [zaF 0 h,List.filter_append];simp only [List.filter_cons,hp,Bool.false_eq_true,if_false,List.filter_nil,List.append_nil]
theorem zrZ {l:List Nat} {p:Nat→Bool}:(l.filter p).length ≤ l.length:=List.length_filter_le _ _
theorem zgX (F:Nat) (hF:F < 18446744073709551616):AC Try.prog 183 [u64 F] (.fr 3 1 (iL (ofN (zga F.testBit false)))):=by
 refine AC.go (rs:=[.tmp 2]) zbq zaD Try.func183 rfl rfl rfl (by kernel_rfl) fun hl=>?_
 simp (maxSteps:=5000000) -dsimp only [↓gp,gq,reduceCtorEq,reduceEqDiff,reduceLT,reduceLeDiff,reduceAdd,reduceMul,reduceSub,Nat.reduceBEq,Int.reduceToNat,Int.reduceLE,Int.reduceLT,Int.reduceNeg,reduceMod,zac,zad,zab,zaa,gT,TK.isInt,TK.agg,Array.toList]
 refine zak (zlG F hF) ?_
 simp (maxSteps:=5000000) -dsimp only [↓gp,gq,reduceCtorEq,reduceEqDiff,reduceLT,reduceLeDiff,reduceAdd,reduceMul,reduceSub,Nat.reduceBEq,Int.reduceToNat,Int.reduceLE,Int.reduceLT,Int.reduceNeg,reduceMod,zac,zad,zab,zaa,gT,TK.isInt,TK.agg,Array.toList]
 have hfull:=zhv F.testBit
 have hmem:∀ k,k < (zcM F.testBit).length→(zcM F.testBit).getD k 0 < 64:=fun k hk=>(zcy.1 (zaC 0 hk)).1
 have hsplit:∀ k,k < (zcM F.testBit).length→zcM F.testBit = (zcM F.testBit).take k ++ (zcM F.testBit).getD k 0 :: (zcM F.testBit).drop (k + 1):=fun k hk=>zxU hk
 have hmin:∀ k,k < (zcM F.testBit).length→((∃ t,t ∈ ((zcM F.testBit).take k).filter (zeX F.testBit false)∧t &&& (zcM F.testBit).getD k 0 = t) ↔ zeX F.testBit false ((zcM F.testBit).getD k 0) = false):=fun k hk=>zs0 (hsplit k hk)
 unfold zga
 generalize zcM F.testBit = all at *
 refine zas (fun (za:Nat × Nat × Nat) s=>match za with | (k,v,u)=>s.sl 3 = .own 3 v∧s.rw 3 = ⟨v,.sli 3 1 false (iL (ofN ((all.take k).filter (zeX F.testBit false))))⟩∧s.sl 10 = .own 10 u∧s.rw 10 = ⟨u,.sli 3 1 false (iL (ofN all))⟩∧s.sl 11 = int all.length∧s.sl 12 = int k∧(k ≤ all.length)) (fun (k,v,u)=>all.length - k) ((0,1,1)) (by refine ⟨?_,?_,?_,?_,?_,?_,by simp⟩ <;> (first | (simp (maxSteps:=5000000) -dsimp only [gr,reduceEqDiff,reduceLT,reduceAdd,reduceMod,Nat.reduceBEq,zaa,zac,zad,zab,zav];first | done | rfl | (simp;done)) | assumption | rfl)) ?_
 intro (k,v,u) sa ⟨h3a,r3a,h10a,r10a,h11a,h12a,hIa⟩
 simp (maxSteps:=5000000) -dsimp only [↓gp,gq,reduceCtorEq,reduceEqDiff,reduceLT,reduceLeDiff,reduceAdd,reduceMul,reduceSub,Nat.reduceBEq,Int.reduceToNat,Int.reduceLE,Int.reduceLT,Int.reduceNeg,reduceMod,zac,zad,zab,zaa,gT,TK.isInt,TK.agg,Array.toList,h3a,r3a,h10a,r10a,h11a,h12a,zav]
 refine ⟨fun hk=>⟨hk,hk,?_⟩,fun hk=>?_⟩
 ·have hs:=hmem k hk
  have hge:(ofN all).getD k 0 = ((all.getD k 0:Nat):Int):=zbb hk
  generalize hout:(all.take k).filter (zeX F.testBit false) = out at *
  have hol:out.length ≤ k:=by rw [← hout];exact Nat.le_trans zrZ (by simp;omega)
  have hom:∀ j,j < out.length→out.getD j 0 < 64:=fun j hj=>by
   have:out.getD j 0 ∈ out:=zaC 0 hj
   generalize out.getD j 0 = x at *
   rw [← hout] at this
   obtain ⟨i,hi,rfl⟩:=zbz 0 (List.mem_of_mem_take (List.mem_filter.1 this).1)
   exact hmem i hi
  refine zas (fun (j:Nat) s=>s.sl 3 = .own 3 v∧s.rw 3 = ⟨v,.sli 3 1 false (iL (ofN out))⟩∧s.sl 10 = .own 10 u∧s.rw 10 = ⟨u,.sli 3 1 false (iL (ofN all))⟩∧s.sl 11 = int all.length∧s.sl 12 = int k∧s.sl 5 = int (all.getD k 0:Nat)∧s.sl 6 = bool false∧s.sl 16 = .own 3 v∧s.sl 17 = int out.length∧s.sl 18 = int j∧(j ≤ out.length∧∀ i,i < j→out.getD i 0 &&& all.getD k 0 ≠ out.getD i 0)) (fun j=>out.length - j) (0) (by refine ⟨?_,?_,?_,?_,?_,?_,?_,?_,?_,?_,?_,by simp⟩ <;> (first | (simp (maxSteps:=5000000) -dsimp only [gr,reduceEqDiff,reduceLT,reduceAdd,reduceMod,Nat.reduceBEq,zaa,zac,zad,zab,h3a,r3a,h10a,r10a,h11a,h12a,hge,zav];first | done | rfl | (simp;done)) | assumption | rfl)) ?_
  intro j sb ⟨h3b,r3b,h10b,r10b,h11b,h12b,h5b,h6b,h16b,h17b,h18b,hIb⟩
  obtain ⟨hj,hall⟩:=hIb
  simp (maxSteps:=5000000) -dsimp only [↓gp,gq,reduceCtorEq,reduceEqDiff,reduceLT,reduceLeDiff,reduceAdd,reduceMul,reduceSub,Nat.reduceBEq,Int.reduceToNat,Int.reduceLE,Int.reduceLT,Int.reduceNeg,reduceMod,zac,zad,zab,zaa,gT,TK.isInt,TK.agg,Array.toList,h3b,r3b,h10b,r10b,h11b,h12b,h5b,h6b,h16b,h17b,h18b,zav]
  have hoj:j < out.length→(ofN out).getD j 0 = ((out.getD j 0:Nat):Int):=fun h=>zbb h
  have hsub:j < out.length→(zd2 .i64 ((ofN out).getD j 0) ((all.getD k 0:Nat):Int) = 0 ↔ out.getD j 0 &&& all.getD k 0 = out.getD j 0):=fun h=>by
   have:=hom j h
   rw [hoj h,ziY (by omega) (by omega),← zgK]
   omega
  have hmk:=hmin k hk
  rw [hout] at hmk
  refine ⟨fun h2=>⟨h2,h2,fun he=>?_,fun he=>zai (j + 1) ⟨(by (first | (simp (maxSteps:=5000000) -dsimp only [gr,reduceEqDiff,reduceLT,reduceAdd,reduceMod,Nat.reduceBEq,zaa,zac,zad,zab,h3b,r3b,h10b,r10b,h11b,h12b,h5b,h6b,h16b,h17b,h18b,zaf h2 (by omega)];first | done | rfl | (simp;done)) | assumption | rfl)),(by (first | (simp (maxSteps:=5000000) -dsimp only [gr,reduceEqDiff,reduceLT,reduceAdd,reduceMod,Nat.reduceBEq,zaa,zac,zad,zab,h3b,r3b,h10b,r10b,h11b,h12b,h5b,h6b,h16b,h17b,h18b,zaf h2 (by omega)];first | done | rfl | (simp;done)) | assumption | rfl)),(by (first | (simp (maxSteps:=5000000) -dsimp only [gr,reduceEqDiff,reduceLT,reduceAdd,reduceMod,Nat.reduceBEq,zaa,zac,zad,zab,h3b,r3b,h10b,r10b,h11b,h12b,h5b,h6b,h16b,h17b,h18b,zaf h2 (by omega)];first | done | rfl | (simp;done)) | assumption | rfl)),(by (first | (simp (maxSteps:=5000000) -dsimp only [gr,reduceEqDiff,reduceLT,reduceAdd,reduceMod,Nat.reduceBEq,zaa,zac,zad,zab,h3b,r3b,h10b,r10b,h11b,h12b,h5b,h6b,h16b,h17b,h18b,zaf h2 (by omega)];first | done | rfl | (simp;done)) | assumption | rfl)),(by (first | (simp (maxSteps:=5000000) -dsimp only [gr,reduceEqDiff,reduceLT,reduceAdd,reduceMod,Nat.reduceBEq,zaa,zac,zad,zab,h3b,r3b,h10b,r10b,h11b,h12b,h5b,h6b,h16b,h17b,h18b,zaf h2 (by omega)];first | done | rfl | (simp;done)) | assumption | rfl)),(by (first | (simp (maxSteps:=5000000) -dsimp only [gr,reduceEqDiff,reduceLT,reduceAdd,reduceMod,Nat.reduceBEq,zaa,zac,zad,zab,h3b,r3b,h10b,r10b,h11b,h12b,h5b,h6b,h16b,h17b,h18b,zaf h2 (by omega)];first | done | rfl | (simp;done)) | assumption | rfl)),(by (first | (simp (maxSteps:=5000000) -dsimp only [gr,reduceEqDiff,reduceLT,reduceAdd,reduceMod,Nat.reduceBEq,zaa,zac,zad,zab,h3b,r3b,h10b,r10b,h11b,h12b,h5b,h6b,h16b,h17b,h18b,zaf h2 (by omega)];first | done | rfl | (simp;done)) | assumption | rfl)),(by (first | (simp (maxSteps:=5000000) -dsimp only [gr,reduceEqDiff,reduceLT,reduceAdd,reduceMod,Nat.reduceBEq,zaa,zac,zad,zab,h3b,r3b,h10b,r10b,h11b,h12b,h5b,h6b,h16b,h17b,h18b,zaf h2 (by omega)];first | done | rfl | (simp;done)) | assumption | rfl)),(by (first | (simp (maxSteps:=5000000) -dsimp only [gr,reduceEqDiff,reduceLT,reduceAdd,reduceMod,Nat.reduceBEq,zaa,zac,zad,zab,h3b,r3b,h10b,r10b,h11b,h12b,h5b,h6b,h16b,h17b,h18b,zaf h2 (by omega)];first | done | rfl | (simp;done)) | assumption | rfl)),(by (first | (simp (maxSteps:=5000000) -dsimp only [gr,reduceEqDiff,reduceLT,reduceAdd,reduceMod,Nat.reduceBEq,zaa,zac,zad,zab,h3b,r3b,h10b,r10b,h11b,h12b,h5b,h6b,h16b,h17b,h18b,zaf h2 (by omega)];first | done | rfl | (simp;done)) | assumption | rfl)),(by (first | (simp (maxSteps:=5000000) -dsimp only [gr,reduceEqDiff,reduceLT,reduceAdd,reduceMod,Nat.reduceBEq,zaa,zac,zad,zab,h3b,r3b,h10b,r10b,h11b,h12b,h5b,h6b,h16b,h17b,h18b,zaf h2 (by omega)];first | done | rfl | (simp;done)) | assumption | rfl)),⟨by omega,fun i hi=>?_⟩⟩ (by first | omega | (simp only;omega) | (dsimp only;omega) | (show _ < _;simp;omega))⟩,fun h2=>⟨by omega,?_⟩⟩
  ·have hx:zeX F.testBit false (all.getD k 0) = false:=hmk.1 ⟨_,zaC 0 h2,(hsub h2).1 (beq_iff_eq.1 he)⟩
   have hno:(all.take (k + 1)).filter (zeX F.testBit false) = out:=by rw [zpp hk hx,hout]
   exact zai ((k + 1,v,u)) (by refine ⟨?_,?_,?_,?_,?_,?_,by omega⟩ <;> (first | (simp (maxSteps:=5000000) -dsimp only [gr,reduceEqDiff,reduceLT,reduceAdd,reduceMod,Nat.reduceBEq,zaa,zac,zad,zab,h3a,r3a,h10a,r10a,h11a,h12a,h3b,r3b,h10b,r10b,h11b,h12b,h5b,h6b,h16b,h17b,h18b,zaf hk (by omega),hno];first | done | rfl | (simp;done)) | assumption | rfl)) (by first | omega | (simp only;omega) | (dsimp only;omega) | (show _ < _;simp;omega))
  ·rcases Nat.lt_succ_iff_lt_or_eq.1 hi with hi | rfl
   ·exact hall i hi
   ·intro e
    rw [(hsub h2).2 e] at he
    simp at he
  ·have hx:zeX F.testBit false (all.getD k 0) = true:=by
    cases hb:zeX F.testBit false (all.getD k 0) with
    | true=>rfl
    | false =>
      obtain ⟨t,ht,hts⟩:=hmk.2 hb
      obtain ⟨i,hi,rfl⟩:=zbz 0 ht
      exact absurd hts (hall i (by omega))
   have hyes:(all.take (k + 1)).filter (zeX F.testBit false) = out ++ [all.getD k 0]:=by rw [zlH hk hx,hout]
   exact zai ((k + 1,v + 1,u)) (by refine ⟨?_,?_,?_,?_,?_,?_,by omega⟩ <;> (first | (simp (maxSteps:=5000000) -dsimp only [gr,reduceEqDiff,reduceLT,reduceAdd,reduceMod,Nat.reduceBEq,zaa,zac,zad,zab,h3a,r3a,h10a,r10a,h11a,h12a,h3b,r3b,h10b,r10b,h11b,h12b,h5b,h6b,h16b,h17b,h18b,zaf hk (by omega),hyes,za4,zdz];first | done | rfl | (simp;done)) | assumption | rfl)) (by first | omega | (simp only;omega) | (dsimp only;omega) | (show _ < _;simp;omega))
 ·have:k = all.length:=by omega
  subst this
  rw [List.take_length]
theorem zgY (n:Int) (xs:List Int):AC Try.prog 143 [int n,zbr xs] (.im (bool (decide (1 ≤ n∧n ≤ 6∧xs.length ≤ 64∧∀ x ∈ xs,zcx n x = true)))):=by
 refine AC.go (rs:=[.tmp 4]) zbq zaD Try.func143 rfl rfl rfl (by kernel_rfl) fun hl=>?_
 simp only [zaH,zaN,and_true,zfY,zb2,true_and] at hl
 simp (maxSteps:=5000000) -dsimp only [↓gp,gq,reduceCtorEq,reduceEqDiff,reduceLT,reduceLeDiff,reduceAdd,reduceMul,reduceSub,Nat.reduceBEq,Int.reduceToNat,Int.reduceLE,Int.reduceLT,Int.reduceNeg,reduceMod,zac,zad,zab,zaa,gT,TK.isInt,TK.agg,Array.toList]
 refine ⟨fun h1=>⟨fun h6=>⟨fun h64 hg=>by omega,fun h64=>?_⟩,fun h6 hg=>by omega⟩,fun h1 hg=>by omega⟩
 refine zas (fun (k:Nat) s=>s.sl 0 = int n∧s.sl 18 = zbr xs∧s.sl 19 = int xs.length∧s.sl 20 = int k∧(k ≤ xs.length∧∀ i,i < k→zcx n (xs.getD i 0) = true)) (fun k=>xs.length - k) (0) (by refine ⟨?_,?_,?_,?_,by simp⟩ <;> (first | (simp (maxSteps:=5000000) -dsimp only [gr,reduceEqDiff,reduceLT,reduceAdd,reduceMod,Nat.reduceBEq,zaa,zac,zad,zab];first | done | rfl | (simp;done)) | assumption | rfl)) ?_
 intro k sa ⟨h0a,h18a,h19a,h20a,hIa⟩
 obtain ⟨hk,hall⟩:=hIa
 simp (maxSteps:=5000000) -dsimp only [↓gp,gq,reduceCtorEq,reduceEqDiff,reduceLT,reduceLeDiff,reduceAdd,reduceMul,reduceSub,Nat.reduceBEq,Int.reduceToNat,Int.reduceLE,Int.reduceLT,Int.reduceNeg,reduceMod,zac,zad,zab,zaa,gT,TK.isInt,TK.agg,Array.toList,h0a,h18a,h19a,h20a]
 refine ⟨fun h=>⟨h,h,zak (zbV _ _) ?_⟩,fun h=>⟨by omega,by omega,by omega,fun x hx=>?_⟩⟩
 ·simp (maxSteps:=5000000) -dsimp only [↓gp,gq,reduceCtorEq,reduceEqDiff,reduceLT,reduceLeDiff,reduceAdd,reduceMul,reduceSub,Nat.reduceBEq,Int.reduceToNat,Int.reduceLE,Int.reduceLT,Int.reduceNeg,reduceMod,zac,zad,zab,zaa,gT,TK.isInt,TK.agg,Array.toList,h0a,h18a,h19a,h20a]
  refine ⟨fun hs hg=>?_,fun hs=>zai (k + 1) ⟨(by (first | (simp (maxSteps:=5000000) -dsimp only [gr,reduceEqDiff,reduceLT,reduceAdd,reduceMod,Nat.reduceBEq,zaa,zac,zad,zab,h0a,h18a,h19a,h20a,zaf h hl];first | done | rfl | (simp;done)) | assumption | rfl)),(by (first | (simp (maxSteps:=5000000) -dsimp only [gr,reduceEqDiff,reduceLT,reduceAdd,reduceMod,Nat.reduceBEq,zaa,zac,zad,zab,h0a,h18a,h19a,h20a,zaf h hl];first | done | rfl | (simp;done)) | assumption | rfl)),(by (first | (simp (maxSteps:=5000000) -dsimp only [gr,reduceEqDiff,reduceLT,reduceAdd,reduceMod,Nat.reduceBEq,zaa,zac,zad,zab,h0a,h18a,h19a,h20a,zaf h hl];first | done | rfl | (simp;done)) | assumption | rfl)),(by (first | (simp (maxSteps:=5000000) -dsimp only [gr,reduceEqDiff,reduceLT,reduceAdd,reduceMod,Nat.reduceBEq,zaa,zac,zad,zab,h0a,h18a,h19a,h20a,zaf h hl];first | done | rfl | (simp;done)) | assumption | rfl)),⟨by omega,fun i hi=>?_⟩⟩ (by first | omega | (simp only;omega) | (dsimp only;omega) | (show _ < _;simp;omega))⟩
  ·have:=hg.2.2.2 _ (zaC 0 h)
   rw [this] at hs;cases hs
  ·rcases Nat.lt_succ_iff_lt_or_eq.1 hi with hi | rfl
   ·exact hall i hi
   ·rwa [Bool.not_eq_false'] at hs
 ·obtain ⟨i,hi,rfl⟩:=zbz 0 hx
  exact hall i (by omega)
noncomputable def inF (xs:List Int) (s:Nat):Bool:=decide ((s:Int) ∈ xs)
noncomputable def zdi (xs:List Int) (k:Nat):List Bool:=(List.range 64).map fun s=>inF (xs.take k) s
theorem zdC (xs:List Int) (k:Nat):(zdi xs k).length = 64:=by simp [zdi]
theorem zpq (xs:List Int):List.replicate 64 false = zdi xs 0:=by
 refine List.ext_getElem (by simp [zdi]) fun j h1 h2=>?_
 rw [List.getElem_replicate]
 simp [zdi,inF]
theorem zs8 {xs:List Int} {k:Nat} (h:k < xs.length) (hx:0 ≤ xs.getD k 0∧xs.getD k 0 < 64):(zdi xs k).set (xs.getD k 0).toNat true = zdi xs (k + 1):=by
 refine List.ext_getElem (by simp [zdi]) fun j h1 h2=>?_
 simp only [zdi,List.getElem_set,List.getElem_map,List.getElem_range]
 have e:inF (xs.take (k + 1)) j = (inF (xs.take k) j || decide ((j:Int) = xs.getD k 0)):=by
  unfold inF
  rw [zaF 0 h,← Bool.decide_or]
  exact decide_eq_decide.2 (by simp only [List.mem_append,List.mem_singleton])
 rw [e]
 by_cases hj:(xs.getD k 0).toNat = j
 ·rw [if_pos hj]
  have:(j:Int) = xs.getD k 0:=by omega
  simp only [this,decide_true,Bool.or_true]
 ·rw [if_neg hj]
  have:¬ (j:Int) = xs.getD k 0:=by omega
  simp only [this,decide_false,Bool.or_false]
theorem zc6 (xs:List Int) (hx:∀ x ∈ xs,0 ≤ x∧x < 64):AC Try.prog 162 [zbr xs] (.fr 3 1 (iL (ofN (zcM (inF xs))))):=by
 refine AC.go (rs:=[.tmp 2]) zbq zaD Try.func162 rfl rfl rfl (by kernel_rfl) fun hl=>?_
 simp only [zaH,zaN,and_true,zfY,zb2,true_and] at hl
 simp (maxSteps:=5000000) -dsimp only [↓gp,gq,reduceCtorEq,reduceEqDiff,reduceLT,reduceLeDiff,reduceAdd,reduceMul,reduceSub,Nat.reduceBEq,Int.reduceToNat,Int.reduceLE,Int.reduceLT,Int.reduceNeg,reduceMod,zac,zad,zab,zaa,gT,TK.isInt,TK.agg,Array.toList]
 refine ⟨by decide,?_⟩
 refine zas (fun (za:Nat × Nat) s=>match za with | (k,v)=>s.sl 0 = zbr xs∧s.sl 3 = .own 8 v∧s.rw 8 = ⟨v,.sli 4 1 false (bL (zdi xs k))⟩∧s.sl 4 = int k∧(k ≤ xs.length)) (fun (k,v)=>xs.length - k) ((0,1)) (by refine ⟨?_,?_,?_,?_,by simp⟩ <;> (first | (simp (maxSteps:=5000000) -dsimp only [gr,reduceEqDiff,reduceLT,reduceAdd,reduceMod,Nat.reduceBEq,zaa,zac,zad,zab,zdM,zpq,Int.reduceToNat];first | done | rfl | (simp;done)) | assumption | rfl)) ?_
 intro (k,v) sa ⟨h0a,h3a,r8a,h4a,hIa⟩
 simp (maxSteps:=5000000) -dsimp only [↓gp,gq,reduceCtorEq,reduceEqDiff,reduceLT,reduceLeDiff,reduceAdd,reduceMul,reduceSub,Nat.reduceBEq,Int.reduceToNat,Int.reduceLE,Int.reduceLT,Int.reduceNeg,reduceMod,zac,zad,zab,zaa,gT,TK.isInt,TK.agg,Array.toList,h0a,h3a,r8a,h4a,zdC]
 refine ⟨fun hk=>?_,fun hk=>?_⟩
 ·have hx1:=hx _ (zaC 0 hk)
  refine ⟨hk,hk,by omega,by omega,by omega,?_⟩
  exact zai ((k + 1,v)) (by refine ⟨?_,?_,?_,?_,by omega⟩ <;> (first | (simp (maxSteps:=5000000) -dsimp only [gr,reduceEqDiff,reduceLT,reduceAdd,reduceMod,Nat.reduceBEq,zaa,zac,zad,zab,h0a,h3a,r8a,h4a,zaf hk hl,zs8 hk hx1];first | done | rfl | (simp;done)) | assumption | rfl)) (by first | omega | (simp only;omega) | (dsimp only;omega) | (show _ < _;simp;omega))
 ·have:k = xs.length:=by omega
  subst this
  have hall:∀ s,s < 64→(zdi xs xs.length).getD s false = inF xs s:=fun s hs=>by
   rw [zd4 false (by rw [zdC];exact hs)]
   simp [zdi]
  have hrl:=zdC xs xs.length
  generalize zdi xs xs.length = row at *
  refine zas (fun (zb:Nat × Nat × Nat) s=>match zb with | (k,v,u)=>s.sl 3 = .own 8 u∧s.rw 8 = ⟨u,.sli 4 1 false (bL row)⟩∧s.sl 5 = .own 21 v∧s.rw 21 = ⟨v,.sli 3 1 false (iL (ofN (zeW (inF xs) k 0)))⟩∧s.sl 6 = int k∧(k ≤ 7)) (fun (k,v,u)=>7 - k) ((0,(sa.rw 21).ver + 1,v)) (by refine ⟨?_,?_,?_,?_,?_,by simp⟩ <;> (first | (simp (maxSteps:=5000000) -dsimp only [gr,reduceEqDiff,reduceLT,reduceAdd,reduceMod,Nat.reduceBEq,zaa,zac,zad,zab,h0a,h3a,r8a,h4a];first | done | rfl | (simp;done)) | assumption | rfl)) ?_
  intro (k,v,u) sb ⟨h3b,r8b,h5b,r21b,h6b,hIb⟩
  simp (maxSteps:=5000000) -dsimp only [↓gp,gq,reduceCtorEq,reduceEqDiff,reduceLT,reduceLeDiff,reduceAdd,reduceMul,reduceSub,Nat.reduceBEq,Int.reduceToNat,Int.reduceLE,Int.reduceLT,Int.reduceNeg,reduceMod,zac,zad,zab,zaa,gT,TK.isInt,TK.agg,Array.toList,h3b,r8b,h5b,r21b,h6b]
  refine ⟨fun hk=>?_,fun hk=>?_⟩
  ·refine zas (fun (zc:Nat × Nat) s=>match zc with | (m,v)=>s.sl 3 = .own 8 u∧s.rw 8 = ⟨u,.sli 4 1 false (bL row)⟩∧s.sl 5 = .own 21 v∧s.rw 21 = ⟨v,.sli 3 1 false (iL (ofN (zeW (inF xs) k m)))⟩∧s.sl 6 = int k∧s.sl 7 = int m∧(m ≤ 64)) (fun (m,v)=>64 - m) ((0,v)) (by refine ⟨?_,?_,?_,?_,?_,?_,by simp⟩ <;> (first | (simp (maxSteps:=5000000) -dsimp only [gr,reduceEqDiff,reduceLT,reduceAdd,reduceMod,Nat.reduceBEq,zaa,zac,zad,zab,h3b,r8b,h5b,r21b,h6b];first | done | rfl | (simp;done)) | assumption | rfl)) ?_
   intro (m,v) sc ⟨h3c,r8c,h5c,r21c,h6c,h7c,hIc⟩
   simp (maxSteps:=5000000) -dsimp only [↓gp,gq,reduceCtorEq,reduceEqDiff,reduceLT,reduceLeDiff,reduceAdd,reduceMul,reduceSub,Nat.reduceBEq,Int.reduceToNat,Int.reduceLE,Int.reduceLT,Int.reduceNeg,reduceMod,zac,zad,zab,zaa,gT,TK.isInt,TK.agg,Array.toList,h3c,r8c,h5c,r21c,h6c,h7c,hrl]
   have hlen:=zlt (inF xs) k m
   refine ⟨fun hm=>⟨by omega,by omega,?_⟩,fun hm=>?_⟩
   ·have hm:m < 64:=by omega
    rw [hall m hm]
    refine ⟨fun hf=>zak (zc1 (by omega) (by omega)) ?_,fun hf=>?_⟩
    ·simp (maxSteps:=5000000) -dsimp only [↓gp,gq,reduceCtorEq,reduceEqDiff,reduceLT,reduceLeDiff,reduceAdd,reduceMul,reduceSub,Nat.reduceBEq,Int.reduceToNat,Int.reduceLE,Int.reduceLT,Int.reduceNeg,reduceMod,zac,zad,zab,zaa,gT,TK.isInt,TK.agg,Array.toList,h3c,r8c,h5c,r21c,h6c,h7c,Int.toNat_natCast]
     refine ⟨fun hp=>?_,fun hp=>?_⟩
     ·have hy:zeW (inF xs) k (m + 1) = zeW (inF xs) k m ++ [m]:=zrY (by rw [hf];simp at hp ⊢;omega)
      refine ⟨by rw [zav];omega,?_⟩
      exact zai ((m + 1,v + 1)) (by refine ⟨?_,?_,?_,?_,?_,?_,by omega⟩ <;> (first | (simp (maxSteps:=5000000) -dsimp only [gr,reduceEqDiff,reduceLT,reduceAdd,reduceMod,Nat.reduceBEq,zaa,zac,zad,zab,h3c,r8c,h5c,r21c,h6c,h7c,zaf hm (by omega),hy,za4,zdz];first | done | rfl | (simp;done)) | assumption | rfl)) (by first | omega | (simp only;omega) | (dsimp only;omega) | (show _ < _;simp;omega))
     ·have hy:zeW (inF xs) k (m + 1) = zeW (inF xs) k m:=zls (by rw [hf];simp at hp ⊢;omega)
      exact zai ((m + 1,v)) (by refine ⟨?_,?_,?_,?_,?_,?_,by omega⟩ <;> (first | (simp (maxSteps:=5000000) -dsimp only [gr,reduceEqDiff,reduceLT,reduceAdd,reduceMod,Nat.reduceBEq,zaa,zac,zad,zab,h3c,r8c,h5c,r21c,h6c,h7c,zaf hm (by omega),hy];first | done | rfl | (simp;done)) | assumption | rfl)) (by first | omega | (simp only;omega) | (dsimp only;omega) | (show _ < _;simp;omega))
    ·have hy:zeW (inF xs) k (m + 1) = zeW (inF xs) k m:=zls (by rw [hf];rfl)
     exact zai ((m + 1,v)) (by refine ⟨?_,?_,?_,?_,?_,?_,by omega⟩ <;> (first | (simp (maxSteps:=5000000) -dsimp only [gr,reduceEqDiff,reduceLT,reduceAdd,reduceMod,Nat.reduceBEq,zaa,zac,zad,zab,h3c,r8c,h5c,r21c,h6c,h7c,zaf hm (by omega),hy];first | done | rfl | (simp;done)) | assumption | rfl)) (by first | omega | (simp only;omega) | (dsimp only;omega) | (show _ < _;simp;omega))
   ·have:m = 64:=by omega
    subst this
    have hk:k < 7:=by omega
    exact zai ((k + 1,v,u)) (by refine ⟨?_,?_,?_,?_,?_,by omega⟩ <;> (first | (simp (maxSteps:=5000000) -dsimp only [gr,reduceEqDiff,reduceLT,reduceAdd,reduceMod,Nat.reduceBEq,zaa,zac,zad,zab,h3b,r8b,h5b,r21b,h6b,h3c,r8c,h5c,r21c,h6c,h7c,zaf hk (by omega),ziW];first | done | rfl | (simp;done)) | assumption | rfl)) (by first | omega | (simp only;omega) | (dsimp only;omega) | (show _ < _;simp;omega))
  ·have:k = 7:=by omega
   subst this
   rw [zlr]
theorem zdF (g:Bool) (xs:List Int) (hx:∀ x ∈ xs,0 ≤ x∧x < 64):AC Try.prog 119 [zbr xs,bool g] (.fr 3 1 (iL (ofN (zga (inF xs) g)))):=by
 refine AC.go (rs:=[.tmp 4]) zbq zaD Try.func119 rfl rfl rfl (by kernel_rfl) fun hl=>?_
 simp only [zaH,zaN,and_true,zfY,zb2,true_and] at hl
 simp (maxSteps:=5000000) -dsimp only [↓gp,gq,reduceCtorEq,reduceEqDiff,reduceLT,reduceLeDiff,reduceAdd,reduceMul,reduceSub,Nat.reduceBEq,Int.reduceToNat,Int.reduceLE,Int.reduceLT,Int.reduceNeg,reduceMod,zac,zad,zab,zaa,gT,TK.isInt,TK.agg,Array.toList]
 refine zak (zc6 xs hx) ?_
 simp (maxSteps:=5000000) -dsimp only [↓gp,gq,reduceCtorEq,reduceEqDiff,reduceLT,reduceLeDiff,reduceAdd,reduceMul,reduceSub,Nat.reduceBEq,Int.reduceToNat,Int.reduceLE,Int.reduceLT,Int.reduceNeg,reduceMod,zac,zad,zab,zaa,gT,TK.isInt,TK.agg,Array.toList]
 have hfull:=zhv (inF xs)
 have hmemf:∀ t,t ∈ zcM (inF xs) ↔ t < 64∧inF xs t = true:=fun t=>zcy
 unfold zga
 have hext:∀ s,s < 64→(zeX (inF xs) g s = true ↔ ∀ t,t ∈ zcM (inF xs)→(if g = true then s &&& t = s else t &&& s = t)→t = s):=fun s hs=>by
  cases g with
  | true=>rw [zfz];simp only [if_true];exact ⟨fun h t ht=>h t ((hmemf t).1 ht).1 ((hmemf t).1 ht).2,fun h t h1 h2=>h t ((hmemf t).2 ⟨h1,h2⟩)⟩
  | false=>rw [zei];simp only [Bool.false_eq_true,if_false];exact ⟨fun h t ht=>h t ((hmemf t).1 ht).1 ((hmemf t).1 ht).2,fun h t h1 h2=>h t ((hmemf t).2 ⟨h1,h2⟩)⟩
 generalize zcM (inF xs) = all at *
 have hmem:∀ k,k < all.length→all.getD k 0 < 64:=fun k hk=>((hmemf _).1 (zaC 0 hk)).1
 refine zas (fun (za:Nat × Nat × Nat) s=>match za with | (k,v,u)=>s.sl 1 = bool g∧s.sl 5 = .own 13 u∧s.rw 13 = ⟨u,.sli 3 1 false (iL (ofN all))⟩∧s.sl 6 = .own 14 v∧s.rw 14 = ⟨v,.sli 3 1 false (iL (ofN ((all.take k).filter (zeX (inF xs) g))))⟩∧s.sl 7 = int k∧(k ≤ all.length)) (fun (k,v,u)=>all.length - k) ((0,1,1)) (by refine ⟨?_,?_,?_,?_,?_,?_,by simp⟩ <;> (first | (simp (maxSteps:=5000000) -dsimp only [gr,reduceEqDiff,reduceLT,reduceAdd,reduceMod,Nat.reduceBEq,zaa,zac,zad,zab];first | done | rfl | (simp;done)) | assumption | rfl)) ?_
 intro (k,v,u) sa ⟨h1a,h5a,r13a,h6a,r14a,h7a,hIa⟩
 simp (maxSteps:=5000000) -dsimp only [↓gp,gq,reduceCtorEq,reduceEqDiff,reduceLT,reduceLeDiff,reduceAdd,reduceMul,reduceSub,Nat.reduceBEq,Int.reduceToNat,Int.reduceLE,Int.reduceLT,Int.reduceNeg,reduceMod,zac,zad,zab,zaa,gT,TK.isInt,TK.agg,Array.toList,h1a,h5a,r13a,h6a,r14a,h7a,zav]
 have hol:((all.take k).filter (zeX (inF xs) g)).length ≤ k:=Nat.le_trans zrZ (by simp;omega)
 refine ⟨fun hk=>?_,fun hk=>?_⟩
 ·have hs:=hmem k hk
  refine zas (fun (zb:Nat × Bool) s=>match zb with | (j,fine)=>s.sl 1 = bool g∧s.sl 5 = .own 13 u∧s.rw 13 = ⟨u,.sli 3 1 false (iL (ofN all))⟩∧s.sl 6 = .own 14 v∧s.rw 14 = ⟨v,.sli 3 1 false (iL (ofN ((all.take k).filter (zeX (inF xs) g))))⟩∧s.sl 7 = int k∧s.sl 8 = bool fine∧s.sl 9 = int j∧(j ≤ all.length∧(fine = true ↔ ∀ i,i < j→(if g = true then all.getD k 0 &&& all.getD i 0 = all.getD k 0 else all.getD i 0 &&& all.getD k 0 = all.getD i 0)→all.getD i 0 = all.getD k 0))) (fun (j,fine)=>all.length - j) ((0,true)) (by refine ⟨?_,?_,?_,?_,?_,?_,?_,?_,by simp⟩ <;> (first | (simp (maxSteps:=5000000) -dsimp only [gr,reduceEqDiff,reduceLT,reduceAdd,reduceMod,Nat.reduceBEq,zaa,zac,zad,zab,h1a,h5a,r13a,h6a,r14a,h7a];first | done | rfl | (simp;done)) | assumption | rfl)) ?_
  intro (j,fine) sb ⟨h1b,h5b,r13b,h6b,r14b,h7b,h8b,h9b,hIb⟩
  obtain ⟨hj,hfine⟩:=hIb
  have ek:(ofN all).getD k 0 = ((all.getD k 0:Nat):Int):=zbb hk
  have ej:j < all.length→(ofN all).getD j 0 = ((all.getD j 0:Nat):Int):=fun h=>zbb h
  have eand:j < all.length→zet .i64 ((ofN all).getD k 0) ((ofN all).getD j 0) = ((all.getD k 0 &&& all.getD j 0:Nat):Int):=fun h=>by
   have:=hmem j h
   rw [ek,ej h,zdA (by omega) (by omega)]
  have hend:j = all.length→(fine = true ↔ zeX (inF xs) g (all.getD k 0) = true):=fun h=>by
   rw [hfine,hext _ hs]
   exact ⟨fun h2 t ht=>by obtain ⟨i,hi,rfl⟩:=zbz 0 ht;exact h2 i (by omega),fun h2 i hi=>h2 _ (zaC 0 (by omega))⟩
  have hend2:j = all.length→fine = false→zeX (inF xs) g (all.getD k 0) = false:=fun h hf=>by
   cases hb:zeX (inF xs) g (all.getD k 0) with
   | false=>rfl
   | true=>rw [(hend h).2 hb] at hf;cases hf
  have pfT:(if g = true then all.getD k 0 &&& all.getD j 0 = all.getD k 0 else all.getD j 0 &&& all.getD k 0 = all.getD j 0)→all.getD j 0 ≠ all.getD k 0→(false = true ↔ ∀ i,i < j + 1→(if g = true then all.getD k 0 &&& all.getD i 0 = all.getD k 0 else all.getD i 0 &&& all.getD k 0 = all.getD i 0)→all.getD i 0 = all.getD k 0):=fun hr hne =>
   ⟨fun h=>(by cases h),fun h=>absurd (h j (by omega) hr) hne⟩
  have pfF:(¬ (if g = true then all.getD k 0 &&& all.getD j 0 = all.getD k 0 else all.getD j 0 &&& all.getD k 0 = all.getD j 0) ∨ all.getD j 0 = all.getD k 0)→(fine = true ↔ ∀ i,i < j + 1→(if g = true then all.getD k 0 &&& all.getD i 0 = all.getD k 0 else all.getD i 0 &&& all.getD k 0 = all.getD i 0)→all.getD i 0 = all.getD k 0):=fun hr=>by
   rw [hfine]
   constructor
   ·intro h i hi
    rcases Nat.lt_succ_iff_lt_or_eq.1 hi with hi | rfl
    ·exact h i hi
    ·exact fun h2=>hr.elim (fun h3=>absurd h2 h3) id
   ·intro h i hi;exact h i (by omega)
  cases g with
  | true =>
    simp (maxSteps:=5000000) -dsimp only [↓gp,gq,reduceCtorEq,reduceEqDiff,reduceLT,reduceLeDiff,reduceAdd,reduceMul,reduceSub,Nat.reduceBEq,Int.reduceToNat,Int.reduceLE,Int.reduceLT,Int.reduceNeg,reduceMod,zac,zad,zab,zaa,gT,TK.isInt,TK.agg,Array.toList,h1b,h5b,r13b,h6b,r14b,h7b,h8b,h9b,zav]
    refine ⟨fun h2=>⟨hk,hk,h2,h2,fun hne=>⟨fun he=>zai ((j + 1,fine)) ⟨(by (first | (simp (maxSteps:=5000000) -dsimp only [gr,reduceEqDiff,reduceLT,reduceAdd,reduceMod,Nat.reduceBEq,zaa,zac,zad,zab,h1b,h5b,r13b,h6b,r14b,h7b,h8b,h9b,zaf h2 (by omega)];first | done | rfl | (simp;done)) | assumption | rfl)),(by (first | (simp (maxSteps:=5000000) -dsimp only [gr,reduceEqDiff,reduceLT,reduceAdd,reduceMod,Nat.reduceBEq,zaa,zac,zad,zab,h1b,h5b,r13b,h6b,r14b,h7b,h8b,h9b,zaf h2 (by omega)];first | done | rfl | (simp;done)) | assumption | rfl)),(by (first | (simp (maxSteps:=5000000) -dsimp only [gr,reduceEqDiff,reduceLT,reduceAdd,reduceMod,Nat.reduceBEq,zaa,zac,zad,zab,h1b,h5b,r13b,h6b,r14b,h7b,h8b,h9b,zaf h2 (by omega)];first | done | rfl | (simp;done)) | assumption | rfl)),(by (first | (simp (maxSteps:=5000000) -dsimp only [gr,reduceEqDiff,reduceLT,reduceAdd,reduceMod,Nat.reduceBEq,zaa,zac,zad,zab,h1b,h5b,r13b,h6b,r14b,h7b,h8b,h9b,zaf h2 (by omega)];first | done | rfl | (simp;done)) | assumption | rfl)),(by (first | (simp (maxSteps:=5000000) -dsimp only [gr,reduceEqDiff,reduceLT,reduceAdd,reduceMod,Nat.reduceBEq,zaa,zac,zad,zab,h1b,h5b,r13b,h6b,r14b,h7b,h8b,h9b,zaf h2 (by omega)];first | done | rfl | (simp;done)) | assumption | rfl)),(by (first | (simp (maxSteps:=5000000) -dsimp only [gr,reduceEqDiff,reduceLT,reduceAdd,reduceMod,Nat.reduceBEq,zaa,zac,zad,zab,h1b,h5b,r13b,h6b,r14b,h7b,h8b,h9b,zaf h2 (by omega)];first | done | rfl | (simp;done)) | assumption | rfl)),(by (first | (simp (maxSteps:=5000000) -dsimp only [gr,reduceEqDiff,reduceLT,reduceAdd,reduceMod,Nat.reduceBEq,zaa,zac,zad,zab,h1b,h5b,r13b,h6b,r14b,h7b,h8b,h9b,zaf h2 (by omega)];first | done | rfl | (simp;done)) | assumption | rfl)),(by (first | (simp (maxSteps:=5000000) -dsimp only [gr,reduceEqDiff,reduceLT,reduceAdd,reduceMod,Nat.reduceBEq,zaa,zac,zad,zab,h1b,h5b,r13b,h6b,r14b,h7b,h8b,h9b,zaf h2 (by omega)];first | done | rfl | (simp;done)) | assumption | rfl)),⟨by omega,pfF (.inl ?_)⟩⟩ (by first | omega | (simp only;omega) | (dsimp only;omega) | (show _ < _;simp;omega)),fun he=>zai ((j + 1,false)) ⟨(by (first | (simp (maxSteps:=5000000) -dsimp only [gr,reduceEqDiff,reduceLT,reduceAdd,reduceMod,Nat.reduceBEq,zaa,zac,zad,zab,h1b,h5b,r13b,h6b,r14b,h7b,h8b,h9b,zaf h2 (by omega)];first | done | rfl | (simp;done)) | assumption | rfl)),(by (first | (simp (maxSteps:=5000000) -dsimp only [gr,reduceEqDiff,reduceLT,reduceAdd,reduceMod,Nat.reduceBEq,zaa,zac,zad,zab,h1b,h5b,r13b,h6b,r14b,h7b,h8b,h9b,zaf h2 (by omega)];first | done | rfl | (simp;done)) | assumption | rfl)),(by (first | (simp (maxSteps:=5000000) -dsimp only [gr,reduceEqDiff,reduceLT,reduceAdd,reduceMod,Nat.reduceBEq,zaa,zac,zad,zab,h1b,h5b,r13b,h6b,r14b,h7b,h8b,h9b,zaf h2 (by omega)];first | done | rfl | (simp;done)) | assumption | rfl)),(by (first | (simp (maxSteps:=5000000) -dsimp only [gr,reduceEqDiff,reduceLT,reduceAdd,reduceMod,Nat.reduceBEq,zaa,zac,zad,zab,h1b,h5b,r13b,h6b,r14b,h7b,h8b,h9b,zaf h2 (by omega)];first | done | rfl | (simp;done)) | assumption | rfl)),(by (first | (simp (maxSteps:=5000000) -dsimp only [gr,reduceEqDiff,reduceLT,reduceAdd,reduceMod,Nat.reduceBEq,zaa,zac,zad,zab,h1b,h5b,r13b,h6b,r14b,h7b,h8b,h9b,zaf h2 (by omega)];first | done | rfl | (simp;done)) | assumption | rfl)),(by (first | (simp (maxSteps:=5000000) -dsimp only [gr,reduceEqDiff,reduceLT,reduceAdd,reduceMod,Nat.reduceBEq,zaa,zac,zad,zab,h1b,h5b,r13b,h6b,r14b,h7b,h8b,h9b,zaf h2 (by omega)];first | done | rfl | (simp;done)) | assumption | rfl)),(by (first | (simp (maxSteps:=5000000) -dsimp only [gr,reduceEqDiff,reduceLT,reduceAdd,reduceMod,Nat.reduceBEq,zaa,zac,zad,zab,h1b,h5b,r13b,h6b,r14b,h7b,h8b,h9b,zaf h2 (by omega)];first | done | rfl | (simp;done)) | assumption | rfl)),(by (first | (simp (maxSteps:=5000000) -dsimp only [gr,reduceEqDiff,reduceLT,reduceAdd,reduceMod,Nat.reduceBEq,zaa,zac,zad,zab,h1b,h5b,r13b,h6b,r14b,h7b,h8b,h9b,zaf h2 (by omega)];first | done | rfl | (simp;done)) | assumption | rfl)),⟨by omega,pfT ?_ ?_⟩⟩ (by first | omega | (simp only;omega) | (dsimp only;omega) | (show _ < _;simp;omega))⟩,fun hne=>zai ((j + 1,fine)) ⟨(by (first | (simp (maxSteps:=5000000) -dsimp only [gr,reduceEqDiff,reduceLT,reduceAdd,reduceMod,Nat.reduceBEq,zaa,zac,zad,zab,h1b,h5b,r13b,h6b,r14b,h7b,h8b,h9b,zaf h2 (by omega)];first | done | rfl | (simp;done)) | assumption | rfl)),(by (first | (simp (maxSteps:=5000000) -dsimp only [gr,reduceEqDiff,reduceLT,reduceAdd,reduceMod,Nat.reduceBEq,zaa,zac,zad,zab,h1b,h5b,r13b,h6b,r14b,h7b,h8b,h9b,zaf h2 (by omega)];first | done | rfl | (simp;done)) | assumption | rfl)),(by (first | (simp (maxSteps:=5000000) -dsimp only [gr,reduceEqDiff,reduceLT,reduceAdd,reduceMod,Nat.reduceBEq,zaa,zac,zad,zab,h1b,h5b,r13b,h6b,r14b,h7b,h8b,h9b,zaf h2 (by omega)];first | done | rfl | (simp;done)) | assumption | rfl)),(by (first | (simp (maxSteps:=5000000) -dsimp only [gr,reduceEqDiff,reduceLT,reduceAdd,reduceMod,Nat.reduceBEq,zaa,zac,zad,zab,h1b,h5b,r13b,h6b,r14b,h7b,h8b,h9b,zaf h2 (by omega)];first | done | rfl | (simp;done)) | assumption | rfl)),(by (first | (simp (maxSteps:=5000000) -dsimp only [gr,reduceEqDiff,reduceLT,reduceAdd,reduceMod,Nat.reduceBEq,zaa,zac,zad,zab,h1b,h5b,r13b,h6b,r14b,h7b,h8b,h9b,zaf h2 (by omega)];first | done | rfl | (simp;done)) | assumption | rfl)),(by (first | (simp (maxSteps:=5000000) -dsimp only [gr,reduceEqDiff,reduceLT,reduceAdd,reduceMod,Nat.reduceBEq,zaa,zac,zad,zab,h1b,h5b,r13b,h6b,r14b,h7b,h8b,h9b,zaf h2 (by omega)];first | done | rfl | (simp;done)) | assumption | rfl)),(by (first | (simp (maxSteps:=5000000) -dsimp only [gr,reduceEqDiff,reduceLT,reduceAdd,reduceMod,Nat.reduceBEq,zaa,zac,zad,zab,h1b,h5b,r13b,h6b,r14b,h7b,h8b,h9b,zaf h2 (by omega)];first | done | rfl | (simp;done)) | assumption | rfl)),(by (first | (simp (maxSteps:=5000000) -dsimp only [gr,reduceEqDiff,reduceLT,reduceAdd,reduceMod,Nat.reduceBEq,zaa,zac,zad,zab,h1b,h5b,r13b,h6b,r14b,h7b,h8b,h9b,zaf h2 (by omega)];first | done | rfl | (simp;done)) | assumption | rfl)),⟨by omega,pfF (.inr ?_)⟩⟩ (by first | omega | (simp only;omega) | (dsimp only;omega) | (show _ < _;simp;omega))⟩,fun h2=>?_⟩
    ·rw [eand h2,ek] at he
     simp only [if_true]
     intro e;rw [e] at he;simp at he
    ·rw [eand h2,ek] at he
     have:=beq_iff_eq.1 he
     simp only [if_true];omega
    ·rw [ek,ej h2] at hne
     intro e;rw [e] at hne;simp at hne
    ·rw [ek,ej h2] at hne
     have:=bne_eq_false_iff_eq.1 hne
     omega
    ·refine ⟨fun hf=>⟨hk,hk,by omega,?_⟩,fun hf=>?_⟩
     ·have hx:=(hend (by omega)).1 hf
      exact zai ((k + 1,v + 1,u)) (by refine ⟨?_,?_,?_,?_,?_,?_,by omega⟩ <;> (first | (simp (maxSteps:=5000000) -dsimp only [gr,reduceEqDiff,reduceLT,reduceAdd,reduceMod,Nat.reduceBEq,zaa,zac,zad,zab,h1a,h5a,r13a,h6a,r14a,h7a,h1b,h5b,r13b,h6b,r14b,h7b,h8b,h9b,zaf hk (by omega),zlH hk hx,za4,zdz,ek];first | done | rfl | (simp;done)) | assumption | rfl)) (by first | omega | (simp only;omega) | (dsimp only;omega) | (show _ < _;simp;omega))
     ·have hx:=hend2 (by omega) hf
      exact zai ((k + 1,v,u)) (by refine ⟨?_,?_,?_,?_,?_,?_,by omega⟩ <;> (first | (simp (maxSteps:=5000000) -dsimp only [gr,reduceEqDiff,reduceLT,reduceAdd,reduceMod,Nat.reduceBEq,zaa,zac,zad,zab,h1a,h5a,r13a,h6a,r14a,h7a,h1b,h5b,r13b,h6b,r14b,h7b,h8b,h9b,zaf hk (by omega),zpp hk hx];first | done | rfl | (simp;done)) | assumption | rfl)) (by first | omega | (simp only;omega) | (dsimp only;omega) | (show _ < _;simp;omega))
  | false =>
    simp (maxSteps:=5000000) -dsimp only [↓gp,gq,reduceCtorEq,reduceEqDiff,reduceLT,reduceLeDiff,reduceAdd,reduceMul,reduceSub,Nat.reduceBEq,Int.reduceToNat,Int.reduceLE,Int.reduceLT,Int.reduceNeg,reduceMod,zac,zad,zab,zaa,gT,TK.isInt,TK.agg,Array.toList,h1b,h5b,r13b,h6b,r14b,h7b,h8b,h9b,zav]
    refine ⟨fun h2=>⟨hk,hk,h2,h2,fun hne=>⟨fun he=>zai ((j + 1,false)) ⟨(by (first | (simp (maxSteps:=5000000) -dsimp only [gr,reduceEqDiff,reduceLT,reduceAdd,reduceMod,Nat.reduceBEq,zaa,zac,zad,zab,h1b,h5b,r13b,h6b,r14b,h7b,h8b,h9b,zaf h2 (by omega)];first | done | rfl | (simp;done)) | assumption | rfl)),(by (first | (simp (maxSteps:=5000000) -dsimp only [gr,reduceEqDiff,reduceLT,reduceAdd,reduceMod,Nat.reduceBEq,zaa,zac,zad,zab,h1b,h5b,r13b,h6b,r14b,h7b,h8b,h9b,zaf h2 (by omega)];first | done | rfl | (simp;done)) | assumption | rfl)),(by (first | (simp (maxSteps:=5000000) -dsimp only [gr,reduceEqDiff,reduceLT,reduceAdd,reduceMod,Nat.reduceBEq,zaa,zac,zad,zab,h1b,h5b,r13b,h6b,r14b,h7b,h8b,h9b,zaf h2 (by omega)];first | done | rfl | (simp;done)) | assumption | rfl)),(by (first | (simp (maxSteps:=5000000) -dsimp only [gr,reduceEqDiff,reduceLT,reduceAdd,reduceMod,Nat.reduceBEq,zaa,zac,zad,zab,h1b,h5b,r13b,h6b,r14b,h7b,h8b,h9b,zaf h2 (by omega)];first | done | rfl | (simp;done)) | assumption | rfl)),(by (first | (simp (maxSteps:=5000000) -dsimp only [gr,reduceEqDiff,reduceLT,reduceAdd,reduceMod,Nat.reduceBEq,zaa,zac,zad,zab,h1b,h5b,r13b,h6b,r14b,h7b,h8b,h9b,zaf h2 (by omega)];first | done | rfl | (simp;done)) | assumption | rfl)),(by (first | (simp (maxSteps:=5000000) -dsimp only [gr,reduceEqDiff,reduceLT,reduceAdd,reduceMod,Nat.reduceBEq,zaa,zac,zad,zab,h1b,h5b,r13b,h6b,r14b,h7b,h8b,h9b,zaf h2 (by omega)];first | done | rfl | (simp;done)) | assumption | rfl)),(by (first | (simp (maxSteps:=5000000) -dsimp only [gr,reduceEqDiff,reduceLT,reduceAdd,reduceMod,Nat.reduceBEq,zaa,zac,zad,zab,h1b,h5b,r13b,h6b,r14b,h7b,h8b,h9b,zaf h2 (by omega)];first | done | rfl | (simp;done)) | assumption | rfl)),(by (first | (simp (maxSteps:=5000000) -dsimp only [gr,reduceEqDiff,reduceLT,reduceAdd,reduceMod,Nat.reduceBEq,zaa,zac,zad,zab,h1b,h5b,r13b,h6b,r14b,h7b,h8b,h9b,zaf h2 (by omega)];first | done | rfl | (simp;done)) | assumption | rfl)),⟨by omega,pfT ?_ ?_⟩⟩ (by first | omega | (simp only;omega) | (dsimp only;omega) | (show _ < _;simp;omega)),fun he=>zai ((j + 1,fine)) ⟨(by (first | (simp (maxSteps:=5000000) -dsimp only [gr,reduceEqDiff,reduceLT,reduceAdd,reduceMod,Nat.reduceBEq,zaa,zac,zad,zab,h1b,h5b,r13b,h6b,r14b,h7b,h8b,h9b,zaf h2 (by omega)];first | done | rfl | (simp;done)) | assumption | rfl)),(by (first | (simp (maxSteps:=5000000) -dsimp only [gr,reduceEqDiff,reduceLT,reduceAdd,reduceMod,Nat.reduceBEq,zaa,zac,zad,zab,h1b,h5b,r13b,h6b,r14b,h7b,h8b,h9b,zaf h2 (by omega)];first | done | rfl | (simp;done)) | assumption | rfl)),(by (first | (simp (maxSteps:=5000000) -dsimp only [gr,reduceEqDiff,reduceLT,reduceAdd,reduceMod,Nat.reduceBEq,zaa,zac,zad,zab,h1b,h5b,r13b,h6b,r14b,h7b,h8b,h9b,zaf h2 (by omega)];first | done | rfl | (simp;done)) | assumption | rfl)),(by (first | (simp (maxSteps:=5000000) -dsimp only [gr,reduceEqDiff,reduceLT,reduceAdd,reduceMod,Nat.reduceBEq,zaa,zac,zad,zab,h1b,h5b,r13b,h6b,r14b,h7b,h8b,h9b,zaf h2 (by omega)];first | done | rfl | (simp;done)) | assumption | rfl)),(by (first | (simp (maxSteps:=5000000) -dsimp only [gr,reduceEqDiff,reduceLT,reduceAdd,reduceMod,Nat.reduceBEq,zaa,zac,zad,zab,h1b,h5b,r13b,h6b,r14b,h7b,h8b,h9b,zaf h2 (by omega)];first | done | rfl | (simp;done)) | assumption | rfl)),(by (first | (simp (maxSteps:=5000000) -dsimp only [gr,reduceEqDiff,reduceLT,reduceAdd,reduceMod,Nat.reduceBEq,zaa,zac,zad,zab,h1b,h5b,r13b,h6b,r14b,h7b,h8b,h9b,zaf h2 (by omega)];first | done | rfl | (simp;done)) | assumption | rfl)),(by (first | (simp (maxSteps:=5000000) -dsimp only [gr,reduceEqDiff,reduceLT,reduceAdd,reduceMod,Nat.reduceBEq,zaa,zac,zad,zab,h1b,h5b,r13b,h6b,r14b,h7b,h8b,h9b,zaf h2 (by omega)];first | done | rfl | (simp;done)) | assumption | rfl)),(by (first | (simp (maxSteps:=5000000) -dsimp only [gr,reduceEqDiff,reduceLT,reduceAdd,reduceMod,Nat.reduceBEq,zaa,zac,zad,zab,h1b,h5b,r13b,h6b,r14b,h7b,h8b,h9b,zaf h2 (by omega)];first | done | rfl | (simp;done)) | assumption | rfl)),⟨by omega,pfF (.inl ?_)⟩⟩ (by first | omega | (simp only;omega) | (dsimp only;omega) | (show _ < _;simp;omega))⟩,fun hne=>zai ((j + 1,fine)) ⟨(by (first | (simp (maxSteps:=5000000) -dsimp only [gr,reduceEqDiff,reduceLT,reduceAdd,reduceMod,Nat.reduceBEq,zaa,zac,zad,zab,h1b,h5b,r13b,h6b,r14b,h7b,h8b,h9b,zaf h2 (by omega)];first | done | rfl | (simp;done)) | assumption | rfl)),(by (first | (simp (maxSteps:=5000000) -dsimp only [gr,reduceEqDiff,reduceLT,reduceAdd,reduceMod,Nat.reduceBEq,zaa,zac,zad,zab,h1b,h5b,r13b,h6b,r14b,h7b,h8b,h9b,zaf h2 (by omega)];first | done | rfl | (simp;done)) | assumption | rfl)),(by (first | (simp (maxSteps:=5000000) -dsimp only [gr,reduceEqDiff,reduceLT,reduceAdd,reduceMod,Nat.reduceBEq,zaa,zac,zad,zab,h1b,h5b,r13b,h6b,r14b,h7b,h8b,h9b,zaf h2 (by omega)];first | done | rfl | (simp;done)) | assumption | rfl)),(by (first | (simp (maxSteps:=5000000) -dsimp only [gr,reduceEqDiff,reduceLT,reduceAdd,reduceMod,Nat.reduceBEq,zaa,zac,zad,zab,h1b,h5b,r13b,h6b,r14b,h7b,h8b,h9b,zaf h2 (by omega)];first | done | rfl | (simp;done)) | assumption | rfl)),(by (first | (simp (maxSteps:=5000000) -dsimp only [gr,reduceEqDiff,reduceLT,reduceAdd,reduceMod,Nat.reduceBEq,zaa,zac,zad,zab,h1b,h5b,r13b,h6b,r14b,h7b,h8b,h9b,zaf h2 (by omega)];first | done | rfl | (simp;done)) | assumption | rfl)),(by (first | (simp (maxSteps:=5000000) -dsimp only [gr,reduceEqDiff,reduceLT,reduceAdd,reduceMod,Nat.reduceBEq,zaa,zac,zad,zab,h1b,h5b,r13b,h6b,r14b,h7b,h8b,h9b,zaf h2 (by omega)];first | done | rfl | (simp;done)) | assumption | rfl)),(by (first | (simp (maxSteps:=5000000) -dsimp only [gr,reduceEqDiff,reduceLT,reduceAdd,reduceMod,Nat.reduceBEq,zaa,zac,zad,zab,h1b,h5b,r13b,h6b,r14b,h7b,h8b,h9b,zaf h2 (by omega)];first | done | rfl | (simp;done)) | assumption | rfl)),(by (first | (simp (maxSteps:=5000000) -dsimp only [gr,reduceEqDiff,reduceLT,reduceAdd,reduceMod,Nat.reduceBEq,zaa,zac,zad,zab,h1b,h5b,r13b,h6b,r14b,h7b,h8b,h9b,zaf h2 (by omega)];first | done | rfl | (simp;done)) | assumption | rfl)),⟨by omega,pfF (.inr ?_)⟩⟩ (by first | omega | (simp only;omega) | (dsimp only;omega) | (show _ < _;simp;omega))⟩,fun h2=>?_⟩
    ·rw [eand h2,ej h2] at he
     have:=beq_iff_eq.1 he
     simp only [Bool.false_eq_true,if_false];rw [Nat.and_comm];omega
    ·rw [ek,ej h2] at hne
     intro e;rw [e] at hne;simp at hne
    ·rw [eand h2,ej h2] at he
     simp only [Bool.false_eq_true,if_false]
     intro e;rw [Nat.and_comm] at e;rw [e] at he;simp at he
    ·rw [ek,ej h2] at hne
     have:=bne_eq_false_iff_eq.1 hne
     omega
    ·refine ⟨fun hf=>⟨hk,hk,by omega,?_⟩,fun hf=>?_⟩
     ·have hx:=(hend (by omega)).1 hf
      exact zai ((k + 1,v + 1,u)) (by refine ⟨?_,?_,?_,?_,?_,?_,by omega⟩ <;> (first | (simp (maxSteps:=5000000) -dsimp only [gr,reduceEqDiff,reduceLT,reduceAdd,reduceMod,Nat.reduceBEq,zaa,zac,zad,zab,h1a,h5a,r13a,h6a,r14a,h7a,h1b,h5b,r13b,h6b,r14b,h7b,h8b,h9b,zaf hk (by omega),zlH hk hx,za4,zdz,ek];first | done | rfl | (simp;done)) | assumption | rfl)) (by first | omega | (simp only;omega) | (dsimp only;omega) | (show _ < _;simp;omega))
     ·have hx:=hend2 (by omega) hf
      exact zai ((k + 1,v,u)) (by refine ⟨?_,?_,?_,?_,?_,?_,by omega⟩ <;> (first | (simp (maxSteps:=5000000) -dsimp only [gr,reduceEqDiff,reduceLT,reduceAdd,reduceMod,Nat.reduceBEq,zaa,zac,zad,zab,h1a,h5a,r13a,h6a,r14a,h7a,h1b,h5b,r13b,h6b,r14b,h7b,h8b,h9b,zaf hk (by omega),zpp hk hx];first | done | rfl | (simp;done)) | assumption | rfl)) (by first | omega | (simp only;omega) | (dsimp only;omega) | (show _ < _;simp;omega))
 ·have:k = all.length:=by omega
  subst this
  rw [List.take_length]
end Go.Proofs.Ytpnknaaehcljoaa

namespace Go.Proofs.Ytpnknaaehcljoaa
open Go.Abs
set_option linter.unusedSimpArgs false
set_option linter.unusedVariables false
end Go.Proofs.Ytpnknaaehcljoaa

namespace Go.Proofs.Ytpnknaaehcljoaa
open Go.Abs
open Nat (reduceEqDiff reduceMod reduceAdd reduceLT reduceLeDiff reduceSub reduceMul)
set_option linter.unusedSimpArgs false
set_option linter.unusedVariables false
theorem zi4 {a b:Int} (ha:0 ≤ a∧a < 64) (hb:0 ≤ b∧b < 64):AC Try.prog 151 [int a,int b] (.im (bool (zlX a b))):=by
 refine AC.go (rs:=[.tmp 4]) zbq zaD Try.func151 rfl rfl rfl (by kernel_rfl) fun hl=>?_
 simp (maxSteps:=5000000) -dsimp only [↓gp,gq,reduceCtorEq,reduceEqDiff,reduceLT,reduceLeDiff,reduceAdd,reduceMul,reduceSub,Nat.reduceBEq,Int.reduceToNat,Int.reduceLE,Int.reduceLT,Int.reduceNeg,reduceMod,zac,zad,zab,zaa,gT,TK.isInt,TK.agg,Array.toList]
 refine zak (zc1 ha.1 (by omega)) ?_
 simp (maxSteps:=5000000) -dsimp only [↓gp,gq,reduceCtorEq,reduceEqDiff,reduceLT,reduceLeDiff,reduceAdd,reduceMul,reduceSub,Nat.reduceBEq,Int.reduceToNat,Int.reduceLE,Int.reduceLT,Int.reduceNeg,reduceMod,zac,zad,zab,zaa,gT,TK.isInt,TK.agg,Array.toList]
 refine zak (zc1 hb.1 (by omega)) ?_
 simp (maxSteps:=5000000) -dsimp only [↓gp,gq,reduceCtorEq,reduceEqDiff,reduceLT,reduceLeDiff,reduceAdd,reduceMul,reduceSub,Nat.reduceBEq,Int.reduceToNat,Int.reduceLE,Int.reduceLT,Int.reduceNeg,reduceMod,zac,zad,zab,zaa,gT,TK.isInt,TK.agg,Array.toList]
 unfold zlX zlW
 rw [if_pos ha,if_pos hb,decide_eq_true ha,decide_eq_true hb]
 simp only [Bool.true_and]
 refine ⟨fun h=>⟨fun h2=>?_,fun h2=>?_⟩,fun h=>?_⟩
 ·rw [if_pos (by simpa using h2)]
 ·rw [if_neg (by simpa using h2)]
  exact decide_eq_false (by omega)
 ·rw [if_neg (by omega)]
  exact decide_eq_true (by omega)
def zFC (n:Int) (xs:List Int) (k:Nat):Prop:=zcx n (xs.getD k 0) = true∧(0 < k→zlX (xs.getD (k - 1) 0) (xs.getD k 0) = true)∧∀ i,i < k→zet .i64 (xs.getD i 0) (xs.getD k 0) ≠ xs.getD i 0
def cxP (n:Int) (xs:List Int):Prop:=1 ≤ n∧n ≤ 6∧∀ k,k < xs.length→zFC n xs k
open Classical in
noncomputable def zfC (n:Int) (xs:List Int):Bool:=decide (cxP n xs)
open Classical in
theorem zc7 {n:Int} {xs:List Int} (h:¬ cxP n xs):zfC n xs = false:=decide_eq_false h
open Classical in
theorem zhA {n:Int} {xs:List Int} (h:cxP n xs):zfC n xs = true:=decide_eq_true h
open Classical in
theorem zfD {n:Int} {xs:List Int}:zfC n xs = true ↔ cxP n xs:=decide_eq_true_iff
theorem zcq (n:Int) (xs:List Int):AC Try.prog 101 [.ag [int n,zbr xs]] (.im (bool (zfC n xs))):=by
 refine AC.go (rs:=[.tmp 2]) zbq zaD Try.func101 rfl rfl rfl (by kernel_rfl) fun hl=>?_
 simp only [zaH,zaN,and_true,zir,zoP,zhi,true_and] at hl
 simp (maxSteps:=5000000) -dsimp only [↓gp,gq,reduceCtorEq,reduceEqDiff,reduceLT,reduceLeDiff,reduceAdd,reduceMul,reduceSub,Nat.reduceBEq,Int.reduceToNat,Int.reduceLE,Int.reduceLT,Int.reduceNeg,reduceMod,zac,zad,zab,zaa,gT,TK.isInt,TK.agg,Array.toList]
 refine zas (fun (k:Nat) s=>s.sl 1 = .ref 1 1 0∧s.rw 1 = ⟨1,.box 27 [int n,zbr xs]⟩∧s.sl 3 = int k∧(k ≤ xs.length∧∀ i,i < k→zFC n xs i)) (fun k=>xs.length - k) (0) (by refine ⟨?_,?_,?_,by simp⟩ <;> (first | (simp (maxSteps:=5000000) -dsimp only [gr,reduceEqDiff,reduceLT,reduceAdd,reduceMod,Nat.reduceBEq,zaa,zac,zad,zab];first | done | rfl | (simp;done)) | assumption | rfl)) ?_
 intro k sa ⟨h1a,r1a,h3a,hIa⟩
 obtain ⟨hk,hall⟩:=hIa
 have hw:IntKind.i64.wrap ((k:Int) - 1) = (k:Int) - 1:=zaq (by omega) (by omega)
 simp (maxSteps:=5000000) -dsimp only [↓gp,gq,reduceCtorEq,reduceEqDiff,reduceLT,reduceLeDiff,reduceAdd,reduceMul,reduceSub,Nat.reduceBEq,Int.reduceToNat,Int.reduceLE,Int.reduceLT,Int.reduceNeg,reduceMod,zac,zad,zab,zaa,gT,TK.isInt,TK.agg,Array.toList,h1a,r1a,h3a,hw,zbi]
 refine ⟨fun h=>⟨by kernel_rfl,h,h,zak (zl5 _ _) ?_⟩,fun h=>zak (zaY _ _ _) ?_⟩
 ·simp (maxSteps:=5000000) -dsimp only [↓gp,gq,reduceCtorEq,reduceEqDiff,reduceLT,reduceLeDiff,reduceAdd,reduceMul,reduceSub,Nat.reduceBEq,Int.reduceToNat,Int.reduceLE,Int.reduceLT,Int.reduceNeg,reduceMod,zac,zad,zab,zaa,gT,TK.isInt,TK.agg,Array.toList,h1a,r1a,h3a,hw,zbi]
  refine ⟨fun hs=>⟨fun h0=>⟨by omega,by omega,by omega,h,h,?_⟩,fun h0=>?_⟩,fun hs=>?_⟩
  ·have hs:zcx n (xs.getD k 0) = true:=by rwa [Bool.not_eq_false'] at hs
   have hb:=zeh hs
   have hb':=zeh (hall (k - 1) (by omega)).1
   refine zak (zi4 hb' hb) ?_
   simp (maxSteps:=5000000) -dsimp only [↓gp,gq,reduceCtorEq,reduceEqDiff,reduceLT,reduceLeDiff,reduceAdd,reduceMul,reduceSub,Nat.reduceBEq,Int.reduceToNat,Int.reduceLE,Int.reduceLT,Int.reduceNeg,reduceMod,zac,zad,zab,zaa,gT,TK.isInt,TK.agg,Array.toList,h1a,r1a,h3a,hw,zbi]
   refine ⟨fun hbef=>zc7 fun hg=>?_,fun hbef=>?_⟩
   ·have:=(hg.2.2 k h).2.1 (by omega)
    rw [this] at hbef;cases hbef
   ·have hbef:0 < k→zlX (xs.getD (k - 1) 0) (xs.getD k 0) = true:=fun _=>by rwa [Bool.not_eq_false'] at hbef
    refine zas (fun (i:Nat) s=>s.sl 1 = .ref 1 1 0∧s.rw 1 = ⟨1,.box 27 [int n,zbr xs]⟩∧s.sl 3 = int k∧s.sl 4 = int i∧(i ≤ k∧∀ j,j < i→zet .i64 (xs.getD j 0) (xs.getD k 0) ≠ xs.getD j 0)) (fun i=>k - i) (0) (by refine ⟨?_,?_,?_,?_,by simp⟩ <;> (first | (simp (maxSteps:=5000000) -dsimp only [gr,reduceEqDiff,reduceLT,reduceAdd,reduceMod,Nat.reduceBEq,zaa,zac,zad,zab,h1a,r1a,h3a];first | done | rfl | (simp;done)) | assumption | rfl)) ?_
    intro i sb ⟨h1b,r1b,h3b,h4b,hIb⟩
    obtain ⟨hik,hin⟩:=hIb
    simp (maxSteps:=5000000) -dsimp only [↓gp,gq,reduceCtorEq,reduceEqDiff,reduceLT,reduceLeDiff,reduceAdd,reduceMul,reduceSub,Nat.reduceBEq,Int.reduceToNat,Int.reduceLE,Int.reduceLT,Int.reduceNeg,reduceMod,zac,zad,zab,zaa,gT,TK.isInt,TK.agg,Array.toList,h1b,r1b,h3b,h4b]
    refine ⟨fun hi=>⟨by kernel_rfl,by omega,by omega,h,h,by omega,by omega,fun he=>?_,fun he=>zai (i + 1) ⟨(by (first | (simp (maxSteps:=5000000) -dsimp only [gr,reduceEqDiff,reduceLT,reduceAdd,reduceMod,Nat.reduceBEq,zaa,zac,zad,zab,h1b,r1b,h3b,h4b,zaf hi (by omega)];first | done | rfl | (simp;done)) | assumption | rfl)),(by (first | (simp (maxSteps:=5000000) -dsimp only [gr,reduceEqDiff,reduceLT,reduceAdd,reduceMod,Nat.reduceBEq,zaa,zac,zad,zab,h1b,r1b,h3b,h4b,zaf hi (by omega)];first | done | rfl | (simp;done)) | assumption | rfl)),(by (first | (simp (maxSteps:=5000000) -dsimp only [gr,reduceEqDiff,reduceLT,reduceAdd,reduceMod,Nat.reduceBEq,zaa,zac,zad,zab,h1b,r1b,h3b,h4b,zaf hi (by omega)];first | done | rfl | (simp;done)) | assumption | rfl)),(by (first | (simp (maxSteps:=5000000) -dsimp only [gr,reduceEqDiff,reduceLT,reduceAdd,reduceMod,Nat.reduceBEq,zaa,zac,zad,zab,h1b,r1b,h3b,h4b,zaf hi (by omega)];first | done | rfl | (simp;done)) | assumption | rfl)),⟨by omega,fun j hj=>?_⟩⟩ (by first | omega | (simp only;omega) | (dsimp only;omega) | (show _ < _;simp;omega))⟩,fun hi=>zai (k + 1) ⟨(by (first | (simp (maxSteps:=5000000) -dsimp only [gr,reduceEqDiff,reduceLT,reduceAdd,reduceMod,Nat.reduceBEq,zaa,zac,zad,zab,h1a,r1a,h3a,h1b,r1b,h3b,h4b,zaf h hl];first | done | rfl | (simp;done)) | assumption | rfl)),(by (first | (simp (maxSteps:=5000000) -dsimp only [gr,reduceEqDiff,reduceLT,reduceAdd,reduceMod,Nat.reduceBEq,zaa,zac,zad,zab,h1a,r1a,h3a,h1b,r1b,h3b,h4b,zaf h hl];first | done | rfl | (simp;done)) | assumption | rfl)),(by (first | (simp (maxSteps:=5000000) -dsimp only [gr,reduceEqDiff,reduceLT,reduceAdd,reduceMod,Nat.reduceBEq,zaa,zac,zad,zab,h1a,r1a,h3a,h1b,r1b,h3b,h4b,zaf h hl];first | done | rfl | (simp;done)) | assumption | rfl)),⟨by omega,fun j hj=>?_⟩⟩ (by first | omega | (simp only;omega) | (dsimp only;omega) | (show _ < _;simp;omega))⟩
    ·exact zc7 fun hg=>(hg.2.2 k h).2.2 i hi (by simpa using he)
    ·rcases Nat.lt_succ_iff_lt_or_eq.1 hj with hj | rfl
     ·exact hin j hj
     ·simpa using he
    ·rcases Nat.lt_succ_iff_lt_or_eq.1 hj with hj | rfl
     ·exact hall j hj
     ·exact ⟨hs,hbef,fun i hi=>hin i (by omega)⟩
  ·have hs:zcx n (xs.getD k 0) = true:=by rwa [Bool.not_eq_false'] at hs
   have hbef:0 < k→zlX (xs.getD (k - 1) 0) (xs.getD k 0) = true:=fun h=>by omega
   refine zas (fun (i:Nat) s=>s.sl 1 = .ref 1 1 0∧s.rw 1 = ⟨1,.box 27 [int n,zbr xs]⟩∧s.sl 3 = int k∧s.sl 4 = int i∧(i ≤ k∧∀ j,j < i→zet .i64 (xs.getD j 0) (xs.getD k 0) ≠ xs.getD j 0)) (fun i=>k - i) (0) (by refine ⟨?_,?_,?_,?_,by simp⟩ <;> (first | (simp (maxSteps:=5000000) -dsimp only [gr,reduceEqDiff,reduceLT,reduceAdd,reduceMod,Nat.reduceBEq,zaa,zac,zad,zab,h1a,r1a,h3a];first | done | rfl | (simp;done)) | assumption | rfl)) ?_
   intro i sb ⟨h1b,r1b,h3b,h4b,hIb⟩
   obtain ⟨hik,hin⟩:=hIb
   simp (maxSteps:=5000000) -dsimp only [↓gp,gq,reduceCtorEq,reduceEqDiff,reduceLT,reduceLeDiff,reduceAdd,reduceMul,reduceSub,Nat.reduceBEq,Int.reduceToNat,Int.reduceLE,Int.reduceLT,Int.reduceNeg,reduceMod,zac,zad,zab,zaa,gT,TK.isInt,TK.agg,Array.toList,h1b,r1b,h3b,h4b]
   refine ⟨fun hi=>⟨by kernel_rfl,by omega,by omega,h,h,by omega,by omega,fun he=>?_,fun he=>zai (i + 1) ⟨(by (first | (simp (maxSteps:=5000000) -dsimp only [gr,reduceEqDiff,reduceLT,reduceAdd,reduceMod,Nat.reduceBEq,zaa,zac,zad,zab,h1b,r1b,h3b,h4b,zaf hi (by omega)];first | done | rfl | (simp;done)) | assumption | rfl)),(by (first | (simp (maxSteps:=5000000) -dsimp only [gr,reduceEqDiff,reduceLT,reduceAdd,reduceMod,Nat.reduceBEq,zaa,zac,zad,zab,h1b,r1b,h3b,h4b,zaf hi (by omega)];first | done | rfl | (simp;done)) | assumption | rfl)),(by (first | (simp (maxSteps:=5000000) -dsimp only [gr,reduceEqDiff,reduceLT,reduceAdd,reduceMod,Nat.reduceBEq,zaa,zac,zad,zab,h1b,r1b,h3b,h4b,zaf hi (by omega)];first | done | rfl | (simp;done)) | assumption | rfl)),(by (first | (simp (maxSteps:=5000000) -dsimp only [gr,reduceEqDiff,reduceLT,reduceAdd,reduceMod,Nat.reduceBEq,zaa,zac,zad,zab,h1b,r1b,h3b,h4b,zaf hi (by omega)];first | done | rfl | (simp;done)) | assumption | rfl)),⟨by omega,fun j hj=>?_⟩⟩ (by first | omega | (simp only;omega) | (dsimp only;omega) | (show _ < _;simp;omega))⟩,fun hi=>zai (k + 1) ⟨(by (first | (simp (maxSteps:=5000000) -dsimp only [gr,reduceEqDiff,reduceLT,reduceAdd,reduceMod,Nat.reduceBEq,zaa,zac,zad,zab,h1a,r1a,h3a,h1b,r1b,h3b,h4b,zaf h hl];first | done | rfl | (simp;done)) | assumption | rfl)),(by (first | (simp (maxSteps:=5000000) -dsimp only [gr,reduceEqDiff,reduceLT,reduceAdd,reduceMod,Nat.reduceBEq,zaa,zac,zad,zab,h1a,r1a,h3a,h1b,r1b,h3b,h4b,zaf h hl];first | done | rfl | (simp;done)) | assumption | rfl)),(by (first | (simp (maxSteps:=5000000) -dsimp only [gr,reduceEqDiff,reduceLT,reduceAdd,reduceMod,Nat.reduceBEq,zaa,zac,zad,zab,h1a,r1a,h3a,h1b,r1b,h3b,h4b,zaf h hl];first | done | rfl | (simp;done)) | assumption | rfl)),⟨by omega,fun j hj=>?_⟩⟩ (by first | omega | (simp only;omega) | (dsimp only;omega) | (show _ < _;simp;omega))⟩
   ·exact zc7 fun hg=>(hg.2.2 k h).2.2 i hi (by simpa using he)
   ·rcases Nat.lt_succ_iff_lt_or_eq.1 hj with hj | rfl
    ·exact hin j hj
    ·simpa using he
   ·rcases Nat.lt_succ_iff_lt_or_eq.1 hj with hj | rfl
    ·exact hall j hj
    ·exact ⟨hs,hbef,fun i hi=>hin i (by omega)⟩
  ·have hs:zcx n (xs.getD k 0) = false:=by rwa [Bool.not_eq_true'] at hs
   exact zc7 fun hg=>by have:=(hg.2.2 k h).1;rw [hs] at this;cases this
 ·simp (maxSteps:=5000000) -dsimp only [↓gp,gq,reduceCtorEq,reduceEqDiff,reduceLT,reduceLeDiff,reduceAdd,reduceMul,reduceSub,Nat.reduceBEq,Int.reduceToNat,Int.reduceLE,Int.reduceLT,Int.reduceNeg,reduceMod,zac,zad,zab,zaa,gT,TK.isInt,TK.agg,Array.toList,h1a,r1a,h3a,hw,zbi]
  by_cases hn:1 ≤ n∧n ≤ 6
  ·rw [zhA ⟨hn.1,hn.2,fun k hk=>hall k (by omega)⟩]
   simp [hn.1,hn.2]
  ·rw [zc7 fun hg=>hn ⟨hg.1,hg.2.1⟩]
   symm
   rw [Bool.and_eq_false_iff,decide_eq_false_iff_not,decide_eq_false_iff_not]
   omega
theorem zfE (n:Int) (xs:List Int):AC Try.prog 146 [int n,zbr xs] (.im (bool (zfC n xs))):=by
 refine AC.go (rs:=[.tmp 4]) zbq zaD Try.func146 rfl rfl rfl (by kernel_rfl) fun hl=>?_
 simp only [zaH,zaN,and_true,zfY,zb2,true_and] at hl
 simp (maxSteps:=5000000) -dsimp only [↓gp,gq,reduceCtorEq,reduceEqDiff,reduceLT,reduceLeDiff,reduceAdd,reduceMul,reduceSub,Nat.reduceBEq,Int.reduceToNat,Int.reduceLE,Int.reduceLT,Int.reduceNeg,reduceMod,zac,zad,zab,zaa,gT,TK.isInt,TK.agg,Array.toList]
 refine ⟨fun hn=>⟨fun h6=>zc7 fun hg=>by have:=hg.2.1;omega,fun h6=>?_⟩,fun hn=>zc7 fun hg=>by have:=hg.1;omega⟩
 refine zas (fun (k:Nat) s=>s.sl 0 = int n∧s.sl 1 = zbr xs∧s.sl 17 = zbr xs∧s.sl 18 = int xs.length∧s.sl 19 = int k∧(k ≤ xs.length∧∀ i,i < k→zcx n (xs.getD i 0) = true∧(0 < i→zlX (xs.getD (i - 1) 0) (xs.getD i 0) = true))) (fun k=>xs.length - k) (0) (by refine ⟨?_,?_,?_,?_,?_,by simp⟩ <;> (first | (simp (maxSteps:=5000000) -dsimp only [gr,reduceEqDiff,reduceLT,reduceAdd,reduceMod,Nat.reduceBEq,zaa,zac,zad,zab];first | done | rfl | (simp;done)) | assumption | rfl)) ?_
 intro k sa ⟨h0a,h1a,h17a,h18a,h19a,hIa⟩
 obtain ⟨hk,hall⟩:=hIa
 have hw:IntKind.i64.wrap ((k:Int) - 1) = (k:Int) - 1:=zaq (by omega) (by omega)
 simp (maxSteps:=5000000) -dsimp only [↓gp,gq,reduceCtorEq,reduceEqDiff,reduceLT,reduceLeDiff,reduceAdd,reduceMul,reduceSub,Nat.reduceBEq,Int.reduceToNat,Int.reduceLE,Int.reduceLT,Int.reduceNeg,reduceMod,zac,zad,zab,zaa,gT,TK.isInt,TK.agg,Array.toList,h0a,h1a,h17a,h18a,h19a,hw,zbi]
 refine ⟨fun h=>⟨h,h,zak (zbV _ _) ?_⟩,fun h=>?_⟩
 ·simp (maxSteps:=5000000) -dsimp only [↓gp,gq,reduceCtorEq,reduceEqDiff,reduceLT,reduceLeDiff,reduceAdd,reduceMul,reduceSub,Nat.reduceBEq,Int.reduceToNat,Int.reduceLE,Int.reduceLT,Int.reduceNeg,reduceMod,zac,zad,zab,zaa,gT,TK.isInt,TK.agg,Array.toList,h0a,h1a,h17a,h18a,h19a,hw,zbi]
  refine ⟨fun hs=>?_,fun hs=>⟨fun h0=>⟨by omega,by omega,by omega,zak (zgR _ _) ?_⟩,fun h0=>?_⟩⟩
  ·have hs:zcx n (xs.getD k 0) = false:=by rwa [Bool.not_eq_true'] at hs
   exact zc7 fun hg=>by have:=(hg.2.2 k h).1;rw [hs] at this;cases this
  ·simp (maxSteps:=5000000) -dsimp only [↓gp,gq,reduceCtorEq,reduceEqDiff,reduceLT,reduceLeDiff,reduceAdd,reduceMul,reduceSub,Nat.reduceBEq,Int.reduceToNat,Int.reduceLE,Int.reduceLT,Int.reduceNeg,reduceMod,zac,zad,zab,zaa,gT,TK.isInt,TK.agg,Array.toList,h0a,h1a,h17a,h18a,h19a,hw,zbi]
   refine ⟨fun hb=>zc7 fun hg=>?_,fun hb=>zai (k + 1) ⟨(by (first | (simp (maxSteps:=5000000) -dsimp only [gr,reduceEqDiff,reduceLT,reduceAdd,reduceMod,Nat.reduceBEq,zaa,zac,zad,zab,h0a,h1a,h17a,h18a,h19a,zaf h hl];first | done | rfl | (simp;done)) | assumption | rfl)),(by (first | (simp (maxSteps:=5000000) -dsimp only [gr,reduceEqDiff,reduceLT,reduceAdd,reduceMod,Nat.reduceBEq,zaa,zac,zad,zab,h0a,h1a,h17a,h18a,h19a,zaf h hl];first | done | rfl | (simp;done)) | assumption | rfl)),(by (first | (simp (maxSteps:=5000000) -dsimp only [gr,reduceEqDiff,reduceLT,reduceAdd,reduceMod,Nat.reduceBEq,zaa,zac,zad,zab,h0a,h1a,h17a,h18a,h19a,zaf h hl];first | done | rfl | (simp;done)) | assumption | rfl)),(by (first | (simp (maxSteps:=5000000) -dsimp only [gr,reduceEqDiff,reduceLT,reduceAdd,reduceMod,Nat.reduceBEq,zaa,zac,zad,zab,h0a,h1a,h17a,h18a,h19a,zaf h hl];first | done | rfl | (simp;done)) | assumption | rfl)),(by (first | (simp (maxSteps:=5000000) -dsimp only [gr,reduceEqDiff,reduceLT,reduceAdd,reduceMod,Nat.reduceBEq,zaa,zac,zad,zab,h0a,h1a,h17a,h18a,h19a,zaf h hl];first | done | rfl | (simp;done)) | assumption | rfl)),⟨by omega,fun j hj=>?_⟩⟩ (by first | omega | (simp only;omega) | (dsimp only;omega) | (show _ < _;simp;omega))⟩
   ·have:=(hg.2.2 k h).2.1 (by omega)
    rw [this] at hb;cases hb
   ·rcases Nat.lt_succ_iff_lt_or_eq.1 hj with hj | rfl
    ·exact hall j hj
    ·exact ⟨by rwa [Bool.not_eq_false'] at hs,fun _=>by rwa [Bool.not_eq_false'] at hb⟩
  ·refine zai (k + 1) ⟨(by (first | (simp (maxSteps:=5000000) -dsimp only [gr,reduceEqDiff,reduceLT,reduceAdd,reduceMod,Nat.reduceBEq,zaa,zac,zad,zab,h0a,h1a,h17a,h18a,h19a,zaf h hl];first | done | rfl | (simp;done)) | assumption | rfl)),(by (first | (simp (maxSteps:=5000000) -dsimp only [gr,reduceEqDiff,reduceLT,reduceAdd,reduceMod,Nat.reduceBEq,zaa,zac,zad,zab,h0a,h1a,h17a,h18a,h19a,zaf h hl];first | done | rfl | (simp;done)) | assumption | rfl)),(by (first | (simp (maxSteps:=5000000) -dsimp only [gr,reduceEqDiff,reduceLT,reduceAdd,reduceMod,Nat.reduceBEq,zaa,zac,zad,zab,h0a,h1a,h17a,h18a,h19a,zaf h hl];first | done | rfl | (simp;done)) | assumption | rfl)),(by (first | (simp (maxSteps:=5000000) -dsimp only [gr,reduceEqDiff,reduceLT,reduceAdd,reduceMod,Nat.reduceBEq,zaa,zac,zad,zab,h0a,h1a,h17a,h18a,h19a,zaf h hl];first | done | rfl | (simp;done)) | assumption | rfl)),(by (first | (simp (maxSteps:=5000000) -dsimp only [gr,reduceEqDiff,reduceLT,reduceAdd,reduceMod,Nat.reduceBEq,zaa,zac,zad,zab,h0a,h1a,h17a,h18a,h19a,zaf h hl];first | done | rfl | (simp;done)) | assumption | rfl)),⟨by omega,fun j hj=>?_⟩⟩ (by first | omega | (simp only;omega) | (dsimp only;omega) | (show _ < _;simp;omega))
   rcases Nat.lt_succ_iff_lt_or_eq.1 hj with hj | rfl
   ·exact hall j hj
   ·exact ⟨by rwa [Bool.not_eq_false'] at hs,fun _=>by omega⟩
 ·have hall':∀ i,i < xs.length→zcx n (xs.getD i 0) = true∧(0 < i→zlX (xs.getD (i - 1) 0) (xs.getD i 0) = true):=fun i hi=>hall i (by omega)
  clear hw hall
  have hsub:∀ i j,i < xs.length→j < xs.length→(zd2 .i64 (xs.getD i 0) (xs.getD j 0) = 0 ↔ zet .i64 (xs.getD i 0) (xs.getD j 0) = xs.getD i 0):=fun i j hi hj=>zpm (zeh (hall' i hi).1) (zeh (hall' j hj).1)
  refine zas (fun (i:Nat) s=>s.sl 1 = zbr xs∧s.sl 41 = zbr xs∧s.sl 42 = int xs.length∧s.sl 43 = int i∧(i ≤ xs.length∧∀ j k,j < i→j < k→k < xs.length→zet .i64 (xs.getD j 0) (xs.getD k 0) ≠ xs.getD j 0)) (fun i=>xs.length - i) (0) (by refine ⟨?_,?_,?_,?_,by simp⟩ <;> (first | (simp (maxSteps:=5000000) -dsimp only [gr,reduceEqDiff,reduceLT,reduceAdd,reduceMod,Nat.reduceBEq,zaa,zac,zad,zab,h0a,h1a,h17a,h18a,h19a];first | done | rfl | (simp;done)) | assumption | rfl)) ?_
  intro i sb ⟨h1b,h41b,h42b,h43b,hIb⟩
  obtain ⟨hi,hin⟩:=hIb
  have hwi:i < xs.length→IntKind.i64.wrap ((i:Int) + 1) = ((i + 1:Nat):Int):=fun h=>zaf h hl
  simp (maxSteps:=5000000) -dsimp only [↓gp,gq,reduceCtorEq,reduceEqDiff,reduceLT,reduceLeDiff,reduceAdd,reduceMul,reduceSub,Nat.reduceBEq,Int.reduceToNat,Int.reduceLE,Int.reduceLT,Int.reduceNeg,reduceMod,zac,zad,zab,zaa,gT,TK.isInt,TK.agg,Array.toList,h1b,h41b,h42b,h43b]
  refine ⟨fun hlt=>?_,fun hge=>zhA ⟨by omega,by omega,fun k hk=>⟨(hall' k hk).1,(hall' k hk).2,fun j hj=>hin j k (by omega) hj hk⟩⟩⟩
  rw [hwi hlt]
  refine ⟨hlt,hlt,by omega,by omega,?_⟩
  refine zas (fun (j:Nat) s=>s.sl 1 = zbr xs∧s.sl 41 = zbr xs∧s.sl 42 = int xs.length∧s.sl 43 = int i∧s.sl 8 = int (xs.getD i 0)∧s.sl 51 = zbr (xs.drop (i + 1))∧s.sl 52 = int (xs.length - (i + 1):Nat)∧s.sl 53 = int j∧(j ≤ xs.length - (i + 1)∧∀ k,k < j→zet .i64 (xs.getD i 0) (xs.getD (i + 1 + k) 0) ≠ xs.getD i 0)) (fun j=>xs.length - (i + 1) - j) (0) (by refine ⟨?_,?_,?_,?_,?_,?_,?_,?_,by simp⟩ <;> (first | (simp (maxSteps:=5000000) -dsimp only [gr,reduceEqDiff,reduceLT,reduceAdd,reduceMod,Nat.reduceBEq,zaa,zac,zad,zab,h1b,h41b,h42b,h43b];first | done | rfl | (simp;done)) | assumption | rfl)) ?_
  intro j sc ⟨h1c,h41c,h42c,h43c,h8c,h51c,h52c,h53c,hIc⟩
  obtain ⟨hj,hinn⟩:=hIc
  have hd:∀ j,(xs.drop (i + 1)).getD j 0 = xs.getD (i + 1 + j) 0:=fun j=>by simp [List.getD]
  simp (maxSteps:=5000000) -dsimp only [↓gp,gq,reduceCtorEq,reduceEqDiff,reduceLT,reduceLeDiff,reduceAdd,reduceMul,reduceSub,Nat.reduceBEq,Int.reduceToNat,Int.reduceLE,Int.reduceLT,Int.reduceNeg,reduceMod,zac,zad,zab,zaa,gT,TK.isInt,TK.agg,Array.toList,h1c,h41c,h42c,h43c,h8c,h51c,h52c,h53c,hd,List.length_drop]
  refine ⟨fun h2=>⟨h2,h2,fun he=>?_,fun he=>zai (j + 1) ⟨(by (first | (simp (maxSteps:=5000000) -dsimp only [gr,reduceEqDiff,reduceLT,reduceAdd,reduceMod,Nat.reduceBEq,zaa,zac,zad,zab,h1c,h41c,h42c,h43c,h8c,h51c,h52c,h53c,zaf h2 (by omega)];first | done | rfl | (simp;done)) | assumption | rfl)),(by (first | (simp (maxSteps:=5000000) -dsimp only [gr,reduceEqDiff,reduceLT,reduceAdd,reduceMod,Nat.reduceBEq,zaa,zac,zad,zab,h1c,h41c,h42c,h43c,h8c,h51c,h52c,h53c,zaf h2 (by omega)];first | done | rfl | (simp;done)) | assumption | rfl)),(by (first | (simp (maxSteps:=5000000) -dsimp only [gr,reduceEqDiff,reduceLT,reduceAdd,reduceMod,Nat.reduceBEq,zaa,zac,zad,zab,h1c,h41c,h42c,h43c,h8c,h51c,h52c,h53c,zaf h2 (by omega)];first | done | rfl | (simp;done)) | assumption | rfl)),(by (first | (simp (maxSteps:=5000000) -dsimp only [gr,reduceEqDiff,reduceLT,reduceAdd,reduceMod,Nat.reduceBEq,zaa,zac,zad,zab,h1c,h41c,h42c,h43c,h8c,h51c,h52c,h53c,zaf h2 (by omega)];first | done | rfl | (simp;done)) | assumption | rfl)),(by (first | (simp (maxSteps:=5000000) -dsimp only [gr,reduceEqDiff,reduceLT,reduceAdd,reduceMod,Nat.reduceBEq,zaa,zac,zad,zab,h1c,h41c,h42c,h43c,h8c,h51c,h52c,h53c,zaf h2 (by omega)];first | done | rfl | (simp;done)) | assumption | rfl)),(by (first | (simp (maxSteps:=5000000) -dsimp only [gr,reduceEqDiff,reduceLT,reduceAdd,reduceMod,Nat.reduceBEq,zaa,zac,zad,zab,h1c,h41c,h42c,h43c,h8c,h51c,h52c,h53c,zaf h2 (by omega)];first | done | rfl | (simp;done)) | assumption | rfl)),(by (first | (simp (maxSteps:=5000000) -dsimp only [gr,reduceEqDiff,reduceLT,reduceAdd,reduceMod,Nat.reduceBEq,zaa,zac,zad,zab,h1c,h41c,h42c,h43c,h8c,h51c,h52c,h53c,zaf h2 (by omega)];first | done | rfl | (simp;done)) | assumption | rfl)),(by (first | (simp (maxSteps:=5000000) -dsimp only [gr,reduceEqDiff,reduceLT,reduceAdd,reduceMod,Nat.reduceBEq,zaa,zac,zad,zab,h1c,h41c,h42c,h43c,h8c,h51c,h52c,h53c,zaf h2 (by omega)];first | done | rfl | (simp;done)) | assumption | rfl)),⟨by omega,fun k hk=>?_⟩⟩ (by first | omega | (simp only;omega) | (dsimp only;omega) | (show _ < _;simp;omega))⟩,fun h2=>zai (i + 1) ⟨(by (first | (simp (maxSteps:=5000000) -dsimp only [gr,reduceEqDiff,reduceLT,reduceAdd,reduceMod,Nat.reduceBEq,zaa,zac,zad,zab,h1b,h41b,h42b,h43b,h1c,h41c,h42c,h43c,h8c,h51c,h52c,h53c,hwi hlt];first | done | rfl | (simp;done)) | assumption | rfl)),(by (first | (simp (maxSteps:=5000000) -dsimp only [gr,reduceEqDiff,reduceLT,reduceAdd,reduceMod,Nat.reduceBEq,zaa,zac,zad,zab,h1b,h41b,h42b,h43b,h1c,h41c,h42c,h43c,h8c,h51c,h52c,h53c,hwi hlt];first | done | rfl | (simp;done)) | assumption | rfl)),(by (first | (simp (maxSteps:=5000000) -dsimp only [gr,reduceEqDiff,reduceLT,reduceAdd,reduceMod,Nat.reduceBEq,zaa,zac,zad,zab,h1b,h41b,h42b,h43b,h1c,h41c,h42c,h43c,h8c,h51c,h52c,h53c,hwi hlt];first | done | rfl | (simp;done)) | assumption | rfl)),(by (first | (simp (maxSteps:=5000000) -dsimp only [gr,reduceEqDiff,reduceLT,reduceAdd,reduceMod,Nat.reduceBEq,zaa,zac,zad,zab,h1b,h41b,h42b,h43b,h1c,h41c,h42c,h43c,h8c,h51c,h52c,h53c,hwi hlt];first | done | rfl | (simp;done)) | assumption | rfl)),⟨by omega,fun j k hj' hk hk'=>?_⟩⟩ (by first | omega | (simp only;omega) | (dsimp only;omega) | (show _ < _;simp;omega))⟩
  ·refine zc7 fun hg=>(hg.2.2 (i + 1 + j) (by omega)).2.2 i (by omega) ((hsub i (i + 1 + j) hlt (by omega)).1 (by simpa using he))
  ·rcases Nat.lt_succ_iff_lt_or_eq.1 hk with hk | rfl
   ·exact hinn k hk
   ·intro e
    have:=(hsub i (i + 1 + k) hlt (by omega)).2 e
    rw [this] at he
    simp at he
  ·rcases Nat.lt_succ_iff_lt_or_eq.1 hj' with hj' | rfl
   ·exact hin j k hj' hk hk'
   ·have:=hinn (k - (j + 1)) (by omega)
    rwa [show j + 1 + (k - (j + 1)) = k by omega] at this
end Go.Proofs.Ytpnknaaehcljoaa

namespace Go.Proofs.Ytpnknaaehcljoaa
open Go.Abs
open Nat (reduceEqDiff reduceMod reduceAdd reduceLT reduceLeDiff reduceSub reduceMul)
set_option linter.unusedSimpArgs false
set_option linter.unusedVariables false
theorem zpr (a:Int):zlX a a = false:=by unfold zlX;simp
theorem zs9 {a b c:Int} (h1:zlX a b = true) (h2:zlX b c = true):zlX a c = true:=by
 unfold zlX at *
 simp only [Bool.and_eq_true,decide_eq_true_eq] at *
 obtain ⟨ha,hb,h1⟩:=h1
 obtain ⟨_,hc,h2⟩:=h2
 refine ⟨ha,hc,?_⟩
 split at h1 <;> split at h2 <;> simp only [decide_eq_true_eq] at h1 h2
 ·rw [if_pos (by omega)];exact decide_eq_true (by omega)
 ·rw [if_neg (by omega)];exact decide_eq_true (by omega)
 ·rw [if_neg (by omega)];exact decide_eq_true (by omega)
 ·rw [if_neg (by omega)];exact decide_eq_true (by omega)
theorem zwl {n:Int} {xs:List Int} (h:cxP n xs):∀ (j i:Nat),i < j→j < xs.length→zlX (xs.getD i 0) (xs.getD j 0) = true:=by
 intro j
 induction j with
 | zero=>intro i hi;omega
 | succ j ih =>
   intro i hi hj
   have h1:=(h.2.2 (j + 1) hj).2.1 (by omega)
   rw [Nat.add_sub_cancel] at h1
   rcases Nat.lt_succ_iff_lt_or_eq.1 hi with hi | rfl
   ·exact zs9 (ih i hi (by omega)) h1
   ·exact h1
theorem zxV {n:Int} {xs:List Int} (h:cxP n xs):xs.Nodup:=by
 refine List.pairwise_iff_getElem.2 fun i j hi hj hij e=>?_
 have:=zwl h j i hij hj
 rw [zd4 0 hi,zd4 0 hj,e,zpr] at this
 cases this
theorem zjq (n:Int) (xs:List Int):AC Try.prog 89 [.ag [int n,zbr xs]] (.im (bool (zfC n xs))):=by
 refine AC.go (rs:=[.tmp 2]) zbq zaD Try.func89 rfl rfl rfl (by kernel_rfl) fun hl=>?_
 simp (maxSteps:=5000000) -dsimp only [↓gp,gq,reduceCtorEq,reduceEqDiff,reduceLT,reduceLeDiff,reduceAdd,reduceMul,reduceSub,Nat.reduceBEq,Int.reduceToNat,Int.reduceLE,Int.reduceLT,Int.reduceNeg,reduceMod,zac,zad,zab,zaa,gT,TK.isInt,TK.agg,Array.toList]
 refine zak (zfE n xs) ?_
 simp (maxSteps:=5000000) -dsimp only [↓gp,gq,reduceCtorEq,reduceEqDiff,reduceLT,reduceLeDiff,reduceAdd,reduceMul,reduceSub,Nat.reduceBEq,Int.reduceToNat,Int.reduceLE,Int.reduceLT,Int.reduceNeg,reduceMod,zac,zad,zab,zaa,gT,TK.isInt,TK.agg,Array.toList]
end Go.Proofs.Ytpnknaaehcljoaa

namespace Go.Proofs.Ytpnknaaehcljoaa
open Go.Abs
set_option linter.unusedSimpArgs false
set_option linter.unusedVariables false
end Go.Proofs.Ytpnknaaehcljoaa

namespace Go.Proofs.Ytpnknaaehcljoaa
open Go.Abs
set_option linter.unusedSimpArgs false
set_option linter.unusedVariables false
end Go.Proofs.Ytpnknaaehcljoaa

namespace Go.Proofs.Ytpnknaaehcljoaa
open Go.Abs
set_option linter.unusedSimpArgs false
set_option linter.unusedVariables false
theorem zxT {n:Nat} {p:Nat→Bool} {s:Nat}:inF (ofN ((List.range n).filter p)) s = (decide (s < n) && p s):=by
 unfold inF ofN
 rw [Bool.eq_iff_iff]
 simp only [decide_eq_true_eq,Bool.and_eq_true,List.mem_map,List.mem_filter,List.mem_range]
 constructor
 ·rintro ⟨t,⟨h1,h2⟩,e⟩
  have:t = s:=by omega
  subst this
  exact ⟨h1,h2⟩
 ·rintro ⟨h1,h2⟩;exact ⟨s,⟨h1,h2⟩,rfl⟩
end Go.Proofs.Ytpnknaaehcljoaa

namespace Go.Proofs.Ytpnknaaehcljoaa
open Go.Abs
open Nat (reduceEqDiff reduceMod reduceAdd reduceLT reduceLeDiff reduceSub reduceMul)
set_option linter.unusedSimpArgs false
set_option linter.unusedVariables false
def okS (xs:List Int):Prop:=∀ x ∈ xs,0 ≤ x∧x < 64
theorem zwj {xs:List Int} (h:okS xs) {k:Nat} (hk:k < xs.length):0 ≤ xs.getD k 0∧xs.getD k 0 < 64:=h _ (zaC 0 hk)
theorem zDX {n:Int} {xs:List Int} (h:zfC n xs = true):okS xs:=fun x hx=>by
 obtain ⟨i,hi,rfl⟩:=zbz 0 hx
 exact zeh ((zfD.1 h).2.2 i hi).1
theorem zon {x:Int} (hx:0 ≤ x∧x < 64) {s:Nat} (hs:s < 64):(zet .i64 x (s:Int) == (s:Int)) = (x.toNat &&& s == s):=by
 have e:x = ((x.toNat:Nat):Int):=by omega
 rw [e,zdA (by omega) (by omega)]
 have:((x.toNat:Nat):Int).toNat = x.toNat:=by omega
 rw [this]
 cases h:(x.toNat &&& s == s) with
 | true=>rw [beq_iff_eq] at h;rw [h];simp
 | false =>
   have h:=beq_eq_false_iff_ne.1 h
   rw [beq_eq_false_iff_ne]
   exact fun e=>h (by omega)
theorem zoo (n:Int) (xs:List Int) (u:Nat) (hx:okS xs) (hs:u < 64):AC Try.prog 118 [.ag [int n,zbr xs],int u] (.im (bool (zcr xs u))):=by
 refine AC.go (rs:=[.tmp 4]) zbq zaD Try.func118 rfl rfl rfl (by kernel_rfl) fun hl=>?_
 simp only [zaH,zaN,and_true,zir,zoP,zhi,zfY,true_and] at hl
 simp (maxSteps:=5000000) -dsimp only [↓gp,gq,reduceCtorEq,reduceEqDiff,reduceLT,reduceLeDiff,reduceAdd,reduceMul,reduceSub,Nat.reduceBEq,Int.reduceToNat,Int.reduceLE,Int.reduceLT,Int.reduceNeg,reduceMod,zac,zad,zab,zaa,gT,TK.isInt,TK.agg,Array.toList]
 refine zas (fun (k:Nat) s=>s.sl 1 = int u∧s.sl 2 = .ref 2 1 0∧s.rw 2 = ⟨1,.box 27 [int n,zbr xs]⟩∧s.sl 5 = int k∧(k ≤ xs.length∧∀ i,i < k→((xs.getD i 0).toNat &&& u == u) = false)) (fun k=>xs.length - k) (0) (by refine ⟨?_,?_,?_,?_,by simp⟩ <;> (first | (simp (maxSteps:=5000000) -dsimp only [gr,reduceEqDiff,reduceLT,reduceAdd,reduceMod,Nat.reduceBEq,zaa,zac,zad,zab];first | done | rfl | (simp;done)) | assumption | rfl)) ?_
 intro k sa ⟨h1a,h2a,r2a,h5a,hIa⟩
 obtain ⟨hk,hall⟩:=hIa
 simp (maxSteps:=5000000) -dsimp only [↓gp,gq,reduceCtorEq,reduceEqDiff,reduceLT,reduceLeDiff,reduceAdd,reduceMul,reduceSub,Nat.reduceBEq,Int.reduceToNat,Int.reduceLE,Int.reduceLT,Int.reduceNeg,reduceMod,zac,zad,zab,zaa,gT,TK.isInt,TK.agg,Array.toList,h1a,h2a,r2a,h5a]
 refine ⟨fun h=>⟨h,h,fun he=>?_,fun he=>zai (k + 1) ⟨(by (first | (simp (maxSteps:=5000000) -dsimp only [gr,reduceEqDiff,reduceLT,reduceAdd,reduceMod,Nat.reduceBEq,zaa,zac,zad,zab,h1a,h2a,r2a,h5a,zaf h hl];first | done | rfl | (simp;done)) | assumption | rfl)),(by (first | (simp (maxSteps:=5000000) -dsimp only [gr,reduceEqDiff,reduceLT,reduceAdd,reduceMod,Nat.reduceBEq,zaa,zac,zad,zab,h1a,h2a,r2a,h5a,zaf h hl];first | done | rfl | (simp;done)) | assumption | rfl)),(by (first | (simp (maxSteps:=5000000) -dsimp only [gr,reduceEqDiff,reduceLT,reduceAdd,reduceMod,Nat.reduceBEq,zaa,zac,zad,zab,h1a,h2a,r2a,h5a,zaf h hl];first | done | rfl | (simp;done)) | assumption | rfl)),(by (first | (simp (maxSteps:=5000000) -dsimp only [gr,reduceEqDiff,reduceLT,reduceAdd,reduceMod,Nat.reduceBEq,zaa,zac,zad,zab,h1a,h2a,r2a,h5a,zaf h hl];first | done | rfl | (simp;done)) | assumption | rfl)),⟨by omega,fun i hi=>?_⟩⟩ (by first | omega | (simp only;omega) | (dsimp only;omega) | (show _ < _;simp;omega))⟩,fun h=>?_⟩
 ·rw [zon (zwj hx h) hs] at he
  exact zop.2 ⟨_,zaC 0 h,by simpa using he⟩
 ·rw [zon (zwj hx h) hs] at he
  rcases Nat.lt_succ_iff_lt_or_eq.1 hi with hi | rfl
  ·exact hall i hi
  ·exact he
 ·cases hf:zcr xs u with
  | false=>rfl
  | true =>
    obtain ⟨x,hx',hx2⟩:=zop.1 hf
    obtain ⟨i,hi,rfl⟩:=zbz 0 hx'
    have:=hall i (by omega)
    rw [hx2] at this
    simp at this
noncomputable def zfR (n:Int) (xs:List Int) (s:Nat):Bool:=zfC n xs && zcr xs s
theorem zlE (l:List Nat) (s:Nat):inF (ofN l) s = decide (s ∈ l):=by
 unfold inF ofN
 refine decide_eq_decide.2 ?_
 simp only [List.mem_map]
 exact ⟨fun ⟨a,h1,h2⟩=>by have:a = s:=by omega
                          exact this ▸ h1,fun h=>⟨s,h,rfl⟩⟩
theorem zwk {l:List Nat} (h:∀ s ∈ l,s < 64):∀ x ∈ ofN l,0 ≤ x∧x < 64:=fun x hx=>by
 obtain ⟨s,hs,rfl⟩:=List.mem_map.1 hx
 have:=h s hs
 omega
theorem zjp (n:Int) (xs:List Int):AC Try.prog 121 [.ag [int n,zbr xs]] (.fr 3 1 (iL (ofN (zcM (zfR n xs))))):=by
 refine AC.go (rs:=[.tmp 2]) zbq zaD Try.func121 rfl rfl rfl (by kernel_rfl) fun hl=>?_
 simp (maxSteps:=5000000) -dsimp only [↓gp,gq,reduceCtorEq,reduceEqDiff,reduceLT,reduceLeDiff,reduceAdd,reduceMul,reduceSub,Nat.reduceBEq,Int.reduceToNat,Int.reduceLE,Int.reduceLT,Int.reduceNeg,reduceMod,zac,zad,zab,zaa,gT,TK.isInt,TK.agg,Array.toList]
 have fin:∀ m,m = 64→zcM (inF (ofN ((List.range m).filter (zfR n xs)))) = zcM (zfR n xs):=fun m hm=>by
  refine zkN fun s hs=>?_
  rw [zlE,hm]
  cases h:zfR n xs s <;> simp [h,hs]
 have hmem:∀ m,m ≤ 64→∀ s ∈ (List.range m).filter (zfR n xs),s < 64:=fun m hm s hs=>by
  have:=List.mem_range.1 (List.mem_filter.1 hs).1;omega
 refine zas (fun (za:Nat × Nat) s=>match za with | (m,v)=>s.sl 1 = .ref 1 1 0∧s.rw 1 = ⟨1,.box 27 [int n,zbr xs]⟩∧s.sl 3 = .own 5 v∧s.rw 5 = ⟨v,.sli 3 1 false (iL (ofN ((List.range m).filter (zfR n xs))))⟩∧s.sl 4 = int m∧(m ≤ 64)) (fun (m,v)=>64 - m) ((0,1)) (by refine ⟨?_,?_,?_,?_,?_,by simp⟩ <;> (first | (simp (maxSteps:=5000000) -dsimp only [gr,reduceEqDiff,reduceLT,reduceAdd,reduceMod,Nat.reduceBEq,zaa,zac,zad,zab];first | done | rfl | (simp;done)) | assumption | rfl)) ?_
 intro (m,v) sa ⟨h1a,r1a,h3a,r5a,h4a,hIa⟩
 have hflen:((List.range m).filter (zfR n xs)).length ≤ 64:=by
  have:=List.length_filter_le (zfR n xs) (List.range m);rw [List.length_range] at this;omega
 simp (maxSteps:=5000000) -dsimp only [↓gp,gq,reduceCtorEq,reduceEqDiff,reduceLT,reduceLeDiff,reduceAdd,reduceMul,reduceSub,Nat.reduceBEq,Int.reduceToNat,Int.reduceLE,Int.reduceLT,Int.reduceNeg,reduceMod,zac,zad,zab,zaa,gT,TK.isInt,TK.agg,Array.toList,h1a,r1a,h3a,r5a,h4a]
 refine ⟨fun h=>zak (zcq n xs) ?_,fun h=>?_⟩
 ·simp (maxSteps:=5000000) -dsimp only [↓gp,gq,reduceCtorEq,reduceEqDiff,reduceLT,reduceLeDiff,reduceAdd,reduceMul,reduceSub,Nat.reduceBEq,Int.reduceToNat,Int.reduceLE,Int.reduceLT,Int.reduceNeg,reduceMod,zac,zad,zab,zaa,gT,TK.isInt,TK.agg,Array.toList,h1a,r1a,h3a,r5a,h4a]
  have hm:m < 64:=by omega
  refine ⟨fun hc=>zak (zoo n xs m (zDX hc) hm) ?_,fun hc=>zak (zc6 _ (zwk (hmem m hIa))) ?_⟩
  ·simp (maxSteps:=5000000) -dsimp only [↓gp,gq,reduceCtorEq,reduceEqDiff,reduceLT,reduceLeDiff,reduceAdd,reduceMul,reduceSub,Nat.reduceBEq,Int.reduceToNat,Int.reduceLE,Int.reduceLT,Int.reduceNeg,reduceMod,zac,zad,zab,zaa,gT,TK.isInt,TK.agg,Array.toList,h1a,r1a,h3a,r5a,h4a,zav]
   refine ⟨fun hf=>?_,fun hf=>?_⟩
   ·have e:(List.range (m + 1)).filter (zfR n xs) = (List.range m).filter (zfR n xs) ++ [m]:=by
     rw [List.range_succ,List.filter_append]
     simp [zfR,hc,hf]
    refine ⟨by omega,?_⟩
    exact zai ((m + 1,v + 1)) (by refine ⟨?_,?_,?_,?_,?_,by dsimp only;omega⟩ <;> (first | (simp (maxSteps:=5000000) -dsimp only [gr,reduceEqDiff,reduceLT,reduceAdd,reduceMod,Nat.reduceBEq,zaa,zac,zad,zab,h1a,r1a,h3a,r5a,h4a,zaf hm (by omega),e,za4,zdz];first | done | rfl | (simp;done)) | assumption | rfl)) (by first | omega | (simp only;omega) | (dsimp only;omega) | (show _ < _;simp;omega))
   ·have e:(List.range (m + 1)).filter (zfR n xs) = (List.range m).filter (zfR n xs):=by
     rw [List.range_succ,List.filter_append]
     simp [zfR,hc,hf]
    exact zai ((m + 1,v)) (by refine ⟨?_,?_,?_,?_,?_,by dsimp only;omega⟩ <;> (first | (simp (maxSteps:=5000000) -dsimp only [gr,reduceEqDiff,reduceLT,reduceAdd,reduceMod,Nat.reduceBEq,zaa,zac,zad,zab,h1a,r1a,h3a,r5a,h4a,zaf hm (by omega),e];first | done | rfl | (simp;done)) | assumption | rfl)) (by first | omega | (simp only;omega) | (dsimp only;omega) | (show _ < _;simp;omega))
  ·simp (maxSteps:=5000000) -dsimp only [↓gp,gq,reduceCtorEq,reduceEqDiff,reduceLT,reduceLeDiff,reduceAdd,reduceMul,reduceSub,Nat.reduceBEq,Int.reduceToNat,Int.reduceLE,Int.reduceLT,Int.reduceNeg,reduceMod,zac,zad,zab,zaa,gT,TK.isInt,TK.agg,Array.toList,h1a,r1a,h3a,r5a,h4a]
   have e1:(List.range m).filter (zfR n xs) = []:=by
    rw [List.filter_eq_nil_iff];intro s _;simp [zfR,hc]
   have e2:zcM (zfR n xs) = zcM (inF (ofN [])):=zkN fun s _=>by rw [zlE];simp [zfR,hc]
   rw [e1,e2]
 ·have:m = 64:=by omega
  refine zak (zc6 _ (zwk (hmem m hIa))) ?_
  simp (maxSteps:=5000000) -dsimp only [↓gp,gq,reduceCtorEq,reduceEqDiff,reduceLT,reduceLeDiff,reduceAdd,reduceMul,reduceSub,Nat.reduceBEq,Int.reduceToNat,Int.reduceLE,Int.reduceLT,Int.reduceNeg,reduceMod,zac,zad,zab,zaa,gT,TK.isInt,TK.agg,Array.toList,h1a,r1a,h3a,r5a,h4a]
  rw [fin m this]
theorem zs7 {f:Nat→Bool} {k:Nat} (h:k < (zcM f).length):(zcM f).getD k 0 < 64:=(zcy.1 (zaC 0 h)).1
end Go.Proofs.Ytpnknaaehcljoaa

namespace Go.Proofs.Ytpnknaaehcljoaa
open Go.Abs
set_option linter.unusedSimpArgs false
set_option linter.unusedVariables false
end Go.Proofs.Ytpnknaaehcljoaa

namespace Go.Proofs.Ytpnknaaehcljoaa
open Go.Abs
set_option linter.unusedSimpArgs false
set_option linter.unusedVariables false
end Go.Proofs.Ytpnknaaehcljoaa

namespace Go.Proofs.Ytpnknaaehcljoaa
open Go.Abs
set_option linter.unusedSimpArgs false
set_option linter.unusedVariables false
end Go.Proofs.Ytpnknaaehcljoaa

namespace Go.Proofs.Ytpnknaaehcljoaa
open Go.Abs
set_option linter.unusedSimpArgs false
set_option linter.unusedVariables false
end Go.Proofs.Ytpnknaaehcljoaa

namespace Go.Proofs.Ytpnknaaehcljoaa
open Go.Abs
set_option linter.unusedSimpArgs false
set_option linter.unusedVariables false
end Go.Proofs.Ytpnknaaehcljoaa

namespace Go.Proofs.Ytpnknaaehcljoaa
open Go.Abs
open Nat (reduceEqDiff reduceMod reduceAdd reduceLT reduceLeDiff reduceSub reduceMul)
set_option linter.unusedSimpArgs false
set_option linter.unusedVariables false
theorem zgc (n:Int) (xs:List Int):AC Try.prog 102 [.ag [int n,zbr xs]] (.fr 3 1 (iL (zzx (zfR n xs)))):=by
 refine AC.go (rs:=[.tmp 2]) zbq zaD Try.func102 rfl rfl rfl (by kernel_rfl) fun hl=>?_
 simp (maxSteps:=5000000) -dsimp only [↓gp,gq,reduceCtorEq,reduceEqDiff,reduceLT,reduceLeDiff,reduceAdd,reduceMul,reduceSub,Nat.reduceBEq,Int.reduceToNat,Int.reduceLE,Int.reduceLT,Int.reduceNeg,reduceMod,zac,zad,zab,zaa,gT,TK.isInt,TK.agg,Array.toList]
 refine zak (zjp n xs) ?_
 simp (maxSteps:=5000000) -dsimp only [↓gp,gq,reduceCtorEq,reduceEqDiff,reduceLT,reduceLeDiff,reduceAdd,reduceMul,reduceSub,Nat.reduceBEq,Int.reduceToNat,Int.reduceLE,Int.reduceLT,Int.reduceNeg,reduceMod,zac,zad,zab,zaa,gT,TK.isInt,TK.agg,Array.toList]
 have hfull:=zhv (zfR n xs)
 have hmem:∀ i,i < (zcM (zfR n xs)).length→(zcM (zfR n xs)).getD i 0 < 64:=fun i h=>zs7 h
 have hmx:=zxZ (zfR n xs)
 have hd7:=zlI (zfR n xs)
 unfold zzx
 generalize zcM (zfR n xs) = all at *
 refine zas (fun (za:Nat × Nat × Nat) s=>match za with | (i,v,u)=>s.sl 3 = .own 6 v∧s.rw 6 = ⟨v,.sli 3 1 false (iL (zoq (all.take i) (mxL (all.take i))))⟩∧s.sl 4 = .own 8 u∧s.rw 8 = ⟨u,.sli 3 1 false (iL (ofN all))⟩∧s.sl 5 = int i∧(i ≤ all.length)) (fun (i,v,u)=>all.length - i) ((0,1,1)) (by refine ⟨?_,?_,?_,?_,?_,by simp⟩ <;> (first | (simp (maxSteps:=5000000) -dsimp only [gr,reduceEqDiff,reduceLT,reduceAdd,reduceMod,Nat.reduceBEq,zaa,zac,zad,zab,mxL,zoq];first | done | rfl | (simp;done)) | assumption | rfl)) ?_
 intro (i,v,u) sa ⟨h3a,r6a,h4a,r8a,h5a,hIa⟩
 simp (maxSteps:=5000000) -dsimp only [↓gp,gq,reduceCtorEq,reduceEqDiff,reduceLT,reduceLeDiff,reduceAdd,reduceMul,reduceSub,Nat.reduceBEq,Int.reduceToNat,Int.reduceLE,Int.reduceLT,Int.reduceNeg,reduceMod,zac,zad,zab,zaa,gT,TK.isInt,TK.agg,Array.toList,h3a,r6a,h4a,r8a,h5a,zav]
 refine ⟨fun h=>?_,fun h=>?_⟩
 ·have hi:=hmem i h
  have hge:(ofN all).getD i 0 = ((all.getD i 0:Nat):Int):=zbb h
  have hsn:=zaF 0 h
  have hmi:=zxX (all.take i) (all.getD i 0)
  rw [← hsn] at hmi
  have hmle:=zx0 (l:=all) (k:=i + 1)
  have hp6:=zf9 hi
  refine zas (fun (zb:Nat × Nat) s=>match zb with | (w,m)=>s.sl 3 = .own 6 w∧s.rw 6 = ⟨w,.sli 3 1 false (iL (zoq (all.take i) m))⟩∧s.sl 4 = .own 8 u∧s.rw 8 = ⟨u,.sli 3 1 false (iL (ofN all))⟩∧s.sl 5 = int i∧(mxL (all.take i) ≤ m∧m ≤ mxL (all.take (i + 1)))) (fun (w,m)=>mxL (all.take (i + 1)) - m) ((v,mxL (all.take i))) (by refine ⟨?_,?_,?_,?_,?_,⟨by omega,by omega⟩⟩ <;> (first | (simp (maxSteps:=5000000) -dsimp only [gr,reduceEqDiff,reduceLT,reduceAdd,reduceMod,Nat.reduceBEq,zaa,zac,zad,zab,h3a,r6a,h4a,r8a,h5a];first | done | rfl | (simp;done)) | assumption | rfl)) ?_
  intro (w,m) sb ⟨h3b,r6b,h4b,r8b,h5b,hIb⟩
  obtain ⟨hm1,hm2⟩:=hIb
  simp (maxSteps:=5000000) -dsimp only [↓gp,gq,reduceCtorEq,reduceEqDiff,reduceLT,reduceLeDiff,reduceAdd,reduceMul,reduceSub,Nat.reduceBEq,Int.reduceToNat,Int.reduceLE,Int.reduceLT,Int.reduceNeg,reduceMod,zac,zad,zab,zaa,gT,TK.isInt,TK.agg,Array.toList,h3b,r6b,h4b,r8b,h5b,zav,zcf,hge]
  refine ⟨h,h,zak (zbJ _ (by omega)) ?_⟩
  simp (maxSteps:=5000000) -dsimp only [↓gp,gq,reduceCtorEq,reduceEqDiff,reduceLT,reduceLeDiff,reduceAdd,reduceMul,reduceSub,Nat.reduceBEq,Int.reduceToNat,Int.reduceLE,Int.reduceLT,Int.reduceNeg,reduceMod,zac,zad,zab,zaa,gT,TK.isInt,TK.agg,Array.toList,h3b,r6b,h4b,r8b,h5b,zav,zcf,hge]
  refine ⟨fun h2=>⟨by omega,?_⟩,fun h2=>?_⟩
  ·have e:zoq (all.take i) m ++ [0] = zoq (all.take i) (m + 1):=zwp _ hm1
   exact zai ((w + 1,m + 1)) (by refine ⟨?_,?_,?_,?_,?_,⟨by dsimp only;omega,by dsimp only;omega⟩⟩ <;> (first | (simp (maxSteps:=5000000) -dsimp only [gr,reduceEqDiff,reduceLT,reduceAdd,reduceMod,Nat.reduceBEq,zaa,zac,zad,zab,h3b,r6b,h4b,r8b,h5b,e];first | done | rfl | (simp;done)) | assumption | rfl)) (by first | omega | (simp only;omega) | (dsimp only;omega) | (show _ < _;simp;omega))
  ·have hgm:(zoq (all.take i) m).getD (zaX (all.getD i 0)) 0 = (zr0 (all.take i) (zaX (all.getD i 0)):Int):=zor _ (by omega)
   have hcl:zr0 (all.take i) (zaX (all.getD i 0)) ≤ 448:=by
    have:=List.length_filter_le (fun s=>zaX s == zaX (all.getD i 0)) (all.take i)
    rw [List.length_take] at this
    unfold zr0;omega
   have hw:IntKind.i64.wrap ((zr0 (all.take i) (zaX (all.getD i 0)):Int) + 1) = (zr0 (all.take i) (zaX (all.getD i 0)):Int) + 1:=zaq (by omega) (by omega)
   have hme:m = mxL (all.take (i + 1)):=by omega
   have hadd:=zxY (all.take i) (all.getD i 0) m (by omega)
   rw [← hsn] at hadd
   refine ⟨by kernel_rfl,h,h,zak (zbJ _ (by omega)) ?_⟩
   simp (maxSteps:=5000000) -dsimp only [↓gp,gq,reduceCtorEq,reduceEqDiff,reduceLT,reduceLeDiff,reduceAdd,reduceMul,reduceSub,Nat.reduceBEq,Int.reduceToNat,Int.reduceLE,Int.reduceLT,Int.reduceNeg,reduceMod,zac,zad,zab,zaa,gT,TK.isInt,TK.agg,Array.toList,h3b,r6b,h4b,r8b,h5b,zav,zcf,hge]
   refine ⟨h,h,zak (zbJ _ (by omega)) ?_⟩
   simp (maxSteps:=5000000) -dsimp only [↓gp,gq,reduceCtorEq,reduceEqDiff,reduceLT,reduceLeDiff,reduceAdd,reduceMul,reduceSub,Nat.reduceBEq,Int.reduceToNat,Int.reduceLE,Int.reduceLT,Int.reduceNeg,reduceMod,zac,zad,zab,zaa,gT,TK.isInt,TK.agg,Array.toList,h3b,r6b,h4b,r8b,h5b,zav,zcf,hge,hgm,hw,hadd]
   refine ⟨by omega,by omega,by omega,by omega,by kernel_rfl,?_⟩
   subst hme
   exact zai ((i + 1,w,u)) (by refine ⟨?_,?_,?_,?_,?_,by dsimp only;omega⟩ <;> (first | (simp (maxSteps:=5000000) -dsimp only [gr,reduceEqDiff,reduceLT,reduceAdd,reduceMod,Nat.reduceBEq,zaa,zac,zad,zab,h3a,r6a,h4a,r8a,h5a,h3b,r6b,h4b,r8b,h5b,zaf h (by omega)];first | done | rfl | (simp;done)) | assumption | rfl)) (by first | omega | (simp only;omega) | (dsimp only;omega) | (show _ < _;simp;omega))
 ·have:i = all.length:=by omega
  rw [this,List.take_length,hmx]
end Go.Proofs.Ytpnknaaehcljoaa

namespace Go.Proofs.Ytpnknaaehcljoaa
open Go.Abs
set_option linter.unusedSimpArgs false
set_option linter.unusedVariables false
end Go.Proofs.Ytpnknaaehcljoaa

namespace Go.Proofs.Ytpnknaaehcljoaa
open Go.Abs
set_option linter.unusedSimpArgs false
set_option linter.unusedVariables false
theorem zhz {t:Nat} (h:t < 64):zlW (t:Int) = (zaX t:Nat):=by rw [zlW,if_pos (by omega)];simp
end Go.Proofs.Ytpnknaaehcljoaa

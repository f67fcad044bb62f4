/- DERIVED by an AI agent. -/
import Derived.Test.YtpnknaaehcljoaaQ6
namespace Go.Proofs.Ytpnknaaehcljoaa
open Go.Abs
open Nat (reduceEqDiff reduceMod reduceAdd reduceLT reduceLeDiff reduceSub reduceMul)
set_option linter.unusedSimpArgs false
set_option linter.unusedVariables false
theorem zwn (s:St) (d e sz:Nat) (x y z w:Value) (c:List PV):zam s d (.tup [.ag [.im (.v x),.fr e sz c],.im (.v y),.im (.v z),.im (.v w)]) = (s.row d ⟨(s.rw d).ver + 1,.sli e sz false c⟩).put (some d) (.tup [.ag [.v x,.own d ((s.rw d).ver + 1)],.v y,.v z,.v w]):=by
 unfold zam
 simp [zbs,zb9,leaves,zav,zaQ,zbI,zby,za8,zal,St.row,zgT]
 rfl
theorem zaH {α:Type} [DecidableEq α] (a:α):decide (a = a) = true:=decide_eq_true rfl
theorem zje (bs:List Int):AC Try.prog 5 [.sl false 1 (kL .u8 bs)] (.im (bool true)):=by
 refine AC.go (rs:=[.tmp 2]) zbc zax Try.func5 rfl rfl rfl (by kernel_rfl) fun hl=>?_
 simp (maxSteps:=5000000) -dsimp only [↓gp,gq,reduceCtorEq,reduceEqDiff,reduceLT,reduceLeDiff,reduceAdd,reduceMul,reduceSub,Nat.reduceBEq,Int.reduceToNat,Int.reduceLE,Int.reduceLT,Int.reduceNeg,reduceMod,zac,zad,zab,zaa,gT,TK.isInt,TK.agg,Array.toList]
 refine zag (zv6 bs) ?_
 simp (maxSteps:=5000000) -dsimp only [↓gp,gq,reduceCtorEq,reduceEqDiff,reduceLT,reduceLeDiff,reduceAdd,reduceMul,reduceSub,Nat.reduceBEq,Int.reduceToNat,Int.reduceLE,Int.reduceLT,Int.reduceNeg,reduceMod,zac,zad,zab,zaa,gT,TK.isInt,TK.agg,Array.toList]
 intro hbs
 refine zjb (ze6 bs (by omega)) (.one (.sl _ _ _) .nil) fun rv ⟨n,xs,p,hrv,hq⟩=>?_
 subst hrv
 simp (maxSteps:=5000000) -dsimp only [↓gp,gq,reduceCtorEq,reduceEqDiff,reduceLT,reduceLeDiff,reduceAdd,reduceMul,reduceSub,Nat.reduceBEq,Int.reduceToNat,Int.reduceLE,Int.reduceLT,Int.reduceNeg,reduceMod,zac,zad,zab,zaa,gT,TK.isInt,TK.agg,Array.toList]
 refine zag (za2 n xs p) ?_
 simp (maxSteps:=5000000) -dsimp only [↓gp,gq,reduceCtorEq,reduceEqDiff,reduceLT,reduceLeDiff,reduceAdd,reduceMul,reduceSub,Nat.reduceBEq,Int.reduceToNat,Int.reduceLE,Int.reduceLT,Int.reduceNeg,reduceMod,zac,zad,zab,zaa,gT,TK.isInt,TK.agg,Array.toList]
 refine zjb (zg6 bs (by omega)) (.one (.sl _ _ _) .nil) fun rv ⟨m,ys,q,a,b,hrv,_⟩=>?_
 subst hrv
 simp (maxSteps:=5000000) -dsimp only [↓gp,gq,reduceCtorEq,reduceEqDiff,reduceLT,reduceLeDiff,reduceAdd,reduceMul,reduceSub,Nat.reduceBEq,Int.reduceToNat,Int.reduceLE,Int.reduceLT,Int.reduceNeg,reduceMod,zac,zad,zab,zaa,gT,TK.isInt,TK.agg,Array.toList,zwn]
 refine zag (zlw n xs p) ?_
 simp (maxSteps:=5000000) -dsimp only [↓gp,gq,reduceCtorEq,reduceEqDiff,reduceLT,reduceLeDiff,reduceAdd,reduceMul,reduceSub,Nat.reduceBEq,Int.reduceToNat,Int.reduceLE,Int.reduceLT,Int.reduceNeg,reduceMod,zac,zad,zab,zaa,gT,TK.isInt,TK.agg,Array.toList]
 refine zag (zhI n xs p) ?_
 simp (maxSteps:=5000000) -dsimp only [↓gp,gq,reduceCtorEq,reduceEqDiff,reduceLT,reduceLeDiff,reduceAdd,reduceMul,reduceSub,Nat.reduceBEq,Int.reduceToNat,Int.reduceLE,Int.reduceLT,Int.reduceNeg,reduceMod,zac,zad,zab,zaa,gT,TK.isInt,TK.agg,Array.toList]
 refine ⟨by kernel_rfl,zag (za1 n xs p) ?_⟩
 simp (maxSteps:=5000000) -dsimp only [↓gp,gq,reduceCtorEq,reduceEqDiff,reduceLT,reduceLeDiff,reduceAdd,reduceMul,reduceSub,Nat.reduceBEq,Int.reduceToNat,Int.reduceLE,Int.reduceLT,Int.reduceNeg,reduceMod,zac,zad,zab,zaa,gT,TK.isInt,TK.agg,Array.toList,zaH,bne_self_eq_false,beq_self_eq_true,zaS,zcb,zbH,zcc]
 refine zag (zet _ _) ?_
 simp (maxSteps:=5000000) -dsimp only [↓gp,gq,reduceCtorEq,reduceEqDiff,reduceLT,reduceLeDiff,reduceAdd,reduceMul,reduceSub,Nat.reduceBEq,Int.reduceToNat,Int.reduceLE,Int.reduceLT,Int.reduceNeg,reduceMod,zac,zad,zab,zaa,gT,TK.isInt,TK.agg,Array.toList,zaH,bne_self_eq_false,beq_self_eq_true,zaS,zcb,zbH,zcc]
 refine zag (zlu m ys q a b) ?_
 simp (maxSteps:=5000000) -dsimp only [↓gp,gq,reduceCtorEq,reduceEqDiff,reduceLT,reduceLeDiff,reduceAdd,reduceMul,reduceSub,Nat.reduceBEq,Int.reduceToNat,Int.reduceLE,Int.reduceLT,Int.reduceNeg,reduceMod,zac,zad,zab,zaa,gT,TK.isInt,TK.agg,Array.toList,zaH,bne_self_eq_false,beq_self_eq_true,zaS,zcb,zbH,zcc]
 refine zag (zlt m ys q a b) ?_
 simp (maxSteps:=5000000) -dsimp only [↓gp,gq,reduceCtorEq,reduceEqDiff,reduceLT,reduceLeDiff,reduceAdd,reduceMul,reduceSub,Nat.reduceBEq,Int.reduceToNat,Int.reduceLE,Int.reduceLT,Int.reduceNeg,reduceMod,zac,zad,zab,zaa,gT,TK.isInt,TK.agg,Array.toList,zaH,bne_self_eq_false,beq_self_eq_true,zaS,zcb,zbH,zcc]
 refine zag (zlv n xs p) ?_
 simp (maxSteps:=5000000) -dsimp only [↓gp,gq,reduceCtorEq,reduceEqDiff,reduceLT,reduceLeDiff,reduceAdd,reduceMul,reduceSub,Nat.reduceBEq,Int.reduceToNat,Int.reduceLE,Int.reduceLT,Int.reduceNeg,reduceMod,zac,zad,zab,zaa,gT,TK.isInt,TK.agg,Array.toList,zaH,bne_self_eq_false,beq_self_eq_true,zaS,zcb,zbH,zcc]
 refine zag (zcu _ _) ?_
 simp (maxSteps:=5000000) -dsimp only [↓gp,gq,reduceCtorEq,reduceEqDiff,reduceLT,reduceLeDiff,reduceAdd,reduceMul,reduceSub,Nat.reduceBEq,Int.reduceToNat,Int.reduceLE,Int.reduceLT,Int.reduceNeg,reduceMod,zac,zad,zab,zaa,gT,TK.isInt,TK.agg,Array.toList,zaH,bne_self_eq_false,beq_self_eq_true,zaS,zcb,zbH,zcc]
 refine zag (zhH n xs p) ?_
 simp (maxSteps:=5000000) -dsimp only [↓gp,gq,reduceCtorEq,reduceEqDiff,reduceLT,reduceLeDiff,reduceAdd,reduceMul,reduceSub,Nat.reduceBEq,Int.reduceToNat,Int.reduceLE,Int.reduceLT,Int.reduceNeg,reduceMod,zac,zad,zab,zaa,gT,TK.isInt,TK.agg,Array.toList,zaH,bne_self_eq_false,beq_self_eq_true,zaS,zcb,zbH,zcc]
 refine zag (zcu _ _) ?_
 simp (maxSteps:=5000000) -dsimp only [↓gp,gq,reduceCtorEq,reduceEqDiff,reduceLT,reduceLeDiff,reduceAdd,reduceMul,reduceSub,Nat.reduceBEq,Int.reduceToNat,Int.reduceLE,Int.reduceLT,Int.reduceNeg,reduceMod,zac,zad,zab,zaa,gT,TK.isInt,TK.agg,Array.toList,zaH,bne_self_eq_false,beq_self_eq_true,zaS,zcb,zbH,zcc]
 refine zag (zf7 n xs p) ?_
 simp (maxSteps:=5000000) -dsimp only [↓gp,gq,reduceCtorEq,reduceEqDiff,reduceLT,reduceLeDiff,reduceAdd,reduceMul,reduceSub,Nat.reduceBEq,Int.reduceToNat,Int.reduceLE,Int.reduceLT,Int.reduceNeg,reduceMod,zac,zad,zab,zaa,gT,TK.isInt,TK.agg,Array.toList,zaH,bne_self_eq_false,beq_self_eq_true,zaS,zcb,zbH,zcc]
 refine zag (zf6 n xs p) ?_
 simp (maxSteps:=5000000) -dsimp only [↓gp,gq,reduceCtorEq,reduceEqDiff,reduceLT,reduceLeDiff,reduceAdd,reduceMul,reduceSub,Nat.reduceBEq,Int.reduceToNat,Int.reduceLE,Int.reduceLT,Int.reduceNeg,reduceMod,zac,zad,zab,zaa,gT,TK.isInt,TK.agg,Array.toList,zaH,bne_self_eq_false,beq_self_eq_true,zaS,zcb,zbH,zcc]
 refine zag (zdu n xs p) ?_
 simp (maxSteps:=5000000) -dsimp only [↓gp,gq,reduceCtorEq,reduceEqDiff,reduceLT,reduceLeDiff,reduceAdd,reduceMul,reduceSub,Nat.reduceBEq,Int.reduceToNat,Int.reduceLE,Int.reduceLT,Int.reduceNeg,reduceMod,zac,zad,zab,zaa,gT,TK.isInt,TK.agg,Array.toList,zaH,bne_self_eq_false,beq_self_eq_true,zaS,zcb,zbH,zcc]
 refine zag (ze8 n xs p) ?_
 simp (maxSteps:=5000000) -dsimp only [↓gp,gq,reduceCtorEq,reduceEqDiff,reduceLT,reduceLeDiff,reduceAdd,reduceMul,reduceSub,Nat.reduceBEq,Int.reduceToNat,Int.reduceLE,Int.reduceLT,Int.reduceNeg,reduceMod,zac,zad,zab,zaa,gT,TK.isInt,TK.agg,Array.toList,zaH,bne_self_eq_false,beq_self_eq_true,zaS,zcb,zbH,zcc]
 refine ⟨by kernel_rfl,fun h0=>⟨fun h1=>zag (zdu n xs p) ?_,fun h1=>?_⟩,fun h0=>?_⟩
 ·simp (maxSteps:=5000000) -dsimp only [↓gp,gq,reduceCtorEq,reduceEqDiff,reduceLT,reduceLeDiff,reduceAdd,reduceMul,reduceSub,Nat.reduceBEq,Int.reduceToNat,Int.reduceLE,Int.reduceLT,Int.reduceNeg,reduceMod,zac,zad,zab,zaa,gT,TK.isInt,TK.agg,Array.toList]
  have hN:¬ (zjc n xs = true∧isP p = true):=fun h=>by
   obtain ⟨_,_,_,e,_⟩:=zjf h
   rw [e] at h0
   simp at h0
   omega
  rw [(zse hN).2]
  rfl
 ·have hN:¬ (zjc n xs = true∧isP p = true):=fun h=>by
   obtain ⟨_,_,_,e,_⟩:=zjf h
   rw [e] at h0
   simp at h0
   omega
  rw [(zse hN).1] at h1
  cases h1
 ·have hT:zjc n xs = true∧isP p = true:=Classical.byContradiction fun h=>by
   rw [zf5 h] at h0
   cases h0
  obtain ⟨w,rfl,h6,hlen,hrow,hent⟩:=zjf hT
  have hmis:∀ s ∈ zAb (w:Int) xs,s < 64:=fun s hs=>(zcZ.1 hs).1.1
  have hml:=zu3 (w:Int) xs
  refine zag (zdF w xs) ?_
  have hsg:=zwo hT
  have hrw:=zAp hT
  have htb:=zFA (w:Int) xs p
  generalize hL:zAb (w:Int) xs = L at *
  generalize hM:zdG (w:Int) xs p = M at *
  generalize hR:zAg (w:Int) xs p = R at *
  generalize hS:zEp (w:Int) xs p = Z at *
  simp (maxSteps:=5000000) -dsimp only [↓gp,gq,reduceCtorEq,reduceEqDiff,reduceLT,reduceLeDiff,reduceAdd,reduceMul,reduceSub,Nat.reduceBEq,Int.reduceToNat,Int.reduceLE,Int.reduceLT,Int.reduceNeg,reduceMod,zac,zad,zab,zaa,gT,TK.isInt,TK.agg,Array.toList]
  refine zar (fun (k:Nat) s=>s.sl 3 = .ref 3 1 0∧s.rw 3 = ⟨1,.box 27 [int w,.own 20 1]⟩∧s.rw 20 = ⟨1,.sli 3 1 false (iL xs)⟩∧s.sl 4 = int p∧s.sl 5 = .own 25 1∧s.rw 25 = ⟨1,.sli 22 1 false (iLL M)⟩∧s.sl 10 = .own 35 1∧s.rw 35 = ⟨1,.sli 3 1 false (iL R)⟩∧s.sl 11 = .own 38 1∧s.rw 38 = ⟨1,.sli 3 1 false (iL Z)⟩∧s.sl 12 = .own 105 1∧s.rw 105 = ⟨1,.sli 3 1 false (iL (ofN L))⟩∧s.sl 13 = int ((k + 1:Nat):Int)∧(k ≤ w)) (fun k=>w - k) (0) (by refine ⟨?_,?_,?_,?_,?_,?_,?_,?_,?_,?_,?_,?_,?_,Nat.zero_le _⟩ <;> (first | (simp (maxSteps:=5000000) -dsimp only [gr,reduceEqDiff,reduceLT,reduceAdd,reduceMod,Nat.reduceBEq,zaa,zac,zad,zab];first | done | rfl | (simp;done)) | assumption | rfl)) ?_
  intro k sa ⟨h3a,r3a,r20a,h4a,h5a,r25a,h10a,r35a,h11a,r38a,h12a,r105a,h13a,hIa⟩
  simp (maxSteps:=5000000) -dsimp only [↓gp,gq,reduceCtorEq,reduceEqDiff,reduceLT,reduceLeDiff,reduceAdd,reduceMul,reduceSub,Nat.reduceBEq,Int.reduceToNat,Int.reduceLE,Int.reduceLT,Int.reduceNeg,reduceMod,zac,zad,zab,zaa,gT,TK.isInt,TK.agg,Array.toList,h3a,r3a,r20a,h4a,h5a,r25a,h10a,r35a,h11a,r38a,h12a,r105a,h13a]
  refine ⟨fun hk=>?_,fun hk=>?_⟩
  ·refine zar (fun (t:Nat) s=>s.sl 3 = .ref 3 1 0∧s.rw 3 = ⟨1,.box 27 [int w,.own 20 1]⟩∧s.rw 20 = ⟨1,.sli 3 1 false (iL xs)⟩∧s.sl 4 = int p∧s.sl 5 = .own 25 1∧s.rw 25 = ⟨1,.sli 22 1 false (iLL M)⟩∧s.sl 10 = .own 35 1∧s.rw 35 = ⟨1,.sli 3 1 false (iL R)⟩∧s.sl 11 = .own 38 1∧s.rw 38 = ⟨1,.sli 3 1 false (iL Z)⟩∧s.sl 12 = .own 105 1∧s.rw 105 = ⟨1,.sli 3 1 false (iL (ofN L))⟩∧s.sl 13 = int ((k + 1:Nat):Int)∧s.sl 14 = int (((L.take t).filter fun s=>zas s == k + 1).length:Nat)∧s.sl 15 = int t∧(t ≤ L.length)) (fun t=>L.length - t) (0) (by refine ⟨?_,?_,?_,?_,?_,?_,?_,?_,?_,?_,?_,?_,?_,?_,?_,Nat.zero_le _⟩ <;> (first | (simp (maxSteps:=5000000) -dsimp only [gr,reduceEqDiff,reduceLT,reduceAdd,reduceMod,Nat.reduceBEq,zaa,zac,zad,zab,h3a,r3a,r20a,h4a,h5a,r25a,h10a,r35a,h11a,r38a,h12a,r105a,h13a];first | done | rfl | (simp;done)) | assumption | rfl)) ?_
   intro t sb ⟨h3b,r3b,r20b,h4b,h5b,r25b,h10b,r35b,h11b,r38b,h12b,r105b,h13b,h14b,h15b,hIb⟩
   simp (maxSteps:=5000000) -dsimp only [↓gp,gq,reduceCtorEq,reduceEqDiff,reduceLT,reduceLeDiff,reduceAdd,reduceMul,reduceSub,Nat.reduceBEq,Int.reduceToNat,Int.reduceLE,Int.reduceLT,Int.reduceNeg,reduceMod,zac,zad,zab,zaa,gT,TK.isInt,TK.agg,Array.toList,h3b,r3b,r20b,h4b,h5b,r25b,h10b,r35b,h11b,r38b,h12b,r105b,h13b,h14b,h15b,zao]
   refine ⟨fun ht=>?_,fun ht=>?_⟩
   ·have hge:(ofN L).getD t 0 = ((L.getD t 0:Nat):Int):=zaV ht
    have hs:=hmis _ (za0 0 ht)
    rw [hge]
    refine ⟨ht,ht,zag (znS _ hs) ?_⟩
    simp (maxSteps:=5000000) -dsimp only [↓gp,gq,reduceCtorEq,reduceEqDiff,reduceLT,reduceLeDiff,reduceAdd,reduceMul,reduceSub,Nat.reduceBEq,Int.reduceToNat,Int.reduceLE,Int.reduceLT,Int.reduceNeg,reduceMod,zac,zad,zab,zaa,gT,TK.isInt,TK.agg,Array.toList,h3b,r3b,r20b,h4b,h5b,r25b,h10b,r35b,h11b,r38b,h12b,r105b,h13b,h14b,h15b]
    have hfl:=List.length_filter_le (fun s=>zas s == k + 1) (L.take t)
    rw [List.length_take] at hfl
    have hst:L.take (t + 1) = L.take t ++ [L.getD t 0]:=zaF 0 ht
    refine ⟨fun he=>?_,fun he=>?_⟩
    ·have he:zas (L.getD t 0) = k + 1:=by
      have:=eq_of_beq he;omega
     have hc:(((L.take (t + 1)).filter fun s=>zas s == k + 1).length:Nat) = ((L.take t).filter fun s=>zas s == k + 1).length + 1:=by
      rw [hst,List.filter_append,List.filter_cons_of_pos (by rw [he];exact beq_self_eq_true _),List.length_append];rfl
     have hw:IntKind.i64.wrap ((((L.take t).filter fun s=>zas s == k + 1).length:Int) + 1) = ((((L.take t).filter fun s=>zas s == k + 1).length + 1:Nat):Int):=by rw [zan (by omega) (by omega)];omega
     exact zah (t + 1) (by refine ⟨?_,?_,?_,?_,?_,?_,?_,?_,?_,?_,?_,?_,?_,?_,?_,by omega⟩ <;> (first | (simp (maxSteps:=5000000) -dsimp only [gr,reduceEqDiff,reduceLT,reduceAdd,reduceMod,Nat.reduceBEq,zaa,zac,zad,zab,h3b,r3b,r20b,h4b,h5b,r25b,h10b,r35b,h11b,r38b,h12b,r105b,h13b,h14b,h15b,hc,hw,zae ht (by omega)];first | done | rfl | (simp;done)) | assumption | rfl)) (by first | omega | (simp only;omega) | (dsimp only;omega) | (show _ < _;simp;omega))
    ·have he:zas (L.getD t 0) ≠ k + 1:=fun e=>by rw [e] at he;simp at he
     have hc:(((L.take (t + 1)).filter fun s=>zas s == k + 1).length:Nat) = ((L.take t).filter fun s=>zas s == k + 1).length:=by
      rw [hst,List.filter_append,List.filter_cons_of_neg (by rw [beq_false_of_ne he];decide),List.filter_nil,List.append_nil]
     exact zah (t + 1) (by refine ⟨?_,?_,?_,?_,?_,?_,?_,?_,?_,?_,?_,?_,?_,?_,?_,by omega⟩ <;> (first | (simp (maxSteps:=5000000) -dsimp only [gr,reduceEqDiff,reduceLT,reduceAdd,reduceMod,Nat.reduceBEq,zaa,zac,zad,zab,h3b,r3b,r20b,h4b,h5b,r25b,h10b,r35b,h11b,r38b,h12b,r105b,h13b,h14b,h15b,hc,zae ht (by omega)];first | done | rfl | (simp;done)) | assumption | rfl)) (by first | omega | (simp only;omega) | (dsimp only;omega) | (show _ < _;simp;omega))
   ·have ht:t = L.length:=by omega
    subst ht
    rw [List.take_length] at h14b
    simp (maxSteps:=5000000) -dsimp only [↓gp,gq,reduceCtorEq,reduceEqDiff,reduceLT,reduceLeDiff,reduceAdd,reduceMul,reduceSub,Nat.reduceBEq,Int.reduceToNat,Int.reduceLE,Int.reduceLT,Int.reduceNeg,reduceMod,zac,zad,zab,zaa,gT,TK.isInt,TK.agg,Array.toList,h3b,r3b,r20b,h4b,h5b,r25b,h10b,r35b,h11b,r38b,h12b,r105b,h13b,h14b,h15b,hlen]
    have hr1:=hrow 1 (by omega)
    have he:=hent (k + 1) (by omega)
    rw [List.take_length]
    refine ⟨fun _=>⟨by omega,by omega,fun h2=>⟨by omega,by omega,by omega,by omega,fun h3=>?_,fun _=>?_⟩,fun h2=>by omega⟩,fun h2=>by omega⟩
    ·rw [he] at h3;simp at h3
    ·exact zah (k + 1) (by refine ⟨?_,?_,?_,?_,?_,?_,?_,?_,?_,?_,?_,?_,?_,by omega⟩ <;> (first | (simp (maxSteps:=5000000) -dsimp only [gr,reduceEqDiff,reduceLT,reduceAdd,reduceMod,Nat.reduceBEq,zaa,zac,zad,zab,h3a,r3a,r20a,h4a,h5a,r25a,h10a,r35a,h11a,r38a,h12a,r105a,h13a,h3b,r3b,r20b,h4b,h5b,r25b,h10b,r35b,h11b,r38b,h12b,r105b,h13b,h14b,h15b,zae (show k + 1 < 9 by omega) (by omega)];first | done | rfl | (simp;done)) | assumption | rfl)) (by first | omega | (simp only;omega) | (dsimp only;omega) | (show _ < _;simp;omega))
  ·refine zag (zhD w xs p) ?_
   rw [htb]
   simp (maxSteps:=5000000) -dsimp only [↓gp,gq,reduceCtorEq,reduceEqDiff,reduceLT,reduceLeDiff,reduceAdd,reduceMul,reduceSub,Nat.reduceBEq,Int.reduceToNat,Int.reduceLE,Int.reduceLT,Int.reduceNeg,reduceMod,zac,zad,zab,zaa,gT,TK.isInt,TK.agg,Array.toList,h3a,r3a,r20a,h4a,h5a,r25a,h10a,r35a,h11a,r38a,h12a,r105a,h13a]
   refine zag (zet _ _) ?_
   simp (maxSteps:=5000000) -dsimp only [↓gp,gq,reduceCtorEq,reduceEqDiff,reduceLT,reduceLeDiff,reduceAdd,reduceMul,reduceSub,Nat.reduceBEq,Int.reduceToNat,Int.reduceLE,Int.reduceLT,Int.reduceNeg,reduceMod,zac,zad,zab,zaa,gT,TK.isInt,TK.agg,Array.toList,h3a,r3a,r20a,h4a,h5a,r25a,h10a,r35a,h11a,r38a,h12a,r105a,h13a,zaH]
   refine zag (zgc w xs) ?_
   rw [← hsg]
   simp (maxSteps:=5000000) -dsimp only [↓gp,gq,reduceCtorEq,reduceEqDiff,reduceLT,reduceLeDiff,reduceAdd,reduceMul,reduceSub,Nat.reduceBEq,Int.reduceToNat,Int.reduceLE,Int.reduceLT,Int.reduceNeg,reduceMod,zac,zad,zab,zaa,gT,TK.isInt,TK.agg,Array.toList,h3a,r3a,r20a,h4a,h5a,r25a,h10a,r35a,h11a,r38a,h12a,r105a,h13a,zaH]
   refine zag (zcu _ _) ?_
   simp (maxSteps:=5000000) -dsimp only [↓gp,gq,reduceCtorEq,reduceEqDiff,reduceLT,reduceLeDiff,reduceAdd,reduceMul,reduceSub,Nat.reduceBEq,Int.reduceToNat,Int.reduceLE,Int.reduceLT,Int.reduceNeg,reduceMod,zac,zad,zab,zaa,gT,TK.isInt,TK.agg,Array.toList,h3a,r3a,r20a,h4a,h5a,r25a,h10a,r35a,h11a,r38a,h12a,r105a,h13a,zaH]
   refine zag (zdu w xs p) ?_
   simp (maxSteps:=5000000) -dsimp only [↓gp,gq,reduceCtorEq,reduceEqDiff,reduceLT,reduceLeDiff,reduceAdd,reduceMul,reduceSub,Nat.reduceBEq,Int.reduceToNat,Int.reduceLE,Int.reduceLT,Int.reduceNeg,reduceMod,zac,zad,zab,zaa,gT,TK.isInt,TK.agg,Array.toList,h3a,r3a,r20a,h4a,h5a,r25a,h10a,r35a,h11a,r38a,h12a,r105a,h13a,zaH]
   obtain ⟨r1,r2,r3⟩:=hrw
   have hlo:zu6 (w:Int) xs p ≤ 7:=by
    unfold zu6
    rw [hM]
    have:=(zr2 M M.length).2
    omega
   have hwl:IntKind.i64.wrap (zu6 (w:Int) xs p + 1) = (R.length:Int):=by rw [← r1];exact zan (by omega) (by omega)
   rw [hwl,r3]
   exact ⟨fun _=>⟨by omega,r2,rfl⟩,fun h=>by simp at h⟩
end Go.Proofs.Ytpnknaaehcljoaa

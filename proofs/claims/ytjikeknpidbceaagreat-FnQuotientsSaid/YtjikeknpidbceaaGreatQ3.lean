/- DERIVED by an AI agent. -/
import Derived.Test.YtjikeknpidbceaaGreatQ2
import Derived.Test.YtjikeknpidbceaaGreatA13
import Derived.Test.YtjikeknpidbceaaGreatP1
import Derived.Test.YtjikeknpidbceaaGreatQ1
import Derived.Test.YtjikeknpidbceaaGreatA14
namespace Go.Proofs.YtjikeknpidbceaaGreat
open Go.Abs
open Nat (reduceEqDiff reduceMod reduceAdd reduceLT reduceLeDiff reduceSub reduceMul)
set_option linter.unusedSimpArgs false
set_option linter.unusedVariables false
theorem zh5 (M:Mat) (p:Int) (hp:isP p = true) (hM:M.length ≤ 900) (hr:∀ i,i < M.length→(M.getD i []).length = (M.getD 0 []).length) (hn:(M.getD 0 []).length ≤ 1000) :
 AC Tryz.prog 98 [zFF M,int p] (.tup [.tb 24 3 ((zjN p (zkp p M) [] 0 (M.getD 0 []).length).1.map iL),.fr 3 1 (iL (ofN (zjN p (zkp p M) [] 0 (M.getD 0 []).length).2))]):=by
 refine AC.go (rs:=[.tmp 4,.tmp 5]) zaQ zar Tryz.func98 rfl rfl rfl (by kernel_rfl) fun hl=>?_
 have hp2:=zdc hp
 generalize hne:(M.getD 0 []).length = n at *
 simp (maxSteps:=5000000) -dsimp only [↓gp,gq,reduceCtorEq,reduceEqDiff,reduceLT,reduceLeDiff,reduceAdd,reduceMul,reduceSub,Nat.reduceBEq,Int.reduceToNat,Int.reduceLE,Int.reduceLT,Int.reduceNeg,reduceMod,zac,zad,zab,zaa,gT,TK.isInt,TK.agg,Array.toList]
 refine zt5 (k:=15) (v:=1) (e:=24) (e2:=3) (by simp (maxSteps:=5000000) -dsimp only [gr,reduceEqDiff,reduceLT,reduceAdd,reduceMod,Nat.reduceBEq,zaa,zac,zad,zab]) (fun j=>by simp (maxSteps:=5000000) -dsimp only [gr,reduceEqDiff,reduceLT,reduceAdd,reduceMod,Nat.reduceBEq,zaa,zac,zad,zab]) (fun (i:Nat) s=>s.sl 0 = zFF M∧s.sl 1 = int p∧s.sl 6 = .own 15 (i + 1)∧s.sl 7 = int i∧(i ≤ M.length∧TabG s.rw 15 (i + 1) 24 3 i (zkp p (M.take i)))) (fun i=>M.length - i) (0) (fun sX htX hslX hoX=>(by refine ⟨?_,?_,?_,?_,⟨by omega,htX⟩⟩ <;> (first | (simp (maxSteps:=5000000) -dsimp only [gr,reduceEqDiff,reduceLT,reduceAdd,reduceMod,Nat.reduceBEq,zaa,zac,zad,zab,hslX,hoX];first | done | rfl | (simp;done)) | assumption | rfl))) ?_
 intro i sa ⟨h0a,h1a,h6a,h7a,hIa⟩
 obtain ⟨hi,ht⟩:=hIa
 simp (maxSteps:=5000000) -dsimp only [↓gp,gq,reduceCtorEq,reduceEqDiff,reduceLT,reduceLeDiff,reduceAdd,reduceMul,reduceSub,Nat.reduceBEq,Int.reduceToNat,Int.reduceLE,Int.reduceLT,Int.reduceNeg,reduceMod,zac,zad,zab,zaa,gT,TK.isInt,TK.agg,Array.toList,h0a,h1a,h6a,h7a]
 refine ⟨fun h=>?_,fun h=>?_⟩
 ·have hri:=hr i h
  have hlen:=zm0 p hi
  refine zDr (fun (zb:Nat × Nat) s=>match zb with | (j,u)=>s.sl 0 = zFF M∧s.sl 1 = int p∧s.sl 6 = .own 15 (i + 1)∧s.sl 7 = int i∧s.sl 8 = .own 22 u∧s.rw 22 = ⟨u,.tab 3 (iL (((M.getD i []).map fun x=>x % p).take j))⟩∧s.sl 9 = int j∧(j ≤ n∧TabG s.rw 15 (i + 1) 24 3 i (zkp p (M.take i)))) (fun (j,u)=>n - j) ((0,(sa.rw 22).ver + 1)) (Wk.tab (k:=22) (v:=(sa.rw 22).ver + 1) (e:=3) (c:=[]) (by simp (maxSteps:=5000000) -dsimp only [gr,reduceEqDiff,reduceLT,reduceAdd,reduceMod,Nat.reduceBEq,zaa,zac,zad,zab]) (fun p hp=>by cases hp)) (by refine ⟨?_,?_,?_,?_,?_,?_,?_,⟨by omega,ht.same (by simp (maxSteps:=5000000) -dsimp only [gr,reduceEqDiff,reduceLT,reduceAdd,reduceMod,Nat.reduceBEq,zaa,zac,zad,zab]) (fun x=>by simp (maxSteps:=5000000) -dsimp only [gr,reduceEqDiff,reduceLT,reduceAdd,reduceMod,Nat.reduceBEq,zaa,zac,zad,zab])⟩⟩ <;> (first | (simp (maxSteps:=5000000) -dsimp only [gr,reduceEqDiff,reduceLT,reduceAdd,reduceMod,Nat.reduceBEq,zaa,zac,zad,zab,h0a,h1a,h6a,h7a];first | done | rfl | (simp;done)) | assumption | rfl)) ?_
  intro (j,u) sb ⟨h0b,h1b,h6b,h7b,h8b,r22b,h9b,hIb⟩
  obtain ⟨hj,ht2⟩:=hIb
  simp (maxSteps:=5000000) -dsimp only [↓gp,gq,reduceCtorEq,reduceEqDiff,reduceLT,reduceLeDiff,reduceAdd,reduceMul,reduceSub,Nat.reduceBEq,Int.reduceToNat,Int.reduceLE,Int.reduceLT,Int.reduceNeg,reduceMod,zac,zad,zab,zaa,gT,TK.isInt,TK.agg,Array.toList,h0b,h1b,h6b,h7b,h8b,r22b,h9b]
  refine ⟨h,h,fun h2=>⟨h,h,by omega,by omega,zaf (zeb _ p hp) ?_⟩,fun h2=>?_⟩
  ·simp (maxSteps:=5000000) -dsimp only [↓gp,gq,reduceCtorEq,reduceEqDiff,reduceLT,reduceLeDiff,reduceAdd,reduceMul,reduceSub,Nat.reduceBEq,Int.reduceToNat,Int.reduceLE,Int.reduceLT,Int.reduceNeg,reduceMod,zac,zad,zab,zaa,gT,TK.isInt,TK.agg,Array.toList,h0b,h1b,h6b,h7b,h8b,r22b,h9b]
   have h2':j < n:=by omega
   have hts:((M.getD i []).map fun x=>x % p).take (j + 1) = ((M.getD i []).map fun x=>x % p).take j ++ [(M.getD i []).getD j 0 % p]:=by
    rw [zaK 0 (by simpa using h2),zAZ p h2]
   have htl:(((M.getD i []).map fun x=>x % p).take j).length ≤ 1000:=by simp;omega
   refine ⟨by omega,zah ((j + 1,u + 1)) (by refine ⟨?_,?_,?_,?_,?_,?_,?_,⟨by dsimp only;omega,ht2.same (by simp (maxSteps:=5000000) -dsimp only [gr,reduceEqDiff,reduceLT,reduceAdd,reduceMod,Nat.reduceBEq,zaa,zac,zad,zab]) (fun x=>by simp (maxSteps:=5000000) -dsimp only [gr,reduceEqDiff,reduceLT,reduceAdd,reduceMod,Nat.reduceBEq,zaa,zac,zad,zab])⟩⟩ <;> (first | (simp (maxSteps:=5000000) -dsimp only [gr,reduceEqDiff,reduceLT,reduceAdd,reduceMod,Nat.reduceBEq,zaa,zac,zad,zab,h0b,h1b,h6b,h7b,h8b,r22b,h9b,zae h2' (by omega),hts];first | done | rfl | (simp;done)) | assumption | rfl)) (by first | omega | (simp only;omega) | (dsimp only;omega) | (show _ < _;simp;omega))⟩
  ·have hjn:((M.getD i []).map fun x=>x % p).take j = (M.getD i []).map fun x=>x % p:=List.take_of_length_le (by rw [List.length_map,hri];omega)
   rw [hjn] at r22b
   simp (maxSteps:=5000000) -dsimp only [↓gp,gq,reduceCtorEq,reduceEqDiff,reduceLT,reduceLeDiff,reduceAdd,reduceMul,reduceSub,Nat.reduceBEq,Int.reduceToNat,Int.reduceLE,Int.reduceLT,Int.reduceNeg,reduceMod,zac,zad,zab,zaa,gT,TK.isInt,TK.agg,Array.toList,h0b,h1b,h6b,h7b,h8b,r22b,h9b,ht2.top]
   refine ⟨by omega,zvb (k:=15) (v:=i + 1 + 1) (e:=24) (e2:=3) (n:=i) (d:=22) (vd:=u) (M:=zkp p (M.take i)) (r:=(M.getD i []).map fun x=>x % p) (by simp (maxSteps:=5000000) -dsimp only [gr,reduceEqDiff,reduceLT,reduceAdd,reduceMod,Nat.reduceBEq,zaa,zac,zad,zab,ht2.top]) hlen (fun j hj=>by simp (maxSteps:=5000000) -dsimp only [gr,reduceEqDiff,reduceLT,reduceAdd,reduceMod,Nat.reduceBEq,zaa,zac,zad,zab,ht2.row j hj]) (fun j hj=>by simp (maxSteps:=5000000) -dsimp only [gr,reduceEqDiff,reduceLT,reduceAdd,reduceMod,Nat.reduceBEq,zaa,zac,zad,zab,ht2.rest j hj]) (by simp (maxSteps:=5000000) -dsimp only [gr,reduceEqDiff,reduceLT,reduceAdd,reduceMod,Nat.reduceBEq,zaa,zac,zad,zab,h0b,h1b,h6b,h7b,h8b,r22b,h9b]) (by decide) (by decide) (i + 1) (fun sX htX hslX hoX=>(by refine ⟨?_,?_,?_,?_,⟨by omega,(zyZ p h ▸ htX:TabG _ _ _ _ _ _ _)⟩⟩ <;> (first | (simp (maxSteps:=5000000) -dsimp only [gr,reduceEqDiff,reduceLT,reduceAdd,reduceMod,Nat.reduceBEq,zaa,zac,zad,zab,hslX,hoX,h0a,h1a,h6a,h7a,h0b,h1b,h6b,h7b,h8b,r22b,h9b,zae h (by omega)];first | done | rfl | (simp;done)) | assumption | rfl))) (by first | omega | (simp only;omega) | (dsimp only;omega) | (show _ < _;simp;omega))⟩
 ·have:i = M.length:=by omega
  subst this
  rw [List.take_length] at ht
  have htI:=ht.done
  have hmok:=zyD (p:=p) (by omega) hr
  have hml:=zd4 p M
  generalize zkp p M = R at *
  refine zam (fun (zc:Mat × List Nat × Nat × List Nat × Nat) s=>match zc with | (cur,piv,col,q,v)=>s.sl 1 = int p∧s.sl 6 = .own 15 (M.length + 1)∧s.sl 10 = .own 48 v∧s.rw 48 = ⟨v,.sli 3 1 false (iL (ofN piv))⟩∧s.sl 11 = int col∧(col ≤ n∧MatOk p n cur∧cur.length = M.length∧piv.length ≤ M.length∧TabI s.rw 15 (M.length + 1) 24 3 q cur∧q.Perm (List.range M.length)∧zjN p R [] 0 n = zjN p cur piv col (n - col))) (fun (cur,piv,col,q,v)=>n - col) ((R,[],0,List.range M.length,(sa.rw 48).ver + 1)) (by refine ⟨?_,?_,?_,?_,?_,⟨by omega,hmok,hml,by simp,htI.same (by simp (maxSteps:=5000000) -dsimp only [gr,reduceEqDiff,reduceLT,reduceAdd,reduceMod,Nat.reduceBEq,zaa,zac,zad,zab]) (fun x=>by simp (maxSteps:=5000000) -dsimp only [gr,reduceEqDiff,reduceLT,reduceAdd,reduceMod,Nat.reduceBEq,zaa,zac,zad,zab]),List.Perm.refl _,rfl⟩⟩ <;> (first | (simp (maxSteps:=5000000) -dsimp only [gr,reduceEqDiff,reduceLT,reduceAdd,reduceMod,Nat.reduceBEq,zaa,zac,zad,zab,h0a,h1a,h6a,h7a];first | done | rfl | (simp;done)) | assumption | rfl)) ?_
  intro (cur,piv,col,q,v) sc ⟨h1c,h6c,h10c,r48c,h11c,hIc⟩
  obtain ⟨hcol,hcur,hlc,hpl,htc,hperm,hred⟩:=hIc
  have hlq:q.length = cur.length:=htc.len
  simp (maxSteps:=5000000) -dsimp only [↓gp,gq,reduceCtorEq,reduceEqDiff,reduceLT,reduceLeDiff,reduceAdd,reduceMul,reduceSub,Nat.reduceBEq,Int.reduceToNat,Int.reduceLE,Int.reduceLT,Int.reduceNeg,reduceMod,zac,zad,zab,zaa,gT,TK.isInt,TK.agg,Array.toList,h1c,h6c,h10c,r48c,h11c,htc.top,hlq,zaq]
  refine ⟨fun h0=>?_,fun h0=>?_⟩
  ·have h0:0 < cur.length:=by omega
   have hr0:=htc.row h0
   have hl0:=hcur.len 0 h0
   simp (maxSteps:=5000000) -dsimp only [↓gp,gq,reduceCtorEq,reduceEqDiff,reduceLT,reduceLeDiff,reduceAdd,reduceMul,reduceSub,Nat.reduceBEq,Int.reduceToNat,Int.reduceLE,Int.reduceLT,Int.reduceNeg,reduceMod,zac,zad,zab,zaa,gT,TK.isInt,TK.agg,Array.toList,h1c,h6c,h10c,r48c,h11c,htc.top,hlq,zaq,hr0,hl0]
   refine ⟨by omega,h0,fun h1=>⟨fun h2=>?_,fun h2=>?_⟩,fun h1=>?_⟩
   ·rw [zAX h1 h2] at hred
    refine zam (fun (a:Nat) s=>s.sl 1 = int p∧s.sl 6 = .own 15 (M.length + 1)∧s.sl 10 = .own 48 v∧s.rw 48 = ⟨v,.sli 3 1 false (iL (ofN piv))⟩∧s.sl 11 = int col∧s.sl 12 = int piv.length∧s.sl 13 = int a∧(piv.length ≤ a∧a ≤ cur.length∧zbj cur col piv.length (cur.length - piv.length) = zbj cur col a (cur.length - a)∧TabI s.rw 15 (M.length + 1) 24 3 q cur)) (fun a=>cur.length - a) (piv.length) (by refine ⟨?_,?_,?_,?_,?_,?_,?_,⟨by omega,by omega,rfl,htc.same (by simp (maxSteps:=5000000) -dsimp only [gr,reduceEqDiff,reduceLT,reduceAdd,reduceMod,Nat.reduceBEq,zaa,zac,zad,zab]) (fun x=>by simp (maxSteps:=5000000) -dsimp only [gr,reduceEqDiff,reduceLT,reduceAdd,reduceMod,Nat.reduceBEq,zaa,zac,zad,zab])⟩⟩ <;> (first | (simp (maxSteps:=5000000) -dsimp only [gr,reduceEqDiff,reduceLT,reduceAdd,reduceMod,Nat.reduceBEq,zaa,zac,zad,zab,h1c,h6c,h10c,r48c,h11c];first | done | rfl | (simp;done)) | assumption | rfl)) ?_
    intro a sd ⟨h1d,h6d,h10d,r48d,h11d,h12d,h13d,hId⟩
    obtain ⟨ha1,ha2,hfind,htb⟩:=hId
    have stop:(¬ a < cur.length ∨ ¬ (cur.getD a []).getD col 0 = 0)→zbj cur col piv.length (cur.length - piv.length) = a:=fun h=>by
     rw [hfind]
     by_cases hlt:a < cur.length
     ·rw [zpX hlt,if_neg (h.resolve_left (by omega))]
     ·rw [show cur.length - a = 0 by omega];rfl
    simp (maxSteps:=5000000) -dsimp only [↓gp,gq,reduceCtorEq,reduceEqDiff,reduceLT,reduceLeDiff,reduceAdd,reduceMul,reduceSub,Nat.reduceBEq,Int.reduceToNat,Int.reduceLE,Int.reduceLT,Int.reduceNeg,reduceMod,zac,zad,zab,zaa,gT,TK.isInt,TK.agg,Array.toList,h1d,h6d,h10d,r48d,h11d,h12d,h13d,htb.top,hlq]
    refine ⟨fun h3=>?_,fun h3=>?_⟩
    ·have hra:=htb.row h3
     have hlen:=hcur.len a h3
     simp (maxSteps:=5000000) -dsimp only [↓gp,gq,reduceCtorEq,reduceEqDiff,reduceLT,reduceLeDiff,reduceAdd,reduceMul,reduceSub,Nat.reduceBEq,Int.reduceToNat,Int.reduceLE,Int.reduceLT,Int.reduceNeg,reduceMod,zac,zad,zab,zaa,gT,TK.isInt,TK.agg,Array.toList,h1d,h6d,h10d,r48d,h11d,h12d,h13d,htb.top,hlq,hra]
     refine ⟨h3,h3,by omega,by omega,fun hz=>?_,fun hz=>?_⟩
     ·have hz:=beq_iff_eq.1 hz
      rw [zpX h3,if_pos hz] at hfind
      exact zah (a + 1) (by refine ⟨?_,?_,?_,?_,?_,?_,?_,⟨by omega,by omega,hfind,htb.same (by simp (maxSteps:=5000000) -dsimp only [gr,reduceEqDiff,reduceLT,reduceAdd,reduceMod,Nat.reduceBEq,zaa,zac,zad,zab]) (fun x=>by simp (maxSteps:=5000000) -dsimp only [gr,reduceEqDiff,reduceLT,reduceAdd,reduceMod,Nat.reduceBEq,zaa,zac,zad,zab])⟩⟩ <;> (first | (simp (maxSteps:=5000000) -dsimp only [gr,reduceEqDiff,reduceLT,reduceAdd,reduceMod,Nat.reduceBEq,zaa,zac,zad,zab,h1d,h6d,h10d,r48d,h11d,h12d,h13d,zae h3 (by omega)];first | done | rfl | (simp;done)) | assumption | rfl)) (by first | omega | (simp only;omega) | (dsimp only;omega) | (show _ < _;simp;omega))
     ·have hz:¬ (cur.getD a []).getD col 0 = 0:=by simpa using hz
      have hfa:=stop (.inr hz)
      have hne':((a:Int) == (cur.length:Int)) = false:=by simp;omega
      have hst:zbM p cur col piv = (zej p piv.length col (swp cur piv.length a),piv ++ [col]):=by unfold zbM;rw [hfa,if_neg (by omega)]
      rw [hst] at hred
      have hrd:=htb.row h2
      simp (maxSteps:=5000000) -dsimp only [↓gp,gq,reduceCtorEq,reduceEqDiff,reduceLT,reduceLeDiff,reduceAdd,reduceMul,reduceSub,Nat.reduceBEq,Int.reduceToNat,Int.reduceLE,Int.reduceLT,Int.reduceNeg,reduceMod,zac,zad,zab,zaa,gT,TK.isInt,TK.agg,Array.toList,h1d,h6d,h10d,r48d,h11d,h12d,h13d,htb.top,hlq,hra,hne',hrd]
      have hsw:=zyC hcur h2 h3
      have hswl:(swp cur piv.length a).length = cur.length:=zch _ _ _
      have hqp:((q.set a (q.getD piv.length 0)).set piv.length (q.getD a 0)).Perm q:=by
       have e1:q.getD piv.length 0 = q[piv.length]'(by omega):=by simp [List.getD,(by omega:piv.length < q.length)]
       have e2:q.getD a 0 = q[a]'(by omega):=by simp [List.getD,(by omega:a < q.length)]
       rw [e1,e2];exact List.set_set_perm (by omega) (by omega)
      have hclr:=zj3 (swp cur piv.length a) n piv.length col p hp hsw (by omega) h1 hn
      refine ⟨h3,h3,h2,h2,h3,by omega,h2,by omega,zCO hclr (by repeat (first | exact GiveL.nil | refine GiveL.v ?_ | refine GiveL.clo ?_ | refine GiveL.own 0 rfl ?_ | refine GiveL.own 1 rfl ?_ | refine GiveL.ag ?_ ?_)) ((htb.swap h3 h2 (by simp (maxSteps:=5000000) -dsimp only [gr,reduceEqDiff,reduceLT,reduceAdd,reduceMod,Nat.reduceBEq,zaa,zac,zad,zab,h1d,h6d,h10d,r48d,h11d,h12d,h13d]) (fun x=>by simp (maxSteps:=5000000) -dsimp only [gr,reduceEqDiff,reduceLT,reduceAdd,reduceMod,Nat.reduceBEq,zaa,zac,zad,zab,h1d,h6d,h10d,r48d,h11d,h12d,h13d])).1.to (zAA cur a piv.length)).is (hqp.nodup_iff.2 htb.nd) (fun p' hp'=>?_)⟩
      simp (maxSteps:=5000000) -dsimp only [↓gp,gq,reduceCtorEq,reduceEqDiff,reduceLT,reduceLeDiff,reduceAdd,reduceMul,reduceSub,Nat.reduceBEq,Int.reduceToNat,Int.reduceLE,Int.reduceLT,Int.reduceNeg,reduceMod,zac,zad,zab,zaa,gT,TK.isInt,TK.agg,Array.toList,h1d,h6d,h10d,r48d,h11d,h12d,h13d,zaq]
      refine ⟨by omega,?_⟩
      have hnd':p'.Nodup:=hp'.nodup_iff.2 (hqp.nodup_iff.2 htb.nd)
      have hcl:=zpK (p:=p) (at':=piv.length) (col:=col) (by omega) hsw (by omega)
      have hcll:=za7 p piv.length col (swp cur piv.length a)
      have hp'l:p'.length = cur.length:=by rw [hp'.length_eq,hqp.length_eq,hlq]
      exact zah ((zej p piv.length col (swp cur piv.length a),piv ++ [col],col + 1,p',v + 1)) (by refine ⟨?_,?_,?_,?_,?_,⟨by dsimp only;omega,hcl,by dsimp only;rw [hcll,hswl,hlc],by simp;omega,⟨⟨by simp (maxSteps:=5000000) -dsimp only [gr,reduceEqDiff,reduceLT,reduceAdd,reduceMod,Nat.reduceBEq,zaa,zac,zad,zab],by simp [hp'l,hcll,hswl],fun i hi=>by simp (maxSteps:=5000000) -dsimp only [gr,reduceEqDiff,reduceLT,reduceAdd,reduceMod,Nat.reduceBEq,zaa,zac,zad,zab,zvc hnd' hi,zb2]⟩,hnd'⟩,hp'.trans (hqp.trans hperm),hred⟩⟩ <;> (first | (simp (maxSteps:=5000000) -dsimp only [gr,reduceEqDiff,reduceLT,reduceAdd,reduceMod,Nat.reduceBEq,zaa,zac,zad,zab,h1c,h6c,h10c,r48c,h11c,h1d,h6d,h10d,r48d,h11d,h12d,h13d,zae h1 (by omega),za2,zfS];first | done | rfl | (simp;done)) | assumption | rfl)) (by first | omega | (simp only;omega) | (dsimp only;omega) | (show _ < _;simp;omega))
    ·have hfa:=stop (.inl (by omega))
     have:a = cur.length:=by omega
     subst this
     have hst:zbM p cur col piv = (cur,piv):=by unfold zbM;rw [if_pos hfa]
     rw [hst] at hred
     simp (maxSteps:=5000000) -dsimp only [↓gp,gq,reduceCtorEq,reduceEqDiff,reduceLT,reduceLeDiff,reduceAdd,reduceMul,reduceSub,Nat.reduceBEq,Int.reduceToNat,Int.reduceLE,Int.reduceLT,Int.reduceNeg,reduceMod,zac,zad,zab,zaa,gT,TK.isInt,TK.agg,Array.toList,h1d,h6d,h10d,r48d,h11d,h12d,h13d,htb.top,hlq]
     exact zah ((cur,piv,col + 1,q,v)) (by refine ⟨?_,?_,?_,?_,?_,⟨by dsimp only;omega,hcur,hlc,by dsimp only;omega,htb.same (by simp (maxSteps:=5000000) -dsimp only [gr,reduceEqDiff,reduceLT,reduceAdd,reduceMod,Nat.reduceBEq,zaa,zac,zad,zab]) (fun x=>by simp (maxSteps:=5000000) -dsimp only [gr,reduceEqDiff,reduceLT,reduceAdd,reduceMod,Nat.reduceBEq,zaa,zac,zad,zab]),hperm,hred⟩⟩ <;> (first | (simp (maxSteps:=5000000) -dsimp only [gr,reduceEqDiff,reduceLT,reduceAdd,reduceMod,Nat.reduceBEq,zaa,zac,zad,zab,h1c,h6c,h10c,r48c,h11c,h1d,h6d,h10d,r48d,h11d,h12d,h13d,zae h1 (by omega)];first | done | rfl | (simp;done)) | assumption | rfl)) (by first | omega | (simp only;omega) | (dsimp only;omega) | (show _ < _;simp;omega))
   ·have hf:zjN p cur piv col (n - col) = (cur,piv):=zpL p cur piv col (n - col) h2
    rw [hf] at hred
    rw [hred]
    simp (maxSteps:=5000000) -dsimp only [↓gp,gq,reduceCtorEq,reduceEqDiff,reduceLT,reduceLeDiff,reduceAdd,reduceMul,reduceSub,Nat.reduceBEq,Int.reduceToNat,Int.reduceLE,Int.reduceLT,Int.reduceNeg,reduceMod,zac,zad,zab,zaa,gT,TK.isInt,TK.agg,Array.toList,h1c,h6c,h10c,r48c,h11c]
    have hq9:∀ j ∈ q,j < 998:=fun j hj=>by have:=List.mem_range.1 (hperm.mem_iff.1 hj);omega
    refine zjR htc (by decide) hq9 ?_
    simp (maxSteps:=5000000) -dsimp only [↓gp,gq,reduceCtorEq,reduceEqDiff,reduceLT,reduceLeDiff,reduceAdd,reduceMul,reduceSub,Nat.reduceBEq,Int.reduceToNat,Int.reduceLE,Int.reduceLT,Int.reduceNeg,reduceMod,zac,zad,zab,zaa,gT,TK.isInt,TK.agg,Array.toList,h1c,h6c,h10c,r48c,h11c]
    exact zjS htc.nd (fun j hj=>by rw [zbq];omega) (by decide)
   ·have hf:zjN p cur piv col (n - col) = (cur,piv):=by rw [show n - col = 0 by omega];rfl
    rw [hf] at hred
    rw [hred]
    simp (maxSteps:=5000000) -dsimp only [↓gp,gq,reduceCtorEq,reduceEqDiff,reduceLT,reduceLeDiff,reduceAdd,reduceMul,reduceSub,Nat.reduceBEq,Int.reduceToNat,Int.reduceLE,Int.reduceLT,Int.reduceNeg,reduceMod,zac,zad,zab,zaa,gT,TK.isInt,TK.agg,Array.toList,h1c,h6c,h10c,r48c,h11c]
    have hq9:∀ j ∈ q,j < 998:=fun j hj=>by have:=List.mem_range.1 (hperm.mem_iff.1 hj);omega
    refine zjR htc (by decide) hq9 ?_
    simp (maxSteps:=5000000) -dsimp only [↓gp,gq,reduceCtorEq,reduceEqDiff,reduceLT,reduceLeDiff,reduceAdd,reduceMul,reduceSub,Nat.reduceBEq,Int.reduceToNat,Int.reduceLE,Int.reduceLT,Int.reduceNeg,reduceMod,zac,zad,zab,zaa,gT,TK.isInt,TK.agg,Array.toList,h1c,h6c,h10c,r48c,h11c]
    exact zjS htc.nd (fun j hj=>by rw [zbq];omega) (by decide)
  ·have hf:zjN p cur piv col (n - col) = (cur,piv):=zpL p cur piv col (n - col) (by omega)
   rw [hf] at hred
   rw [hred]
   simp (maxSteps:=5000000) -dsimp only [↓gp,gq,reduceCtorEq,reduceEqDiff,reduceLT,reduceLeDiff,reduceAdd,reduceMul,reduceSub,Nat.reduceBEq,Int.reduceToNat,Int.reduceLE,Int.reduceLT,Int.reduceNeg,reduceMod,zac,zad,zab,zaa,gT,TK.isInt,TK.agg,Array.toList,h1c,h6c,h10c,r48c,h11c]
   have hq9:∀ j ∈ q,j < 998:=fun j hj=>by have:=List.mem_range.1 (hperm.mem_iff.1 hj);omega
   refine zjR htc (by decide) hq9 ?_
   simp (maxSteps:=5000000) -dsimp only [↓gp,gq,reduceCtorEq,reduceEqDiff,reduceLT,reduceLeDiff,reduceAdd,reduceMul,reduceSub,Nat.reduceBEq,Int.reduceToNat,Int.reduceLE,Int.reduceLT,Int.reduceNeg,reduceMod,zac,zad,zab,zaa,gT,TK.isInt,TK.agg,Array.toList,h1c,h6c,h10c,r48c,h11c]
   exact zjS htc.nd (fun j hj=>by rw [zbq];omega) (by decide)
theorem zyY (s:St) (d e e2 e' sz:Nat) (rows:List (List PV)) (c:List PV):(zak s d (.tup [.tb e e2 rows,.fr e' sz c])).sl d = .tup [.own d ((s.rw d).ver + 1),.own (sid d rows.length) ((s.rw (sid d rows.length)).ver + 1)] ∧
 (zak s d (.tup [.tb e e2 rows,.fr e' sz c])).rw (sid d rows.length) = ⟨(s.rw (sid d rows.length)).ver + 1,.sli e' sz false c⟩:=by
 have hl:(leaves (.tb e e2 rows)).length = rows.length + 1:=by rw [leaves];simp
 have hd:zaj d 0 = d:=by unfold zaj;omega
 have hs:zaj d (0 + (rows.length + 1)) = sid d rows.length:=by rw [Nat.zero_add];rfl
 constructor
 ·unfold zak
  rw [zaA]
  simp only [zaV,zbI,zba,zbw,hl,hd,hs]
 ·have hrw:(zak s d (.tup [.tb e e2 rows,.fr e' sz c])).rw = zg2 s.rw d (zbh s.rw d (leaves (.tup [.tb e e2 rows,.fr e' sz c])) 0) 0:=by
   unfold zak;rw [zew];exact zct _ _ _ _
  have hlv:leaves (.tup [.tb e e2 rows,.fr e' sz c]) = leaves (.tb e e2 rows) ++ [(e',some sz,c)]:=by rw [zbr];simp [leaves]
  have h2:rows.length + 1 < (leaves (.tup [.tb e e2 rows,.fr e' sz c])).length:=by rw [hlv];simp [hl]
  have h1:rows.length + 1 < (zbh s.rw d (leaves (.tup [.tb e e2 rows,.fr e' sz c])) 0).length:=by rw [za1];exact h2
  have:=zc9 s.rw d (zbh s.rw d (leaves (.tup [.tb e e2 rows,.fr e' sz c])) 0) 0 (rows.length + 1) h1
  rw [hs] at this
  rw [hrw,this,zc3 _ _ _ _ _ h2,hs]
  have h3:(leaves (.tup [.tb e e2 rows,.fr e' sz c]))[rows.length + 1] = (e',some sz,c):=by
   simp only [hlv]
   rw [List.getElem_append_right (by omega)]
   simp [hl]
  rw [h3]
  rfl
theorem zkJ (M:Mat) (p:Int) (hp:isP p = true) (hM:M.length ≤ 900) (hr:∀ i,i < M.length→(M.getD i []).length = (M.getD 0 []).length) (hn:(M.getD 0 []).length ≤ 1000):AC Tryz.prog 84 [zFF M,int p] (.im (int (zq9 p M))):=by
 refine AC.go (rs:=[.tmp 4]) zaQ zar Tryz.func84 rfl rfl rfl (by kernel_rfl) fun hl=>?_
 simp (maxSteps:=5000000) -dsimp only [↓gp,gq,reduceCtorEq,reduceEqDiff,reduceLT,reduceLeDiff,reduceAdd,reduceMul,reduceSub,Nat.reduceBEq,Int.reduceToNat,Int.reduceLE,Int.reduceLT,Int.reduceNeg,reduceMod,zac,zad,zab,zaa,gT,TK.isInt,TK.agg,Array.toList]
 refine zaf (zh5 M p hp hM hr hn) ?_
 simp (maxSteps:=5000000) -dsimp only [↓gp,gq,reduceCtorEq,reduceEqDiff,reduceLT,reduceLeDiff,reduceAdd,reduceMul,reduceSub,Nat.reduceBEq,Int.reduceToNat,Int.reduceLE,Int.reduceLT,Int.reduceNeg,reduceMod,zac,zad,zab,zaa,gT,TK.isInt,TK.agg,Array.toList,zyY,zaq]
 rfl
theorem zha (n:Int) (xs:List Int):AC Tryz.prog 83 [.ag [int n,zaI xs]] (.fr 3 1 (iL (zEe (zcT n xs)))):=by
 refine AC.go (rs:=[.tmp 2]) zaQ zar Tryz.func83 rfl rfl rfl (by kernel_rfl) fun hl=>?_
 simp (maxSteps:=5000000) -dsimp only [↓gp,gq,reduceCtorEq,reduceEqDiff,reduceLT,reduceLeDiff,reduceAdd,reduceMul,reduceSub,Nat.reduceBEq,Int.reduceToNat,Int.reduceLE,Int.reduceLT,Int.reduceNeg,reduceMod,zac,zad,zab,zaa,gT,TK.isInt,TK.agg,Array.toList]
 refine zaf (zfC n xs) ?_
 simp (maxSteps:=5000000) -dsimp only [↓gp,gq,reduceCtorEq,reduceEqDiff,reduceLT,reduceLeDiff,reduceAdd,reduceMul,reduceSub,Nat.reduceBEq,Int.reduceToNat,Int.reduceLE,Int.reduceLT,Int.reduceNeg,reduceMod,zac,zad,zab,zaa,gT,TK.isInt,TK.agg,Array.toList]
 have hfull:=ziv (zcT n xs)
 have hmem:∀ i,i < (zes (zcT n xs)).length→(zes (zcT n xs)).getD i 0 < 64:=fun i h=>zl9 h
 have hmx:=zAU (zcT n xs)
 have hd7:=zj0 (zcT n xs)
 unfold zEe
 generalize zes (zcT n xs) = all at *
 refine zam (fun (za:Nat × Nat × Nat) s=>match za with | (i,v,u)=>s.sl 3 = .own 6 v∧s.rw 6 = ⟨v,.sli 3 1 false (iL (zpV (all.take i) (mxL (all.take i))))⟩∧s.sl 4 = .own 8 u∧s.rw 8 = ⟨u,.sli 3 1 false (iL (ofN all))⟩∧s.sl 5 = int i∧(i ≤ all.length)) (fun (i,v,u)=>all.length - i) ((0,1,1)) (by refine ⟨?_,?_,?_,?_,?_,by simp⟩ <;> (first | (simp (maxSteps:=5000000) -dsimp only [gr,reduceEqDiff,reduceLT,reduceAdd,reduceMod,Nat.reduceBEq,zaa,zac,zad,zab,mxL,zpV];first | done | rfl | (simp;done)) | assumption | rfl)) ?_
 intro (i,v,u) sa ⟨h3a,r6a,h4a,r8a,h5a,hIa⟩
 simp (maxSteps:=5000000) -dsimp only [↓gp,gq,reduceCtorEq,reduceEqDiff,reduceLT,reduceLeDiff,reduceAdd,reduceMul,reduceSub,Nat.reduceBEq,Int.reduceToNat,Int.reduceLE,Int.reduceLT,Int.reduceNeg,reduceMod,zac,zad,zab,zaa,gT,TK.isInt,TK.agg,Array.toList,h3a,r6a,h4a,r8a,h5a,zaq]
 refine ⟨fun h=>?_,fun h=>?_⟩
 ·have hi:=hmem i h
  have hge:(ofN all).getD i 0 = ((all.getD i 0:Nat):Int):=zbg h
  have hsn:=zaK 0 h
  have hmi:=zAS (all.take i) (all.getD i 0)
  rw [← hsn] at hmi
  have hmle:=zAV (l:=all) (k:=i + 1)
  have hp6:=zd5 hi
  refine zam (fun (zb:Nat × Nat) s=>match zb with | (w,m)=>s.sl 3 = .own 6 w∧s.rw 6 = ⟨w,.sli 3 1 false (iL (zpV (all.take i) m))⟩∧s.sl 4 = .own 8 u∧s.rw 8 = ⟨u,.sli 3 1 false (iL (ofN all))⟩∧s.sl 5 = int i∧(mxL (all.take i) ≤ m∧m ≤ mxL (all.take (i + 1)))) (fun (w,m)=>mxL (all.take (i + 1)) - m) ((v,mxL (all.take i))) (by refine ⟨?_,?_,?_,?_,?_,⟨by omega,by omega⟩⟩ <;> (first | (simp (maxSteps:=5000000) -dsimp only [gr,reduceEqDiff,reduceLT,reduceAdd,reduceMod,Nat.reduceBEq,zaa,zac,zad,zab,h3a,r6a,h4a,r8a,h5a];first | done | rfl | (simp;done)) | assumption | rfl)) ?_
  intro (w,m) sb ⟨h3b,r6b,h4b,r8b,h5b,hIb⟩
  obtain ⟨hm1,hm2⟩:=hIb
  simp (maxSteps:=5000000) -dsimp only [↓gp,gq,reduceCtorEq,reduceEqDiff,reduceLT,reduceLeDiff,reduceAdd,reduceMul,reduceSub,Nat.reduceBEq,Int.reduceToNat,Int.reduceLE,Int.reduceLT,Int.reduceNeg,reduceMod,zac,zad,zab,zaa,gT,TK.isInt,TK.agg,Array.toList,h3b,r6b,h4b,r8b,h5b,zaq,zcz,hge]
  refine ⟨h,h,zaf (za4 _ (by omega)) ?_⟩
  simp (maxSteps:=5000000) -dsimp only [↓gp,gq,reduceCtorEq,reduceEqDiff,reduceLT,reduceLeDiff,reduceAdd,reduceMul,reduceSub,Nat.reduceBEq,Int.reduceToNat,Int.reduceLE,Int.reduceLT,Int.reduceNeg,reduceMod,zac,zad,zab,zaa,gT,TK.isInt,TK.agg,Array.toList,h3b,r6b,h4b,r8b,h5b,zaq,zcz,hge]
  refine ⟨fun h2=>⟨by omega,?_⟩,fun h2=>?_⟩
  ·have e:zpV (all.take i) m ++ [0] = zpV (all.take i) (m + 1):=zyW _ hm1
   exact zah ((w + 1,m + 1)) (by refine ⟨?_,?_,?_,?_,?_,⟨by dsimp only;omega,by dsimp only;omega⟩⟩ <;> (first | (simp (maxSteps:=5000000) -dsimp only [gr,reduceEqDiff,reduceLT,reduceAdd,reduceMod,Nat.reduceBEq,zaa,zac,zad,zab,h3b,r6b,h4b,r8b,h5b,e];first | done | rfl | (simp;done)) | assumption | rfl)) (by first | omega | (simp only;omega) | (dsimp only;omega) | (show _ < _;simp;omega))
  ·have hgm:(zpV (all.take i) m).getD (zaw (all.getD i 0)) 0 = (zud (all.take i) (zaw (all.getD i 0)):Int):=zpW _ (by omega)
   have hcl:zud (all.take i) (zaw (all.getD i 0)) ≤ 448:=by
    have:=List.length_filter_le (fun s=>zaw s == zaw (all.getD i 0)) (all.take i)
    rw [List.length_take] at this
    unfold zud;omega
   have hw:IntKind.i64.wrap ((zud (all.take i) (zaw (all.getD i 0)):Int) + 1) = (zud (all.take i) (zaw (all.getD i 0)):Int) + 1:=zap (by omega) (by omega)
   have hme:m = mxL (all.take (i + 1)):=by omega
   have hadd:=zAT (all.take i) (all.getD i 0) m (by omega)
   rw [← hsn] at hadd
   refine ⟨by kernel_rfl,h,h,zaf (za4 _ (by omega)) ?_⟩
   simp (maxSteps:=5000000) -dsimp only [↓gp,gq,reduceCtorEq,reduceEqDiff,reduceLT,reduceLeDiff,reduceAdd,reduceMul,reduceSub,Nat.reduceBEq,Int.reduceToNat,Int.reduceLE,Int.reduceLT,Int.reduceNeg,reduceMod,zac,zad,zab,zaa,gT,TK.isInt,TK.agg,Array.toList,h3b,r6b,h4b,r8b,h5b,zaq,zcz,hge]
   refine ⟨h,h,zaf (za4 _ (by omega)) ?_⟩
   simp (maxSteps:=5000000) -dsimp only [↓gp,gq,reduceCtorEq,reduceEqDiff,reduceLT,reduceLeDiff,reduceAdd,reduceMul,reduceSub,Nat.reduceBEq,Int.reduceToNat,Int.reduceLE,Int.reduceLT,Int.reduceNeg,reduceMod,zac,zad,zab,zaa,gT,TK.isInt,TK.agg,Array.toList,h3b,r6b,h4b,r8b,h5b,zaq,zcz,hge,hgm,hw,hadd]
   refine ⟨by omega,by omega,by omega,by omega,by kernel_rfl,?_⟩
   subst hme
   exact zah ((i + 1,w,u)) (by refine ⟨?_,?_,?_,?_,?_,by dsimp only;omega⟩ <;> (first | (simp (maxSteps:=5000000) -dsimp only [gr,reduceEqDiff,reduceLT,reduceAdd,reduceMod,Nat.reduceBEq,zaa,zac,zad,zab,h3a,r6a,h4a,r8a,h5a,h3b,r6b,h4b,r8b,h5b,zae h (by omega)];first | done | rfl | (simp;done)) | assumption | rfl)) (by first | omega | (simp only;omega) | (dsimp only;omega) | (show _ < _;simp;omega))
 ·have:i = all.length:=by omega
  rw [this,List.take_length,hmx]
theorem zkE (a b:Nat) (ha:a < 64) (hb:b < 64) (hp:zaw b = zaw a + 1):AC Tryz.prog 100 [int a,int b] (.im (int (zqq a b))):=by
 refine AC.go (rs:=[.tmp 4]) zaQ zar Tryz.func100 rfl rfl rfl (by kernel_rfl) fun hl=>?_
 have hpa:=zd5 ha
 have hpb:=zd5 hb
 have hand:=za8 (a:=a) (b:=b) (by omega) (by omega)
 have hw1:IntKind.i64.wrap ((zaw b:Int) - (zaw a:Int)) = 1:=by rw [zap (by omega) (by omega)];omega
 simp (maxSteps:=5000000) -dsimp only [↓gp,gq,reduceCtorEq,reduceEqDiff,reduceLT,reduceLeDiff,reduceAdd,reduceMul,reduceSub,Nat.reduceBEq,Int.reduceToNat,Int.reduceLE,Int.reduceLT,Int.reduceNeg,reduceMod,zac,zad,zab,zaa,gT,TK.isInt,TK.agg,Array.toList,hand]
 refine ⟨fun h=>zaf (za4 b (by omega)) ?_,fun h=>?_⟩
 ·have hs:a &&& b = a:=by
   have h9:((a &&& b:Nat):Int) = a:=by simpa using h
   omega
  obtain ⟨hle,hx⟩:=zAW a ha b hb hs
  simp (maxSteps:=5000000) -dsimp only [↓gp,gq,reduceCtorEq,reduceEqDiff,reduceLT,reduceLeDiff,reduceAdd,reduceMul,reduceSub,Nat.reduceBEq,Int.reduceToNat,Int.reduceLE,Int.reduceLT,Int.reduceNeg,reduceMod,zac,zad,zab,zaa,gT,TK.isInt,TK.agg,Array.toList]
  refine zaf (za4 a (by omega)) ?_
  have hne:a ≠ b:=fun e=>by rw [e] at hp;omega
  have hw2:IntKind.i64.wrap ((b:Int) - (a:Int)) = ((b - a:Nat):Int):=by rw [zap (by omega) (by omega)];omega
  have hw3:IntKind.i64.wrap (((b - a:Nat):Int) - 1) = ((b - a - 1:Nat):Int):=by rw [zap (by omega) (by omega)];omega
  have hand2:=za8 (a:=b) (b:=b - a - 1) (by omega) (by omega)
  have hlt:b &&& (b - a - 1) < 64:=by have:b &&& (b - a - 1) ≤ b:=Nat.and_le_left;omega
  have hp6:=zd5 hlt
  have h11:((1:Int) != 1) = false:=rfl
  simp (maxSteps:=5000000) -dsimp only [↓gp,gq,reduceCtorEq,reduceEqDiff,reduceLT,reduceLeDiff,reduceAdd,reduceMul,reduceSub,Nat.reduceBEq,Int.reduceToNat,Int.reduceLE,Int.reduceLT,Int.reduceNeg,reduceMod,zac,zad,zab,zaa,gT,TK.isInt,TK.agg,Array.toList,hw1,hw2,hw3,hand2,h11]
  refine zaf (za4 _ (by omega)) ?_
  have hmod:((zaw (b &&& (b - a - 1)):Nat):Int).tmod 2 = ((zaw (b &&& (b - a - 1)) % 2:Nat):Int):=by rw [zjP (by omega)];omega
  have hw4:IntKind.i64.wrap (2 * ((zaw (b &&& (b - a - 1)) % 2:Nat):Int)) = 2 * ((zaw (b &&& (b - a - 1)) % 2:Nat):Int):=zap (by omega) (by omega)
  have hw5:IntKind.i64.wrap (1 - 2 * ((zaw (b &&& (b - a - 1)) % 2:Nat):Int)) = 1 - 2 * ((zaw (b &&& (b - a - 1)) % 2:Nat):Int):=zap (by omega) (by omega)
  simp (maxSteps:=5000000) -dsimp only [↓gp,gq,reduceCtorEq,reduceEqDiff,reduceLT,reduceLeDiff,reduceAdd,reduceMul,reduceSub,Nat.reduceBEq,Int.reduceToNat,Int.reduceLE,Int.reduceLT,Int.reduceNeg,reduceMod,zac,zad,zab,zaa,gT,TK.isInt,TK.agg,Array.toList,hmod,hw4,hw5]
  unfold zqq
  rw [if_pos hs]
  split <;> omega
 ·have hs:¬ a &&& b = a:=by
   intro e
   rw [e] at h
   simp at h
  unfold zqq
  rw [if_neg hs]
theorem zvh {l h:List Nat} {i:Nat} (hi:i < l.length):zcA (l.take i) h ++ [h.map fun b=>zqq (l.getD i 0) b] = zcA (l.take (i + 1)) h:=by
 rw [zaK 0 hi];simp [zcA]
theorem zh3 (n:Int) (xs:List Int) (k:Nat) (hk:1 ≤ k) (hk7:k ≤ 7):AC Tryz.prog 85 [.ag [int n,zaI xs],int k] (.fr 24 1 (iLL (zcA (zbb (zcT n xs) (k - 1) 64) (zbb (zcT n xs) k 64)))):=by
 refine AC.go (rs:=[.tmp 4]) zaQ zar Tryz.func85 rfl rfl rfl (by kernel_rfl) fun hl=>?_
 have hw1:IntKind.i64.wrap ((k:Int) - 1) = ((k - 1:Nat):Int):=by rw [zap (by omega) (by omega)];omega
 simp (maxSteps:=5000000) -dsimp only [↓gp,gq,reduceCtorEq,reduceEqDiff,reduceLT,reduceLeDiff,reduceAdd,reduceMul,reduceSub,Nat.reduceBEq,Int.reduceToNat,Int.reduceLE,Int.reduceLT,Int.reduceNeg,reduceMod,zac,zad,zab,zaa,gT,TK.isInt,TK.agg,Array.toList,hw1]
 refine zaf (zdf n xs (k - 1)) ?_
 simp (maxSteps:=5000000) -dsimp only [↓gp,gq,reduceCtorEq,reduceEqDiff,reduceLT,reduceLeDiff,reduceAdd,reduceMul,reduceSub,Nat.reduceBEq,Int.reduceToNat,Int.reduceLE,Int.reduceLT,Int.reduceNeg,reduceMod,zac,zad,zab,zaa,gT,TK.isInt,TK.agg,Array.toList]
 refine zaf (zdf n xs k) ?_
 simp (maxSteps:=5000000) -dsimp only [↓gp,gq,reduceCtorEq,reduceEqDiff,reduceLT,reduceLeDiff,reduceAdd,reduceMul,reduceSub,Nat.reduceBEq,Int.reduceToNat,Int.reduceLE,Int.reduceLT,Int.reduceNeg,reduceMod,zac,zad,zab,zaa,gT,TK.isInt,TK.agg,Array.toList]
 have hl1:=ze9 (zcT n xs) (k - 1) (Nat.le_refl 64)
 have hl2:=ze9 (zcT n xs) k (Nat.le_refl 64)
 have hm1:∀ i,i < (zbb (zcT n xs) (k - 1) 64).length→(zbb (zcT n xs) (k - 1) 64).getD i 0 < 64∧zaw ((zbb (zcT n xs) (k - 1) 64).getD i 0) = k - 1:=fun i hi=>by
  have:=ziw.1 (zaz 0 hi);exact ⟨this.1,this.2.2⟩
 have hm2:∀ i,i < (zbb (zcT n xs) k 64).length→(zbb (zcT n xs) k 64).getD i 0 < 64∧zaw ((zbb (zcT n xs) k 64).getD i 0) = k:=fun i hi=>by
  have:=ziw.1 (zaz 0 hi);exact ⟨this.1,this.2.2⟩
 generalize zbb (zcT n xs) (k - 1) 64 = lo at *
 generalize zbb (zcT n xs) k 64 = hi at *
 refine zam (fun (za:Nat × Nat × Nat × Nat) s=>match za with | (i,v,a,b)=>s.sl 5 = .own 11 v∧s.rw 11 = ⟨v,.sli 24 1 false (iLL (zcA (lo.take i) hi))⟩∧s.sl 6 = .own 15 a∧s.rw 15 = ⟨a,.sli 3 1 false (iL (ofN lo))⟩∧s.sl 7 = .own 18 b∧s.rw 18 = ⟨b,.sli 3 1 false (iL (ofN hi))⟩∧s.sl 8 = int i∧(i ≤ lo.length)) (fun (i,v,a,b)=>lo.length - i) ((0,1,1,1)) (by refine ⟨?_,?_,?_,?_,?_,?_,?_,by simp⟩ <;> (first | (simp (maxSteps:=5000000) -dsimp only [gr,reduceEqDiff,reduceLT,reduceAdd,reduceMod,Nat.reduceBEq,zaa,zac,zad,zab,zcA,iLL];first | done | rfl | (simp;done)) | assumption | rfl)) ?_
 intro (i,v,a,b) sa ⟨h5a,r11a,h6a,r15a,h7a,r18a,h8a,hIa⟩
 have hbl:(zcA (lo.take i) hi).length = min i lo.length:=by rw [zdy,List.length_take]
 simp (maxSteps:=5000000) -dsimp only [↓gp,gq,reduceCtorEq,reduceEqDiff,reduceLT,reduceLeDiff,reduceAdd,reduceMul,reduceSub,Nat.reduceBEq,Int.reduceToNat,Int.reduceLE,Int.reduceLT,Int.reduceNeg,reduceMod,zac,zad,zab,zaa,gT,TK.isInt,TK.agg,Array.toList,h5a,r11a,h6a,r15a,h7a,r18a,h8a,zaq]
 refine ⟨fun h=>?_,fun h=>?_⟩
 ·have hge:(ofN lo).getD i 0 = ((lo.getD i 0:Nat):Int):=zbg h
  refine zam (fun (zb:Nat × Nat) s=>match zb with | (j,u)=>s.sl 5 = .own 11 v∧s.rw 11 = ⟨v,.sli 24 1 false (iLL (zcA (lo.take i) hi))⟩∧s.sl 6 = .own 15 a∧s.rw 15 = ⟨a,.sli 3 1 false (iL (ofN lo))⟩∧s.sl 7 = .own 18 b∧s.rw 18 = ⟨b,.sli 3 1 false (iL (ofN hi))⟩∧s.sl 8 = int i∧s.sl 9 = .own 25 u∧s.rw 25 = ⟨u,.sli 3 1 false (iL ((hi.take j).map fun b=>zqq (lo.getD i 0) b))⟩∧s.sl 10 = int j∧(j ≤ hi.length)) (fun (j,u)=>hi.length - j) ((0,(sa.rw 25).ver + 1)) (by refine ⟨?_,?_,?_,?_,?_,?_,?_,?_,?_,?_,by omega⟩ <;> (first | (simp (maxSteps:=5000000) -dsimp only [gr,reduceEqDiff,reduceLT,reduceAdd,reduceMod,Nat.reduceBEq,zaa,zac,zad,zab,h5a,r11a,h6a,r15a,h7a,r18a,h8a];first | done | rfl | (simp;done)) | assumption | rfl)) ?_
  intro (j,u) sb ⟨h5b,r11b,h6b,r15b,h7b,r18b,h8b,h9b,r25b,h10b,hIb⟩
  simp (maxSteps:=5000000) -dsimp only [↓gp,gq,reduceCtorEq,reduceEqDiff,reduceLT,reduceLeDiff,reduceAdd,reduceMul,reduceSub,Nat.reduceBEq,Int.reduceToNat,Int.reduceLE,Int.reduceLT,Int.reduceNeg,reduceMod,zac,zad,zab,zaa,gT,TK.isInt,TK.agg,Array.toList,h5b,r11b,h6b,r15b,h7b,r18b,h8b,h9b,r25b,h10b,zaq]
  refine ⟨fun h2=>?_,fun h2=>?_⟩
  ·have hge2:(ofN hi).getD j 0 = ((hi.getD j 0:Nat):Int):=zbg h2
   have ha:=hm1 i h
   have hb:=hm2 j h2
   simp (maxSteps:=5000000) -dsimp only [↓gp,gq,reduceCtorEq,reduceEqDiff,reduceLT,reduceLeDiff,reduceAdd,reduceMul,reduceSub,Nat.reduceBEq,Int.reduceToNat,Int.reduceLE,Int.reduceLT,Int.reduceNeg,reduceMod,zac,zad,zab,zaa,gT,TK.isInt,TK.agg,Array.toList,h5b,r11b,h6b,r15b,h7b,r18b,h8b,h9b,r25b,h10b,zaq,hge,hge2]
   refine ⟨by kernel_rfl,h,h,h2,h2,zaf (zkE _ _ ha.1 hb.1 (by omega)) ?_⟩
   simp (maxSteps:=5000000) -dsimp only [↓gp,gq,reduceCtorEq,reduceEqDiff,reduceLT,reduceLeDiff,reduceAdd,reduceMul,reduceSub,Nat.reduceBEq,Int.reduceToNat,Int.reduceLE,Int.reduceLT,Int.reduceNeg,reduceMod,zac,zad,zab,zaa,gT,TK.isInt,TK.agg,Array.toList,h5b,r11b,h6b,r15b,h7b,r18b,h8b,h9b,r25b,h10b,zaq,hge,hge2]
   have e:(hi.take (j + 1)).map (fun b=>zqq (lo.getD i 0) b) = (hi.take j).map (fun b=>zqq (lo.getD i 0) b) ++ [zqq (lo.getD i 0) (hi.getD j 0)]:=by rw [zaK 0 h2];simp
   refine ⟨by rw [List.length_map,List.length_take];omega,by kernel_rfl,?_⟩
   exact zah ((j + 1,u + 1)) (by refine ⟨?_,?_,?_,?_,?_,?_,?_,?_,?_,?_,by dsimp only;omega⟩ <;> (first | (simp (maxSteps:=5000000) -dsimp only [gr,reduceEqDiff,reduceLT,reduceAdd,reduceMod,Nat.reduceBEq,zaa,zac,zad,zab,h5b,r11b,h6b,r15b,h7b,r18b,h8b,h9b,r25b,h10b,zae h2 (by omega),e];first | done | rfl | (simp;done)) | assumption | rfl)) (by first | omega | (simp only;omega) | (dsimp only;omega) | (show _ < _;simp;omega))
  ·have hj:j = hi.length:=by omega
   subst hj
   rw [List.take_length] at r25b
   refine zFX ?_
   simp (maxSteps:=5000000) -dsimp only [↓gp,gq,reduceCtorEq,reduceEqDiff,reduceLT,reduceLeDiff,reduceAdd,reduceMul,reduceSub,Nat.reduceBEq,Int.reduceToNat,Int.reduceLE,Int.reduceLT,Int.reduceNeg,reduceMod,zac,zad,zab,zaa,gT,TK.isInt,TK.agg,Array.toList,h5b,r11b,h6b,r15b,h7b,r18b,h8b,h9b,r25b,h10b,hbl,zgR]
   have e:=zvh (h:=hi) h
   refine ⟨by omega,?_⟩
   exact zah ((i + 1,v + 1,a,b)) (by refine ⟨?_,?_,?_,?_,?_,?_,?_,by dsimp only;omega⟩ <;> (first | (simp (maxSteps:=5000000) -dsimp only [gr,reduceEqDiff,reduceLT,reduceAdd,reduceMod,Nat.reduceBEq,zaa,zac,zad,zab,h5a,r11a,h6a,r15a,h7a,r18a,h8a,h5b,r11b,h6b,r15b,h7b,r18b,h8b,h9b,r25b,h10b,zae h (by omega),zmk,e];first | done | rfl | (simp;done)) | assumption | rfl)) (by first | omega | (simp only;omega) | (dsimp only;omega) | (show _ < _;simp;omega))
 ·have:i = lo.length:=by omega
  rw [this,List.take_length]
theorem zFa {f:Nat→Bool} {p:Int} {k:Nat} (h:k + 1 < zgP f):rkF f p (k + 1) = zq9 p (zcA (zbb f k 64) (zbb f (k + 1) 64)):=by
 unfold rkF
 rw [if_neg (by omega)];rfl
theorem zDw {f:Nat→Bool} {p:Int} {k:Nat} (h:zgP f ≤ k):rkF f p k = 0:=by
 unfold rkF
 rw [if_pos (.inr h)]
def zFP (f:Nat→Bool) (p:Int):List Int:=if isP p = true then zh4 f p else []
theorem zjX (n:Int) (xs:List Int) (p:Int):AC Tryz.prog 72 [.ag [int n,zaI xs],int p] (.fr 3 1 (iL (zFP (zcT n xs) p))):=by
 refine AC.go (rs:=[.tmp 4]) zaQ zar Tryz.func72 rfl rfl rfl (by kernel_rfl) fun hl=>?_
 simp (maxSteps:=5000000) -dsimp only [↓gp,gq,reduceCtorEq,reduceEqDiff,reduceLT,reduceLeDiff,reduceAdd,reduceMul,reduceSub,Nat.reduceBEq,Int.reduceToNat,Int.reduceLE,Int.reduceLT,Int.reduceNeg,reduceMod,zac,zad,zab,zaa,gT,TK.isInt,TK.agg,Array.toList]
 refine zaf (zha n xs) ?_
 simp (maxSteps:=5000000) -dsimp only [↓gp,gq,reduceCtorEq,reduceEqDiff,reduceLT,reduceLeDiff,reduceAdd,reduceMul,reduceSub,Nat.reduceBEq,Int.reduceToNat,Int.reduceLE,Int.reduceLT,Int.reduceNeg,reduceMod,zac,zad,zab,zaa,gT,TK.isInt,TK.agg,Array.toList]
 refine zaf (zcd p) ?_
 simp (maxSteps:=5000000) -dsimp only [↓gp,gq,reduceCtorEq,reduceEqDiff,reduceLT,reduceLeDiff,reduceAdd,reduceMul,reduceSub,Nat.reduceBEq,Int.reduceToNat,Int.reduceLE,Int.reduceLT,Int.reduceNeg,reduceMod,zac,zad,zab,zaa,gT,TK.isInt,TK.agg,Array.toList]
 unfold zFP
 refine ⟨fun hp=>?_,fun hp=>?_⟩
 ·have hp:isP p = false:=by simpa using hp
  rw [hp];rfl
 ·have hp:isP p = true:=by simpa using hp
  rw [if_pos hp]
  have hd7:=zj0 (zcT n xs)
  have hfl:=zrj (zcT n xs)
  generalize hf:zcT n xs = f at *
  refine zam (fun (za:Nat × Nat × Nat) s=>match za with | (k,v,w)=>s.sl 1 = int p∧s.sl 2 = .ref 2 1 0∧s.rw 2 = ⟨1,.box 36 [int n,zaI xs]⟩∧s.sl 5 = .own 10 v∧s.rw 10 = ⟨v,.sli 3 1 false (iL ((zh4 f p).take k))⟩∧s.sl 6 = .own 12 w∧s.rw 12 = ⟨w,.sli 3 1 false (iL (zEe f))⟩∧s.sl 7 = int (rkF f p k)∧s.sl 8 = int k∧(k ≤ zgP f)) (fun (k,v,w)=>zgP f - k) ((0,1,1)) (by refine ⟨?_,?_,?_,?_,?_,?_,?_,?_,?_,by simp⟩ <;> (first | (simp (maxSteps:=5000000) -dsimp only [gr,reduceEqDiff,reduceLT,reduceAdd,reduceMod,Nat.reduceBEq,zaa,zac,zad,zab,rkF];first | done | rfl | (simp;done)) | assumption | rfl)) ?_
  intro (k,v,w) sa ⟨h1a,h2a,r2a,h5a,r10a,h6a,r12a,h7a,h8a,hIa⟩
  simp (maxSteps:=5000000) -dsimp only [↓gp,gq,reduceCtorEq,reduceEqDiff,reduceLT,reduceLeDiff,reduceAdd,reduceMul,reduceSub,Nat.reduceBEq,Int.reduceToNat,Int.reduceLE,Int.reduceLT,Int.reduceNeg,reduceMod,zac,zad,zab,zaa,gT,TK.isInt,TK.agg,Array.toList,h1a,h2a,r2a,h5a,r10a,h6a,r12a,h7a,h8a,hfl]
  refine ⟨fun h=>?_,fun h=>?_⟩
  ·have hr1:=zue f p k
   have hr2:=zue f p (k + 1)
   have hol:=ze9 f k (Nat.le_refl 64)
   have hg:=zyX f h
   have hwk:=zae h (by omega)
   have hw1:IntKind.i64.wrap (((zbb f k 64).length:Int) - (rkF f p k:Int)) = ((zbb f k 64).length:Int) - (rkF f p k:Int):=zap (by omega) (by omega)
   have hw2:IntKind.i64.wrap (((zbb f k 64).length:Int) - (rkF f p k:Int) - (rkF f p (k + 1):Int)) = ((zbb f k 64).length:Int) - (rkF f p k:Int) - (rkF f p (k + 1):Int):=zap (by omega) (by omega)
   have hts:(zh4 f p).take (k + 1) = (zh4 f p).take k ++ [((zbb f k 64).length:Int) - rkF f p k - rkF f p (k + 1)]:=by rw [zaK 0 (by rw [zcc];exact h),zj2 f p h]
   have htl:((zh4 f p).take k).length ≤ 7:=by rw [List.length_take,zcc];omega
   simp (maxSteps:=5000000) -dsimp only [↓gp,gq,reduceCtorEq,reduceEqDiff,reduceLT,reduceLeDiff,reduceAdd,reduceMul,reduceSub,Nat.reduceBEq,Int.reduceToNat,Int.reduceLE,Int.reduceLT,Int.reduceNeg,reduceMod,zac,zad,zab,zaa,gT,TK.isInt,TK.agg,Array.toList,h1a,h2a,r2a,h5a,r10a,h6a,r12a,h7a,h8a,hfl,hwk]
   refine ⟨fun h2=>zaf (hf ▸ zh3 n xs (k + 1) (by omega) (by omega)) ?_,fun h2=>?_⟩
   ·have hin:=zFa (p:=p) h2
    rw [Nat.add_sub_cancel]
    have hb1:=zdy (zbb f k 64) (zbb f (k + 1) 64)
    have hb2:=zvn (zbb f k 64) (zbb f (k + 1) 64)
    have hb3:=zvo (zbb f k 64) (zbb f (k + 1) 64)
    have hol2:=ze9 f (k + 1) (Nat.le_refl 64)
    simp (maxSteps:=5000000) -dsimp only [↓gp,gq,reduceCtorEq,reduceEqDiff,reduceLT,reduceLeDiff,reduceAdd,reduceMul,reduceSub,Nat.reduceBEq,Int.reduceToNat,Int.reduceLE,Int.reduceLT,Int.reduceNeg,reduceMod,zac,zad,zab,zaa,gT,TK.isInt,TK.agg,Array.toList,h1a,h2a,r2a,h5a,r10a,h6a,r12a,h7a,h8a,hfl,hwk]
    refine zaf (zkJ _ p hp (by omega) hb2 (by omega)) ?_
    rw [← hin]
    simp (maxSteps:=5000000) -dsimp only [↓gp,gq,reduceCtorEq,reduceEqDiff,reduceLT,reduceLeDiff,reduceAdd,reduceMul,reduceSub,Nat.reduceBEq,Int.reduceToNat,Int.reduceLE,Int.reduceLT,Int.reduceNeg,reduceMod,zac,zad,zab,zaa,gT,TK.isInt,TK.agg,Array.toList,h1a,h2a,r2a,h5a,r10a,h6a,r12a,h7a,h8a,hfl,hwk,hg,hw1,hw2]
    refine ⟨h,h,by omega,?_⟩
    exact zah ((k + 1,v + 1,w)) (by refine ⟨?_,?_,?_,?_,?_,?_,?_,?_,?_,by dsimp only;omega⟩ <;> (first | (simp (maxSteps:=5000000) -dsimp only [gr,reduceEqDiff,reduceLT,reduceAdd,reduceMod,Nat.reduceBEq,zaa,zac,zad,zab,h1a,h2a,r2a,h5a,r10a,h6a,r12a,h7a,h8a,hwk,hw1,hw2,hts];first | done | rfl | (simp;done)) | assumption | rfl)) (by first | omega | (simp only;omega) | (dsimp only;omega) | (show _ < _;simp;omega))
   ·have hz:=zDw (p:=p) (show zgP f ≤ k + 1 by omega)
    rw [hz,Int.natCast_zero,Int.sub_zero] at hw2
    rw [hz,Int.natCast_zero,Int.sub_zero] at hts
    simp (maxSteps:=5000000) -dsimp only [↓gp,gq,reduceCtorEq,reduceEqDiff,reduceLT,reduceLeDiff,reduceAdd,reduceMul,reduceSub,Nat.reduceBEq,Int.reduceToNat,Int.reduceLE,Int.reduceLT,Int.reduceNeg,reduceMod,zac,zad,zab,zaa,gT,TK.isInt,TK.agg,Array.toList,h1a,h2a,r2a,h5a,r10a,h6a,r12a,h7a,h8a,hfl,hwk,hg,hw1]
    refine ⟨h,h,by omega,?_⟩
    have hw3:IntKind.i64.wrap (((zbb f k 64).length:Int) - (rkF f p k:Int) - 0) = ((zbb f k 64).length:Int) - (rkF f p k:Int):=by rw [Int.sub_zero];exact hw2
    exact zah ((k + 1,v + 1,w)) (by refine ⟨?_,?_,?_,?_,?_,?_,?_,?_,?_,by dsimp only;omega⟩ <;> (first | (simp (maxSteps:=5000000) -dsimp only [gr,reduceEqDiff,reduceLT,reduceAdd,reduceMod,Nat.reduceBEq,zaa,zac,zad,zab,h1a,h2a,r2a,h5a,r10a,h6a,r12a,h7a,h8a,hwk,hw1,hw3,hts,hz,Int.natCast_zero];first | done | rfl | (simp;done)) | assumption | rfl)) (by first | omega | (simp only;omega) | (dsimp only;omega) | (show _ < _;simp;omega))
  ·have:k = (zh4 f p).length:=by rw [zcc];omega
   rw [this,List.take_length]
theorem zgG {t:Nat} (h:t < 64):zcQ (t:Int) = (zaw t:Nat):=by rw [zcQ,if_pos (by omega)];simp
noncomputable def zvT (n:Int) (xs:List Int):Bool:=zdj n xs && !(xs.length == 0)
theorem zgF {n:Int} {xs:List Int}:zvT n xs = true ↔ zdj n xs = true∧0 < xs.length:=by
 unfold zvT
 cases zdj n xs <;> simp [Nat.pos_iff_ne_zero]
noncomputable def zE9 (n:Int) (xs:List Int):Int:=if zvT n xs = true then (zaw (xs.getD (xs.length - 1) 0).toNat:Int) - 1 else -2
theorem zyP (n:Int) (xs:List Int):decide (zE9 n xs < -1) = !zvT n xs:=by
 unfold zE9
 cases zvT n xs <;> simp;omega
theorem zpS (n:Int) (xs:List Int):AC Tryz.prog 70 [.ag [int n,zaI xs]] (.im (int (zE9 n xs))):=by
 refine AC.go (rs:=[.tmp 2]) zaQ zar Tryz.func70 rfl rfl rfl (by kernel_rfl) fun hl=>?_
 simp only [zav,zaC,and_true,zaT,zby,za5,true_and] at hl
 simp (maxSteps:=5000000) -dsimp only [↓gp,gq,reduceCtorEq,reduceEqDiff,reduceLT,reduceLeDiff,reduceAdd,reduceMul,reduceSub,Nat.reduceBEq,Int.reduceToNat,Int.reduceLE,Int.reduceLT,Int.reduceNeg,reduceMod,zac,zad,zab,zaa,gT,TK.isInt,TK.agg,Array.toList]
 refine zaf (zbl n xs) ?_
 have hw:0 < xs.length→IntKind.i64.wrap ((xs.length:Int) - 1) = ((xs.length - 1:Nat):Int):=fun h=>by rw [zap (by omega) (by omega)];omega
 by_cases hh:zvT n xs = true
 ·obtain ⟨h1,h2⟩:=zgF.1 hh
  have hs:=zua (zkF h1) (k:=xs.length - 1) (by omega)
  have hc:=za9 (s:=xs.getD (xs.length - 1) 0) hs.1 (by omega)
  have hz:((xs.length:Int) == 0) = false:=by rw [beq_eq_false_iff_ne];omega
  have hp:=zd5 (s:=(xs.getD (xs.length - 1) 0).toNat) (by omega)
  simp (maxSteps:=5000000) -dsimp only [↓gp,gq,reduceCtorEq,reduceEqDiff,reduceLT,reduceLeDiff,reduceAdd,reduceMul,reduceSub,Nat.reduceBEq,Int.reduceToNat,Int.reduceLE,Int.reduceLT,Int.reduceNeg,reduceMod,zac,zad,zab,zaa,gT,TK.isInt,TK.agg,Array.toList,h1,hz,hw h2,Int.toNat_natCast]
  refine ⟨by omega,by omega,zaf hc ?_⟩
  have hw2:IntKind.i64.wrap ((zaw (xs.getD (xs.length - 1) 0).toNat:Int) - 1) = (zaw (xs.getD (xs.length - 1) 0).toNat:Int) - 1:=zap (by omega) (by omega)
  have hd:zE9 n xs = (zaw (xs.getD (xs.length - 1) 0).toNat:Int) - 1:=if_pos hh
  simp (maxSteps:=5000000) -dsimp only [↓gp,gq,reduceCtorEq,reduceEqDiff,reduceLT,reduceLeDiff,reduceAdd,reduceMul,reduceSub,Nat.reduceBEq,Int.reduceToNat,Int.reduceLE,Int.reduceLT,Int.reduceNeg,reduceMod,zac,zad,zab,zaa,gT,TK.isInt,TK.agg,Array.toList,hw2,hd]
 ·have hd:zE9 n xs = -2:=if_neg hh
  rw [hd]
  simp (maxSteps:=5000000) -dsimp only [↓gp,gq,reduceCtorEq,reduceEqDiff,reduceLT,reduceLeDiff,reduceAdd,reduceMul,reduceSub,Nat.reduceBEq,Int.reduceToNat,Int.reduceLE,Int.reduceLT,Int.reduceNeg,reduceMod,zac,zad,zab,zaa,gT,TK.isInt,TK.agg,Array.toList]
  exact fun hc h0=>absurd (zgF.2 ⟨by simpa using hc,by simp at h0;exact List.length_pos_iff.2 h0⟩) hh
theorem zd8 (n:Int) (xs:List Int) (hx:okS xs):AC Tryz.prog 48 [int n,zaI xs] (.ag [.im (int n),.fr 3 1 (iL (ofN (zg9 (inF xs) true)))]):=by
 refine AC.go (rs:=[.cell 4 36]) zaQ zar Tryz.func48 rfl rfl rfl (by kernel_rfl) fun hl=>?_
 simp (maxSteps:=5000000) -dsimp only [↓gp,gq,reduceCtorEq,reduceEqDiff,reduceLT,reduceLeDiff,reduceAdd,reduceMul,reduceSub,Nat.reduceBEq,Int.reduceToNat,Int.reduceLE,Int.reduceLT,Int.reduceNeg,reduceMod,zac,zad,zab,zaa,gT,TK.isInt,TK.agg,Array.toList]
 refine zaf (zcP true xs hx) ?_
 simp (maxSteps:=5000000) -dsimp only [↓gp,gq,reduceCtorEq,reduceEqDiff,reduceLT,reduceLeDiff,reduceAdd,reduceMul,reduceSub,Nat.reduceBEq,Int.reduceToNat,Int.reduceLE,Int.reduceLT,Int.reduceNeg,reduceMod,zac,zad,zab,zaa,gT,TK.isInt,TK.agg,Array.toList]
theorem zjW (n:Int) (xs:List Int) (w:Nat) (hw:w < 64) (hx:okS xs) (hlen:xs.length ≤ 1000):AC Tryz.prog 73 [.ag [int n,zaI xs],int w] (.ag [.im (int n),.fr 3 1 (iL (ofN (zg9 (inF (xs.map fun x=>zcS .i64 x w)) true)))]):=by
 refine AC.go (rs:=[.cell 4 36]) zaQ zar Tryz.func73 rfl rfl rfl (by kernel_rfl) fun hl=>?_
 simp only [zav,zaC,and_true,zaT,zby,za5,true_and] at hl
 simp (maxSteps:=5000000) -dsimp only [↓gp,gq,reduceCtorEq,reduceEqDiff,reduceLT,reduceLeDiff,reduceAdd,reduceMul,reduceSub,Nat.reduceBEq,Int.reduceToNat,Int.reduceLE,Int.reduceLT,Int.reduceNeg,reduceMod,zac,zad,zab,zaa,gT,TK.isInt,TK.agg,Array.toList]
 have hmap:∀ k,k < xs.length→(xs.take (k + 1)).map (fun x=>zcS .i64 x w) = (xs.take k).map (fun x=>zcS .i64 x w) ++ [zcS .i64 (xs.getD k 0) w]:=fun k h=>by rw [zaK 0 h];simp
 refine zam (fun (za:Nat × Nat) s=>match za with | (k,v)=>s.sl 1 = int w∧s.sl 2 = .ref 2 1 0∧s.rw 2 = ⟨1,.box 36 [int n,zaI xs]⟩∧s.sl 4 = .ref 4 1 0∧s.rw 4 = ⟨1,.box 36 [int 0,.v (.slice none 0 0)]⟩∧s.sl 5 = .own 7 v∧s.rw 7 = ⟨v,.sli 3 1 false (iL ((xs.take k).map fun x=>zcS .i64 x w))⟩∧s.sl 6 = int k∧(k ≤ xs.length)) (fun (k,v)=>xs.length - k) ((0,1)) (by refine ⟨?_,?_,?_,?_,?_,?_,?_,?_,by simp⟩ <;> (first | (simp (maxSteps:=5000000) -dsimp only [gr,reduceEqDiff,reduceLT,reduceAdd,reduceMod,Nat.reduceBEq,zaa,zac,zad,zab];first | done | rfl | (simp;done)) | assumption | rfl)) ?_
 intro (k,v) sa ⟨h1a,h2a,r2a,h4a,r4a,h5a,r7a,h6a,hIa⟩
 simp (maxSteps:=5000000) -dsimp only [↓gp,gq,reduceCtorEq,reduceEqDiff,reduceLT,reduceLeDiff,reduceAdd,reduceMul,reduceSub,Nat.reduceBEq,Int.reduceToNat,Int.reduceLE,Int.reduceLT,Int.reduceNeg,reduceMod,zac,zad,zab,zaa,gT,TK.isInt,TK.agg,Array.toList,h1a,h2a,r2a,h4a,r4a,h5a,r7a,h6a]
 refine ⟨fun h=>⟨h,h,by rw [List.length_map,List.length_take];omega,zah ((k + 1,v + 1)) (by refine ⟨?_,?_,?_,?_,?_,?_,?_,?_,by omega⟩ <;> (first | (simp (maxSteps:=5000000) -dsimp only [gr,reduceEqDiff,reduceLT,reduceAdd,reduceMod,Nat.reduceBEq,zaa,zac,zad,zab,h1a,h2a,r2a,h4a,r4a,h5a,r7a,h6a,zae h (by omega),hmap k h];first | done | rfl | (simp;done)) | assumption | rfl)) (by first | omega | (simp only;omega) | (dsimp only;omega) | (show _ < _;simp;omega))⟩,fun h=>?_⟩
 have:k = xs.length:=by omega
 subst this
 have ht:xs.take xs.length = xs:=List.take_length
 rw [ht] at r7a
 refine zaf (zd8 n _ ?_) ?_
 ·intro x hx'
  obtain ⟨y,hy,rfl⟩:=List.mem_map.1 hx'
  exact zDp (hx y (by rwa [ht] at hy)) (by omega)
 ·simp (maxSteps:=5000000) -dsimp only [↓gp,gq,reduceCtorEq,reduceEqDiff,reduceLT,reduceLeDiff,reduceAdd,reduceMul,reduceSub,Nat.reduceBEq,Int.reduceToNat,Int.reduceLE,Int.reduceLT,Int.reduceNeg,reduceMod,zac,zad,zab,zaa,gT,TK.isInt,TK.agg,Array.toList,h1a,h2a,r2a,h4a,r4a,h5a,r7a,h6a,ht]
def kcx (P:Int→List Int→Prop) (rv:RV):Prop:=∃ n xs,rv = .ag [.im (int n),.fr 3 1 (iL xs)]∧P n xs
def cxQ (n:Int) (xs:List Int):Prop:=0 ≤ n∧n ≤ 7∧xs.length ≤ 449
theorem zvZ {n:Nat} (hn:n ≤ 6) (f:Nat→Bool) (g:Bool):kcx cxQ (.ag [.im (int n),.fr 3 1 (iL (ofN (zg9 f g)))]) :=
 ⟨_,_,rfl,by omega,by omega,by rw [zaq];exact Nat.le_succ_of_le (zug f g)⟩
theorem zfH {n:Int} (l:List Nat) (h:∀ s ∈ l,s < 64):AC Tryz.prog 75 [int n,zaI (ofN l)] (.ag [.im (int n),.fr 3 1 (iL (ofN (zg9 (inF (ofN l)) false)))]):=by
 refine AC.go (rs:=[.cell 4 26]) zaQ zar Tryz.func75 rfl rfl rfl (by kernel_rfl) fun hl=>?_
 simp (maxSteps:=5000000) -dsimp only [↓gp,gq,reduceCtorEq,reduceEqDiff,reduceLT,reduceLeDiff,reduceAdd,reduceMul,reduceSub,Nat.reduceBEq,Int.reduceToNat,Int.reduceLE,Int.reduceLT,Int.reduceNeg,reduceMod,zac,zad,zab,zaa,gT,TK.isInt,TK.agg,Array.toList]
 refine zaf (zcP false (ofN l) fun x hx=>?_) ?_
 ·obtain ⟨s,hs,rfl⟩:=List.mem_map.1 hx
  have:=h s hs
  omega
 ·simp (maxSteps:=5000000) -dsimp only [↓gp,gq,reduceCtorEq,reduceEqDiff,reduceLT,reduceLeDiff,reduceAdd,reduceMul,reduceSub,Nat.reduceBEq,Int.reduceToNat,Int.reduceLE,Int.reduceLT,Int.reduceNeg,reduceMod,zac,zad,zab,zaa,gT,TK.isInt,TK.agg,Array.toList]
theorem zfI (n:Int) (xs:List Int):AC Tryz.prog 31 [.ag [int n,zaI xs]] (.im (bool (zdj n xs))):=by
 refine AC.go (rs:=[.tmp 2]) zaQ zar Tryz.func31 rfl rfl rfl (by kernel_rfl) fun hl=>?_
 simp (maxSteps:=5000000) -dsimp only [↓gp,gq,reduceCtorEq,reduceEqDiff,reduceLT,reduceLeDiff,reduceAdd,reduceMul,reduceSub,Nat.reduceBEq,Int.reduceToNat,Int.reduceLE,Int.reduceLT,Int.reduceNeg,reduceMod,zac,zad,zab,zaa,gT,TK.isInt,TK.agg,Array.toList]
 refine zaf (zbl n xs) ?_
 simp (maxSteps:=5000000) -dsimp only [↓gp,gq,reduceCtorEq,reduceEqDiff,reduceLT,reduceLeDiff,reduceAdd,reduceMul,reduceSub,Nat.reduceBEq,Int.reduceToNat,Int.reduceLE,Int.reduceLT,Int.reduceNeg,reduceMod,zac,zad,zab,zaa,gT,TK.isInt,TK.agg,Array.toList]
theorem zDB {n:Int} {xs:List Int} (h:zdj n xs = true):∀ x ∈ xs,0 ≤ x∧x < 64:=fun x hx=>by
 obtain ⟨i,hi,rfl⟩:=zaY 0 hx
 exact zcZ ((zaS.1 h).2.2 i hi).1
def zH0 (ps:List ByteArray):List Int:=ps.map fun p=>((zHZ p p.size:Nat):Int)
def chr (n:Nat):ByteArray:=⟨#[UInt8.ofNat (48 + n)]⟩
structure OkText (t:ByteArray) (n:Nat) (rest:ByteArray) (ps:List ByteArray):Prop where
 size:2 ≤ t.size∧t.size ≤ 1000
 pts:1 ≤ n∧n ≤ 6
 b0:byt t 0 = 48 + n
 b1:byt t 1 = 58
 tail:t.extract 2 t.size = rest
 rsize:rest.size ≤ 1000
 full:(rest.toList == (⟨#[]⟩:ByteArray).toList) = false
 parts:zCn rest 44 = ps
 plen:ps.length ≤ 1000
 pne:0 < ps.length
 sets:∀ p ∈ ps,OkSet p
 head:zCn t 58 = [chr n,rest]
 cx:cxP n (zH0 ps)
theorem zku (bs:List Int) (hbs:bs.length ≤ 9223372036854775806) (n:Nat) (hn1:1 ≤ n) (hn:n ≤ 6):zCs Tryz.prog 54 TC bs ⟨0,.dead⟩ [int n] (kcx cxQ):=by
 intro i h
 refine AG.go (rs:=[.cell 4 26]) zaQ zar Tryz.func54 rfl rfl rfl (by kernel_rfl) fun hl _ s hs hR=>?_
 have e0:s.rw 1000000 = ⟨1,.box TC [.sl false 1 (kL .u8 bs),int i,int h]⟩:=by rw [hR];rfl
 have e1:s.rw 1000500 = ⟨0,.dead⟩:=by rw [hR];rfl
 have elo:∀ k,k < 1000000→s.rw k = ⟨0,.dead⟩:=fun k hk=>by rw [hR];exact zyL hk
 simp (maxSteps:=5000000) -dsimp only [↓gp,gq,reduceCtorEq,reduceEqDiff,reduceLT,reduceLeDiff,reduceAdd,reduceMul,reduceSub,Nat.reduceBEq,Int.reduceToNat,Int.reduceLE,Int.reduceLT,Int.reduceNeg,reduceMod,zac,zad,zab,zaa,gT,TK.isInt,TK.agg,Array.toList,hs,e0,elo]
 refine za3 (zcN bs hbs [0,1,2,3,3,4,5,6] (by decide) (by decide)) (.some (j:=11) (by simp (maxSteps:=5000000) -dsimp only [gr,reduceEqDiff,reduceLT,reduceAdd,reduceMod,Nat.reduceBEq,zaa,zac,zad,zab,elo] <;> rfl) (zbo _)) (by simp (maxSteps:=5000000) -dsimp only [gr,reduceEqDiff,reduceLT,reduceAdd,reduceMod,Nat.reduceBEq,zaa,zac,zad,zab,e0] <;> rfl) (.one (zcq (by simp (maxSteps:=5000000) -dsimp only [gr,reduceEqDiff,reduceLT,reduceAdd,reduceMod,Nat.reduceBEq,zaa,zac,zad,zab,e0] <;> rfl)) (.one (zmU (by simp (maxSteps:=5000000) -dsimp only [gr,reduceEqDiff,reduceLT,reduceAdd,reduceMod,Nat.reduceBEq,zaa,zac,zad,zab,elo])) .nil)) rfl (fun j hj=>by cases hj;exact ⟨rfl,rfl⟩) fun rv i1 g1 ⟨cnt,hrv,hc⟩=>?_
 subst hrv
 simp (maxSteps:=5000000) -dsimp only [↓gp,gq,reduceCtorEq,reduceEqDiff,reduceLT,reduceLeDiff,reduceAdd,reduceMul,reduceSub,Nat.reduceBEq,Int.reduceToNat,Int.reduceLE,Int.reduceLT,Int.reduceNeg,reduceMod,zac,zad,zab,zaa,gT,TK.isInt,TK.agg,Array.toList,hs,e0,elo]
 have hcn:0 ≤ cnt∧cnt ≤ 6:=by
  have hc:cnt ∈ [0,1,2,3,3,4,5,6]:=hc
  simp at hc;omega
 have h64:=zaO hn
 have h2:2 ≤ 2 ^ n:=Nat.pow_le_pow_right (n:=2) (by omega) hn1
 have hsh:zz1 .i64 1 (n:Int) = ((2 ^ n:Nat):Int):=zcg (by omega)
 have hun:IntKind.u64.wrap (n:Int) = (n:Int):=ze5 (by omega)
 have hw1:IntKind.i64.wrap (((2 ^ n:Nat):Int) - 1) = ((2 ^ n - 1:Nat):Int):=by rw [zap (by omega) (by omega)];omega
 have hz:iL (ofN []) = []:=rfl
 refine zam (fun (za:Nat × Nat × Nat × Int × List Nat) s=>match za with | (k,v,j,g,L)=>s.sl 0 = .ref 1000000 1 0∧s.rw 1000000 = ⟨1,.box TC [.sl false 1 (kL .u8 bs),int j,int g]⟩∧s.rw 1000500 = ⟨0,.dead⟩∧s.sl 1 = int n∧s.sl 4 = .ref 4 1 0∧s.rw 4 = ⟨1,.box 26 [int 0,.v (.slice none 0 0)]⟩∧s.sl 5 = .own 9 v∧s.rw 9 = ⟨v,.sli 3 1 false (iL (ofN L))⟩∧s.sl 6 = int cnt∧s.sl 7 = int k∧(k ≤ 6∧L.length = k∧∀ s ∈ L,s < 64)) (fun (k,v,j,g,L)=>6 - k) ((0,1,i1,g1,[])) (by refine ⟨?_,?_,?_,?_,?_,?_,?_,?_,?_,?_,⟨by omega,rfl,fun s hs=>by simp at hs⟩⟩ <;> (first | (simp (maxSteps:=5000000) -dsimp only [gr,reduceEqDiff,reduceLT,reduceAdd,reduceMod,Nat.reduceBEq,zaa,zac,zad,zab,hs,e0,e1,elo,hz];first | done | rfl | (simp;done)) | assumption | rfl)) ?_
 intro (k,v,j,g,L) sa ⟨h0a,r1000000a,r1000500a,h1a,h4a,r4a,h5a,r9a,h6a,h7a,hIa⟩
 obtain ⟨hk,hL,hok⟩:=hIa
 have hol:=zaq L
 simp (maxSteps:=5000000) -dsimp only [↓gp,gq,reduceCtorEq,reduceEqDiff,reduceLT,reduceLeDiff,reduceAdd,reduceMul,reduceSub,Nat.reduceBEq,Int.reduceToNat,Int.reduceLE,Int.reduceLT,Int.reduceNeg,reduceMod,zac,zad,zab,zaa,gT,TK.isInt,TK.agg,Array.toList,h0a,r1000000a,r1000500a,h1a,h4a,r4a,h5a,r9a,h6a,h7a,hsh,hun,hw1]
 refine ⟨fun hlt=>?_,fun hlt=>?_⟩
 ·refine za3 (zbK bs hbs ((2 ^ n - 1:Nat):Int) (by omega)) .none (by simp (maxSteps:=5000000) -dsimp only [gr,reduceEqDiff,reduceLT,reduceAdd,reduceMod,Nat.reduceBEq,zaa,zac,zad,zab,h0a,r1000000a,r1000500a,h1a,h4a,r4a,h5a,r9a,h6a,h7a] <;> rfl) (GvL.one (zcq (by simp (maxSteps:=5000000) -dsimp only [gr,reduceEqDiff,reduceLT,reduceAdd,reduceMod,Nat.reduceBEq,zaa,zac,zad,zab,h0a,r1000000a,r1000500a,h1a,h4a,r4a,h5a,r9a,h6a,h7a] <;> rfl)) (by repeat (first | exact GvL.nil | refine GvL.one (GvA.v _) ?_ | refine GvL.one (GvA.sl _ _ _) ?_))) rfl (fun _ h=>by cases h) fun rv i2 g2 ⟨x,hrv,hx⟩=>?_
  subst hrv
  obtain ⟨y,rfl,hy⟩:=ziB (n:=2 ^ n - 1) (by omega) hx
  have hw2:IntKind.i64.wrap (1 + (y:Int)) = ((y + 1:Nat):Int):=by rw [zap (by omega) (by omega)];omega
  simp (maxSteps:=5000000) -dsimp only [↓gp,gq,reduceCtorEq,reduceEqDiff,reduceLT,reduceLeDiff,reduceAdd,reduceMul,reduceSub,Nat.reduceBEq,Int.reduceToNat,Int.reduceLE,Int.reduceLT,Int.reduceNeg,reduceMod,zac,zad,zab,zaa,gT,TK.isInt,TK.agg,Array.toList,h0a,r1000000a,r1000500a,h1a,h4a,r4a,h5a,r9a,h6a,h7a,hsh,hun,hw2]
  refine ⟨by omega,?_⟩
  have hap:ofN L ++ [((y + 1:Nat):Int)] = ofN (L ++ [y + 1]):=by rw [za2,zfS]
  exact zah ((k + 1,v + 1,i2,g2,L ++ [y + 1])) (by refine ⟨?_,?_,?_,?_,?_,?_,?_,?_,?_,?_,⟨by dsimp only;omega,by simp [hL],fun s hs=>by
   rw [List.mem_append,List.mem_singleton] at hs
   exact hs.elim (hok s) (fun e=>by omega)⟩⟩ <;> (first | (simp (maxSteps:=5000000) -dsimp only [gr,reduceEqDiff,reduceLT,reduceAdd,reduceMod,Nat.reduceBEq,zaa,zac,zad,zab,h0a,r1000000a,r1000500a,h1a,h4a,r4a,h5a,r9a,h6a,h7a,hap,zae (show k < 6 by omega) (by omega)];first | done | rfl | (simp;done)) | assumption | rfl)) (by first | omega | (simp only;omega) | (dsimp only;omega) | (show _ < _;simp;omega))
 ·refine za3 (zcV bs hbs 20 (by decide)) .none (by simp (maxSteps:=5000000) -dsimp only [gr,reduceEqDiff,reduceLT,reduceAdd,reduceMod,Nat.reduceBEq,zaa,zac,zad,zab,h0a,r1000000a,r1000500a,h1a,h4a,r4a,h5a,r9a,h6a,h7a] <;> rfl) (GvL.one (zcq (by simp (maxSteps:=5000000) -dsimp only [gr,reduceEqDiff,reduceLT,reduceAdd,reduceMod,Nat.reduceBEq,zaa,zac,zad,zab,h0a,r1000000a,r1000500a,h1a,h4a,r4a,h5a,r9a,h6a,h7a] <;> rfl)) (by repeat (first | exact GvL.nil | refine GvL.one (GvA.v _) ?_ | refine GvL.one (GvA.sl _ _ _) ?_))) rfl (fun _ h=>by cases h) fun rv i3 g3 ⟨b,hrv⟩=>?_
  subst hrv
  simp (maxSteps:=5000000) -dsimp only [↓gp,gq,reduceCtorEq,reduceEqDiff,reduceLT,reduceLeDiff,reduceAdd,reduceMul,reduceSub,Nat.reduceBEq,Int.reduceToNat,Int.reduceLE,Int.reduceLT,Int.reduceNeg,reduceMod,zac,zad,zab,zaa,gT,TK.isInt,TK.agg,Array.toList,h0a,r1000000a,r1000500a,h1a,h4a,r4a,h5a,r9a,h6a,h7a]
  refine ⟨fun hb=>⟨by omega,?_⟩,fun hb=>?_⟩
  ·have hap:ofN L ++ [(0:Int)] = ofN (L ++ [0]):=by rw [za2];rfl
   simp (maxSteps:=5000000) -dsimp only [↓gp,gq,reduceCtorEq,reduceEqDiff,reduceLT,reduceLeDiff,reduceAdd,reduceMul,reduceSub,Nat.reduceBEq,Int.reduceToNat,Int.reduceLE,Int.reduceLT,Int.reduceNeg,reduceMod,zac,zad,zab,zaa,gT,TK.isInt,TK.agg,Array.toList,h0a,r1000000a,r1000500a,h1a,h4a,r4a,h5a,r9a,h6a,h7a,hap]
   refine zaf (zfH (L ++ [0]) fun s hs=>?_) ?_
   ·rw [List.mem_append,List.mem_singleton] at hs
    exact hs.elim (hok s) (fun e=>by omega)
   ·simp (maxSteps:=5000000) -dsimp only [↓gp,gq,reduceCtorEq,reduceEqDiff,reduceLT,reduceLeDiff,reduceAdd,reduceMul,reduceSub,Nat.reduceBEq,Int.reduceToNat,Int.reduceLE,Int.reduceLT,Int.reduceNeg,reduceMod,zac,zad,zab,zaa,gT,TK.isInt,TK.agg,Array.toList,h0a,r1000000a,r1000500a,h1a,h4a,r4a,h5a,r9a,h6a,h7a]
    exact ⟨_,i3,g3,_,zvZ hn _ _,.one (.ag (.cons (.im _) (.cons (.fr (by simp (maxSteps:=5000000) -dsimp only [gr,reduceEqDiff,reduceLT,reduceAdd,reduceMod,Nat.reduceBEq,zaa,zac,zad,zab,h0a,r1000000a,r1000500a,h1a,h4a,r4a,h5a,r9a,h6a,h7a] <;> rfl) (by decide)) .nil))),by simp,by simp (maxSteps:=5000000) -dsimp only [gr,reduceEqDiff,reduceLT,reduceAdd,reduceMod,Nat.reduceBEq,zaa,zac,zad,zab,h0a,r1000000a,r1000500a,h1a,h4a,r4a,h5a,r9a,h6a,h7a] <;> rfl,by simp (maxSteps:=5000000) -dsimp only [gr,reduceEqDiff,reduceLT,reduceAdd,reduceMod,Nat.reduceBEq,zaa,zac,zad,zab,h0a,r1000000a,r1000500a,h1a,h4a,r4a,h5a,r9a,h6a,h7a]⟩
  ·refine zaf (zfH L hok) ?_
   simp (maxSteps:=5000000) -dsimp only [↓gp,gq,reduceCtorEq,reduceEqDiff,reduceLT,reduceLeDiff,reduceAdd,reduceMul,reduceSub,Nat.reduceBEq,Int.reduceToNat,Int.reduceLE,Int.reduceLT,Int.reduceNeg,reduceMod,zac,zad,zab,zaa,gT,TK.isInt,TK.agg,Array.toList,h0a,r1000000a,r1000500a,h1a,h4a,r4a,h5a,r9a,h6a,h7a]
   exact ⟨_,i3,g3,_,zvZ hn _ _,.one (.ag (.cons (.im _) (.cons (.fr (by simp (maxSteps:=5000000) -dsimp only [gr,reduceEqDiff,reduceLT,reduceAdd,reduceMod,Nat.reduceBEq,zaa,zac,zad,zab,h0a,r1000000a,r1000500a,h1a,h4a,r4a,h5a,r9a,h6a,h7a] <;> rfl) (by decide)) .nil))),by simp,by simp (maxSteps:=5000000) -dsimp only [gr,reduceEqDiff,reduceLT,reduceAdd,reduceMod,Nat.reduceBEq,zaa,zac,zad,zab,h0a,r1000000a,r1000500a,h1a,h4a,r4a,h5a,r9a,h6a,h7a] <;> rfl,by simp (maxSteps:=5000000) -dsimp only [gr,reduceEqDiff,reduceLT,reduceAdd,reduceMod,Nat.reduceBEq,zaa,zac,zad,zab,h0a,r1000000a,r1000500a,h1a,h4a,r4a,h5a,r9a,h6a,h7a]⟩
def idQ (n:Int) (xs:List Int):Prop:=0 ≤ n∧n ≤ 7∧xs.length ≤ 450
theorem zfn (bs:List Int) (hbs:bs.length ≤ 9223372036854775806):zCs Tryz.prog 26 TC bs ⟨0,.dead⟩ [] (kcx idQ):=by
 intro i h
 refine AG.go (rs:=[.cell 2 26]) zaQ zar Tryz.func26 rfl rfl rfl (by kernel_rfl) fun hl _ s hs hR=>?_
 have e0:s.rw 1000000 = ⟨1,.box TC [.sl false 1 (kL .u8 bs),int i,int h]⟩:=by rw [hR];rfl
 have e1:s.rw 1000500 = ⟨0,.dead⟩:=by rw [hR];rfl
 have elo:∀ k,k < 1000000→s.rw k = ⟨0,.dead⟩:=fun k hk=>by rw [hR];exact zyL hk
 simp (maxSteps:=5000000) -dsimp only [↓gp,gq,reduceCtorEq,reduceEqDiff,reduceLT,reduceLeDiff,reduceAdd,reduceMul,reduceSub,Nat.reduceBEq,Int.reduceToNat,Int.reduceLE,Int.reduceLT,Int.reduceNeg,reduceMod,zac,zad,zab,zaa,gT,TK.isInt,TK.agg,Array.toList,hs,e0,elo]
 refine za3 (zcN bs hbs [1,2,3,4,4,5,6] (by decide) (by decide)) (.some (j:=6) (by simp (maxSteps:=5000000) -dsimp only [gr,reduceEqDiff,reduceLT,reduceAdd,reduceMod,Nat.reduceBEq,zaa,zac,zad,zab,elo] <;> rfl) (zbo _)) (by simp (maxSteps:=5000000) -dsimp only [gr,reduceEqDiff,reduceLT,reduceAdd,reduceMod,Nat.reduceBEq,zaa,zac,zad,zab,e0] <;> rfl) (.one (zcq (by simp (maxSteps:=5000000) -dsimp only [gr,reduceEqDiff,reduceLT,reduceAdd,reduceMod,Nat.reduceBEq,zaa,zac,zad,zab,e0] <;> rfl)) (.one (zmU (by simp (maxSteps:=5000000) -dsimp only [gr,reduceEqDiff,reduceLT,reduceAdd,reduceMod,Nat.reduceBEq,zaa,zac,zad,zab,elo])) .nil)) rfl (fun j hj=>by cases hj;exact ⟨rfl,rfl⟩) fun rv i0 g0 ⟨n0,hrv,hc⟩=>?_
 subst hrv
 obtain ⟨n,rfl,hn1,hn⟩:∃ n:Nat,n0 = n∧1 ≤ n∧n ≤ 6:=by
  have hc:n0 ∈ [1,2,3,4,4,5,6]:=hc
  simp at hc
  exact ⟨n0.toNat,by omega,by omega,by omega⟩
 simp (maxSteps:=5000000) -dsimp only [↓gp,gq,reduceCtorEq,reduceEqDiff,reduceLT,reduceLeDiff,reduceAdd,reduceMul,reduceSub,Nat.reduceBEq,Int.reduceToNat,Int.reduceLE,Int.reduceLT,Int.reduceNeg,reduceMod,zac,zad,zab,zaa,gT,TK.isInt,TK.agg,Array.toList,hs,e0,elo]
 refine za3 (zku bs hbs n hn1 hn) .none (by simp (maxSteps:=5000000) -dsimp only [gr,reduceEqDiff,reduceLT,reduceAdd,reduceMod,Nat.reduceBEq,zaa,zac,zad,zab,e0,elo] <;> rfl) (GvL.one (zcq (by simp (maxSteps:=5000000) -dsimp only [gr,reduceEqDiff,reduceLT,reduceAdd,reduceMod,Nat.reduceBEq,zaa,zac,zad,zab,e0,elo] <;> rfl)) (by repeat (first | exact GvL.nil | refine GvL.one (GvA.v _) ?_ | refine GvL.one (GvA.sl _ _ _) ?_))) rfl (fun _ h=>by cases h) fun rv i1 g1 ⟨n,xs,hrv,hq⟩=>?_
 subst hrv
 obtain ⟨hn0,hn7,hxl⟩:=hq
 simp (maxSteps:=5000000) -dsimp only [↓gp,gq,reduceCtorEq,reduceEqDiff,reduceLT,reduceLeDiff,reduceAdd,reduceMul,reduceSub,Nat.reduceBEq,Int.reduceToNat,Int.reduceLE,Int.reduceLT,Int.reduceNeg,reduceMod,zac,zad,zab,zaa,gT,TK.isInt,TK.agg,Array.toList,hs,e0,elo]
 refine za3 (zbK bs hbs 14 (by decide)) .none (by simp (maxSteps:=5000000) -dsimp only [gr,reduceEqDiff,reduceLT,reduceAdd,reduceMod,Nat.reduceBEq,zaa,zac,zad,zab,e0,elo] <;> rfl) (GvL.one (zcq (by simp (maxSteps:=5000000) -dsimp only [gr,reduceEqDiff,reduceLT,reduceAdd,reduceMod,Nat.reduceBEq,zaa,zac,zad,zab,e0,elo] <;> rfl)) (by repeat (first | exact GvL.nil | refine GvL.one (GvA.v _) ?_ | refine GvL.one (GvA.sl _ _ _) ?_))) rfl (fun _ h=>by cases h) fun rv i2 g2 ⟨x,hrv,hx⟩=>?_
 subst hrv
 simp (maxSteps:=5000000) -dsimp only [↓gp,gq,reduceCtorEq,reduceEqDiff,reduceLT,reduceLeDiff,reduceAdd,reduceMul,reduceSub,Nat.reduceBEq,Int.reduceToNat,Int.reduceLE,Int.reduceLT,Int.reduceNeg,reduceMod,zac,zad,zab,zaa,gT,TK.isInt,TK.agg,Array.toList,hs,e0,elo]
 refine ⟨fun h0=>?_,fun h0=>⟨fun h1=>?_,fun h1=>?_⟩⟩
 ·refine za3 (zcN bs hbs [0,7,2] (by decide) (by decide)) (.some (j:=14) (by simp (maxSteps:=5000000) -dsimp only [gr,reduceEqDiff,reduceLT,reduceAdd,reduceMod,Nat.reduceBEq,zaa,zac,zad,zab,elo] <;> rfl) (zbo _)) (by simp (maxSteps:=5000000) -dsimp only [gr,reduceEqDiff,reduceLT,reduceAdd,reduceMod,Nat.reduceBEq,zaa,zac,zad,zab,e0] <;> rfl) (.one (zcq (by simp (maxSteps:=5000000) -dsimp only [gr,reduceEqDiff,reduceLT,reduceAdd,reduceMod,Nat.reduceBEq,zaa,zac,zad,zab,e0] <;> rfl)) (.one (zmU (by simp (maxSteps:=5000000) -dsimp only [gr,reduceEqDiff,reduceLT,reduceAdd,reduceMod,Nat.reduceBEq,zaa,zac,zad,zab,elo])) .nil)) rfl (fun j hj=>by cases hj;exact ⟨rfl,rfl⟩) fun rv i3 g3 ⟨m,hrv,hc⟩=>?_
  subst hrv
  have hm:0 ≤ m∧m ≤ 7:=by
   have hc:m ∈ [0,7,2]:=hc
   simp at hc;omega
  simp (maxSteps:=5000000) -dsimp only [↓gp,gq,reduceCtorEq,reduceEqDiff,reduceLT,reduceLeDiff,reduceAdd,reduceMul,reduceSub,Nat.reduceBEq,Int.reduceToNat,Int.reduceLE,Int.reduceLT,Int.reduceNeg,reduceMod,zac,zad,zab,zaa,gT,TK.isInt,TK.agg,Array.toList,e0,elo]
  exact ⟨_,i3,g3,_,⟨m,xs,rfl,hm.1,hm.2,by omega⟩,.one (.ag (.cons (.im _) (.cons (.fr (by simp (maxSteps:=5000000) -dsimp only [gr,reduceEqDiff,reduceLT,reduceAdd,reduceMod,Nat.reduceBEq,zaa,zac,zad,zab] <;> rfl) (by decide)) .nil))),by simp,by simp (maxSteps:=5000000) -dsimp only [gr,reduceEqDiff,reduceLT,reduceAdd,reduceMod,Nat.reduceBEq,zaa,zac,zad,zab] <;> rfl,by simp (maxSteps:=5000000) -dsimp only [gr,reduceEqDiff,reduceLT,reduceAdd,reduceMod,Nat.reduceBEq,zaa,zac,zad,zab,e1]⟩
 ·refine ⟨by kernel_rfl,zvg (zck bs hbs 66 (by decide)) (ziC _) (i:=i2) (h:=g2) (by simp (maxSteps:=5000000) -dsimp only [gr,reduceEqDiff,reduceLT,reduceAdd,reduceMod,Nat.reduceBEq,zaa,zac,zad,zab] <;> rfl) rfl ?_⟩
  obtain ⟨y,j3,g3,hr,hy⟩:=znv bs 66 i2 g2
  rw [hr]
  have hy66:0 ≤ y∧y < 66:=by obtain ⟨a,b⟩:=hy;omega
  have hw:IntKind.i64.wrap (y - 1) = y - 1:=zap (by omega) (by omega)
  simp (maxSteps:=5000000) -dsimp only [↓gp,gq,reduceCtorEq,reduceEqDiff,reduceLT,reduceLeDiff,reduceAdd,reduceMul,reduceSub,Nat.reduceBEq,Int.reduceToNat,Int.reduceLE,Int.reduceLT,Int.reduceNeg,reduceMod,zac,zad,zab,zaa,gT,TK.isInt,TK.agg,Array.toList,e0,elo,hw]
  refine ⟨by omega,by kernel_rfl,?_⟩
  exact ⟨_,j3,g3,_,⟨n,xs ++ [y - 1],rfl,hn0,hn7,by simp;omega⟩,.one (.ag (.cons (.im _) (.cons (.fr (by simp (maxSteps:=5000000) -dsimp only [gr,reduceEqDiff,reduceLT,reduceAdd,reduceMod,Nat.reduceBEq,zaa,zac,zad,zab] <;> rfl) (by decide)) .nil))),by simp,by simp (maxSteps:=5000000) -dsimp only [gr,reduceEqDiff,reduceLT,reduceAdd,reduceMod,Nat.reduceBEq,zaa,zac,zad,zab] <;> rfl,by simp (maxSteps:=5000000) -dsimp only [gr,reduceEqDiff,reduceLT,reduceAdd,reduceMod,Nat.reduceBEq,zaa,zac,zad,zab,e1]⟩
 ·exact ⟨_,i2,g2,_,⟨n,xs,rfl,hn0,hn7,by omega⟩,.one (.ag (.cons (.im _) (.cons (.fr (by simp (maxSteps:=5000000) -dsimp only [gr,reduceEqDiff,reduceLT,reduceAdd,reduceMod,Nat.reduceBEq,zaa,zac,zad,zab] <;> rfl) (by decide)) .nil))),by simp,by simp (maxSteps:=5000000) -dsimp only [gr,reduceEqDiff,reduceLT,reduceAdd,reduceMod,Nat.reduceBEq,zaa,zac,zad,zab] <;> rfl,by simp (maxSteps:=5000000) -dsimp only [gr,reduceEqDiff,reduceLT,reduceAdd,reduceMod,Nat.reduceBEq,zaa,zac,zad,zab,e1]⟩
def zF7 (l:List Nat):Prop:=∀ g ∈ l,g < 64
theorem zy5 {l:List Nat} (h:zF7 l) {k:Nat} (hk:k < l.length):l.getD k 0 < 64:=h _ (zaz 0 hk)
theorem zy6:∀ f,f < 64→∀ i,i < 6→(((f &&& 2 ^ i:Nat):Int) == 0) = !(Nat.testBit f i):=by decide +kernel
theorem zm5 (bs:List Nat) (fc:Nat) (hb:zF7 bs) (hs:fc < 64):AC Tryz.prog 69 [zaI (ofN bs),int fc] (.im (int (frN bs fc 6:Nat))):=by
 refine AC.go (rs:=[.tmp 4]) zaQ zar Tryz.func69 rfl rfl rfl (by kernel_rfl) fun hl=>?_
 simp only [zav,zaC,and_true,zcl,zaL,true_and,zaq] at hl
 have hol:=zaq bs
 simp (maxSteps:=5000000) -dsimp only [↓gp,gq,reduceCtorEq,reduceEqDiff,reduceLT,reduceLeDiff,reduceAdd,reduceMul,reduceSub,Nat.reduceBEq,Int.reduceToNat,Int.reduceLE,Int.reduceLT,Int.reduceNeg,reduceMod,zac,zad,zab,zaa,gT,TK.isInt,TK.agg,Array.toList]
 refine zam (fun (i:Nat) s=>s.sl 0 = zaI (ofN bs)∧s.sl 1 = int fc∧s.sl 5 = int (frN bs fc i:Nat)∧s.sl 6 = int i∧(i ≤ 6)) (fun i=>6 - i) (0) (by refine ⟨?_,?_,?_,?_,by omega⟩ <;> (first | (simp (maxSteps:=5000000) -dsimp only [gr,reduceEqDiff,reduceLT,reduceAdd,reduceMod,Nat.reduceBEq,zaa,zac,zad,zab,frN];first | done | rfl | (simp;done)) | assumption | rfl)) ?_
 intro i sa ⟨h0a,h1a,h5a,h6a,hIa⟩
 by_cases hi:i < 6
 ·have hui:IntKind.u64.wrap (i:Int) = (i:Int):=ze5 (by omega)
  have hsh:zz1 .i64 1 (i:Int) = ((2 ^ i:Nat):Int):=zcg (by omega)
  have h2i:(2:Nat) ^ i ≤ 2 ^ 5:=Nat.pow_le_pow_right (by omega) (by omega)
  have han:zcS .i64 (fc:Int) ((2 ^ i:Nat):Int) = ((fc &&& 2 ^ i:Nat):Int):=za8 (by omega) (by omega)
  have hbit:(((fc &&& 2 ^ i:Nat):Int) == 0) = !(fc.testBit i):=zy6 fc hs i hi
  have hfr:frN bs fc (i + 1) = if fc.testBit i && bs.any (fun g=>g &&& (fc - 2 ^ i) == fc - 2 ^ i) then frN bs fc i ||| 2 ^ i else frN bs fc i:=rfl
  simp (maxSteps:=5000000) -dsimp only [↓gp,gq,reduceCtorEq,reduceEqDiff,reduceLT,reduceLeDiff,reduceAdd,reduceMul,reduceSub,Nat.reduceBEq,Int.reduceToNat,Int.reduceLE,Int.reduceLT,Int.reduceNeg,reduceMod,zac,zad,zab,zaa,gT,TK.isInt,TK.agg,Array.toList,h0a,h1a,h5a,h6a,hui,hsh,han,hbit]
  refine ⟨fun _=>⟨fun hz=>?_,fun hz=>?_⟩,fun h=>absurd (show (i:Int) < 6 by omega) h⟩
  ·have hz:fc.testBit i = false:=by simpa using hz
   rw [hz,Bool.false_and,if_neg (by decide)] at hfr
   exact zah (i + 1) (by refine ⟨?_,?_,?_,?_,by omega⟩ <;> (first | (simp (maxSteps:=5000000) -dsimp only [gr,reduceEqDiff,reduceLT,reduceAdd,reduceMod,Nat.reduceBEq,zaa,zac,zad,zab,h0a,h1a,h5a,h6a,zae hi (by omega),hfr];first | done | rfl | (simp;done)) | assumption | rfl)) (by first | omega | (simp only;omega) | (dsimp only;omega) | (show _ < _;simp;omega))
  ·have hz:fc.testBit i = true:=by simpa using hz
   rw [hz,Bool.true_and] at hfr
   have hle:2 ^ i ≤ fc:=Nat.ge_two_pow_of_testBit hz
   have hsl:fc - 2 ^ i ≤ fc:=Nat.sub_le _ _
   have hsub:IntKind.i64.wrap ((fc:Int) - ((2 ^ i:Nat):Int)) = ((fc - 2 ^ i:Nat):Int):=by
    rw [← Int.ofNat_sub hle];exact zap (by omega) (by omega)
   generalize hq:(fun g=>g &&& (fc - 2 ^ i) == fc - 2 ^ i) = q at *
   refine zam (fun (k:Nat) s=>s.sl 0 = zaI (ofN bs)∧s.sl 1 = int fc∧s.sl 5 = int (if (bs.take k).any q = true then frN bs fc i ||| 2 ^ i else frN bs fc i:Nat)∧s.sl 6 = int i∧s.sl 7 = int (2 ^ i:Nat)∧s.sl 8 = int k∧(k ≤ bs.length)) (fun k=>bs.length - k) (0) (by refine ⟨?_,?_,?_,?_,?_,?_,by omega⟩ <;> (first | (simp (maxSteps:=5000000) -dsimp only [gr,reduceEqDiff,reduceLT,reduceAdd,reduceMod,Nat.reduceBEq,zaa,zac,zad,zab,h0a,h1a,h5a,h6a,hsh,hui,List.take_zero,List.any_nil];first | done | rfl | (simp;done)) | assumption | rfl)) ?_
   intro k sb ⟨h0b,h1b,h5b,h6b,h7b,h8b,hIb⟩
   simp (maxSteps:=5000000) -dsimp only [↓gp,gq,reduceCtorEq,reduceEqDiff,reduceLT,reduceLeDiff,reduceAdd,reduceMul,reduceSub,Nat.reduceBEq,Int.reduceToNat,Int.reduceLE,Int.reduceLT,Int.reduceNeg,reduceMod,zac,zad,zab,zaa,gT,TK.isInt,TK.agg,Array.toList,h0b,h1b,h5b,h6b,h7b,h8b,hol,hsub]
   refine ⟨fun hk=>?_,fun hk=>?_⟩
   ·have hg:=zy5 hb hk
    have hx:zcS .i64 ((bs.getD k 0:Nat):Int) ((fc - 2 ^ i:Nat):Int) = ((bs.getD k 0 &&& (fc - 2 ^ i):Nat):Int):=za8 (by omega) (by omega)
    rw [zbg hk,hx]
    have hany:(bs.take (k + 1)).any q = ((bs.take k).any q || q (bs.getD k 0)):=by rw [zaK 0 hk,List.any_append];simp
    have hqk:q (bs.getD k 0) = (bs.getD k 0 &&& (fc - 2 ^ i) == fc - 2 ^ i):=by rw [← hq]
    have hcast:(((bs.getD k 0 &&& (fc - 2 ^ i):Nat):Int) == ((fc - 2 ^ i:Nat):Int)) = (bs.getD k 0 &&& (fc - 2 ^ i) == fc - 2 ^ i):=by
     rw [Bool.eq_iff_iff,beq_iff_eq,beq_iff_eq];omega
    refine ⟨hk,hk,fun he=>?_,fun he=>?_⟩
    ·have he:q (bs.getD k 0) = true:=by rw [hqk,← hcast];exact he
     have hlt:frN bs fc i < 64:=zFe hs
     have hlt2:frN bs fc i ||| 2 ^ i < 64:=Nat.or_lt_two_pow (n:=6) hlt (by omega)
     have hor:ior .i64 ((if (bs.take k).any q = true then frN bs fc i ||| 2 ^ i else frN bs fc i:Nat):Int) ((2 ^ i:Nat):Int) = ((frN bs fc i ||| 2 ^ i:Nat):Int):=by
      rw [zrb (by split <;> omega) (by omega)]
      split
      ·rw [Nat.or_assoc,Nat.or_self]
      ·rfl
     exact zah (k + 1) (by refine ⟨?_,?_,?_,?_,?_,?_,by omega⟩ <;> (first | (simp (maxSteps:=5000000) -dsimp only [gr,reduceEqDiff,reduceLT,reduceAdd,reduceMod,Nat.reduceBEq,zaa,zac,zad,zab,h0b,h1b,h5b,h6b,h7b,h8b,zae hk hl,hany,he,hor,Bool.or_true,if_true];first | done | rfl | (simp;done)) | assumption | rfl)) (by first | omega | (simp only;omega) | (dsimp only;omega) | (show _ < _;simp;omega))
    ·have he:q (bs.getD k 0) = false:=by rw [hqk,← hcast];exact he
     exact zah (k + 1) (by refine ⟨?_,?_,?_,?_,?_,?_,by omega⟩ <;> (first | (simp (maxSteps:=5000000) -dsimp only [gr,reduceEqDiff,reduceLT,reduceAdd,reduceMod,Nat.reduceBEq,zaa,zac,zad,zab,h0b,h1b,h5b,h6b,h7b,h8b,zae hk hl,hany,he,Bool.or_false];first | done | rfl | (simp;done)) | assumption | rfl)) (by first | omega | (simp only;omega) | (dsimp only;omega) | (show _ < _;simp;omega))
   ·have e:k = bs.length:=by omega
    rw [e,List.take_length,← hfr] at h5b
    exact zah (i + 1) (by refine ⟨?_,?_,?_,?_,by omega⟩ <;> (first | (simp (maxSteps:=5000000) -dsimp only [gr,reduceEqDiff,reduceLT,reduceAdd,reduceMod,Nat.reduceBEq,zaa,zac,zad,zab,h0a,h1a,h5a,h6a,h0b,h1b,h5b,h6b,zae hi (by omega)];first | done | rfl | (simp;done)) | assumption | rfl)) (by first | omega | (simp only;omega) | (dsimp only;omega) | (show _ < _;simp;omega))
 ·have e:i = 6:=by omega
  subst e
  simp (maxSteps:=5000000) -dsimp only [↓gp,gq,reduceCtorEq,reduceEqDiff,reduceLT,reduceLeDiff,reduceAdd,reduceMul,reduceSub,Nat.reduceBEq,Int.reduceToNat,Int.reduceLE,Int.reduceLT,Int.reduceNeg,reduceMod,zac,zad,zab,zaa,gT,TK.isInt,TK.agg,Array.toList,h0a,h1a,h5a,h6a]
  exact fun h=>absurd h (by decide)
theorem zkK (bs:List Nat) (fc:Nat) (hb:zF7 bs) (hs:fc < 64):AC Tryz.prog 49 [zaI (ofN bs),int fc] (.im (bool (zA5 bs fc))):=by
 refine AC.go (rs:=[.tmp 4]) zaQ zar Tryz.func49 rfl rfl rfl (by kernel_rfl) fun hl=>?_
 simp only [zav,zaC,and_true,zcl,zaL,true_and,zaq] at hl
 have hol:=zaq bs
 rw [zFf hs hb]
 simp (maxSteps:=5000000) -dsimp only [↓gp,gq,reduceCtorEq,reduceEqDiff,reduceLT,reduceLeDiff,reduceAdd,reduceMul,reduceSub,Nat.reduceBEq,Int.reduceToNat,Int.reduceLE,Int.reduceLT,Int.reduceNeg,reduceMod,zac,zad,zab,zaa,gT,TK.isInt,TK.agg,Array.toList,hol]
 refine ⟨fun h=>?_,fun h=>?_⟩
 ·have:bs = []:=List.eq_nil_of_length_eq_zero (by have:=beq_iff_eq.1 h;omega)
  subst this;rfl
 ·refine zaf (zm5 bs fc hb hs) ?_
  simp (maxSteps:=5000000) -dsimp only [↓gp,gq,reduceCtorEq,reduceEqDiff,reduceLT,reduceLeDiff,reduceAdd,reduceMul,reduceSub,Nat.reduceBEq,Int.reduceToNat,Int.reduceLE,Int.reduceLT,Int.reduceNeg,reduceMod,zac,zad,zab,zaa,gT,TK.isInt,TK.agg,Array.toList]
  have hlt:frN bs fc 6 < 64:=zFe hs
  refine zam (fun (k:Nat) s=>s.sl 0 = zaI (ofN bs)∧s.sl 1 = int fc∧s.sl 5 = int (frN bs fc 6:Nat)∧s.sl 6 = int k∧(k ≤ bs.length∧∀ i,i < k→((bs.getD i 0 &&& fc) &&& frN bs fc 6 != frN bs fc 6) = true)) (fun k=>bs.length - k) (0) (by refine ⟨?_,?_,?_,?_,by simp⟩ <;> (first | (simp (maxSteps:=5000000) -dsimp only [gr,reduceEqDiff,reduceLT,reduceAdd,reduceMod,Nat.reduceBEq,zaa,zac,zad,zab];first | done | rfl | (simp;done)) | assumption | rfl)) ?_
  intro k sa ⟨h0a,h1a,h5a,h6a,hIa⟩
  obtain ⟨hk,hall⟩:=hIa
  simp (maxSteps:=5000000) -dsimp only [↓gp,gq,reduceCtorEq,reduceEqDiff,reduceLT,reduceLeDiff,reduceAdd,reduceMul,reduceSub,Nat.reduceBEq,Int.reduceToNat,Int.reduceLE,Int.reduceLT,Int.reduceNeg,reduceMod,zac,zad,zab,zaa,gT,TK.isInt,TK.agg,Array.toList,h0a,h1a,h5a,h6a,hol]
  refine ⟨fun h=>?_,fun h=>?_⟩
  ·have hg:=zy5 hb h
   have h1:bs.getD k 0 &&& fc ≤ fc:=Nat.and_le_right
   have hx:zcS .i64 (zcS .i64 ((bs.getD k 0:Nat):Int) (fc:Int)) ((frN bs fc 6:Nat):Int) = (((bs.getD k 0 &&& fc) &&& frN bs fc 6:Nat):Int):=by rw [za8 (by omega) (by omega),za8 (by omega) (by omega)]
   rw [zbg h,hx]
   refine ⟨h,h,fun he=>?_,fun he=>zah (k + 1) ⟨(by (first | (simp (maxSteps:=5000000) -dsimp only [gr,reduceEqDiff,reduceLT,reduceAdd,reduceMod,Nat.reduceBEq,zaa,zac,zad,zab,h0a,h1a,h5a,h6a,zae h hl];first | done | rfl | (simp;done)) | assumption | rfl)),(by (first | (simp (maxSteps:=5000000) -dsimp only [gr,reduceEqDiff,reduceLT,reduceAdd,reduceMod,Nat.reduceBEq,zaa,zac,zad,zab,h0a,h1a,h5a,h6a,zae h hl];first | done | rfl | (simp;done)) | assumption | rfl)),(by (first | (simp (maxSteps:=5000000) -dsimp only [gr,reduceEqDiff,reduceLT,reduceAdd,reduceMod,Nat.reduceBEq,zaa,zac,zad,zab,h0a,h1a,h5a,h6a,zae h hl];first | done | rfl | (simp;done)) | assumption | rfl)),(by (first | (simp (maxSteps:=5000000) -dsimp only [gr,reduceEqDiff,reduceLT,reduceAdd,reduceMod,Nat.reduceBEq,zaa,zac,zad,zab,h0a,h1a,h5a,h6a,zae h hl];first | done | rfl | (simp;done)) | assumption | rfl)),⟨by omega,fun i hi=>?_⟩⟩ (by first | omega | (simp only;omega) | (dsimp only;omega) | (show _ < _;simp;omega))⟩
   ·unfold zEf
    rw [List.all_eq_false]
    refine ⟨_,zaz 0 h,?_⟩
    have he:(bs.getD k 0 &&& fc) &&& frN bs fc 6 = frN bs fc 6:=by have:=beq_iff_eq.1 he;omega
    rw [he];simp
   ·rcases Nat.lt_succ_iff_lt_or_eq.1 hi with hi | rfl
    ·exact hall i hi
    ·rw [bne_iff_ne]
     have:=beq_eq_false_iff_ne.1 he
     omega
  ·unfold zEf
   rw [List.all_eq_true]
   intro x hx
   obtain ⟨i,hi,rfl⟩:=zaY 0 hx
   exact hall i (by omega)
def zCv (list:List Int) (k:Nat):Bool:=zA5 ((list.take k).map Int.toNat) (list.getD k 0).toNat
noncomputable def zFQ (n:Int) (xs list:List Int):Bool:=zcb n xs list && (List.range list.length).all (zCv list)
theorem zuj {l:List Int} (h:okL l):ofN (l.map Int.toNat) = l:=by
 unfold ofN
 rw [List.map_map]
 conv=>rhs;rw [← List.map_id l]
 exact List.map_congr_left fun x hx=>by have:=h x hx;show ((x.toNat:Nat):Int) = x;omega
theorem zdO (n:Int) (xs list:List Int):AC Tryz.prog 22 [.ag [int n,zaI xs],zaI list] (.im (bool (zFQ n xs list))):=by
 refine AC.go (rs:=[.tmp 4]) zaQ zar Tryz.func22 rfl rfl rfl (by kernel_rfl) fun hl=>?_
 simp only [zav,zaC,and_true,zaT,zby,za5,zaL,true_and] at hl
 simp (maxSteps:=5000000) -dsimp only [↓gp,gq,reduceCtorEq,reduceEqDiff,reduceLT,reduceLeDiff,reduceAdd,reduceMul,reduceSub,Nat.reduceBEq,Int.reduceToNat,Int.reduceLE,Int.reduceLT,Int.reduceNeg,reduceMod,zac,zad,zab,zaa,gT,TK.isInt,TK.agg,Array.toList]
 refine zaf (zfF n xs list) ?_
 simp (maxSteps:=5000000) -dsimp only [↓gp,gq,reduceCtorEq,reduceEqDiff,reduceLT,reduceLeDiff,reduceAdd,reduceMul,reduceSub,Nat.reduceBEq,Int.reduceToNat,Int.reduceLE,Int.reduceLT,Int.reduceNeg,reduceMod,zac,zad,zab,zaa,gT,TK.isInt,TK.agg,Array.toList]
 unfold zFQ
 refine ⟨fun ho=>?_,fun ho=>?_⟩
 ·have ho:zcb n xs list = false:=by rwa [Bool.not_eq_true'] at ho
  rw [ho];rfl
 ·have ho:zcb n xs list = true:=by rwa [Bool.not_eq_false'] at ho
  have hok:=zjY ho
  rw [ho,Bool.true_and]
  have hno:∀ k,k < list.length→zCv list k = false→(List.range list.length).all (zCv list) = false:=fun k hk h=>by
   rw [List.all_eq_false]
   exact ⟨k,List.mem_range.2 hk,by rw [h];decide⟩
  refine zam (fun (k:Nat) s=>s.sl 1 = zaI list∧s.sl 5 = int k∧(k ≤ list.length∧∀ i,i < k→zCv list i = true)) (fun k=>list.length - k) (0) (by refine ⟨?_,?_,by simp⟩ <;> (first | (simp (maxSteps:=5000000) -dsimp only [gr,reduceEqDiff,reduceLT,reduceAdd,reduceMod,Nat.reduceBEq,zaa,zac,zad,zab];first | done | rfl | (simp;done)) | assumption | rfl)) ?_
  intro k sa ⟨h1a,h5a,hIa⟩
  obtain ⟨hk,hall⟩:=hIa
  simp (maxSteps:=5000000) -dsimp only [↓gp,gq,reduceCtorEq,reduceEqDiff,reduceLT,reduceLeDiff,reduceAdd,reduceMul,reduceSub,Nat.reduceBEq,Int.reduceToNat,Int.reduceLE,Int.reduceLT,Int.reduceNeg,reduceMod,zac,zad,zab,zaa,gT,TK.isInt,TK.agg,Array.toList,h1a,h5a]
  refine ⟨fun h=>?_,fun h=>?_⟩
  ·have h:k < list.length:=by omega
   have hft:=zkK ((list.take k).map Int.toNat) (list.getD k 0).toNat (fun s hs=>by
    obtain ⟨x,hx,rfl⟩:=List.mem_map.1 hs
    have:=ze7 hok k x hx
    omega) (by have:=zdg hok h;omega)
   rw [zuj (ze7 hok k),show (((list.getD k 0).toNat:Nat):Int) = list.getD k 0 by have:=zdg hok h;omega] at hft
   refine ⟨by kernel_rfl,by omega,h,h,zaf hft ?_⟩
   have e:zA5 ((list.take k).map Int.toNat) (list.getD k 0).toNat = zCv list k:=rfl
   rw [e]
   simp (maxSteps:=5000000) -dsimp only [↓gp,gq,reduceCtorEq,reduceEqDiff,reduceLT,reduceLeDiff,reduceAdd,reduceMul,reduceSub,Nat.reduceBEq,Int.reduceToNat,Int.reduceLE,Int.reduceLT,Int.reduceNeg,reduceMod,zac,zad,zab,zaa,gT,TK.isInt,TK.agg,Array.toList,h1a,h5a]
   refine ⟨fun he=>hno k h (by rwa [Bool.not_eq_true'] at he),fun he=>zah (k + 1) ⟨(by (first | (simp (maxSteps:=5000000) -dsimp only [gr,reduceEqDiff,reduceLT,reduceAdd,reduceMod,Nat.reduceBEq,zaa,zac,zad,zab,h1a,h5a,zae h hl.2];first | done | rfl | (simp;done)) | assumption | rfl)),(by (first | (simp (maxSteps:=5000000) -dsimp only [gr,reduceEqDiff,reduceLT,reduceAdd,reduceMod,Nat.reduceBEq,zaa,zac,zad,zab,h1a,h5a,zae h hl.2];first | done | rfl | (simp;done)) | assumption | rfl)),⟨by omega,fun i hi=>?_⟩⟩ (by first | omega | (simp only;omega) | (dsimp only;omega) | (show _ < _;simp;omega))⟩
   rcases Nat.lt_succ_iff_lt_or_eq.1 hi with hi | rfl
   ·exact hall i hi
   ·rwa [Bool.not_eq_false'] at he
  ·exact List.all_eq_true.2 fun i hi=>hall i (by have:=List.mem_range.1 hi;omega)
theorem zfh (bs:List Int) (hbs:bs.length ≤ 9223372036854775806):ADr Tryz.prog 6 [.sl false 1 (kL .u8 bs)] (kcx idQ):=by
 refine AG.go (rs:=[.cell 2 26]) zaQ zar Tryz.func6 rfl rfl rfl (by kernel_rfl) fun hl _ s hs hR=>?_
 simp (maxSteps:=5000000) -dsimp only [↓gp,gq,reduceCtorEq,reduceEqDiff,reduceLT,reduceLeDiff,reduceAdd,reduceMul,reduceSub,Nat.reduceBEq,Int.reduceToNat,Int.reduceLE,Int.reduceLT,Int.reduceNeg,reduceMod,zac,zad,zab,zaa,gT,TK.isInt,TK.agg,Array.toList,hs,hR]
 refine zhQ (zho bs) (.one (.sl _ _ _) .nil) fun h0=>?_
 simp (maxSteps:=5000000) -dsimp only [↓gp,gq,reduceCtorEq,reduceEqDiff,reduceLT,reduceLeDiff,reduceAdd,reduceMul,reduceSub,Nat.reduceBEq,Int.reduceToNat,Int.reduceLE,Int.reduceLT,Int.reduceNeg,reduceMod,zac,zad,zab,zaa,gT,TK.isInt,TK.agg,Array.toList,hs,hR]
 refine za3 (zfn bs hbs) .none (by simp (maxSteps:=5000000) -dsimp only [gr,reduceEqDiff,reduceLT,reduceAdd,reduceMod,Nat.reduceBEq,zaa,zac,zad,zab,hR] <;> rfl) (GvL.one (zcq (by simp (maxSteps:=5000000) -dsimp only [gr,reduceEqDiff,reduceLT,reduceAdd,reduceMod,Nat.reduceBEq,zaa,zac,zad,zab,hR] <;> rfl)) (by repeat (first | exact GvL.nil | refine GvL.one (GvA.v _) ?_ | refine GvL.one (GvA.sl _ _ _) ?_))) rfl (fun _ h=>by cases h) fun rv i1 g1 ⟨n,xs,hrv,hq⟩=>?_
 subst hrv
 simp (maxSteps:=5000000) -dsimp only [↓gp,gq,reduceCtorEq,reduceEqDiff,reduceLT,reduceLeDiff,reduceAdd,reduceMul,reduceSub,Nat.reduceBEq,Int.reduceToNat,Int.reduceLE,Int.reduceLT,Int.reduceNeg,reduceMod,zac,zad,zab,zaa,gT,TK.isInt,TK.agg,Array.toList,hs,hR]
 exact ⟨_,_,⟨n,xs,rfl,hq⟩,.one (.ag (.cons (.im _) (.cons (.fr (by simp (maxSteps:=5000000) -dsimp only [gr,reduceEqDiff,reduceLT,reduceAdd,reduceMod,Nat.reduceBEq,zaa,zac,zad,zab] <;> rfl) (by decide)) .nil))),by simp⟩
end Go.Proofs.YtjikeknpidbceaaGreat

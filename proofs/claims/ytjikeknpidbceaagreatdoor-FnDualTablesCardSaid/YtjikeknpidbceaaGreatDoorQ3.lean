/- DERIVED by an AI agent. -/
import Derived.Test.YtjikeknpidbceaaGreatDoorQ2
namespace Go.Proofs.YtjikeknpidbceaaGreatDoor
open Go.Abs
open Nat (reduceEqDiff reduceMod reduceAdd reduceLT reduceLeDiff reduceSub reduceMul)
set_option linter.unusedSimpArgs false
set_option linter.unusedVariables false
theorem zHC (q:List Nat) {a b:Nat} (ha:a < q.length) (hb:b < q.length):((q.set a (q.getD b 0)).set b (q.getD a 0)).getD a 0 = q.getD b 0:=by
 by_cases h:b = a
 ·subst h;simp [List.getD,ha]
 ·simp only [List.getD]
  rw [List.getElem?_set_ne h,List.getElem?_set_self ha];rfl
theorem zHD {M:Mat} {a b:Nat} (ha:a < M.length):(swp M a b).getD a [] = M.getD b []:=by
 unfold swp
 by_cases h:b = a
 ·subst h;rw [zaA (by simpa using ha)]
 ·rw [zbc h,zaA ha]
theorem zhq {M:Mat} {col a m:Nat} (h:a < m):za3 M col a (m - a) = if (M.getD a []).getD col 0 = 0 then za3 M col (a + 1) (m - (a + 1)) else a:=by
 have e:m - a = (m - (a + 1)) + 1:=by omega
 rw [e,za3]
theorem zvt {p:Int} {M:Mat} {piv:List Nat} {col n:Nat} (h:col < n) (h2:piv.length < M.length):zgn p M piv col (n - col) = zgn p (zbl p M col piv).1 (zbl p M col piv).2 (col + 1) (n - (col + 1)):=by
 have e:n - col = (n - (col + 1)) + 1:=by omega
 rw [e,zgn,if_pos h2]
theorem zrw {p:Int} {a c i:Nat} {M:Mat} (h:Res p (M.getD i [])) (hz:i = a ∨ (M.getD i []).getD c 0 = 0):zgA p a c M i = M.getD i []:=by
 unfold zgA
 split
 ·rfl
 ·rename_i hne
  rw [hz.resolve_left hne,zB8 h]
theorem zEU {p x f y:Int} (hp:0 < p):(x + (p - f) * y) % p = (x - f * y) % p:=by
 have e:x + (p - f) * y = (x - f * y) + p * y:=by rw [Int.sub_mul];omega
 rw [e,Int.add_mul_emod_self_left]
theorem ziX (M:Mat) (n:Nat) (p:Int) (hp:isP p = true) (hM:MatOk p n M) (hm:M.length ≤ 900) (hn:n ≤ 1000):AT Tryz.prog 94 [.own 1000000 1,int n,int p] 24 3 (M.map iL) ((zgn p M [] 0 n).1.map iL) (.rv (.fr 3 1 (iL (ofN (zgn p M [] 0 n).2)))):=by
 refine AT.goI (rs:=[.tmp 6]) za0 mixed Tryz.func94 rfl rfl rfl (by kernel_rfl) (zsC p n M [] 0) fun hl s hs hlow ht=>?_
 have hp2:=zbY hp
 simp (maxSteps:=9^7) -dsimp only [↓gp,gq,reduceCtorEq,reduceEqDiff,reduceLT,reduceLeDiff,reduceAdd,reduceMul,reduceSub,Nat.reduceBEq,Int.reduceToNat,Int.reduceLE,Int.reduceLT,Int.reduceNeg,reduceMod,gT,hs,hlow]
 refine zan (fun (za:Mat × List Nat × Nat × List Nat × Nat) s=>match za with | (cur,piv,col,q,v)=>s.sl 0 = .own 1000000 1∧s.sl 1 = int n∧s.sl 2 = int p∧s.sl 7 = .own 7 v∧s.rw 7 = ⟨v,.sli 3 1 false (iL (ofN piv))⟩∧s.sl 8 = int col∧(col ≤ n∧MatOk p n cur∧cur.length = M.length∧piv.length ≤ M.length∧TabI s.rw 1000000 1 24 3 q cur∧q.Perm (List.range M.length)∧zgn p M [] 0 n = zgn p cur piv col (n - col))) (fun (cur,piv,col,q,v)=>n - col) ((M,[],0,List.range M.length,1)) (by refine ⟨?_,?_,?_,?_,?_,?_,⟨by omega,hM,rfl,by simp,ht.same (by simp (maxSteps:=9^7) -dsimp only [gr,reduceEqDiff,reduceLT,reduceAdd,reduceMod,Nat.reduceBEq]) (fun x=>by simp (maxSteps:=9^7) -dsimp only [gr,reduceEqDiff,reduceLT,reduceAdd,reduceMod,Nat.reduceBEq]),List.Perm.refl _,rfl⟩⟩ <;> (first | (simp (maxSteps:=9^7) -dsimp only [gr,reduceEqDiff,reduceLT,reduceAdd,reduceMod,Nat.reduceBEq,hs,hlow];first | done | rfl | (simp;done)) | assumption | rfl)) ?_
 intro (cur,piv,col,q,v) sa ⟨h0a,h1a,h2a,h7a,r7a,h8a,hIa⟩
 obtain ⟨hcol,hcur,hlc,hpl,htc,hperm,hred⟩:=hIa
 have hlq:q.length = cur.length:=htc.len
 simp (maxSteps:=9^7) -dsimp only [↓gp,gq,reduceCtorEq,reduceEqDiff,reduceLT,reduceLeDiff,reduceAdd,reduceMul,reduceSub,Nat.reduceBEq,Int.reduceToNat,Int.reduceLE,Int.reduceLT,Int.reduceNeg,reduceMod,gT,h0a,h1a,h2a,h7a,r7a,h8a,htc.top,hlq,zae]
 refine ⟨fun h1=>⟨fun h2=>?_,fun h2=>?_⟩,fun h1=>?_⟩
 ·have h1:col < n:=by omega
  have h2:piv.length < cur.length:=by omega
  rw [zvt h1 h2] at hred
  refine zan (fun (a:Nat) s=>s.sl 0 = .own 1000000 1∧s.sl 1 = int n∧s.sl 2 = int p∧s.sl 7 = .own 7 v∧s.rw 7 = ⟨v,.sli 3 1 false (iL (ofN piv))⟩∧s.sl 8 = int col∧s.sl 9 = int piv.length∧s.sl 10 = int a∧(piv.length ≤ a∧a ≤ cur.length∧za3 cur col piv.length (cur.length - piv.length) = za3 cur col a (cur.length - a)∧TabI s.rw 1000000 1 24 3 q cur)) (fun a=>cur.length - a) (piv.length) (by refine ⟨?_,?_,?_,?_,?_,?_,?_,?_,⟨by omega,by omega,rfl,htc.same (by simp (maxSteps:=9^7) -dsimp only [gr,reduceEqDiff,reduceLT,reduceAdd,reduceMod,Nat.reduceBEq]) (fun x=>by simp (maxSteps:=9^7) -dsimp only [gr,reduceEqDiff,reduceLT,reduceAdd,reduceMod,Nat.reduceBEq])⟩⟩ <;> (first | (simp (maxSteps:=9^7) -dsimp only [gr,reduceEqDiff,reduceLT,reduceAdd,reduceMod,Nat.reduceBEq,h0a,h1a,h2a,h7a,r7a,h8a];first | done | rfl | (simp;done)) | assumption | rfl)) ?_
  intro a sb ⟨h0b,h1b,h2b,h7b,r7b,h8b,h9b,h10b,hIb⟩
  obtain ⟨ha1,ha2,hfind,htb⟩:=hIb
  have stop:(¬ a < cur.length ∨ ¬ (cur.getD a []).getD col 0 = 0)→za3 cur col piv.length (cur.length - piv.length) = a:=fun h=>by
   rw [hfind]
   by_cases hlt:a < cur.length
   ·rw [zhq hlt,if_neg (h.resolve_left (by omega))]
   ·rw [show cur.length - a = 0 by omega];rfl
  simp (maxSteps:=9^7) -dsimp only [↓gp,gq,reduceCtorEq,reduceEqDiff,reduceLT,reduceLeDiff,reduceAdd,reduceMul,reduceSub,Nat.reduceBEq,Int.reduceToNat,Int.reduceLE,Int.reduceLT,Int.reduceNeg,reduceMod,gT,h0b,h1b,h2b,h7b,r7b,h8b,h9b,h10b,htb.top,hlq]
  refine ⟨fun h3=>?_,fun h3=>?_⟩
  ·have hra:=htb.row h3
   have hlen:=hcur.len a h3
   simp (maxSteps:=9^7) -dsimp only [↓gp,gq,reduceCtorEq,reduceEqDiff,reduceLT,reduceLeDiff,reduceAdd,reduceMul,reduceSub,Nat.reduceBEq,Int.reduceToNat,Int.reduceLE,Int.reduceLT,Int.reduceNeg,reduceMod,gT,h0b,h1b,h2b,h7b,r7b,h8b,h9b,h10b,htb.top,hlq,hra]
   refine ⟨h3,h3,by omega,by omega,fun hz=>?_,fun hz=>?_⟩
   ·have hz:=beq_iff_eq.1 hz
    rw [zhq h3,if_pos hz] at hfind
    exact zac (a + 1) (by refine ⟨?_,?_,?_,?_,?_,?_,?_,?_,⟨by omega,by omega,hfind,htb.same (by simp (maxSteps:=9^7) -dsimp only [gr,reduceEqDiff,reduceLT,reduceAdd,reduceMod,Nat.reduceBEq]) (fun x=>by simp (maxSteps:=9^7) -dsimp only [gr,reduceEqDiff,reduceLT,reduceAdd,reduceMod,Nat.reduceBEq])⟩⟩ <;> (first | (simp (maxSteps:=9^7) -dsimp only [gr,reduceEqDiff,reduceLT,reduceAdd,reduceMod,Nat.reduceBEq,h0b,h1b,h2b,h7b,r7b,h8b,h9b,h10b,zaa h3 (by omega)];first | done | rfl | (simp;done)) | assumption | rfl)) (by first | omega | (simp only;omega) | (dsimp only;omega) | (show _ < _;simp;omega))
   ·have hz:¬ (cur.getD a []).getD col 0 = 0:=by simpa using hz
    have hfa:=stop (.inr hz)
    have hne:((a:Int) == (cur.length:Int)) = false:=by simp;omega
    have hst:zbl p cur col piv = (zdz p piv.length col (swp cur piv.length a),piv ++ [col]):=by unfold zbl;rw [hfa,if_neg (by omega)]
    rw [hst] at hred
    have hda:(q.set piv.length (q.getD a 0)).length = q.length:=by simp
    have hrd:=htb.row h2
    have hsa:=zHC q (a:=piv.length) (b:=a) (by omega) (by omega)
    simp (maxSteps:=9^7) -dsimp only [↓gp,gq,reduceCtorEq,reduceEqDiff,reduceLT,reduceLeDiff,reduceAdd,reduceMul,reduceSub,Nat.reduceBEq,Int.reduceToNat,Int.reduceLE,Int.reduceLT,Int.reduceNeg,reduceMod,gT,h0b,h1b,h2b,h7b,r7b,h8b,h9b,h10b,htb.top,hlq,hra,hne,hrd,hsa]
    refine ⟨by kernel_rfl,h3,h3,h2,h2,h2,by omega,h3,by omega,by kernel_rfl,h2,h2,by omega,by omega,?_⟩
    refine zab (zh1 _ p hp) ?_
    have hold:=hcur.len a h3
    have hrold:=hcur.res a h3
    generalize hoe:cur.getD a [] = old at *
    have hiv:zk4 p (old.getD col 0) = zk4 p (old.getD col 0):=rfl
    have hbb:=zAg hp (old.getD col 0)
    generalize hbe:zk4 p (old.getD col 0) = b at *
    have hswl:(swp cur piv.length a).length = cur.length:=zb5 _ _ _
    have hswa:(swp cur piv.length a).getD piv.length [] = old:=by rw [zHD h2,hoe]
    have hsw:=zvq hcur h2 h3
    simp (maxSteps:=9^7) -dsimp only [↓gp,gq,reduceCtorEq,reduceEqDiff,reduceLT,reduceLeDiff,reduceAdd,reduceMul,reduceSub,Nat.reduceBEq,Int.reduceToNat,Int.reduceLE,Int.reduceLT,Int.reduceNeg,reduceMod,gT,h0b,h1b,h2b,h7b,r7b,h8b,h9b,h10b,htb.top,hlq,hra,hne,hrd,hsa]
    refine ⟨h2,h2,?_⟩
    have hlq':((q.set piv.length (q.getD a 0)).set a (q.getD piv.length 0)).length = cur.length:=by simp [hlq]
    have hperm':((q.set piv.length (q.getD a 0)).set a (q.getD piv.length 0)).Perm q:=by
     have e1:q.getD piv.length 0 = q[piv.length]'(by omega):=by simp [List.getD,(by omega:piv.length < q.length)]
     have e2:q.getD a 0 = q[a]'(by omega):=by simp [List.getD,(by omega:a < q.length)]
     rw [e1,e2];exact List.set_set_perm (by omega) (by omega)
    have hclr1:(swp cur piv.length a).set piv.length (scl p b old) = zro p piv.length col (swp cur piv.length a):=by unfold zro;rw [hswa,hbe]
    have hcl:zdz p piv.length col (swp cur piv.length a) = zfF p piv.length col (zro p piv.length col (swp cur piv.length a)) cur.length:=by unfold zdz;rw [hswl]
    refine zan (fun (j:Nat) s=>s.sl 0 = .own 1000000 1∧s.sl 1 = int n∧s.sl 2 = int p∧s.sl 7 = .own 7 v∧s.rw 7 = ⟨v,.sli 3 1 false (iL (ofN piv))⟩∧s.sl 8 = int col∧s.sl 9 = int piv.length∧s.sl 11 = int b∧s.sl 78 = int old.length∧s.sl 79 = int j∧(j ≤ n∧TabI s.rw 1000000 1 24 3 ((q.set piv.length (q.getD a 0)).set a (q.getD piv.length 0)) ((swp cur piv.length a).set piv.length (prt (scl p b old) old j)))) (fun j=>n - j) (0) (by refine ⟨?_,?_,?_,?_,?_,?_,?_,?_,?_,?_,⟨by omega,by rw [zes,← hswa,zb4];exact (htb.swap h2 h3 (by simp (maxSteps:=9^7) -dsimp only [gr,reduceEqDiff,reduceLT,reduceAdd,reduceMod,Nat.reduceBEq,h0b,h1b,h2b,h7b,r7b,h8b,h9b,h10b]) (fun x=>by simp (maxSteps:=9^7) -dsimp only [gr,reduceEqDiff,reduceLT,reduceAdd,reduceMod,Nat.reduceBEq,h0b,h1b,h2b,h7b,r7b,h8b,h9b,h10b])).1⟩⟩ <;> (first | (simp (maxSteps:=9^7) -dsimp only [gr,reduceEqDiff,reduceLT,reduceAdd,reduceMod,Nat.reduceBEq,h0b,h1b,h2b,h7b,r7b,h8b,h9b,h10b];first | done | rfl | (simp;done)) | assumption | rfl)) ?_
    intro j sc ⟨h0c,h1c,h2c,h7c,r7c,h8c,h9c,h11c,h78c,h79c,hIc⟩
    obtain ⟨hj,ht1⟩:=hIc
    generalize (q.set piv.length (q.getD a 0)).set a (q.getD piv.length 0) = q' at *
    generalize hSe:swp cur piv.length a = S at *
    have hset:piv.length < (S.set piv.length (prt (scl p b old) old j)).length:=by rw [List.length_set];omega
    have hr1:=ht1.row hset
    rw [zaA (by omega)] at hr1
    have hpl1:(prt (scl p b old) old j).length = n:=by rw [zcF (zbN p b old)];exact hold
    have hpj:=zjt (zbN p b old) (Nat.le_refl j)
    have hoj:=hrold j
    have hmb:=zhr hoj ⟨hbb.1,by omega⟩ hp2.2
    have hw:IntKind.i64.wrap (old.getD j 0 * b) = old.getD j 0 * b:=zam (by omega) (by omega)
    simp (maxSteps:=9^7) -dsimp only [↓gp,gq,reduceCtorEq,reduceEqDiff,reduceLT,reduceLeDiff,reduceAdd,reduceMul,reduceSub,Nat.reduceBEq,Int.reduceToNat,Int.reduceLE,Int.reduceLT,Int.reduceNeg,reduceMod,gT,h0c,h1c,h2c,h7c,r7c,h8c,h9c,h11c,h78c,h79c,ht1.top,hr1,hpl1,hpj,hw,zdY hmb.1,hlq']
    refine ⟨fun h=>⟨by kernel_rfl,h2,h2,h2,h2,by omega,by omega,by omega,by omega,by omega,by kernel_rfl,?_⟩,fun h=>?_⟩
    ·have h:j < n:=by omega
     refine zac (j + 1) ⟨(by (first | (simp (maxSteps:=9^7) -dsimp only [gr,reduceEqDiff,reduceLT,reduceAdd,reduceMod,Nat.reduceBEq,h0c,h1c,h2c,h7c,r7c,h8c,h9c,h11c,h78c,h79c,zaa h (by omega)];first | done | rfl | (simp;done)) | assumption | rfl)),(by (first | (simp (maxSteps:=9^7) -dsimp only [gr,reduceEqDiff,reduceLT,reduceAdd,reduceMod,Nat.reduceBEq,h0c,h1c,h2c,h7c,r7c,h8c,h9c,h11c,h78c,h79c,zaa h (by omega)];first | done | rfl | (simp;done)) | assumption | rfl)),(by (first | (simp (maxSteps:=9^7) -dsimp only [gr,reduceEqDiff,reduceLT,reduceAdd,reduceMod,Nat.reduceBEq,h0c,h1c,h2c,h7c,r7c,h8c,h9c,h11c,h78c,h79c,zaa h (by omega)];first | done | rfl | (simp;done)) | assumption | rfl)),(by (first | (simp (maxSteps:=9^7) -dsimp only [gr,reduceEqDiff,reduceLT,reduceAdd,reduceMod,Nat.reduceBEq,h0c,h1c,h2c,h7c,r7c,h8c,h9c,h11c,h78c,h79c,zaa h (by omega)];first | done | rfl | (simp;done)) | assumption | rfl)),(by (first | (simp (maxSteps:=9^7) -dsimp only [gr,reduceEqDiff,reduceLT,reduceAdd,reduceMod,Nat.reduceBEq,h0c,h1c,h2c,h7c,r7c,h8c,h9c,h11c,h78c,h79c,zaa h (by omega)];first | done | rfl | (simp;done)) | assumption | rfl)),(by (first | (simp (maxSteps:=9^7) -dsimp only [gr,reduceEqDiff,reduceLT,reduceAdd,reduceMod,Nat.reduceBEq,h0c,h1c,h2c,h7c,r7c,h8c,h9c,h11c,h78c,h79c,zaa h (by omega)];first | done | rfl | (simp;done)) | assumption | rfl)),(by (first | (simp (maxSteps:=9^7) -dsimp only [gr,reduceEqDiff,reduceLT,reduceAdd,reduceMod,Nat.reduceBEq,h0c,h1c,h2c,h7c,r7c,h8c,h9c,h11c,h78c,h79c,zaa h (by omega)];first | done | rfl | (simp;done)) | assumption | rfl)),(by (first | (simp (maxSteps:=9^7) -dsimp only [gr,reduceEqDiff,reduceLT,reduceAdd,reduceMod,Nat.reduceBEq,h0c,h1c,h2c,h7c,r7c,h8c,h9c,h11c,h78c,h79c,zaa h (by omega)];first | done | rfl | (simp;done)) | assumption | rfl)),(by (first | (simp (maxSteps:=9^7) -dsimp only [gr,reduceEqDiff,reduceLT,reduceAdd,reduceMod,Nat.reduceBEq,h0c,h1c,h2c,h7c,r7c,h8c,h9c,h11c,h78c,h79c,zaa h (by omega)];first | done | rfl | (simp;done)) | assumption | rfl)),(by (first | (simp (maxSteps:=9^7) -dsimp only [gr,reduceEqDiff,reduceLT,reduceAdd,reduceMod,Nat.reduceBEq,h0c,h1c,h2c,h7c,r7c,h8c,h9c,h11c,h78c,h79c,zaa h (by omega)];first | done | rfl | (simp;done)) | assumption | rfl)),⟨by omega,?_⟩⟩ (by first | omega | (simp only;omega) | (dsimp only;omega) | (show _ < _;simp;omega))
     have e:S.set piv.length (prt (scl p b old) old (j + 1)) = (S.set piv.length (prt (scl p b old) old j)).set piv.length ((prt (scl p b old) old j).set j (old.getD j 0 * b % p)):=by
      rw [zoi,← zgm (zbN p b old) (by omega),zfE p b (by omega)]
     rw [e]
     exact ht1.set hset (by simp (maxSteps:=9^7) -dsimp only [gr,reduceEqDiff,reduceLT,reduceAdd,reduceMod,Nat.reduceBEq,h0c,h1c,h2c,h7c,r7c,h8c,h9c,h11c,h78c,h79c]) (by simp (maxSteps:=9^7) -dsimp only [gr,reduceEqDiff,reduceLT,reduceAdd,reduceMod,Nat.reduceBEq,h0c,h1c,h2c,h7c,r7c,h8c,h9c,h11c,h78c,h79c]) (fun x hx=>by simp (maxSteps:=9^7) -dsimp only [gr,reduceEqDiff,reduceLT,reduceAdd,reduceMod,Nat.reduceBEq,h0c,h1c,h2c,h7c,r7c,h8c,h9c,h11c,h78c,h79c,hx])
    have:j = old.length:=by omega
    rw [this,zgl (zbN p b old),hclr1] at ht1
    have hM1:=zsB (p:=p) (n:=n) (at':=piv.length) (col:=col) (by omega) hsw (by omega)
    have hl1:(zro p piv.length col S).length = cur.length:=by rw [zcG,hswl]
    rw [hcl] at hred
    generalize zro p piv.length col S = M1 at *
    refine zan (fun (i:Nat) s=>s.sl 0 = .own 1000000 1∧s.sl 1 = int n∧s.sl 2 = int p∧s.sl 7 = .own 7 v∧s.rw 7 = ⟨v,.sli 3 1 false (iL (ofN piv))⟩∧s.sl 8 = int col∧s.sl 9 = int piv.length∧s.sl 101 = int cur.length∧s.sl 102 = int i∧(i ≤ cur.length∧TabI s.rw 1000000 1 24 3 q' (zfF p piv.length col M1 i))) (fun i=>cur.length - i) (0) (by refine ⟨?_,?_,?_,?_,?_,?_,?_,?_,?_,⟨by omega,by rw [zrp];exact ht1.same (by simp (maxSteps:=9^7) -dsimp only [gr,reduceEqDiff,reduceLT,reduceAdd,reduceMod,Nat.reduceBEq]) (fun x=>by simp (maxSteps:=9^7) -dsimp only [gr,reduceEqDiff,reduceLT,reduceAdd,reduceMod,Nat.reduceBEq])⟩⟩ <;> (first | (simp (maxSteps:=9^7) -dsimp only [gr,reduceEqDiff,reduceLT,reduceAdd,reduceMod,Nat.reduceBEq,h0c,h1c,h2c,h7c,r7c,h8c,h9c,h11c,h78c,h79c];first | done | rfl | (simp;done)) | assumption | rfl)) ?_
    intro i sd ⟨h0d,h1d,h2d,h7d,r7d,h8d,h9d,h101d,h102d,hId⟩
    obtain ⟨hi,ht2⟩:=hId
    have hlN:(zfF p piv.length col M1 i).length = cur.length:=by rw [zbG,hl1]
    simp (maxSteps:=9^7) -dsimp only [↓gp,gq,reduceCtorEq,reduceEqDiff,reduceLT,reduceLeDiff,reduceAdd,reduceMul,reduceSub,Nat.reduceBEq,Int.reduceToNat,Int.reduceLE,Int.reduceLT,Int.reduceNeg,reduceMod,gT,h0d,h1d,h2d,h7d,r7d,h8d,h9d,h101d,h102d,ht2.top,hlq']
    refine ⟨fun h=>⟨fun he=>?_,fun he=>?_⟩,fun h=>?_⟩
    ·have hid:¬ i = piv.length:=by
      intro e
      simp [e] at he
     have hi1:i < M1.length:=by omega
     have hr2:=ht2.row (i:=i) (by omega)
     rw [zhX p piv.length col hi1 (Nat.le_refl i)] at hr2
     have hl2:=hM1.len i hi1
     have hres2:=hM1.res i hi1
     have hnewl:(zgA p piv.length col M1 i).length = (M1.getD i []).length:=by rw [(zoj (p:=p) (by omega) hM1 hi1).1,hl2]
     simp (maxSteps:=9^7) -dsimp only [↓gp,gq,reduceCtorEq,reduceEqDiff,reduceLT,reduceLeDiff,reduceAdd,reduceMul,reduceSub,Nat.reduceBEq,Int.reduceToNat,Int.reduceLE,Int.reduceLT,Int.reduceNeg,reduceMod,gT,h0d,h1d,h2d,h7d,r7d,h8d,h9d,h101d,h102d,ht2.top,hlq',hr2]
     refine ⟨h,h,by omega,by omega,fun hz=>?_,fun hz=>?_⟩
     ·have hz:(M1.getD i []).getD col 0 = 0:=beq_iff_eq.1 hz
      have ht4:=ht2
      have hcI:=zrw (p:=p) (a:=piv.length) (c:=col) hres2 (.inr hz)
      have hset2:(zfF p piv.length col M1 i).set i (M1.getD i []) = zfF p piv.length col M1 i:=by rw [← zhX p piv.length col hi1 (Nat.le_refl i),zb4]
      rw [← hset2,← hcI,zfh p piv.length col hi1] at ht4
      exact zac (i + 1) (by refine ⟨?_,?_,?_,?_,?_,?_,?_,?_,?_,⟨by omega,ht4.same (by simp (maxSteps:=9^7) -dsimp only [gr,reduceEqDiff,reduceLT,reduceAdd,reduceMod,Nat.reduceBEq]) (fun x=>by simp (maxSteps:=9^7) -dsimp only [gr,reduceEqDiff,reduceLT,reduceAdd,reduceMod,Nat.reduceBEq])⟩⟩ <;> (first | (simp (maxSteps:=9^7) -dsimp only [gr,reduceEqDiff,reduceLT,reduceAdd,reduceMod,Nat.reduceBEq,h0d,h1d,h2d,h7d,r7d,h8d,h9d,h101d,h102d,zaa h (by omega)];first | done | rfl | (simp;done)) | assumption | rfl)) (by first | omega | (simp only;omega) | (dsimp only;omega) | (show _ < _;simp;omega))
     ·have hz:¬ (M1.getD i []).getD col 0 = 0:=by simpa using hz
      have hcI:zgA p piv.length col M1 i = sbt p ((M1.getD i []).getD col 0) (M1.getD piv.length []) (M1.getD i []):=by unfold zgA;rw [if_neg hid]
      have hfb:=hres2 col
      have hset2:(zfF p piv.length col M1 i).set i (M1.getD i []) = zfF p piv.length col M1 i:=by rw [← zhX p piv.length col hi1 (Nat.le_refl i),zb4]
      generalize M1.getD i [] = old2 at *
      generalize old2.getD col 0 = f at *
      have hwg:IntKind.i64.wrap (p - f) = p - f:=zam (by omega) (by omega)
      simp (maxSteps:=9^7) -dsimp only [↓gp,gq,reduceCtorEq,reduceEqDiff,reduceLT,reduceLeDiff,reduceAdd,reduceMul,reduceSub,Nat.reduceBEq,Int.reduceToNat,Int.reduceLE,Int.reduceLT,Int.reduceNeg,reduceMod,gT,h0d,h1d,h2d,h7d,r7d,h8d,h9d,h101d,h102d,ht2.top,hlq',hr2,hwg]
      refine ⟨h,h,by omega,by omega,h,h,?_⟩
      refine zan (fun (t:Nat) s=>s.sl 0 = .own 1000000 1∧s.sl 1 = int n∧s.sl 2 = int p∧s.sl 7 = .own 7 v∧s.rw 7 = ⟨v,.sli 3 1 false (iL (ofN piv))⟩∧s.sl 8 = int col∧s.sl 9 = int piv.length∧s.sl 101 = int cur.length∧s.sl 102 = int i∧s.sl 13 = int i∧s.sl 14 = int (p - f)∧s.sl 131 = int old2.length∧s.sl 132 = int t∧(t ≤ old2.length∧TabI s.rw 1000000 1 24 3 q' ((zfF p piv.length col M1 i).set i (prt (zgA p piv.length col M1 i) old2 t)))) (fun t=>old2.length - t) (0) (by refine ⟨?_,?_,?_,?_,?_,?_,?_,?_,?_,?_,?_,?_,?_,⟨by omega,by rw [zes,hset2];exact ht2.same (by simp (maxSteps:=9^7) -dsimp only [gr,reduceEqDiff,reduceLT,reduceAdd,reduceMod,Nat.reduceBEq]) (fun x=>by simp (maxSteps:=9^7) -dsimp only [gr,reduceEqDiff,reduceLT,reduceAdd,reduceMod,Nat.reduceBEq])⟩⟩ <;> (first | (simp (maxSteps:=9^7) -dsimp only [gr,reduceEqDiff,reduceLT,reduceAdd,reduceMod,Nat.reduceBEq,h0d,h1d,h2d,h7d,r7d,h8d,h9d,h101d,h102d,hwg];first | done | rfl | (simp;done)) | assumption | rfl)) ?_
      intro t se ⟨h0e,h1e,h2e,h7e,r7e,h8e,h9e,h101e,h102e,h13e,h14e,h131e,h132e,hIe⟩
      obtain ⟨ht',ht3⟩:=hIe
      have hls:((zfF p piv.length col M1 i).set i (prt (zgA p piv.length col M1 i) old2 t)).length = cur.length:=by rw [List.length_set,hlN]
      have hr3:=ht3.row (i:=i) (by omega)
      rw [zaA (by omega)] at hr3
      have hpl3:(prt (zgA p piv.length col M1 i) old2 t).length = old2.length:=zcF hnewl t
      have hpj3:=zjt hnewl (Nat.le_refl t)
      have hra1:piv.length < M1.length:=by omega
      have hr4:=ht3.row (i:=piv.length) (by omega)
      rw [zbc hid,zAi p piv.length col i hra1] at hr4
      have hla:=hM1.len piv.length hra1
      have hresa:=hM1.res piv.length hra1
      generalize M1.getD piv.length [] = pr at *
      have hft:=zhr (show 0 ≤ p - f∧p - f < p by omega) ⟨(hresa t).1,by have:=(hresa t).2;omega⟩ hp2.2
      have hot:=hres2 t
      have hw3:IntKind.i64.wrap ((p - f) * pr.getD t 0) = (p - f) * pr.getD t 0:=zam (by omega) (by omega)
      have hw4:IntKind.i64.wrap (old2.getD t 0 + (p - f) * pr.getD t 0) = old2.getD t 0 + (p - f) * pr.getD t 0:=zam (by omega) (by omega)
      have hmod:(old2.getD t 0 + (p - f) * pr.getD t 0).tmod p = (old2.getD t 0 - f * pr.getD t 0) % p:=by rw [zdY (by omega),zEU (by omega)]
      simp (maxSteps:=9^7) -dsimp only [↓gp,gq,reduceCtorEq,reduceEqDiff,reduceLT,reduceLeDiff,reduceAdd,reduceMul,reduceSub,Nat.reduceBEq,Int.reduceToNat,Int.reduceLE,Int.reduceLT,Int.reduceNeg,reduceMod,gT,h0e,h1e,h2e,h7e,r7e,h8e,h9e,h101e,h102e,h13e,h14e,h131e,h132e,ht3.top,hlq',hr3,hr4,hpl3,hpj3,hw3,hw4,hmod]
      refine ⟨fun h2'=>⟨by kernel_rfl,h,h,h,h,h2',h2',h2,h2,by omega,by omega,by omega,h2',by omega,by kernel_rfl,?_⟩,fun h2'=>?_⟩
      ·refine zac (t + 1) ⟨(by (first | (simp (maxSteps:=9^7) -dsimp only [gr,reduceEqDiff,reduceLT,reduceAdd,reduceMod,Nat.reduceBEq,h0e,h1e,h2e,h7e,r7e,h8e,h9e,h101e,h102e,h13e,h14e,h131e,h132e,zaa h2' (by omega)];first | done | rfl | (simp;done)) | assumption | rfl)),(by (first | (simp (maxSteps:=9^7) -dsimp only [gr,reduceEqDiff,reduceLT,reduceAdd,reduceMod,Nat.reduceBEq,h0e,h1e,h2e,h7e,r7e,h8e,h9e,h101e,h102e,h13e,h14e,h131e,h132e,zaa h2' (by omega)];first | done | rfl | (simp;done)) | assumption | rfl)),(by (first | (simp (maxSteps:=9^7) -dsimp only [gr,reduceEqDiff,reduceLT,reduceAdd,reduceMod,Nat.reduceBEq,h0e,h1e,h2e,h7e,r7e,h8e,h9e,h101e,h102e,h13e,h14e,h131e,h132e,zaa h2' (by omega)];first | done | rfl | (simp;done)) | assumption | rfl)),(by (first | (simp (maxSteps:=9^7) -dsimp only [gr,reduceEqDiff,reduceLT,reduceAdd,reduceMod,Nat.reduceBEq,h0e,h1e,h2e,h7e,r7e,h8e,h9e,h101e,h102e,h13e,h14e,h131e,h132e,zaa h2' (by omega)];first | done | rfl | (simp;done)) | assumption | rfl)),(by (first | (simp (maxSteps:=9^7) -dsimp only [gr,reduceEqDiff,reduceLT,reduceAdd,reduceMod,Nat.reduceBEq,h0e,h1e,h2e,h7e,r7e,h8e,h9e,h101e,h102e,h13e,h14e,h131e,h132e,zaa h2' (by omega)];first | done | rfl | (simp;done)) | assumption | rfl)),(by (first | (simp (maxSteps:=9^7) -dsimp only [gr,reduceEqDiff,reduceLT,reduceAdd,reduceMod,Nat.reduceBEq,h0e,h1e,h2e,h7e,r7e,h8e,h9e,h101e,h102e,h13e,h14e,h131e,h132e,zaa h2' (by omega)];first | done | rfl | (simp;done)) | assumption | rfl)),(by (first | (simp (maxSteps:=9^7) -dsimp only [gr,reduceEqDiff,reduceLT,reduceAdd,reduceMod,Nat.reduceBEq,h0e,h1e,h2e,h7e,r7e,h8e,h9e,h101e,h102e,h13e,h14e,h131e,h132e,zaa h2' (by omega)];first | done | rfl | (simp;done)) | assumption | rfl)),(by (first | (simp (maxSteps:=9^7) -dsimp only [gr,reduceEqDiff,reduceLT,reduceAdd,reduceMod,Nat.reduceBEq,h0e,h1e,h2e,h7e,r7e,h8e,h9e,h101e,h102e,h13e,h14e,h131e,h132e,zaa h2' (by omega)];first | done | rfl | (simp;done)) | assumption | rfl)),(by (first | (simp (maxSteps:=9^7) -dsimp only [gr,reduceEqDiff,reduceLT,reduceAdd,reduceMod,Nat.reduceBEq,h0e,h1e,h2e,h7e,r7e,h8e,h9e,h101e,h102e,h13e,h14e,h131e,h132e,zaa h2' (by omega)];first | done | rfl | (simp;done)) | assumption | rfl)),(by (first | (simp (maxSteps:=9^7) -dsimp only [gr,reduceEqDiff,reduceLT,reduceAdd,reduceMod,Nat.reduceBEq,h0e,h1e,h2e,h7e,r7e,h8e,h9e,h101e,h102e,h13e,h14e,h131e,h132e,zaa h2' (by omega)];first | done | rfl | (simp;done)) | assumption | rfl)),(by (first | (simp (maxSteps:=9^7) -dsimp only [gr,reduceEqDiff,reduceLT,reduceAdd,reduceMod,Nat.reduceBEq,h0e,h1e,h2e,h7e,r7e,h8e,h9e,h101e,h102e,h13e,h14e,h131e,h132e,zaa h2' (by omega)];first | done | rfl | (simp;done)) | assumption | rfl)),(by (first | (simp (maxSteps:=9^7) -dsimp only [gr,reduceEqDiff,reduceLT,reduceAdd,reduceMod,Nat.reduceBEq,h0e,h1e,h2e,h7e,r7e,h8e,h9e,h101e,h102e,h13e,h14e,h131e,h132e,zaa h2' (by omega)];first | done | rfl | (simp;done)) | assumption | rfl)),(by (first | (simp (maxSteps:=9^7) -dsimp only [gr,reduceEqDiff,reduceLT,reduceAdd,reduceMod,Nat.reduceBEq,h0e,h1e,h2e,h7e,r7e,h8e,h9e,h101e,h102e,h13e,h14e,h131e,h132e,zaa h2' (by omega)];first | done | rfl | (simp;done)) | assumption | rfl)),⟨by omega,?_⟩⟩ (by first | omega | (simp only;omega) | (dsimp only;omega) | (show _ < _;simp;omega))
       have e:(zfF p piv.length col M1 i).set i (prt (zgA p piv.length col M1 i) old2 (t + 1)) = ((zfF p piv.length col M1 i).set i (prt (zgA p piv.length col M1 i) old2 t)).set i ((prt (zgA p piv.length col M1 i) old2 t).set t ((old2.getD t 0 - f * pr.getD t 0) % p)):=by
        rw [zoi,← zgm hnewl h2',← zdg p f (piv:=pr) h2',hcI]
       rw [e]
       exact ht3.set (by omega) (by simp (maxSteps:=9^7) -dsimp only [gr,reduceEqDiff,reduceLT,reduceAdd,reduceMod,Nat.reduceBEq,h0e,h1e,h2e,h7e,r7e,h8e,h9e,h101e,h102e,h13e,h14e,h131e,h132e]) (by simp (maxSteps:=9^7) -dsimp only [gr,reduceEqDiff,reduceLT,reduceAdd,reduceMod,Nat.reduceBEq,h0e,h1e,h2e,h7e,r7e,h8e,h9e,h101e,h102e,h13e,h14e,h131e,h132e]) (fun x hx=>by simp (maxSteps:=9^7) -dsimp only [gr,reduceEqDiff,reduceLT,reduceAdd,reduceMod,Nat.reduceBEq,h0e,h1e,h2e,h7e,r7e,h8e,h9e,h101e,h102e,h13e,h14e,h131e,h132e,hx])
      ·have:t = old2.length:=by omega
       have ht4:=ht3
       rw [this,zgl hnewl,zfh p piv.length col hi1] at ht4
       exact zac (i + 1) (by refine ⟨?_,?_,?_,?_,?_,?_,?_,?_,?_,⟨by omega,ht4.same (by simp (maxSteps:=9^7) -dsimp only [gr,reduceEqDiff,reduceLT,reduceAdd,reduceMod,Nat.reduceBEq]) (fun x=>by simp (maxSteps:=9^7) -dsimp only [gr,reduceEqDiff,reduceLT,reduceAdd,reduceMod,Nat.reduceBEq])⟩⟩ <;> (first | (simp (maxSteps:=9^7) -dsimp only [gr,reduceEqDiff,reduceLT,reduceAdd,reduceMod,Nat.reduceBEq,h0d,h1d,h2d,h7d,r7d,h8d,h9d,h101d,h102d,h0e,h1e,h2e,h7e,r7e,h8e,h9e,h101e,h102e,h13e,h14e,h131e,h132e,zaa h (by omega)];first | done | rfl | (simp;done)) | assumption | rfl)) (by first | omega | (simp only;omega) | (dsimp only;omega) | (show _ < _;simp;omega))
    ·have hid:i = piv.length:=by
      have h9:(i:Int) = piv.length:=by simpa using he
      omega
     have hi1:i < M1.length:=by omega
     have ht4:=ht2
     have hcI:=zrw (p:=p) (a:=piv.length) (c:=col) (hM1.res i hi1) (.inl hid)
     have hset2:(zfF p piv.length col M1 i).set i (M1.getD i []) = zfF p piv.length col M1 i:=by rw [← zhX p piv.length col hi1 (Nat.le_refl i),zb4]
     rw [← hset2,← hcI,zfh p piv.length col hi1] at ht4
     exact zac (i + 1) (by refine ⟨?_,?_,?_,?_,?_,?_,?_,?_,?_,⟨by omega,ht4.same (by simp (maxSteps:=9^7) -dsimp only [gr,reduceEqDiff,reduceLT,reduceAdd,reduceMod,Nat.reduceBEq]) (fun x=>by simp (maxSteps:=9^7) -dsimp only [gr,reduceEqDiff,reduceLT,reduceAdd,reduceMod,Nat.reduceBEq])⟩⟩ <;> (first | (simp (maxSteps:=9^7) -dsimp only [gr,reduceEqDiff,reduceLT,reduceAdd,reduceMod,Nat.reduceBEq,h0d,h1d,h2d,h7d,r7d,h8d,h9d,h101d,h102d,zaa h (by omega)];first | done | rfl | (simp;done)) | assumption | rfl)) (by first | omega | (simp only;omega) | (dsimp only;omega) | (show _ < _;simp;omega))
    ·have:i = cur.length:=by omega
     rw [this] at ht2
     refine ⟨by rw [zae];omega,?_⟩
     exact zac ((zfF p piv.length col M1 cur.length,piv ++ [col],col + 1,q',v + 1)) (by refine ⟨?_,?_,?_,?_,?_,?_,⟨by dsimp only;omega,zAj (by omega) hM1,by dsimp only;rw [zbG,hl1,hlc],by simp;omega,ht2.same (by simp (maxSteps:=9^7) -dsimp only [gr,reduceEqDiff,reduceLT,reduceAdd,reduceMod,Nat.reduceBEq]) (fun x=>by simp (maxSteps:=9^7) -dsimp only [gr,reduceEqDiff,reduceLT,reduceAdd,reduceMod,Nat.reduceBEq]),hperm'.trans hperm,hred⟩⟩ <;> (first | (simp (maxSteps:=9^7) -dsimp only [gr,reduceEqDiff,reduceLT,reduceAdd,reduceMod,Nat.reduceBEq,h0a,h1a,h2a,h7a,r7a,h8a,h0d,h1d,h2d,h7d,r7d,h8d,h9d,h101d,h102d,zaa h1 (by omega),za1,zdx];first | done | rfl | (simp;done)) | assumption | rfl)) (by first | omega | (simp only;omega) | (dsimp only;omega) | (show _ < _;simp;omega))
  ·have hfa:=stop (.inl (by omega))
   have:a = cur.length:=by omega
   subst this
   have hst:zbl p cur col piv = (cur,piv):=by unfold zbl;rw [if_pos hfa]
   rw [hst] at hred
   simp (maxSteps:=9^7) -dsimp only [↓gp,gq,reduceCtorEq,reduceEqDiff,reduceLT,reduceLeDiff,reduceAdd,reduceMul,reduceSub,Nat.reduceBEq,Int.reduceToNat,Int.reduceLE,Int.reduceLT,Int.reduceNeg,reduceMod,gT,h0b,h1b,h2b,h7b,r7b,h8b,h9b,h10b,htb.top,hlq]
   exact zac ((cur,piv,col + 1,q,v)) (by refine ⟨?_,?_,?_,?_,?_,?_,⟨by dsimp only;omega,hcur,hlc,by dsimp only;omega,htb.same (by simp (maxSteps:=9^7) -dsimp only [gr,reduceEqDiff,reduceLT,reduceAdd,reduceMod,Nat.reduceBEq]) (fun x=>by simp (maxSteps:=9^7) -dsimp only [gr,reduceEqDiff,reduceLT,reduceAdd,reduceMod,Nat.reduceBEq]),hperm,hred⟩⟩ <;> (first | (simp (maxSteps:=9^7) -dsimp only [gr,reduceEqDiff,reduceLT,reduceAdd,reduceMod,Nat.reduceBEq,h0a,h1a,h2a,h7a,r7a,h8a,h0b,h1b,h2b,h7b,r7b,h8b,h9b,h10b,zaa h1 (by omega)];first | done | rfl | (simp;done)) | assumption | rfl)) (by first | omega | (simp only;omega) | (dsimp only;omega) | (show _ < _;simp;omega))
 ·have hf:zgn p cur piv col (n - col) = (cur,piv):=zk5 p cur piv col (n - col) (by omega)
  rw [hf] at hred
  rw [hred]
  refine ⟨zkS (htc.same (by simp (maxSteps:=9^7) -dsimp only [gr,reduceEqDiff,reduceLT,reduceAdd,reduceMod,Nat.reduceBEq]) (fun x=>by simp (maxSteps:=9^7) -dsimp only [gr,reduceEqDiff,reduceLT,reduceAdd,reduceMod,Nat.reduceBEq])) hperm,?_⟩
  simp (maxSteps:=9^7) -dsimp only [↓gp,gq,reduceCtorEq,reduceEqDiff,reduceLT,reduceLeDiff,reduceAdd,reduceMul,reduceSub,Nat.reduceBEq,Int.reduceToNat,Int.reduceLE,Int.reduceLT,Int.reduceNeg,reduceMod,gT,h0a,h1a,h2a,h7a,r7a,h8a]
 ·have hf:zgn p cur piv col (n - col) = (cur,piv):=by rw [show n - col = 0 by omega];rfl
  rw [hf] at hred
  rw [hred]
  refine ⟨zkS (htc.same (by simp (maxSteps:=9^7) -dsimp only [gr,reduceEqDiff,reduceLT,reduceAdd,reduceMod,Nat.reduceBEq]) (fun x=>by simp (maxSteps:=9^7) -dsimp only [gr,reduceEqDiff,reduceLT,reduceAdd,reduceMod,Nat.reduceBEq])) hperm,?_⟩
  simp (maxSteps:=9^7) -dsimp only [↓gp,gq,reduceCtorEq,reduceEqDiff,reduceLT,reduceLeDiff,reduceAdd,reduceMul,reduceSub,Nat.reduceBEq,Int.reduceToNat,Int.reduceLE,Int.reduceLT,Int.reduceNeg,reduceMod,gT,h0a,h1a,h2a,h7a,r7a,h8a]
theorem zot (M:Mat) (p:Int) (hp:isP p = true) (hM:M.length ≤ 900) (hr:∀ i,i < M.length→(M.getD i []).length = (M.getD 0 []).length) (hn:(M.getD 0 []).length ≤ 1000):AC Tryz.prog 73 [zo6 M,int p] (.im (int (zok p M))):=by
 refine AC.go (rs:=[.tmp 4]) za0 mixed Tryz.func73 rfl rfl rfl (by kernel_rfl) fun hl=>?_
 have hp2:=zbY hp
 simp (maxSteps:=9^7) -dsimp only [↓gp,gq,reduceCtorEq,reduceEqDiff,reduceLT,reduceLeDiff,reduceAdd,reduceMul,reduceSub,Nat.reduceBEq,Int.reduceToNat,Int.reduceLE,Int.reduceLT,Int.reduceNeg,reduceMod,gT]
 refine ⟨fun h0=>?_,fun h0=>?_⟩
 ·have hM0:M = []:=List.eq_nil_of_length_eq_zero (by simpa using h0)
  subst hM0
  rfl
 ·have hM0:¬ M.length = 0:=by simpa using h0
  refine ⟨by kernel_rfl,zab (ziY M p hp hM (fun i hi=>by rw [hr i hi];exact hn)) ?_⟩
  simp (maxSteps:=9^7) -dsimp only [↓gp,gq,reduceCtorEq,reduceEqDiff,reduceLT,reduceLeDiff,reduceAdd,reduceMul,reduceSub,Nat.reduceBEq,Int.reduceToNat,Int.reduceLE,Int.reduceLT,Int.reduceNeg,reduceMod,gT]
  refine ⟨by omega,by omega,?_⟩
  have hok:=zsD (p:=p) (by omega) hr
  have hred:=ziX (zgB p M) (M.getD 0 []).length p hp hok (by rw [zdA];exact hM) hn
  refine zEh (v:=1) hred (by repeat (first | exact GiveL.nil | refine GiveL.v ?_ | refine GiveL.clo ?_ | refine GiveL.own 0 rfl ?_ | refine GiveL.own 1 rfl ?_ | refine GiveL.ag ?_ ?_)) (zkp 10 24 3 ((zgB p M).map iL) (fun i hi=>by simp (maxSteps:=9^7) -dsimp only [gr,reduceEqDiff,reduceLT,reduceAdd,reduceMod,Nat.reduceBEq])) List.nodup_range (by decide) ?_
  simp (maxSteps:=9^7) -dsimp only [↓gp,gq,reduceCtorEq,reduceEqDiff,reduceLT,reduceLeDiff,reduceAdd,reduceMul,reduceSub,Nat.reduceBEq,Int.reduceToNat,Int.reduceLE,Int.reduceLT,Int.reduceNeg,reduceMod,gT]
  exact ⟨by kernel_rfl,by rw [zae];rfl⟩
theorem ziW (M:Mat) (p:Int) (hp:isP p = true) (hM:M.length ≤ 900) (hr:∀ i,i < M.length→(M.getD i []).length = (M.getD 0 []).length) (hn:(M.getD 0 []).length ≤ 1000) :
 AC Tryz.prog 97 [zo6 M,int p] (.tup [.tb 24 3 ((zgn p (zgB p M) [] 0 (M.getD 0 []).length).1.map iL),.fr 3 1 (iL (ofN (zgn p (zgB p M) [] 0 (M.getD 0 []).length).2))]):=by
 refine AC.go (rs:=[.tmp 4,.tmp 5]) za0 mixed Tryz.func97 rfl rfl rfl (by kernel_rfl) fun hl=>?_
 have hp2:=zbY hp
 generalize hne:(M.getD 0 []).length = n at *
 simp (maxSteps:=9^7) -dsimp only [↓gp,gq,reduceCtorEq,reduceEqDiff,reduceLT,reduceLeDiff,reduceAdd,reduceMul,reduceSub,Nat.reduceBEq,Int.reduceToNat,Int.reduceLE,Int.reduceLT,Int.reduceNeg,reduceMod,gT]
 refine zoc (k:=15) (v:=1) (e:=24) (e2:=3) (by simp (maxSteps:=9^7) -dsimp only [gr,reduceEqDiff,reduceLT,reduceAdd,reduceMod,Nat.reduceBEq]) (fun j=>by simp (maxSteps:=9^7) -dsimp only [gr,reduceEqDiff,reduceLT,reduceAdd,reduceMod,Nat.reduceBEq]) (fun (i:Nat) s=>s.sl 0 = zo6 M∧s.sl 1 = int p∧s.sl 6 = .own 15 (i + 1)∧s.sl 7 = int i∧(i ≤ M.length∧TabG s.rw 15 (i + 1) 24 3 i (zgB p (M.take i)))) (fun i=>M.length - i) (0) (fun sX htX hslX hoX=>(by refine ⟨?_,?_,?_,?_,⟨by omega,htX⟩⟩ <;> (first | (simp (maxSteps:=9^7) -dsimp only [gr,reduceEqDiff,reduceLT,reduceAdd,reduceMod,Nat.reduceBEq,hslX,hoX];first | done | rfl | (simp;done)) | assumption | rfl))) ?_
 intro i sa ⟨h0a,h1a,h6a,h7a,hIa⟩
 obtain ⟨hi,ht⟩:=hIa
 simp (maxSteps:=9^7) -dsimp only [↓gp,gq,reduceCtorEq,reduceEqDiff,reduceLT,reduceLeDiff,reduceAdd,reduceMul,reduceSub,Nat.reduceBEq,Int.reduceToNat,Int.reduceLE,Int.reduceLT,Int.reduceNeg,reduceMod,gT,h0a,h1a,h6a,h7a]
 refine ⟨fun h=>?_,fun h=>?_⟩
 ·have hri:=hr i h
  have hlen:=zhs p hi
  refine zz5 (fun (zb:Nat × Nat) s=>match zb with | (j,u)=>s.sl 0 = zo6 M∧s.sl 1 = int p∧s.sl 6 = .own 15 (i + 1)∧s.sl 7 = int i∧s.sl 8 = .own 22 u∧s.rw 22 = ⟨u,.tab 3 (iL (((M.getD i []).map fun x=>x % p).take j))⟩∧s.sl 9 = int j∧(j ≤ n∧TabG s.rw 15 (i + 1) 24 3 i (zgB p (M.take i)))) (fun (j,u)=>n - j) ((0,(sa.rw 22).ver + 1)) (Wk.tab (k:=22) (v:=(sa.rw 22).ver + 1) (e:=3) (c:=[]) (by simp (maxSteps:=9^7) -dsimp only [gr,reduceEqDiff,reduceLT,reduceAdd,reduceMod,Nat.reduceBEq]) (fun p hp=>by cases hp)) (by refine ⟨?_,?_,?_,?_,?_,?_,?_,⟨by omega,ht.same (by simp (maxSteps:=9^7) -dsimp only [gr,reduceEqDiff,reduceLT,reduceAdd,reduceMod,Nat.reduceBEq]) (fun x=>by simp (maxSteps:=9^7) -dsimp only [gr,reduceEqDiff,reduceLT,reduceAdd,reduceMod,Nat.reduceBEq])⟩⟩ <;> (first | (simp (maxSteps:=9^7) -dsimp only [gr,reduceEqDiff,reduceLT,reduceAdd,reduceMod,Nat.reduceBEq,h0a,h1a,h6a,h7a];first | done | rfl | (simp;done)) | assumption | rfl)) ?_
  intro (j,u) sb ⟨h0b,h1b,h6b,h7b,h8b,r22b,h9b,hIb⟩
  obtain ⟨hj,ht2⟩:=hIb
  simp (maxSteps:=9^7) -dsimp only [↓gp,gq,reduceCtorEq,reduceEqDiff,reduceLT,reduceLeDiff,reduceAdd,reduceMul,reduceSub,Nat.reduceBEq,Int.reduceToNat,Int.reduceLE,Int.reduceLT,Int.reduceNeg,reduceMod,gT,h0b,h1b,h6b,h7b,h8b,r22b,h9b]
  refine ⟨h,h,fun h2=>⟨h,h,by omega,by omega,zab (zet _ p hp) ?_⟩,fun h2=>?_⟩
  ·simp (maxSteps:=9^7) -dsimp only [↓gp,gq,reduceCtorEq,reduceEqDiff,reduceLT,reduceLeDiff,reduceAdd,reduceMul,reduceSub,Nat.reduceBEq,Int.reduceToNat,Int.reduceLE,Int.reduceLT,Int.reduceNeg,reduceMod,gT,h0b,h1b,h6b,h7b,h8b,r22b,h9b]
   have h2':j < n:=by omega
   have hts:((M.getD i []).map fun x=>x % p).take (j + 1) = ((M.getD i []).map fun x=>x % p).take j ++ [(M.getD i []).getD j 0 % p]:=by
    rw [zaF 0 (by simpa using h2),zvu p h2]
   have htl:(((M.getD i []).map fun x=>x % p).take j).length ≤ 1000:=by simp;omega
   refine ⟨by omega,zac ((j + 1,u + 1)) (by refine ⟨?_,?_,?_,?_,?_,?_,?_,⟨by dsimp only;omega,ht2.same (by simp (maxSteps:=9^7) -dsimp only [gr,reduceEqDiff,reduceLT,reduceAdd,reduceMod,Nat.reduceBEq]) (fun x=>by simp (maxSteps:=9^7) -dsimp only [gr,reduceEqDiff,reduceLT,reduceAdd,reduceMod,Nat.reduceBEq])⟩⟩ <;> (first | (simp (maxSteps:=9^7) -dsimp only [gr,reduceEqDiff,reduceLT,reduceAdd,reduceMod,Nat.reduceBEq,h0b,h1b,h6b,h7b,h8b,r22b,h9b,zaa h2' (by omega),hts];first | done | rfl | (simp;done)) | assumption | rfl)) (by first | omega | (simp only;omega) | (dsimp only;omega) | (show _ < _;simp;omega))⟩
  ·have hjn:((M.getD i []).map fun x=>x % p).take j = (M.getD i []).map fun x=>x % p:=List.take_of_length_le (by rw [List.length_map,hri];omega)
   rw [hjn] at r22b
   simp (maxSteps:=9^7) -dsimp only [↓gp,gq,reduceCtorEq,reduceEqDiff,reduceLT,reduceLeDiff,reduceAdd,reduceMul,reduceSub,Nat.reduceBEq,Int.reduceToNat,Int.reduceLE,Int.reduceLT,Int.reduceNeg,reduceMod,gT,h0b,h1b,h6b,h7b,h8b,r22b,h9b,ht2.top]
   refine ⟨by omega,zwF (k:=15) (v:=i + 1 + 1) (e:=24) (e2:=3) (n:=i) (d:=22) (vd:=u) (M:=zgB p (M.take i)) (r:=(M.getD i []).map fun x=>x % p) (by simp (maxSteps:=9^7) -dsimp only [gr,reduceEqDiff,reduceLT,reduceAdd,reduceMod,Nat.reduceBEq,ht2.top]) hlen (fun j hj=>by simp (maxSteps:=9^7) -dsimp only [gr,reduceEqDiff,reduceLT,reduceAdd,reduceMod,Nat.reduceBEq,ht2.row j hj]) (fun j hj=>by simp (maxSteps:=9^7) -dsimp only [gr,reduceEqDiff,reduceLT,reduceAdd,reduceMod,Nat.reduceBEq,ht2.rest j hj]) (by simp (maxSteps:=9^7) -dsimp only [gr,reduceEqDiff,reduceLT,reduceAdd,reduceMod,Nat.reduceBEq,h0b,h1b,h6b,h7b,h8b,r22b,h9b]) (by decide) (by decide) (i + 1) (fun sX htX hslX hoX=>(by refine ⟨?_,?_,?_,?_,⟨by omega,(zrx p h ▸ htX:TabG _ _ _ _ _ _ _)⟩⟩ <;> (first | (simp (maxSteps:=9^7) -dsimp only [gr,reduceEqDiff,reduceLT,reduceAdd,reduceMod,Nat.reduceBEq,hslX,hoX,h0a,h1a,h6a,h7a,h0b,h1b,h6b,h7b,h8b,r22b,h9b,zaa h (by omega)];first | done | rfl | (simp;done)) | assumption | rfl))) (by first | omega | (simp only;omega) | (dsimp only;omega) | (show _ < _;simp;omega))⟩
 ·have:i = M.length:=by omega
  subst this
  rw [List.take_length] at ht
  have htI:=ht.done
  have hmok:=zsD (p:=p) (by omega) hr
  have hml:=zdA p M
  generalize zgB p M = R at *
  refine zan (fun (zc:Mat × List Nat × Nat × List Nat × Nat) s=>match zc with | (cur,piv,col,q,v)=>s.sl 1 = int p∧s.sl 6 = .own 15 (M.length + 1)∧s.sl 10 = .own 48 v∧s.rw 48 = ⟨v,.sli 3 1 false (iL (ofN piv))⟩∧s.sl 11 = int col∧(col ≤ n∧MatOk p n cur∧cur.length = M.length∧piv.length ≤ M.length∧TabI s.rw 15 (M.length + 1) 24 3 q cur∧q.Perm (List.range M.length)∧zgn p R [] 0 n = zgn p cur piv col (n - col))) (fun (cur,piv,col,q,v)=>n - col) ((R,[],0,List.range M.length,(sa.rw 48).ver + 1)) (by refine ⟨?_,?_,?_,?_,?_,⟨by omega,hmok,hml,by simp,htI.same (by simp (maxSteps:=9^7) -dsimp only [gr,reduceEqDiff,reduceLT,reduceAdd,reduceMod,Nat.reduceBEq]) (fun x=>by simp (maxSteps:=9^7) -dsimp only [gr,reduceEqDiff,reduceLT,reduceAdd,reduceMod,Nat.reduceBEq]),List.Perm.refl _,rfl⟩⟩ <;> (first | (simp (maxSteps:=9^7) -dsimp only [gr,reduceEqDiff,reduceLT,reduceAdd,reduceMod,Nat.reduceBEq,h0a,h1a,h6a,h7a];first | done | rfl | (simp;done)) | assumption | rfl)) ?_
  intro (cur,piv,col,q,v) sc ⟨h1c,h6c,h10c,r48c,h11c,hIc⟩
  obtain ⟨hcol,hcur,hlc,hpl,htc,hperm,hred⟩:=hIc
  have hlq:q.length = cur.length:=htc.len
  simp (maxSteps:=9^7) -dsimp only [↓gp,gq,reduceCtorEq,reduceEqDiff,reduceLT,reduceLeDiff,reduceAdd,reduceMul,reduceSub,Nat.reduceBEq,Int.reduceToNat,Int.reduceLE,Int.reduceLT,Int.reduceNeg,reduceMod,gT,h1c,h6c,h10c,r48c,h11c,htc.top,hlq,zae]
  refine ⟨fun h0=>?_,fun h0=>?_⟩
  ·have h0:0 < cur.length:=by omega
   have hr0:=htc.row h0
   have hl0:=hcur.len 0 h0
   simp (maxSteps:=9^7) -dsimp only [↓gp,gq,reduceCtorEq,reduceEqDiff,reduceLT,reduceLeDiff,reduceAdd,reduceMul,reduceSub,Nat.reduceBEq,Int.reduceToNat,Int.reduceLE,Int.reduceLT,Int.reduceNeg,reduceMod,gT,h1c,h6c,h10c,r48c,h11c,htc.top,hlq,zae,hr0,hl0]
   refine ⟨by omega,h0,fun h1=>⟨fun h2=>?_,fun h2=>?_⟩,fun h1=>?_⟩
   ·rw [zvt h1 h2] at hred
    refine zan (fun (a:Nat) s=>s.sl 1 = int p∧s.sl 6 = .own 15 (M.length + 1)∧s.sl 10 = .own 48 v∧s.rw 48 = ⟨v,.sli 3 1 false (iL (ofN piv))⟩∧s.sl 11 = int col∧s.sl 12 = int piv.length∧s.sl 13 = int a∧(piv.length ≤ a∧a ≤ cur.length∧za3 cur col piv.length (cur.length - piv.length) = za3 cur col a (cur.length - a)∧TabI s.rw 15 (M.length + 1) 24 3 q cur)) (fun a=>cur.length - a) (piv.length) (by refine ⟨?_,?_,?_,?_,?_,?_,?_,⟨by omega,by omega,rfl,htc.same (by simp (maxSteps:=9^7) -dsimp only [gr,reduceEqDiff,reduceLT,reduceAdd,reduceMod,Nat.reduceBEq]) (fun x=>by simp (maxSteps:=9^7) -dsimp only [gr,reduceEqDiff,reduceLT,reduceAdd,reduceMod,Nat.reduceBEq])⟩⟩ <;> (first | (simp (maxSteps:=9^7) -dsimp only [gr,reduceEqDiff,reduceLT,reduceAdd,reduceMod,Nat.reduceBEq,h1c,h6c,h10c,r48c,h11c];first | done | rfl | (simp;done)) | assumption | rfl)) ?_
    intro a sd ⟨h1d,h6d,h10d,r48d,h11d,h12d,h13d,hId⟩
    obtain ⟨ha1,ha2,hfind,htb⟩:=hId
    have stop:(¬ a < cur.length ∨ ¬ (cur.getD a []).getD col 0 = 0)→za3 cur col piv.length (cur.length - piv.length) = a:=fun h=>by
     rw [hfind]
     by_cases hlt:a < cur.length
     ·rw [zhq hlt,if_neg (h.resolve_left (by omega))]
     ·rw [show cur.length - a = 0 by omega];rfl
    simp (maxSteps:=9^7) -dsimp only [↓gp,gq,reduceCtorEq,reduceEqDiff,reduceLT,reduceLeDiff,reduceAdd,reduceMul,reduceSub,Nat.reduceBEq,Int.reduceToNat,Int.reduceLE,Int.reduceLT,Int.reduceNeg,reduceMod,gT,h1d,h6d,h10d,r48d,h11d,h12d,h13d,htb.top,hlq]
    refine ⟨fun h3=>?_,fun h3=>?_⟩
    ·have hra:=htb.row h3
     have hlen:=hcur.len a h3
     simp (maxSteps:=9^7) -dsimp only [↓gp,gq,reduceCtorEq,reduceEqDiff,reduceLT,reduceLeDiff,reduceAdd,reduceMul,reduceSub,Nat.reduceBEq,Int.reduceToNat,Int.reduceLE,Int.reduceLT,Int.reduceNeg,reduceMod,gT,h1d,h6d,h10d,r48d,h11d,h12d,h13d,htb.top,hlq,hra]
     refine ⟨h3,h3,by omega,by omega,fun hz=>?_,fun hz=>?_⟩
     ·have hz:=beq_iff_eq.1 hz
      rw [zhq h3,if_pos hz] at hfind
      exact zac (a + 1) (by refine ⟨?_,?_,?_,?_,?_,?_,?_,⟨by omega,by omega,hfind,htb.same (by simp (maxSteps:=9^7) -dsimp only [gr,reduceEqDiff,reduceLT,reduceAdd,reduceMod,Nat.reduceBEq]) (fun x=>by simp (maxSteps:=9^7) -dsimp only [gr,reduceEqDiff,reduceLT,reduceAdd,reduceMod,Nat.reduceBEq])⟩⟩ <;> (first | (simp (maxSteps:=9^7) -dsimp only [gr,reduceEqDiff,reduceLT,reduceAdd,reduceMod,Nat.reduceBEq,h1d,h6d,h10d,r48d,h11d,h12d,h13d,zaa h3 (by omega)];first | done | rfl | (simp;done)) | assumption | rfl)) (by first | omega | (simp only;omega) | (dsimp only;omega) | (show _ < _;simp;omega))
     ·have hz:¬ (cur.getD a []).getD col 0 = 0:=by simpa using hz
      have hfa:=stop (.inr hz)
      have hne':((a:Int) == (cur.length:Int)) = false:=by simp;omega
      have hst:zbl p cur col piv = (zdz p piv.length col (swp cur piv.length a),piv ++ [col]):=by unfold zbl;rw [hfa,if_neg (by omega)]
      rw [hst] at hred
      have hrd:=htb.row h2
      simp (maxSteps:=9^7) -dsimp only [↓gp,gq,reduceCtorEq,reduceEqDiff,reduceLT,reduceLeDiff,reduceAdd,reduceMul,reduceSub,Nat.reduceBEq,Int.reduceToNat,Int.reduceLE,Int.reduceLT,Int.reduceNeg,reduceMod,gT,h1d,h6d,h10d,r48d,h11d,h12d,h13d,htb.top,hlq,hra,hne',hrd]
      have hsw:=zvq hcur h2 h3
      have hswl:(swp cur piv.length a).length = cur.length:=zb5 _ _ _
      have hqp:((q.set a (q.getD piv.length 0)).set piv.length (q.getD a 0)).Perm q:=by
       have e1:q.getD piv.length 0 = q[piv.length]'(by omega):=by simp [List.getD,(by omega:piv.length < q.length)]
       have e2:q.getD a 0 = q[a]'(by omega):=by simp [List.getD,(by omega:a < q.length)]
       rw [e1,e2];exact List.set_set_perm (by omega) (by omega)
      have hclr:=zlf (swp cur piv.length a) n piv.length col p hp hsw (by omega) h1 hn
      refine ⟨h3,h3,h2,h2,h3,by omega,h2,by omega,zEa hclr (by repeat (first | exact GiveL.nil | refine GiveL.v ?_ | refine GiveL.clo ?_ | refine GiveL.own 0 rfl ?_ | refine GiveL.own 1 rfl ?_ | refine GiveL.ag ?_ ?_)) ((htb.swap h3 h2 (by simp (maxSteps:=9^7) -dsimp only [gr,reduceEqDiff,reduceLT,reduceAdd,reduceMod,Nat.reduceBEq,h1d,h6d,h10d,r48d,h11d,h12d,h13d]) (fun x=>by simp (maxSteps:=9^7) -dsimp only [gr,reduceEqDiff,reduceLT,reduceAdd,reduceMod,Nat.reduceBEq,h1d,h6d,h10d,r48d,h11d,h12d,h13d])).1.to (zB9 cur a piv.length)).is (hqp.nodup_iff.2 htb.nd) (fun p' hp'=>?_)⟩
      simp (maxSteps:=9^7) -dsimp only [↓gp,gq,reduceCtorEq,reduceEqDiff,reduceLT,reduceLeDiff,reduceAdd,reduceMul,reduceSub,Nat.reduceBEq,Int.reduceToNat,Int.reduceLE,Int.reduceLT,Int.reduceNeg,reduceMod,gT,h1d,h6d,h10d,r48d,h11d,h12d,h13d,zae]
      refine ⟨by omega,?_⟩
      have hnd':p'.Nodup:=hp'.nodup_iff.2 (hqp.nodup_iff.2 htb.nd)
      have hcl:=zrq (p:=p) (at':=piv.length) (col:=col) (by omega) hsw (by omega)
      have hcll:=za8 p piv.length col (swp cur piv.length a)
      have hp'l:p'.length = cur.length:=by rw [hp'.length_eq,hqp.length_eq,hlq]
      exact zac ((zdz p piv.length col (swp cur piv.length a),piv ++ [col],col + 1,p',v + 1)) (by refine ⟨?_,?_,?_,?_,?_,⟨by dsimp only;omega,hcl,by dsimp only;rw [hcll,hswl,hlc],by simp;omega,⟨⟨by simp (maxSteps:=9^7) -dsimp only [gr,reduceEqDiff,reduceLT,reduceAdd,reduceMod,Nat.reduceBEq],by simp [hp'l,hcll,hswl],fun i hi=>by simp (maxSteps:=9^7) -dsimp only [gr,reduceEqDiff,reduceLT,reduceAdd,reduceMod,Nat.reduceBEq,zwG hnd' hi,zcp]⟩,hnd'⟩,hp'.trans (hqp.trans hperm),hred⟩⟩ <;> (first | (simp (maxSteps:=9^7) -dsimp only [gr,reduceEqDiff,reduceLT,reduceAdd,reduceMod,Nat.reduceBEq,h1c,h6c,h10c,r48c,h11c,h1d,h6d,h10d,r48d,h11d,h12d,h13d,zaa h1 (by omega),za1,zdx];first | done | rfl | (simp;done)) | assumption | rfl)) (by first | omega | (simp only;omega) | (dsimp only;omega) | (show _ < _;simp;omega))
    ·have hfa:=stop (.inl (by omega))
     have:a = cur.length:=by omega
     subst this
     have hst:zbl p cur col piv = (cur,piv):=by unfold zbl;rw [if_pos hfa]
     rw [hst] at hred
     simp (maxSteps:=9^7) -dsimp only [↓gp,gq,reduceCtorEq,reduceEqDiff,reduceLT,reduceLeDiff,reduceAdd,reduceMul,reduceSub,Nat.reduceBEq,Int.reduceToNat,Int.reduceLE,Int.reduceLT,Int.reduceNeg,reduceMod,gT,h1d,h6d,h10d,r48d,h11d,h12d,h13d,htb.top,hlq]
     exact zac ((cur,piv,col + 1,q,v)) (by refine ⟨?_,?_,?_,?_,?_,⟨by dsimp only;omega,hcur,hlc,by dsimp only;omega,htb.same (by simp (maxSteps:=9^7) -dsimp only [gr,reduceEqDiff,reduceLT,reduceAdd,reduceMod,Nat.reduceBEq]) (fun x=>by simp (maxSteps:=9^7) -dsimp only [gr,reduceEqDiff,reduceLT,reduceAdd,reduceMod,Nat.reduceBEq]),hperm,hred⟩⟩ <;> (first | (simp (maxSteps:=9^7) -dsimp only [gr,reduceEqDiff,reduceLT,reduceAdd,reduceMod,Nat.reduceBEq,h1c,h6c,h10c,r48c,h11c,h1d,h6d,h10d,r48d,h11d,h12d,h13d,zaa h1 (by omega)];first | done | rfl | (simp;done)) | assumption | rfl)) (by first | omega | (simp only;omega) | (dsimp only;omega) | (show _ < _;simp;omega))
   ·have hf:zgn p cur piv col (n - col) = (cur,piv):=zk5 p cur piv col (n - col) h2
    rw [hf] at hred
    rw [hred]
    simp (maxSteps:=9^7) -dsimp only [↓gp,gq,reduceCtorEq,reduceEqDiff,reduceLT,reduceLeDiff,reduceAdd,reduceMul,reduceSub,Nat.reduceBEq,Int.reduceToNat,Int.reduceLE,Int.reduceLT,Int.reduceNeg,reduceMod,gT,h1c,h6c,h10c,r48c,h11c]
    have hq9:∀ j ∈ q,j < 998:=fun j hj=>by have:=List.mem_range.1 (hperm.mem_iff.1 hj);omega
    refine zkV htc (by decide) hq9 ?_
    simp (maxSteps:=9^7) -dsimp only [↓gp,gq,reduceCtorEq,reduceEqDiff,reduceLT,reduceLeDiff,reduceAdd,reduceMul,reduceSub,Nat.reduceBEq,Int.reduceToNat,Int.reduceLE,Int.reduceLT,Int.reduceNeg,reduceMod,gT,h1c,h6c,h10c,r48c,h11c]
    exact zkW htc.nd (fun j hj=>by rw [zbq];omega) (by decide)
   ·have hf:zgn p cur piv col (n - col) = (cur,piv):=by rw [show n - col = 0 by omega];rfl
    rw [hf] at hred
    rw [hred]
    simp (maxSteps:=9^7) -dsimp only [↓gp,gq,reduceCtorEq,reduceEqDiff,reduceLT,reduceLeDiff,reduceAdd,reduceMul,reduceSub,Nat.reduceBEq,Int.reduceToNat,Int.reduceLE,Int.reduceLT,Int.reduceNeg,reduceMod,gT,h1c,h6c,h10c,r48c,h11c]
    have hq9:∀ j ∈ q,j < 998:=fun j hj=>by have:=List.mem_range.1 (hperm.mem_iff.1 hj);omega
    refine zkV htc (by decide) hq9 ?_
    simp (maxSteps:=9^7) -dsimp only [↓gp,gq,reduceCtorEq,reduceEqDiff,reduceLT,reduceLeDiff,reduceAdd,reduceMul,reduceSub,Nat.reduceBEq,Int.reduceToNat,Int.reduceLE,Int.reduceLT,Int.reduceNeg,reduceMod,gT,h1c,h6c,h10c,r48c,h11c]
    exact zkW htc.nd (fun j hj=>by rw [zbq];omega) (by decide)
  ·have hf:zgn p cur piv col (n - col) = (cur,piv):=zk5 p cur piv col (n - col) (by omega)
   rw [hf] at hred
   rw [hred]
   simp (maxSteps:=9^7) -dsimp only [↓gp,gq,reduceCtorEq,reduceEqDiff,reduceLT,reduceLeDiff,reduceAdd,reduceMul,reduceSub,Nat.reduceBEq,Int.reduceToNat,Int.reduceLE,Int.reduceLT,Int.reduceNeg,reduceMod,gT,h1c,h6c,h10c,r48c,h11c]
   have hq9:∀ j ∈ q,j < 998:=fun j hj=>by have:=List.mem_range.1 (hperm.mem_iff.1 hj);omega
   refine zkV htc (by decide) hq9 ?_
   simp (maxSteps:=9^7) -dsimp only [↓gp,gq,reduceCtorEq,reduceEqDiff,reduceLT,reduceLeDiff,reduceAdd,reduceMul,reduceSub,Nat.reduceBEq,Int.reduceToNat,Int.reduceLE,Int.reduceLT,Int.reduceNeg,reduceMod,gT,h1c,h6c,h10c,r48c,h11c]
   exact zkW htc.nd (fun j hj=>by rw [zbq];omega) (by decide)
theorem zAr (s:St) (d e e2 e' sz:Nat) (rows:List (List PV)) (c:List PV):(zai s d (.tup [.tb e e2 rows,.fr e' sz c])).sl d = .tup [.own d ((s.rw d).ver + 1),.own (sid d rows.length) ((s.rw (sid d rows.length)).ver + 1)] ∧
 (zai s d (.tup [.tb e e2 rows,.fr e' sz c])).rw (sid d rows.length) = ⟨(s.rw (sid d rows.length)).ver + 1,.sli e' sz false c⟩:=by
 have hl:(leaves (.tb e e2 rows)).length = rows.length + 1:=by rw [leaves];simp
 have hd:zah d 0 = d:=by unfold zah;omega
 have hs:zah d (0 + (rows.length + 1)) = sid d rows.length:=by rw [Nat.zero_add];rfl
 constructor
 ·unfold zai
  rw [zaI]
  simp only [zaQ,zbL,za9,zbB,hl,hd,hs]
 ·have hrw:(zai s d (.tup [.tb e e2 rows,.fr e' sz c])).rw = zhN s.rw d (zbi s.rw d (leaves (.tup [.tb e e2 rows,.fr e' sz c])) 0) 0:=by
   unfold zai;rw [zeC];exact zcz _ _ _ _
  have hlv:leaves (.tup [.tb e e2 rows,.fr e' sz c]) = leaves (.tb e e2 rows) ++ [(e',some sz,c)]:=by rw [zbu];simp [leaves]
  have h2:rows.length + 1 < (leaves (.tup [.tb e e2 rows,.fr e' sz c])).length:=by rw [hlv];simp [hl]
  have h1:rows.length + 1 < (zbi s.rw d (leaves (.tup [.tb e e2 rows,.fr e' sz c])) 0).length:=by rw [zaX];exact h2
  have:=zds s.rw d (zbi s.rw d (leaves (.tup [.tb e e2 rows,.fr e' sz c])) 0) 0 (rows.length + 1) h1
  rw [hs] at this
  rw [hrw,this,zdj _ _ _ _ _ h2,hs]
  have h3:(leaves (.tup [.tb e e2 rows,.fr e' sz c]))[rows.length + 1] = (e',some sz,c):=by
   simp only [hlv]
   rw [List.getElem_append_right (by omega)]
   simp [hl]
  rw [h3]
  rfl
theorem zlQ (M:Mat) (p:Int) (hp:isP p = true) (hM:M.length ≤ 900) (hr:∀ i,i < M.length→(M.getD i []).length = (M.getD 0 []).length) (hn:(M.getD 0 []).length ≤ 1000):AC Tryz.prog 79 [zo6 M,int p] (.im (int (zok p M))):=by
 refine AC.go (rs:=[.tmp 4]) za0 mixed Tryz.func79 rfl rfl rfl (by kernel_rfl) fun hl=>?_
 simp (maxSteps:=9^7) -dsimp only [↓gp,gq,reduceCtorEq,reduceEqDiff,reduceLT,reduceLeDiff,reduceAdd,reduceMul,reduceSub,Nat.reduceBEq,Int.reduceToNat,Int.reduceLE,Int.reduceLT,Int.reduceNeg,reduceMod,gT]
 refine zab (ziW M p hp hM hr hn) ?_
 simp (maxSteps:=9^7) -dsimp only [↓gp,gq,reduceCtorEq,reduceEqDiff,reduceLT,reduceLeDiff,reduceAdd,reduceMul,reduceSub,Nat.reduceBEq,Int.reduceToNat,Int.reduceLE,Int.reduceLT,Int.reduceNeg,reduceMod,gT,zAr,zae]
 rfl
theorem zhZ (n:Int) (xs:List Int):AC Tryz.prog 78 [.ag [int n,zbr xs]] (.fr 3 1 (iL (zFB (zbT n xs)))):=by
 refine AC.go (rs:=[.tmp 2]) za0 mixed Tryz.func78 rfl rfl rfl (by kernel_rfl) fun hl=>?_
 simp (maxSteps:=9^7) -dsimp only [↓gp,gq,reduceCtorEq,reduceEqDiff,reduceLT,reduceLeDiff,reduceAdd,reduceMul,reduceSub,Nat.reduceBEq,Int.reduceToNat,Int.reduceLE,Int.reduceLT,Int.reduceNeg,reduceMod,gT]
 refine zab (zcJ n xs) ?_
 simp (maxSteps:=9^7) -dsimp only [↓gp,gq,reduceCtorEq,reduceEqDiff,reduceLT,reduceLeDiff,reduceAdd,reduceMul,reduceSub,Nat.reduceBEq,Int.reduceToNat,Int.reduceLE,Int.reduceLT,Int.reduceNeg,reduceMod,gT]
 have hfull:=zdd (zbT n xs)
 have hmem:∀ i,i < (za2 (zbT n xs)).length→(za2 (zbT n xs)).getD i 0 < 64:=fun i h=>zl3 h
 have hmx:=zB5 (zbT n xs)
 have hd7:=zcD (zbT n xs)
 unfold zFB
 generalize za2 (zbT n xs) = all at *
 refine zan (fun (za:Nat × Nat × Nat) s=>match za with | (i,v,u)=>s.sl 3 = .own 6 v∧s.rw 6 = ⟨v,.sli 3 1 false (iL (zrm (all.take i) (mxL (all.take i))))⟩∧s.sl 4 = .own 8 u∧s.rw 8 = ⟨u,.sli 3 1 false (iL (ofN all))⟩∧s.sl 5 = int i∧(i ≤ all.length)) (fun (i,v,u)=>all.length - i) ((0,1,1)) (by refine ⟨?_,?_,?_,?_,?_,by simp⟩ <;> (first | (simp (maxSteps:=9^7) -dsimp only [gr,reduceEqDiff,reduceLT,reduceAdd,reduceMod,Nat.reduceBEq,mxL,zrm];first | done | rfl | (simp;done)) | assumption | rfl)) ?_
 intro (i,v,u) sa ⟨h3a,r6a,h4a,r8a,h5a,hIa⟩
 simp (maxSteps:=9^7) -dsimp only [↓gp,gq,reduceCtorEq,reduceEqDiff,reduceLT,reduceLeDiff,reduceAdd,reduceMul,reduceSub,Nat.reduceBEq,Int.reduceToNat,Int.reduceLE,Int.reduceLT,Int.reduceNeg,reduceMod,gT,h3a,r6a,h4a,r8a,h5a,zae]
 refine ⟨fun h=>?_,fun h=>?_⟩
 ·have hi:=hmem i h
  have hge:(ofN all).getD i 0 = ((all.getD i 0:Nat):Int):=zaK h
  have hsn:=zaF 0 h
  have hmi:=zB3 (all.take i) (all.getD i 0)
  rw [← hsn] at hmi
  have hmle:=zB6 (l:=all) (k:=i + 1)
  have hp6:=zcq hi
  refine zan (fun (zb:Nat × Nat) s=>match zb with | (w,m)=>s.sl 3 = .own 6 w∧s.rw 6 = ⟨w,.sli 3 1 false (iL (zrm (all.take i) m))⟩∧s.sl 4 = .own 8 u∧s.rw 8 = ⟨u,.sli 3 1 false (iL (ofN all))⟩∧s.sl 5 = int i∧(mxL (all.take i) ≤ m∧m ≤ mxL (all.take (i + 1)))) (fun (w,m)=>mxL (all.take (i + 1)) - m) ((v,mxL (all.take i))) (by refine ⟨?_,?_,?_,?_,?_,⟨by omega,by omega⟩⟩ <;> (first | (simp (maxSteps:=9^7) -dsimp only [gr,reduceEqDiff,reduceLT,reduceAdd,reduceMod,Nat.reduceBEq,h3a,r6a,h4a,r8a,h5a];first | done | rfl | (simp;done)) | assumption | rfl)) ?_
  intro (w,m) sb ⟨h3b,r6b,h4b,r8b,h5b,hIb⟩
  obtain ⟨hm1,hm2⟩:=hIb
  simp (maxSteps:=9^7) -dsimp only [↓gp,gq,reduceCtorEq,reduceEqDiff,reduceLT,reduceLeDiff,reduceAdd,reduceMul,reduceSub,Nat.reduceBEq,Int.reduceToNat,Int.reduceLE,Int.reduceLT,Int.reduceNeg,reduceMod,gT,h3b,r6b,h4b,r8b,h5b,zae,zcE,hge]
  refine ⟨h,h,zab (zaE _ (by omega)) ?_⟩
  simp (maxSteps:=9^7) -dsimp only [↓gp,gq,reduceCtorEq,reduceEqDiff,reduceLT,reduceLeDiff,reduceAdd,reduceMul,reduceSub,Nat.reduceBEq,Int.reduceToNat,Int.reduceLE,Int.reduceLT,Int.reduceNeg,reduceMod,gT,h3b,r6b,h4b,r8b,h5b,zae,zcE,hge]
  refine ⟨fun h2=>⟨by omega,?_⟩,fun h2=>?_⟩
  ·have e:zrm (all.take i) m ++ [0] = zrm (all.take i) (m + 1):=zAd _ hm1
   exact zac ((w + 1,m + 1)) (by refine ⟨?_,?_,?_,?_,?_,⟨by dsimp only;omega,by dsimp only;omega⟩⟩ <;> (first | (simp (maxSteps:=9^7) -dsimp only [gr,reduceEqDiff,reduceLT,reduceAdd,reduceMod,Nat.reduceBEq,h3b,r6b,h4b,r8b,h5b,e];first | done | rfl | (simp;done)) | assumption | rfl)) (by first | omega | (simp only;omega) | (dsimp only;omega) | (show _ < _;simp;omega))
  ·have hgm:(zrm (all.take i) m).getD (zak (all.getD i 0)) 0 = (zvo (all.take i) (zak (all.getD i 0)):Int):=zrn _ (by omega)
   have hcl:zvo (all.take i) (zak (all.getD i 0)) ≤ 448:=by
    have:=List.length_filter_le (fun s=>zak s == zak (all.getD i 0)) (all.take i)
    rw [List.length_take] at this
    unfold zvo;omega
   have hw:IntKind.i64.wrap ((zvo (all.take i) (zak (all.getD i 0)):Int) + 1) = (zvo (all.take i) (zak (all.getD i 0)):Int) + 1:=zam (by omega) (by omega)
   have hme:m = mxL (all.take (i + 1)):=by omega
   have hadd:=zB4 (all.take i) (all.getD i 0) m (by omega)
   rw [← hsn] at hadd
   refine ⟨by kernel_rfl,h,h,zab (zaE _ (by omega)) ?_⟩
   simp (maxSteps:=9^7) -dsimp only [↓gp,gq,reduceCtorEq,reduceEqDiff,reduceLT,reduceLeDiff,reduceAdd,reduceMul,reduceSub,Nat.reduceBEq,Int.reduceToNat,Int.reduceLE,Int.reduceLT,Int.reduceNeg,reduceMod,gT,h3b,r6b,h4b,r8b,h5b,zae,zcE,hge]
   refine ⟨h,h,zab (zaE _ (by omega)) ?_⟩
   simp (maxSteps:=9^7) -dsimp only [↓gp,gq,reduceCtorEq,reduceEqDiff,reduceLT,reduceLeDiff,reduceAdd,reduceMul,reduceSub,Nat.reduceBEq,Int.reduceToNat,Int.reduceLE,Int.reduceLT,Int.reduceNeg,reduceMod,gT,h3b,r6b,h4b,r8b,h5b,zae,zcE,hge,hgm,hw,hadd]
   refine ⟨by omega,by omega,by omega,by omega,by kernel_rfl,?_⟩
   subst hme
   exact zac ((i + 1,w,u)) (by refine ⟨?_,?_,?_,?_,?_,by dsimp only;omega⟩ <;> (first | (simp (maxSteps:=9^7) -dsimp only [gr,reduceEqDiff,reduceLT,reduceAdd,reduceMod,Nat.reduceBEq,h3a,r6a,h4a,r8a,h5a,h3b,r6b,h4b,r8b,h5b,zaa h (by omega)];first | done | rfl | (simp;done)) | assumption | rfl)) (by first | omega | (simp only;omega) | (dsimp only;omega) | (show _ < _;simp;omega))
 ·have:i = all.length:=by omega
  rw [this,List.take_length,hmx]
theorem zlP (a b:Nat) (ha:a < 64) (hb:b < 64) (hp:zak b = zak a + 1):AC Tryz.prog 99 [int a,int b] (.im (int (zdS a b))):=by
 refine AC.go (rs:=[.tmp 4]) za0 mixed Tryz.func99 rfl rfl rfl (by kernel_rfl) fun hl=>?_
 have hpa:=zcq ha
 have hpb:=zcq hb
 have hand:=zbF (a:=a) (b:=b) (by omega) (by omega)
 have hw1:IntKind.i64.wrap ((zak b:Int) - (zak a:Int)) = 1:=by rw [zam (by omega) (by omega)];omega
 simp (maxSteps:=9^7) -dsimp only [↓gp,gq,reduceCtorEq,reduceEqDiff,reduceLT,reduceLeDiff,reduceAdd,reduceMul,reduceSub,Nat.reduceBEq,Int.reduceToNat,Int.reduceLE,Int.reduceLT,Int.reduceNeg,reduceMod,gT,hand]
 refine ⟨fun h=>zab (zaE b (by omega)) ?_,fun h=>?_⟩
 ·have hs:a &&& b = a:=by
   have h9:((a &&& b:Nat):Int) = a:=by simpa using h
   omega
  obtain ⟨hle,hx⟩:=zvp a ha b hb hs
  simp (maxSteps:=9^7) -dsimp only [↓gp,gq,reduceCtorEq,reduceEqDiff,reduceLT,reduceLeDiff,reduceAdd,reduceMul,reduceSub,Nat.reduceBEq,Int.reduceToNat,Int.reduceLE,Int.reduceLT,Int.reduceNeg,reduceMod,gT]
  refine zab (zaE a (by omega)) ?_
  have hne:a ≠ b:=fun e=>by rw [e] at hp;omega
  have hw2:IntKind.i64.wrap ((b:Int) - (a:Int)) = ((b - a:Nat):Int):=by rw [zam (by omega) (by omega)];omega
  have hw3:IntKind.i64.wrap (((b - a:Nat):Int) - 1) = ((b - a - 1:Nat):Int):=by rw [zam (by omega) (by omega)];omega
  have hand2:=zbF (a:=b) (b:=b - a - 1) (by omega) (by omega)
  have hlt:b &&& (b - a - 1) < 64:=by have:b &&& (b - a - 1) ≤ b:=Nat.and_le_left;omega
  have hp6:=zcq hlt
  have h11:((1:Int) != 1) = false:=rfl
  simp (maxSteps:=9^7) -dsimp only [↓gp,gq,reduceCtorEq,reduceEqDiff,reduceLT,reduceLeDiff,reduceAdd,reduceMul,reduceSub,Nat.reduceBEq,Int.reduceToNat,Int.reduceLE,Int.reduceLT,Int.reduceNeg,reduceMod,gT,hw1,hw2,hw3,hand2,h11]
  refine zab (zaE _ (by omega)) ?_
  have hmod:((zak (b &&& (b - a - 1)):Nat):Int).tmod 2 = ((zak (b &&& (b - a - 1)) % 2:Nat):Int):=by rw [zdY (by omega)];omega
  have hw4:IntKind.i64.wrap (2 * ((zak (b &&& (b - a - 1)) % 2:Nat):Int)) = 2 * ((zak (b &&& (b - a - 1)) % 2:Nat):Int):=zam (by omega) (by omega)
  have hw5:IntKind.i64.wrap (1 - 2 * ((zak (b &&& (b - a - 1)) % 2:Nat):Int)) = 1 - 2 * ((zak (b &&& (b - a - 1)) % 2:Nat):Int):=zam (by omega) (by omega)
  simp (maxSteps:=9^7) -dsimp only [↓gp,gq,reduceCtorEq,reduceEqDiff,reduceLT,reduceLeDiff,reduceAdd,reduceMul,reduceSub,Nat.reduceBEq,Int.reduceToNat,Int.reduceLE,Int.reduceLT,Int.reduceNeg,reduceMod,gT,hmod,hw4,hw5]
  unfold zdS
  rw [if_pos hs]
  split <;> omega
 ·have hs:¬ a &&& b = a:=by
   intro e
   rw [e] at h
   simp at h
  unfold zdS
  rw [if_neg hs]
theorem znt {l h:List Nat} {i:Nat} (hi:i < l.length):zbX (l.take i) h ++ [h.map fun b=>zdS (l.getD i 0) b] = zbX (l.take (i + 1)) h:=by
 rw [zaF 0 hi];simp [zbX]
theorem ziV (n:Int) (xs:List Int) (k:Nat) (hk:1 ≤ k) (hk7:k ≤ 7):AC Tryz.prog 80 [.ag [int n,zbr xs],int k] (.fr 24 1 (iLL (zbX (zaC (zbT n xs) (k - 1) 64) (zaC (zbT n xs) k 64)))):=by
 refine AC.go (rs:=[.tmp 4]) za0 mixed Tryz.func80 rfl rfl rfl (by kernel_rfl) fun hl=>?_
 have hw1:IntKind.i64.wrap ((k:Int) - 1) = ((k - 1:Nat):Int):=by rw [zam (by omega) (by omega)];omega
 simp (maxSteps:=9^7) -dsimp only [↓gp,gq,reduceCtorEq,reduceEqDiff,reduceLT,reduceLeDiff,reduceAdd,reduceMul,reduceSub,Nat.reduceBEq,Int.reduceToNat,Int.reduceLE,Int.reduceLT,Int.reduceNeg,reduceMod,gT,hw1]
 refine zab (zdm n xs (k - 1)) ?_
 simp (maxSteps:=9^7) -dsimp only [↓gp,gq,reduceCtorEq,reduceEqDiff,reduceLT,reduceLeDiff,reduceAdd,reduceMul,reduceSub,Nat.reduceBEq,Int.reduceToNat,Int.reduceLE,Int.reduceLT,Int.reduceNeg,reduceMod,gT]
 refine zab (zdm n xs k) ?_
 simp (maxSteps:=9^7) -dsimp only [↓gp,gq,reduceCtorEq,reduceEqDiff,reduceLT,reduceLeDiff,reduceAdd,reduceMul,reduceSub,Nat.reduceBEq,Int.reduceToNat,Int.reduceLE,Int.reduceLT,Int.reduceNeg,reduceMod,gT]
 have hl1:=zcO (zbT n xs) (k - 1) (Nat.le_refl 64)
 have hl2:=zcO (zbT n xs) k (Nat.le_refl 64)
 have hm1:∀ i,i < (zaC (zbT n xs) (k - 1) 64).length→(zaC (zbT n xs) (k - 1) 64).getD i 0 < 64∧zak ((zaC (zbT n xs) (k - 1) 64).getD i 0) = k - 1:=fun i hi=>by
  have:=zeq.1 (zax 0 hi);exact ⟨this.1,this.2.2⟩
 have hm2:∀ i,i < (zaC (zbT n xs) k 64).length→(zaC (zbT n xs) k 64).getD i 0 < 64∧zak ((zaC (zbT n xs) k 64).getD i 0) = k:=fun i hi=>by
  have:=zeq.1 (zax 0 hi);exact ⟨this.1,this.2.2⟩
 generalize zaC (zbT n xs) (k - 1) 64 = lo at *
 generalize zaC (zbT n xs) k 64 = hi at *
 refine zan (fun (za:Nat × Nat × Nat × Nat) s=>match za with | (i,v,a,b)=>s.sl 5 = .own 11 v∧s.rw 11 = ⟨v,.sli 24 1 false (iLL (zbX (lo.take i) hi))⟩∧s.sl 6 = .own 15 a∧s.rw 15 = ⟨a,.sli 3 1 false (iL (ofN lo))⟩∧s.sl 7 = .own 18 b∧s.rw 18 = ⟨b,.sli 3 1 false (iL (ofN hi))⟩∧s.sl 8 = int i∧(i ≤ lo.length)) (fun (i,v,a,b)=>lo.length - i) ((0,1,1,1)) (by refine ⟨?_,?_,?_,?_,?_,?_,?_,by simp⟩ <;> (first | (simp (maxSteps:=9^7) -dsimp only [gr,reduceEqDiff,reduceLT,reduceAdd,reduceMod,Nat.reduceBEq,zbX,iLL];first | done | rfl | (simp;done)) | assumption | rfl)) ?_
 intro (i,v,a,b) sa ⟨h5a,r11a,h6a,r15a,h7a,r18a,h8a,hIa⟩
 have hbl:(zbX (lo.take i) hi).length = min i lo.length:=by rw [zcj,List.length_take]
 simp (maxSteps:=9^7) -dsimp only [↓gp,gq,reduceCtorEq,reduceEqDiff,reduceLT,reduceLeDiff,reduceAdd,reduceMul,reduceSub,Nat.reduceBEq,Int.reduceToNat,Int.reduceLE,Int.reduceLT,Int.reduceNeg,reduceMod,gT,h5a,r11a,h6a,r15a,h7a,r18a,h8a,zae]
 refine ⟨fun h=>?_,fun h=>?_⟩
 ·have hge:(ofN lo).getD i 0 = ((lo.getD i 0:Nat):Int):=zaK h
  refine zan (fun (zb:Nat × Nat) s=>match zb with | (j,u)=>s.sl 5 = .own 11 v∧s.rw 11 = ⟨v,.sli 24 1 false (iLL (zbX (lo.take i) hi))⟩∧s.sl 6 = .own 15 a∧s.rw 15 = ⟨a,.sli 3 1 false (iL (ofN lo))⟩∧s.sl 7 = .own 18 b∧s.rw 18 = ⟨b,.sli 3 1 false (iL (ofN hi))⟩∧s.sl 8 = int i∧s.sl 9 = .own 25 u∧s.rw 25 = ⟨u,.sli 3 1 false (iL ((hi.take j).map fun b=>zdS (lo.getD i 0) b))⟩∧s.sl 10 = int j∧(j ≤ hi.length)) (fun (j,u)=>hi.length - j) ((0,(sa.rw 25).ver + 1)) (by refine ⟨?_,?_,?_,?_,?_,?_,?_,?_,?_,?_,by omega⟩ <;> (first | (simp (maxSteps:=9^7) -dsimp only [gr,reduceEqDiff,reduceLT,reduceAdd,reduceMod,Nat.reduceBEq,h5a,r11a,h6a,r15a,h7a,r18a,h8a];first | done | rfl | (simp;done)) | assumption | rfl)) ?_
  intro (j,u) sb ⟨h5b,r11b,h6b,r15b,h7b,r18b,h8b,h9b,r25b,h10b,hIb⟩
  simp (maxSteps:=9^7) -dsimp only [↓gp,gq,reduceCtorEq,reduceEqDiff,reduceLT,reduceLeDiff,reduceAdd,reduceMul,reduceSub,Nat.reduceBEq,Int.reduceToNat,Int.reduceLE,Int.reduceLT,Int.reduceNeg,reduceMod,gT,h5b,r11b,h6b,r15b,h7b,r18b,h8b,h9b,r25b,h10b,zae]
  refine ⟨fun h2=>?_,fun h2=>?_⟩
  ·have hge2:(ofN hi).getD j 0 = ((hi.getD j 0:Nat):Int):=zaK h2
   have ha:=hm1 i h
   have hb:=hm2 j h2
   simp (maxSteps:=9^7) -dsimp only [↓gp,gq,reduceCtorEq,reduceEqDiff,reduceLT,reduceLeDiff,reduceAdd,reduceMul,reduceSub,Nat.reduceBEq,Int.reduceToNat,Int.reduceLE,Int.reduceLT,Int.reduceNeg,reduceMod,gT,h5b,r11b,h6b,r15b,h7b,r18b,h8b,h9b,r25b,h10b,zae,hge,hge2]
   refine ⟨by kernel_rfl,h,h,h2,h2,zab (zlP _ _ ha.1 hb.1 (by omega)) ?_⟩
   simp (maxSteps:=9^7) -dsimp only [↓gp,gq,reduceCtorEq,reduceEqDiff,reduceLT,reduceLeDiff,reduceAdd,reduceMul,reduceSub,Nat.reduceBEq,Int.reduceToNat,Int.reduceLE,Int.reduceLT,Int.reduceNeg,reduceMod,gT,h5b,r11b,h6b,r15b,h7b,r18b,h8b,h9b,r25b,h10b,zae,hge,hge2]
   have e:(hi.take (j + 1)).map (fun b=>zdS (lo.getD i 0) b) = (hi.take j).map (fun b=>zdS (lo.getD i 0) b) ++ [zdS (lo.getD i 0) (hi.getD j 0)]:=by rw [zaF 0 h2];simp
   refine ⟨by rw [List.length_map,List.length_take];omega,by kernel_rfl,?_⟩
   exact zac ((j + 1,u + 1)) (by refine ⟨?_,?_,?_,?_,?_,?_,?_,?_,?_,?_,by dsimp only;omega⟩ <;> (first | (simp (maxSteps:=9^7) -dsimp only [gr,reduceEqDiff,reduceLT,reduceAdd,reduceMod,Nat.reduceBEq,h5b,r11b,h6b,r15b,h7b,r18b,h8b,h9b,r25b,h10b,zaa h2 (by omega),e];first | done | rfl | (simp;done)) | assumption | rfl)) (by first | omega | (simp only;omega) | (dsimp only;omega) | (show _ < _;simp;omega))
  ·have hj:j = hi.length:=by omega
   subst hj
   rw [List.take_length] at r25b
   refine zHt ?_
   simp (maxSteps:=9^7) -dsimp only [↓gp,gq,reduceCtorEq,reduceEqDiff,reduceLT,reduceLeDiff,reduceAdd,reduceMul,reduceSub,Nat.reduceBEq,Int.reduceToNat,Int.reduceLE,Int.reduceLT,Int.reduceNeg,reduceMod,gT,h5b,r11b,h6b,r15b,h7b,r18b,h8b,h9b,r25b,h10b,hbl,zhE]
   have e:=znt (h:=hi) h
   refine ⟨by omega,?_⟩
   exact zac ((i + 1,v + 1,a,b)) (by refine ⟨?_,?_,?_,?_,?_,?_,?_,by dsimp only;omega⟩ <;> (first | (simp (maxSteps:=9^7) -dsimp only [gr,reduceEqDiff,reduceLT,reduceAdd,reduceMod,Nat.reduceBEq,h5a,r11a,h6a,r15a,h7a,r18a,h8a,h5b,r11b,h6b,r15b,h7b,r18b,h8b,h9b,r25b,h10b,zaa h (by omega),znJ,e];first | done | rfl | (simp;done)) | assumption | rfl)) (by first | omega | (simp only;omega) | (dsimp only;omega) | (show _ < _;simp;omega))
 ·have:i = lo.length:=by omega
  rw [this,List.take_length]
theorem zGO {f:Nat→Bool} {p:Int} {k:Nat} (h:k + 1 < zba f):rkF f p (k + 1) = zok p (zbX (zaC f k 64) (zaC f (k + 1) 64)):=by
 unfold rkF
 rw [if_neg (by omega)];rfl
theorem zAq {f:Nat→Bool} {p:Int} {k:Nat} (h:zba f ≤ k):rkF f p k = 0:=by
 unfold rkF
 rw [if_pos (.inr h)]
def zDN (f:Nat→Bool) (p:Int):List Int:=if isP p = true then zdf f p else []
theorem zdC (n:Int) (xs:List Int) (p:Int):AC Tryz.prog 42 [.ag [int n,zbr xs],int p] (.fr 3 1 (iL (zDN (zbT n xs) p))):=by
 refine AC.go (rs:=[.tmp 4]) za0 mixed Tryz.func42 rfl rfl rfl (by kernel_rfl) fun hl=>?_
 simp (maxSteps:=9^7) -dsimp only [↓gp,gq,reduceCtorEq,reduceEqDiff,reduceLT,reduceLeDiff,reduceAdd,reduceMul,reduceSub,Nat.reduceBEq,Int.reduceToNat,Int.reduceLE,Int.reduceLT,Int.reduceNeg,reduceMod,gT]
 refine zab (zhZ n xs) ?_
 simp (maxSteps:=9^7) -dsimp only [↓gp,gq,reduceCtorEq,reduceEqDiff,reduceLT,reduceLeDiff,reduceAdd,reduceMul,reduceSub,Nat.reduceBEq,Int.reduceToNat,Int.reduceLE,Int.reduceLT,Int.reduceNeg,reduceMod,gT]
 refine zab (zbd p) ?_
 simp (maxSteps:=9^7) -dsimp only [↓gp,gq,reduceCtorEq,reduceEqDiff,reduceLT,reduceLeDiff,reduceAdd,reduceMul,reduceSub,Nat.reduceBEq,Int.reduceToNat,Int.reduceLE,Int.reduceLT,Int.reduceNeg,reduceMod,gT]
 unfold zDN
 refine ⟨fun hp=>?_,fun hp=>?_⟩
 ·have hp:isP p = false:=by simpa using hp
  rw [hp];rfl
 ·have hp:isP p = true:=by simpa using hp
  rw [if_pos hp]
  have hd7:=zcD (zbT n xs)
  have hfl:=zsA (zbT n xs)
  generalize hf:zbT n xs = f at *
  refine zan (fun (za:Nat × Nat × Nat) s=>match za with | (k,v,w)=>s.sl 1 = int p∧s.sl 2 = .ref 2 1 0∧s.rw 2 = ⟨1,.box 26 [int n,zbr xs]⟩∧s.sl 5 = .own 10 v∧s.rw 10 = ⟨v,.sli 3 1 false (iL ((zdf f p).take k))⟩∧s.sl 6 = .own 12 w∧s.rw 12 = ⟨w,.sli 3 1 false (iL (zFB f))⟩∧s.sl 7 = int (rkF f p k)∧s.sl 8 = int k∧(k ≤ zba f)) (fun (k,v,w)=>zba f - k) ((0,1,1)) (by refine ⟨?_,?_,?_,?_,?_,?_,?_,?_,?_,by simp⟩ <;> (first | (simp (maxSteps:=9^7) -dsimp only [gr,reduceEqDiff,reduceLT,reduceAdd,reduceMod,Nat.reduceBEq,rkF];first | done | rfl | (simp;done)) | assumption | rfl)) ?_
  intro (k,v,w) sa ⟨h1a,h2a,r2a,h5a,r10a,h6a,r12a,h7a,h8a,hIa⟩
  simp (maxSteps:=9^7) -dsimp only [↓gp,gq,reduceCtorEq,reduceEqDiff,reduceLT,reduceLeDiff,reduceAdd,reduceMul,reduceSub,Nat.reduceBEq,Int.reduceToNat,Int.reduceLE,Int.reduceLT,Int.reduceNeg,reduceMod,gT,h1a,h2a,r2a,h5a,r10a,h6a,r12a,h7a,h8a,hfl]
  refine ⟨fun h=>?_,fun h=>?_⟩
  ·have hr1:=znq f p k
   have hr2:=znq f p (k + 1)
   have hol:=zcO f k (Nat.le_refl 64)
   have hg:=zAe f h
   have hwk:=zaa h (by omega)
   have hw1:IntKind.i64.wrap (((zaC f k 64).length:Int) - (rkF f p k:Int)) = ((zaC f k 64).length:Int) - (rkF f p k:Int):=zam (by omega) (by omega)
   have hw2:IntKind.i64.wrap (((zaC f k 64).length:Int) - (rkF f p k:Int) - (rkF f p (k + 1):Int)) = ((zaC f k 64).length:Int) - (rkF f p k:Int) - (rkF f p (k + 1):Int):=zam (by omega) (by omega)
   have hts:(zdf f p).take (k + 1) = (zdf f p).take k ++ [((zaC f k 64).length:Int) - rkF f p k - rkF f p (k + 1)]:=by rw [zaF 0 (by rw [zaL];exact h),zhm f p h]
   have htl:((zdf f p).take k).length ≤ 7:=by rw [List.length_take,zaL];omega
   simp (maxSteps:=9^7) -dsimp only [↓gp,gq,reduceCtorEq,reduceEqDiff,reduceLT,reduceLeDiff,reduceAdd,reduceMul,reduceSub,Nat.reduceBEq,Int.reduceToNat,Int.reduceLE,Int.reduceLT,Int.reduceNeg,reduceMod,gT,h1a,h2a,r2a,h5a,r10a,h6a,r12a,h7a,h8a,hfl,hwk]
   refine ⟨fun h2=>zab (hf ▸ ziV n xs (k + 1) (by omega) (by omega)) ?_,fun h2=>?_⟩
   ·have hin:=zGO (p:=p) h2
    rw [Nat.add_sub_cancel]
    have hb1:=zcj (zaC f k 64) (zaC f (k + 1) 64)
    have hb2:=zno (zaC f k 64) (zaC f (k + 1) 64)
    have hb3:=znp (zaC f k 64) (zaC f (k + 1) 64)
    have hol2:=zcO f (k + 1) (Nat.le_refl 64)
    simp (maxSteps:=9^7) -dsimp only [↓gp,gq,reduceCtorEq,reduceEqDiff,reduceLT,reduceLeDiff,reduceAdd,reduceMul,reduceSub,Nat.reduceBEq,Int.reduceToNat,Int.reduceLE,Int.reduceLT,Int.reduceNeg,reduceMod,gT,h1a,h2a,r2a,h5a,r10a,h6a,r12a,h7a,h8a,hfl,hwk]
    refine zab (zlQ _ p hp (by omega) hb2 (by omega)) ?_
    rw [← hin]
    simp (maxSteps:=9^7) -dsimp only [↓gp,gq,reduceCtorEq,reduceEqDiff,reduceLT,reduceLeDiff,reduceAdd,reduceMul,reduceSub,Nat.reduceBEq,Int.reduceToNat,Int.reduceLE,Int.reduceLT,Int.reduceNeg,reduceMod,gT,h1a,h2a,r2a,h5a,r10a,h6a,r12a,h7a,h8a,hfl,hwk,hg,hw1,hw2]
    refine ⟨h,h,by omega,?_⟩
    exact zac ((k + 1,v + 1,w)) (by refine ⟨?_,?_,?_,?_,?_,?_,?_,?_,?_,by dsimp only;omega⟩ <;> (first | (simp (maxSteps:=9^7) -dsimp only [gr,reduceEqDiff,reduceLT,reduceAdd,reduceMod,Nat.reduceBEq,h1a,h2a,r2a,h5a,r10a,h6a,r12a,h7a,h8a,hwk,hw1,hw2,hts];first | done | rfl | (simp;done)) | assumption | rfl)) (by first | omega | (simp only;omega) | (dsimp only;omega) | (show _ < _;simp;omega))
   ·have hz:=zAq (p:=p) (show zba f ≤ k + 1 by omega)
    rw [hz,Int.natCast_zero,Int.sub_zero] at hw2
    rw [hz,Int.natCast_zero,Int.sub_zero] at hts
    simp (maxSteps:=9^7) -dsimp only [↓gp,gq,reduceCtorEq,reduceEqDiff,reduceLT,reduceLeDiff,reduceAdd,reduceMul,reduceSub,Nat.reduceBEq,Int.reduceToNat,Int.reduceLE,Int.reduceLT,Int.reduceNeg,reduceMod,gT,h1a,h2a,r2a,h5a,r10a,h6a,r12a,h7a,h8a,hfl,hwk,hg,hw1]
    refine ⟨h,h,by omega,?_⟩
    have hw3:IntKind.i64.wrap (((zaC f k 64).length:Int) - (rkF f p k:Int) - 0) = ((zaC f k 64).length:Int) - (rkF f p k:Int):=by rw [Int.sub_zero];exact hw2
    exact zac ((k + 1,v + 1,w)) (by refine ⟨?_,?_,?_,?_,?_,?_,?_,?_,?_,by dsimp only;omega⟩ <;> (first | (simp (maxSteps:=9^7) -dsimp only [gr,reduceEqDiff,reduceLT,reduceAdd,reduceMod,Nat.reduceBEq,h1a,h2a,r2a,h5a,r10a,h6a,r12a,h7a,h8a,hwk,hw1,hw3,hts,hz,Int.natCast_zero];first | done | rfl | (simp;done)) | assumption | rfl)) (by first | omega | (simp only;omega) | (dsimp only;omega) | (show _ < _;simp;omega))
  ·have:k = (zdf f p).length:=by rw [zaL];omega
   rw [this,List.take_length]
end Go.Proofs.YtjikeknpidbceaaGreatDoor

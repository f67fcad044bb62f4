/- DERIVED by an AI agent. -/
import Derived.Test.YtpnknaaehcljoaaQ5
import Derived.Test.YtpnknaaehcljoaaP1
import Derived.Test.YtpnknaaehcljoaaQ4
import Derived.Test.YtpnknaaehcljoaaQ1
import Derived.Test.YtpnknaaehcljoaaQ3
namespace Go.Proofs.Ytpnknaaehcljoaa
open Go.Abs
open Nat (reduceEqDiff reduceMod reduceAdd reduceLT reduceLeDiff reduceSub reduceMul)
set_option linter.unusedSimpArgs false
set_option linter.unusedVariables false
theorem zn2 (m:Nat) (xs:List Int) (h:zez (m:Int) xs = true):AC Try.prog 120 [.ag [int m,zbx xs]] (.tup [.ag [.im (int m),.fr 3 1 (iL (zAo m xs))],.im (bool true)]):=by
 refine AC.go (rs:=[.cell 2 27,.tmp 3]) zbc zax Try.func120 rfl rfl rfl (by kernel_rfl) fun hl=>?_
 simp only [zaZ,zbm,and_true,zbV,zde,zcd,true_and] at hl
 have hml:=zu3 m xs
 have hmo:=zao (zAb m xs)
 simp (maxSteps:=5000000) -dsimp only [↓gp,gq,reduceCtorEq,reduceEqDiff,reduceLT,reduceLeDiff,reduceAdd,reduceMul,reduceSub,Nat.reduceBEq,Int.reduceToNat,Int.reduceLE,Int.reduceLT,Int.reduceNeg,reduceMod,zac,zad,zab,zaa,gT,TK.isInt,TK.agg,Array.toList]
 refine zag (zbl m xs) ?_
 simp (maxSteps:=5000000) -dsimp only [↓gp,gq,reduceCtorEq,reduceEqDiff,reduceLT,reduceLeDiff,reduceAdd,reduceMul,reduceSub,Nat.reduceBEq,Int.reduceToNat,Int.reduceLE,Int.reduceLT,Int.reduceNeg,reduceMod,zac,zad,zab,zaa,gT,TK.isInt,TK.agg,Array.toList,h]
 refine zag (zdF m xs) ?_
 obtain ⟨h1,h6,_⟩:=zbP.1 h
 unfold zAo zHs
 have hok:okS ((ofN (zAb m xs)).map (zhy m)):=by
  intro x hx
  obtain ⟨y,hy,rfl⟩:=List.mem_map.1 hx
  unfold ofN at hy
  obtain ⟨s,hs,rfl⟩:=List.mem_map.1 hy
  have h64:=zaN (m:=m) (by omega)
  obtain ⟨⟨s1,s2⟩,_⟩:=zcZ.1 hs
  have hin:zbS m s = true:=by
   unfold zik at s2
   simp only [Bool.and_eq_true] at s2
   exact s2.2.1
  have:s < 2 ^ m:=by
   unfold zbS at hin
   rw [decide_eq_true_iff,zcg] at hin
   omega
  rw [zz7 (by omega) this]
  omega
 generalize ofN (zAb m xs) = ys at *
 simp (maxSteps:=5000000) -dsimp only [↓gp,gq,reduceCtorEq,reduceEqDiff,reduceLT,reduceLeDiff,reduceAdd,reduceMul,reduceSub,Nat.reduceBEq,Int.reduceToNat,Int.reduceLE,Int.reduceLT,Int.reduceNeg,reduceMod,zac,zad,zab,zaa,gT,TK.isInt,TK.agg,Array.toList]
 have hmap:∀ k,k < ys.length→(ys.take (k + 1)).map (zhy m) = (ys.take k).map (zhy m) ++ [zhy m (ys.getD k 0)]:=fun k h=>by rw [zaF 0 h];simp
 refine zar (fun (za:Nat × Nat × Nat) s=>match za with | (k,v,w)=>s.sl 1 = .ref 1 1 0∧s.rw 1 = ⟨1,.box 27 [int (m:Nat),zbx xs]⟩∧s.sl 2 = .ref 2 1 0∧s.rw 2 = ⟨1,.box 27 [int 0,.v (.slice none 0 0)]⟩∧s.sl 3 = bool false∧s.sl 4 = .own 12 w∧s.rw 12 = ⟨w,.sli 3 1 false (iL ys)⟩∧s.sl 5 = .own 13 v∧s.rw 13 = ⟨v,.sli 3 1 false (iL ((ys.take k).map (zhy m)))⟩∧s.sl 6 = int k∧(k ≤ ys.length)) (fun (k,v,w)=>ys.length - k) ((0,1,1)) (by refine ⟨?_,?_,?_,?_,?_,?_,?_,?_,?_,?_,by simp⟩ <;> (first | (simp (maxSteps:=5000000) -dsimp only [gr,reduceEqDiff,reduceLT,reduceAdd,reduceMod,Nat.reduceBEq,zaa,zac,zad,zab];first | done | rfl | (simp;done)) | assumption | rfl)) ?_
 intro (k,v,w) sa ⟨h1a,r1a,h2a,r2a,h3a,h4a,r12a,h5a,r13a,h6a,hIa⟩
 simp (maxSteps:=5000000) -dsimp only [↓gp,gq,reduceCtorEq,reduceEqDiff,reduceLT,reduceLeDiff,reduceAdd,reduceMul,reduceSub,Nat.reduceBEq,Int.reduceToNat,Int.reduceLE,Int.reduceLT,Int.reduceNeg,reduceMod,zac,zad,zab,zaa,gT,TK.isInt,TK.agg,Array.toList,h1a,r1a,h2a,r2a,h3a,h4a,r12a,h5a,r13a,h6a]
 refine ⟨fun hk=>⟨by kernel_rfl,hk,hk,zag (zf1 _ _) ?_⟩,fun hk=>?_⟩
 ·simp (maxSteps:=5000000) -dsimp only [↓gp,gq,reduceCtorEq,reduceEqDiff,reduceLT,reduceLeDiff,reduceAdd,reduceMul,reduceSub,Nat.reduceBEq,Int.reduceToNat,Int.reduceLE,Int.reduceLT,Int.reduceNeg,reduceMod,zac,zad,zab,zaa,gT,TK.isInt,TK.agg,Array.toList,h1a,r1a,h2a,r2a,h3a,h4a,r12a,h5a,r13a,h6a]
  have hle:((ys.take k).map (zhy m)).length ≤ 448:=by rw [List.length_map,List.length_take];omega
  refine ⟨by omega,by kernel_rfl,?_⟩
  exact zah ((k + 1,v + 1,w)) (by refine ⟨?_,?_,?_,?_,?_,?_,?_,?_,?_,?_,by dsimp only;omega⟩ <;> (first | (simp (maxSteps:=5000000) -dsimp only [gr,reduceEqDiff,reduceLT,reduceAdd,reduceMod,Nat.reduceBEq,zaa,zac,zad,zab,h1a,r1a,h2a,r2a,h3a,h4a,r12a,h5a,r13a,h6a,zae hk (by omega),hmap k hk];first | done | rfl | (simp;done)) | assumption | rfl)) (by first | omega | (simp only;omega) | (dsimp only;omega) | (show _ < _;simp;omega))
 ·have:k = ys.length:=by omega
  subst this
  have ht:ys.take ys.length = ys:=List.take_length
  rw [ht] at r13a ⊢
  refine zag (zb2 m _ hok) ?_
  simp (maxSteps:=5000000) -dsimp only [↓gp,gq,reduceCtorEq,reduceEqDiff,reduceLT,reduceLeDiff,reduceAdd,reduceMul,reduceSub,Nat.reduceBEq,Int.reduceToNat,Int.reduceLE,Int.reduceLT,Int.reduceNeg,reduceMod,zac,zad,zab,zaa,gT,TK.isInt,TK.agg,Array.toList,h1a,r1a,h2a,r2a,h3a,h4a,r12a,h5a,r13a,h6a]
theorem zn3 (n:Int) (xs:List Int) (w:Nat) (hs:w < 64) (hx:okS xs) (hlen:xs.length ≤ 1000):AC Try.prog 122 [.ag [int n,zbx xs],int w] (.ag [.im (int n),.fr 3 1 (iL (ofN (zgj (inF (zn9 xs w)) true)))]):=by
 refine AC.go (rs:=[.cell 4 27]) zbc zax Try.func122 rfl rfl rfl (by kernel_rfl) fun hl=>?_
 simp only [zaZ,zbm,and_true,zbV,zde,zcd,true_and] at hl
 simp (maxSteps:=5000000) -dsimp only [↓gp,gq,reduceCtorEq,reduceEqDiff,reduceLT,reduceLeDiff,reduceAdd,reduceMul,reduceSub,Nat.reduceBEq,Int.reduceToNat,Int.reduceLE,Int.reduceLT,Int.reduceNeg,reduceMod,zac,zad,zab,zaa,gT,TK.isInt,TK.agg,Array.toList]
 have hlk:zn9 xs w = zn9 (xs.take xs.length) w:=by rw [List.take_length]
 refine zar (fun (za:Nat × Nat) s=>match za with | (k,v)=>s.sl 1 = int w∧s.sl 2 = .ref 2 1 0∧s.rw 2 = ⟨1,.box 27 [int n,zbx xs]⟩∧s.sl 4 = .ref 4 1 0∧s.rw 4 = ⟨1,.box 27 [int 0,.v (.slice none 0 0)]⟩∧s.sl 5 = .own 7 v∧s.rw 7 = ⟨v,.sli 3 1 false (iL (zn9 (xs.take k) w))⟩∧s.sl 6 = int k∧(k ≤ xs.length)) (fun (k,v)=>xs.length - k) ((0,1)) (by refine ⟨?_,?_,?_,?_,?_,?_,?_,?_,by simp⟩ <;> (first | (simp (maxSteps:=5000000) -dsimp only [gr,reduceEqDiff,reduceLT,reduceAdd,reduceMod,Nat.reduceBEq,zaa,zac,zad,zab];first | done | rfl | (simp;done)) | assumption | rfl)) ?_
 intro (k,v) sa ⟨h1a,h2a,r2a,h4a,r4a,h5a,r7a,h6a,hIa⟩
 have hll:(zn9 (xs.take k) w).length ≤ 1000:=by
  unfold zn9
  rw [List.length_map]
  have:=List.length_filter_le (fun x=>zdv .i64 x (w:Int) == (w:Int)) (xs.take k)
  rw [List.length_take] at this
  omega
 simp (maxSteps:=5000000) -dsimp only [↓gp,gq,reduceCtorEq,reduceEqDiff,reduceLT,reduceLeDiff,reduceAdd,reduceMul,reduceSub,Nat.reduceBEq,Int.reduceToNat,Int.reduceLE,Int.reduceLT,Int.reduceNeg,reduceMod,zac,zad,zab,zaa,gT,TK.isInt,TK.agg,Array.toList,h1a,h2a,r2a,h4a,r4a,h5a,r7a,h6a]
 refine ⟨fun h=>⟨h,h,?_⟩,fun h=>?_⟩
 ·have hxk:=zqP hx h
  have hwx:IntKind.i64.wrap (xs.getD k 0 - (w:Int)) = xs.getD k 0 - (w:Int):=zan (by omega) (by omega)
  refine ⟨fun hy=>?_,fun hy=>?_⟩
  ·have e:zn9 (xs.take (k + 1)) w = zn9 (xs.take k) w ++ [xs.getD k 0 - (w:Int)]:=by
    unfold zn9
    rw [zaF 0 h,List.filter_append,List.map_append,List.filter_cons,if_pos hy];rfl
   exact ⟨h,h,by omega,zah ((k + 1,v + 1)) (by refine ⟨?_,?_,?_,?_,?_,?_,?_,?_,by dsimp only;omega⟩ <;> (first | (simp (maxSteps:=5000000) -dsimp only [gr,reduceEqDiff,reduceLT,reduceAdd,reduceMod,Nat.reduceBEq,zaa,zac,zad,zab,h1a,h2a,r2a,h4a,r4a,h5a,r7a,h6a,zae h (by omega),hwx,e];first | done | rfl | (simp;done)) | assumption | rfl)) (by first | omega | (simp only;omega) | (dsimp only;omega) | (show _ < _;simp;omega))⟩
  ·have e:zn9 (xs.take (k + 1)) w = zn9 (xs.take k) w:=by
    unfold zn9
    rw [zaF 0 h,List.filter_append,List.map_append,List.filter_cons,if_neg (by rw [hy];decide)];simp
   exact zah ((k + 1,v)) (by refine ⟨?_,?_,?_,?_,?_,?_,?_,?_,by dsimp only;omega⟩ <;> (first | (simp (maxSteps:=5000000) -dsimp only [gr,reduceEqDiff,reduceLT,reduceAdd,reduceMod,Nat.reduceBEq,zaa,zac,zad,zab,h1a,h2a,r2a,h4a,r4a,h5a,r7a,h6a,zae h (by omega),e];first | done | rfl | (simp;done)) | assumption | rfl)) (by first | omega | (simp only;omega) | (dsimp only;omega) | (show _ < _;simp;omega))
 ·have:k = xs.length:=by omega
  subst this
  rw [hlk]
  refine zag (zb2 n _ ?_) ?_
  ·intro x hx'
   unfold zn9 at hx'
   obtain ⟨y,hy,rfl⟩:=List.mem_map.1 hx'
   obtain ⟨a,b⟩:=List.mem_filter.1 hy
   rw [List.take_length] at a
   have:=hx y a
   rw [beq_iff_eq] at b
   have h2:zdv .i64 y (w:Int) = ((y.toNat &&& w:Nat):Int):=by
    rw [← zbN (by omega) (by omega)];congr 1;omega
   have h3:y.toNat &&& w ≤ y.toNat:=Nat.and_le_left
   omega
  ·simp (maxSteps:=5000000) -dsimp only [↓gp,gq,reduceCtorEq,reduceEqDiff,reduceLT,reduceLeDiff,reduceAdd,reduceMul,reduceSub,Nat.reduceBEq,Int.reduceToNat,Int.reduceLE,Int.reduceLT,Int.reduceNeg,reduceMod,zac,zad,zab,zaa,gT,TK.isInt,TK.agg,Array.toList,h1a,h2a,r2a,h4a,r4a,h5a,r7a,h6a]
theorem ziD (n:Int) (xs:List Int) (p:Int):AC Try.prog 52 [.ag [int n,zbx xs],int p] (.tb 22 3 ((dtR n xs p).map iL)):=by
 refine AC.go (rs:=[.tmp 4]) zbc zax Try.func52 rfl rfl rfl (by kernel_rfl) fun hl=>?_
 simp only [zaZ,zbm,and_true,zbV,zde,zcd,true_and] at hl
 simp (maxSteps:=5000000) -dsimp only [↓gp,gq,reduceCtorEq,reduceEqDiff,reduceLT,reduceLeDiff,reduceAdd,reduceMul,reduceSub,Nat.reduceBEq,Int.reduceToNat,Int.reduceLE,Int.reduceLT,Int.reduceNeg,reduceMod,zac,zad,zab,zaa,gT,TK.isInt,TK.agg,Array.toList]
 refine zag (zih n xs) ?_
 have hdt:=zqW n xs
 simp (maxSteps:=5000000) -dsimp only [↓gp,gq,reduceCtorEq,reduceEqDiff,reduceLT,reduceLeDiff,reduceAdd,reduceMul,reduceSub,Nat.reduceBEq,Int.reduceToNat,Int.reduceLE,Int.reduceLT,Int.reduceNeg,reduceMod,zac,zad,zab,zaa,gT,TK.isInt,TK.agg,Array.toList,hdt]
 refine ⟨fun hh=>zag (zbF p) ?_,fun hh=>?_⟩
 ·have hh:zjc n xs = true:=by simpa using hh
  simp (maxSteps:=5000000) -dsimp only [↓gp,gq,reduceCtorEq,reduceEqDiff,reduceLT,reduceLeDiff,reduceAdd,reduceMul,reduceSub,Nat.reduceBEq,Int.reduceToNat,Int.reduceLE,Int.reduceLT,Int.reduceNeg,reduceMod,zac,zad,zab,zaa,gT,TK.isInt,TK.agg,Array.toList]
  refine ⟨fun hp=>?_,fun hp=>?_⟩
  ·rw [zCW (fun h=>by rw [h.2] at hp;cases hp)]
   exact zei (by simp (maxSteps:=5000000) -dsimp only [gr,reduceEqDiff,reduceLT,reduceAdd,reduceMod,Nat.reduceBEq,zaa,zac,zad,zab]) (by decide)
  ·have hp:isP p = true:=by simpa using hp
   have hcx:=(zcv.1 hh).1
   obtain ⟨h1,h6,_⟩:=zbP.1 hcx
   have hxo:=zhz hcx
   have hxl:=zu4 hcx
   obtain ⟨m,rfl⟩:∃ m:Nat,n = m:=⟨n.toNat,by omega⟩
   have hb:dtR m xs p = dtT (zbq m (zau xs)) p m:=if_pos ⟨hh,hp⟩
   rw [hb]
   have h64:=zaN (m:=m) (by omega)
   have hm1:IntKind.i64.wrap ((m:Int) + 1) = ((m + 1:Nat):Int):=by rw [zan (by omega) (by omega)];rfl
   refine znC (k:=15) (v:=1) (e:=22) (e2:=3) (by simp (maxSteps:=5000000) -dsimp only [gr,reduceEqDiff,reduceLT,reduceAdd,reduceMod,Nat.reduceBEq,zaa,zac,zad,zab]) (fun j=>by simp (maxSteps:=5000000) -dsimp only [gr,reduceEqDiff,reduceLT,reduceAdd,reduceMod,Nat.reduceBEq,zaa,zac,zad,zab]) (fun (i:Nat) s=>s.sl 1 = int p∧s.sl 2 = .ref 2 1 0∧s.rw 2 = ⟨1,.box 27 [int (m:Nat),zbx xs]⟩∧s.sl 5 = .own 15 (i + 1)∧s.sl 6 = int m∧s.sl 7 = int i∧(i ≤ m + 1∧TabG s.rw 15 (i + 1) 22 3 i (List.replicate i (List.replicate (m + 1) 0)))) (fun i=>m + 1 - i) (0) (fun sX htX hslX hoX=>(by refine ⟨?_,?_,?_,?_,?_,?_,⟨by omega,htX⟩⟩ <;> (first | (simp (maxSteps:=5000000) -dsimp only [gr,reduceEqDiff,reduceLT,reduceAdd,reduceMod,Nat.reduceBEq,zaa,zac,zad,zab,hslX,hoX];first | done | rfl | (simp;done)) | assumption | rfl))) ?_
   intro i sa ⟨h1a,h2a,r2a,h5a,h6a,h7a,hIa⟩
   obtain ⟨hi,ht⟩:=hIa
   simp (maxSteps:=5000000) -dsimp only [↓gp,gq,reduceCtorEq,reduceEqDiff,reduceLT,reduceLeDiff,reduceAdd,reduceMul,reduceSub,Nat.reduceBEq,Int.reduceToNat,Int.reduceLE,Int.reduceLT,Int.reduceNeg,reduceMod,zac,zad,zab,zaa,gT,TK.isInt,TK.agg,Array.toList,h1a,h2a,r2a,h5a,h6a,h7a,hm1,Int.toNat_natCast]
   refine ⟨fun h=>⟨by omega,by omega,?_⟩,fun h=>?_⟩
   ·refine zF3 ?_
    simp (maxSteps:=5000000) -dsimp only [↓gp,gq,reduceCtorEq,reduceEqDiff,reduceLT,reduceLeDiff,reduceAdd,reduceMul,reduceSub,Nat.reduceBEq,Int.reduceToNat,Int.reduceLE,Int.reduceLT,Int.reduceNeg,reduceMod,zac,zad,zab,zaa,gT,TK.isInt,TK.agg,Array.toList,h1a,h2a,r2a,h5a,h6a,h7a,ht.top]
    refine ⟨by omega,?_⟩
    exact zkL (k:=15) (v:=i + 1 + 1) (e:=22) (e2:=3) (n:=i) (d:=35) (vd:=(sa.rw 35).ver + 1) (M:=List.replicate i (List.replicate (m + 1) 0)) (r:=List.replicate (m + 1) 0) (by simp (maxSteps:=5000000) -dsimp only [gr,reduceEqDiff,reduceLT,reduceAdd,reduceMod,Nat.reduceBEq,zaa,zac,zad,zab,ht.top]) (by simp) (fun j hj=>by simp (maxSteps:=5000000) -dsimp only [gr,reduceEqDiff,reduceLT,reduceAdd,reduceMod,Nat.reduceBEq,zaa,zac,zad,zab,ht.row j hj]) (fun j hj=>by simp (maxSteps:=5000000) -dsimp only [gr,reduceEqDiff,reduceLT,reduceAdd,reduceMod,Nat.reduceBEq,zaa,zac,zad,zab,ht.rest j hj]) (by simp (maxSteps:=5000000) -dsimp only [gr,reduceEqDiff,reduceLT,reduceAdd,reduceMod,Nat.reduceBEq,zaa,zac,zad,zab,hm1]) (by decide) (by decide) (i + 1) (fun sX htX hslX hoX=>(by refine ⟨?_,?_,?_,?_,?_,?_,⟨by omega,(zq2 i _ ▸ htX:TabG _ _ _ _ _ _ _)⟩⟩ <;> (first | (simp (maxSteps:=5000000) -dsimp only [gr,reduceEqDiff,reduceLT,reduceAdd,reduceMod,Nat.reduceBEq,zaa,zac,zad,zab,hslX,hoX,h1a,h2a,r2a,h5a,h6a,h7a,h1a,h2a,r2a,h5a,h6a,h7a,zae (show i < m + 1 by omega) (by omega)];first | done | rfl | (simp;done)) | assumption | rfl))) (by first | omega | (simp only;omega) | (dsimp only;omega) | (show _ < _;simp;omega))
   ·have:i = m + 1:=by omega
    subst this
    have hS:=ht.done
    have hz:=ziG m
    have hset0:dtP (zbq m (zau xs)) p m 0 = (List.replicate (m + 1) (List.replicate (m + 1) (0:Int))).set 0 (((List.replicate (m + 1) (List.replicate (m + 1) (0:Int))).getD 0 []).set 0 1):=by
     unfold dtP zge
     congr 2
    have hrl0:=hz.row 0 (by omega)
    have hzl:=hz.len
    generalize hZ:List.replicate (m + 1) (List.replicate (m + 1) (0:Int)) = Z at *
    have e0:(List.range (m + 1)).getD 0 0 = 0:=zu5 (by omega)
    have hrow0:=hS.row (i:=0) (by omega)
    rw [e0] at hrow0
    have htop:=hS.top
    simp (maxSteps:=5000000) -dsimp only [↓gp,gq,reduceCtorEq,reduceEqDiff,reduceLT,reduceLeDiff,reduceAdd,reduceMul,reduceSub,Nat.reduceBEq,Int.reduceToNat,Int.reduceLE,Int.reduceLT,Int.reduceNeg,reduceMod,zac,zad,zab,zaa,gT,TK.isInt,TK.agg,Array.toList,h1a,h2a,r2a,h5a,h6a,h7a,htop,zcM,e0,hrow0,hrl0,zaq,List.length_range]
    refine ⟨by omega,by omega,by omega,zag (zn2 m xs hcx) ?_⟩
    simp (maxSteps:=5000000) -dsimp only [↓gp,gq,reduceCtorEq,reduceEqDiff,reduceLT,reduceLeDiff,reduceAdd,reduceMul,reduceSub,Nat.reduceBEq,Int.reduceToNat,Int.reduceLE,Int.reduceLT,Int.reduceNeg,reduceMod,zac,zad,zab,zaa,gT,TK.isInt,TK.agg,Array.toList,h1a,h2a,r2a,h5a,h6a,h7a,htop,zcM,e0,hrow0,hrl0,zaq,List.length_range]
    refine zag (zdL m (zAo m xs)) ?_
    rw [zEk hcx]
    have hLl:=zfe (zbq m (zau xs))
    have hLm:=fun k (hk:k < (zcA (zbq m (zau xs))).length)=>zd5.1 (za0 0 hk)
    have hdt:=zwD (zbq m (zau xs)) p m
    have hstep:∀ k,dtP (zbq m (zau xs)) p m (k + 1) = zm0 (dtP (zbq m (zau xs)) p m k) m (m - zas ((zcA (zbq m (zau xs))).getD k 0)) (zev (zcK (zbq m (zau xs)) ((zcA (zbq m (zau xs))).getD k 0)) p) (zbJ (zcK (zbq m (zau xs)) ((zcA (zbq m (zau xs))).getD k 0))):=fun _=>rfl
    unfold dtT
    generalize hL:zcA (zbq m (zau xs)) = L at *
    simp (maxSteps:=5000000) -dsimp only [↓gp,gq,reduceCtorEq,reduceEqDiff,reduceLT,reduceLeDiff,reduceAdd,reduceMul,reduceSub,Nat.reduceBEq,Int.reduceToNat,Int.reduceLE,Int.reduceLT,Int.reduceNeg,reduceMod,zac,zad,zab,zaa,gT,TK.isInt,TK.agg,Array.toList,h1a,h2a,r2a,h5a,h6a,h7a,htop,zcM,e0,hrow0,hrl0,zaq,List.length_range,zao]
    have hdx:=zz9 hcx
    have hdo:=zhz hdx
    have hdn:=zu4 hdx
    have hhol:=fun (s:Nat) (hs:s < 64)=>zEm hcx hs hp
    generalize zAo m xs = D at *
    refine zar (fun (zb:Nat × Nat × Nat × Nat) s=>match zb with | (k,a,b,c)=>s.sl 1 = int p∧s.sl 2 = .ref 2 1 0∧s.rw 2 = ⟨1,.box 27 [int (m:Nat),zbx xs]⟩∧s.sl 5 = .own 15 (m + 1 + 1)∧s.sl 6 = int m∧s.sl 8 = .ref 8 a 0∧s.rw 8 = ⟨a,.box 27 [int (m:Nat),.own 44 b]⟩∧s.rw 44 = ⟨b,.sli 3 1 false (iL D)⟩∧s.sl 10 = .own 48 c∧s.rw 48 = ⟨c,.sli 3 1 false (iL (ofN L))⟩∧s.sl 11 = int k∧(k ≤ L.length∧TabI s.rw 15 (m + 1 + 1) 22 3 (List.range (m + 1)) (dtP (zbq m (zau xs)) p m k))) (fun (k,a,b,c)=>L.length - k) ((0,(sa.rw 8).ver + 1,(sa.rw 44).ver + 1,(sa.rw 48).ver + 1)) (by refine ⟨?_,?_,?_,?_,?_,?_,?_,?_,?_,?_,?_,⟨Nat.zero_le _,by rw [hset0];exact hS.set (i:=0) (by omega) (by simp (maxSteps:=5000000) -dsimp only [gr,reduceEqDiff,reduceLT,reduceAdd,reduceMod,Nat.reduceBEq,zaa,zac,zad,zab]) (by simp (maxSteps:=5000000) -dsimp only [gr,reduceEqDiff,reduceLT,reduceAdd,reduceMod,Nat.reduceBEq,zaa,zac,zad,zab,e0,htop,hrow0]) (fun x hx=>by simp (maxSteps:=5000000) -dsimp only [gr,reduceEqDiff,reduceLT,reduceAdd,reduceMod,Nat.reduceBEq,zaa,zac,zad,zab,e0 ▸ hx])⟩⟩ <;> (first | (simp (maxSteps:=5000000) -dsimp only [gr,reduceEqDiff,reduceLT,reduceAdd,reduceMod,Nat.reduceBEq,zaa,zac,zad,zab,h1a,h2a,r2a,h5a,h6a,h7a,zao];first | done | rfl | (simp;done)) | assumption | rfl)) ?_
    intro (k,a,b,c) sb ⟨h1b,h2b,r2b,h5b,h6b,h8b,r8b,r44b,h10b,r48b,h11b,hIb⟩
    obtain ⟨hk,hb2⟩:=hIb
    simp (maxSteps:=5000000) -dsimp only [↓gp,gq,reduceCtorEq,reduceEqDiff,reduceLT,reduceLeDiff,reduceAdd,reduceMul,reduceSub,Nat.reduceBEq,Int.reduceToNat,Int.reduceLE,Int.reduceLT,Int.reduceNeg,reduceMod,zac,zad,zab,zaa,gT,TK.isInt,TK.agg,Array.toList,h1b,h2b,r2b,h5b,h6b,h8b,r8b,r44b,h10b,r48b,h11b,zao]
    refine ⟨fun h2=>?_,fun h2=>?_⟩
    ·obtain ⟨hs64,hsd⟩:=hLm k h2
     have hsm2:L.getD k 0 < 2 ^ m:=by
      unfold zbq at hsd
      rw [Bool.and_eq_true,decide_eq_true_iff] at hsd
      exact hsd.1
     have hg:=zaV h2
     have hstepk:=hstep k
     have hsqk:=hdt k
     have hholk:=hhol _ hs64
     generalize hs0:L.getD k 0 = s0 at *
     have hpn:=zgh (n:=m) (by omega) hsm2
     simp (maxSteps:=5000000) -dsimp only [↓gp,gq,reduceCtorEq,reduceEqDiff,reduceLT,reduceLeDiff,reduceAdd,reduceMul,reduceSub,Nat.reduceBEq,Int.reduceToNat,Int.reduceLE,Int.reduceLT,Int.reduceNeg,reduceMod,zac,zad,zab,zaa,gT,TK.isInt,TK.agg,Array.toList,h1b,h2b,r2b,h5b,h6b,h8b,r8b,r44b,h10b,r48b,h11b,zao,hg]
     refine ⟨h2,h2,zag (zaK s0 (by omega)) ?_⟩
     have hw0:IntKind.i64.wrap ((m:Int) - (zas s0:Int)) = ((m - zas s0:Nat):Int):=by rw [zan (by omega) (by omega)];omega
     simp (maxSteps:=5000000) -dsimp only [↓gp,gq,reduceCtorEq,reduceEqDiff,reduceLT,reduceLeDiff,reduceAdd,reduceMul,reduceSub,Nat.reduceBEq,Int.reduceToNat,Int.reduceLE,Int.reduceLT,Int.reduceNeg,reduceMod,zac,zad,zab,zaa,gT,TK.isInt,TK.agg,Array.toList,h1b,h2b,r2b,h5b,h6b,h8b,r8b,r44b,h10b,r48b,h11b,zao,hg,hw0]
     refine ⟨by kernel_rfl,h2,h2,zag (zn3 _ D s0 hs64 hdo (by omega)) ?_⟩
     simp (maxSteps:=5000000) -dsimp only [↓gp,gq,reduceCtorEq,reduceEqDiff,reduceLT,reduceLeDiff,reduceAdd,reduceMul,reduceSub,Nat.reduceBEq,Int.reduceToNat,Int.reduceLE,Int.reduceLT,Int.reduceNeg,reduceMod,zac,zad,zab,zaa,gT,TK.isInt,TK.agg,Array.toList,h1b,h2b,r2b,h5b,h6b,h8b,r8b,r44b,h10b,r48b,h11b,zao,hg,hw0]
     refine zag (ze5 _ _ p) ?_
     rw [hholk]
     have hsm:=zdP (zcK (zbq m (zau xs)) s0) p
     have hdl:=zda (zcK (zbq m (zau xs)) s0)
     have hhl:=za9 (zcK (zbq m (zau xs)) s0) p
     generalize hhs:zev (zcK (zbq m (zau xs)) s0) p = hs at *
     generalize hjj:m - zas s0 = jj at *
     generalize dtP (zbq m (zau xs)) p m k = M0 at *
     have hsq:=fun i=>zrf (m:=m) (j:=jj) hsqk hsm i
     simp (maxSteps:=5000000) -dsimp only [↓gp,gq,reduceCtorEq,reduceEqDiff,reduceLT,reduceLeDiff,reduceAdd,reduceMul,reduceSub,Nat.reduceBEq,Int.reduceToNat,Int.reduceLE,Int.reduceLT,Int.reduceNeg,reduceMod,zac,zad,zab,zaa,gT,TK.isInt,TK.agg,Array.toList,h1b,h2b,r2b,h5b,h6b,h8b,r8b,r44b,h10b,r48b,h11b,zao,hg,hw0]
     refine ⟨by kernel_rfl,?_⟩
     refine zar (fun (zc:Nat × Nat) s=>match zc with | (i,u)=>s.sl 1 = int p∧s.sl 2 = .ref 2 1 0∧s.rw 2 = ⟨1,.box 27 [int (m:Nat),zbx xs]⟩∧s.sl 5 = .own 15 (m + 1 + 1)∧s.sl 6 = int m∧s.sl 8 = .ref 8 a 0∧s.rw 8 = ⟨a,.box 27 [int (m:Nat),.own 44 b]⟩∧s.rw 44 = ⟨b,.sli 3 1 false (iL D)⟩∧s.sl 10 = .own 48 c∧s.rw 48 = ⟨c,.sli 3 1 false (iL (ofN L))⟩∧s.sl 11 = int k∧s.sl 12 = int jj∧s.sl 13 = .own 69 u∧s.rw 69 = ⟨u,.sli 3 1 false (iL hs)⟩∧s.sl 14 = int (i + 1:Nat)∧(i ≤ hs.length∧TabI s.rw 15 (m + 1 + 1) 22 3 (List.range (m + 1)) (zm0 M0 m jj hs i))) (fun (i,u)=>hs.length - i) ((0,(sb.rw 69).ver + 1)) (by refine ⟨?_,?_,?_,?_,?_,?_,?_,?_,?_,?_,?_,?_,?_,?_,?_,⟨by omega,hb2.same (by simp (maxSteps:=5000000) -dsimp only [gr,reduceEqDiff,reduceLT,reduceAdd,reduceMod,Nat.reduceBEq,zaa,zac,zad,zab]) (fun x=>by simp (maxSteps:=5000000) -dsimp only [gr,reduceEqDiff,reduceLT,reduceAdd,reduceMod,Nat.reduceBEq,zaa,zac,zad,zab])⟩⟩ <;> (first | (simp (maxSteps:=5000000) -dsimp only [gr,reduceEqDiff,reduceLT,reduceAdd,reduceMod,Nat.reduceBEq,zaa,zac,zad,zab,h1b,h2b,r2b,h5b,h6b,h8b,r8b,r44b,h10b,r48b,h11b];first | done | rfl | (simp;done)) | assumption | rfl)) ?_
     intro (i,u) sc ⟨h1c,h2c,r2c,h5c,h6c,h8c,r8c,r44c,h10c,r48c,h11c,h12c,h13c,r69c,h14c,hIc⟩
     obtain ⟨hi,hb3⟩:=hIc
     have hend:(i = hs.length ∨ m ≤ i)→zm0 M0 m jj hs i = dtP (zbq m (zau xs)) p m (k + 1):=fun h=>by
      rw [hstepk,← hhl]
      rcases h with h | h
      ·rw [h]
      ·have:=zwC (M:=M0) (j:=jj) (hs:=hs) h (hs.length - i)
       rw [show i + (hs.length - i) = hs.length by omega] at this
       exact this.symm
     by_cases h3:i < hs.length
     ·have hwi:IntKind.i64.wrap ((i + 1:Nat):Int) = ((i + 1:Nat):Int):=zan (by omega) (by omega)
      have hwj:IntKind.i64.wrap (((i + 1:Nat):Int) - 1) = (i:Int):=by rw [zan (by omega) (by omega)];omega
      by_cases h4:i + 1 ≤ m
      ·have hsq:=hsq i
       have hs1:=hsq.small (i + 1) jj
       have hs2:=hsm i
       have hml:=hsq.len
       have hrl:=hsq.row (i + 1) (by omega)
       have hadd:zm0 M0 m jj hs (i + 1) = zge (zm0 M0 m jj hs i) (i + 1) jj (hs.getD i 0):=by rw [zm0,if_pos h4]
       generalize zm0 M0 m jj hs i = M at *
       have e1:(List.range (m + 1)).getD (i + 1) 0 = i + 1:=zu5 (by omega)
       have hrow:=hb3.row (i:=i + 1) (by omega)
       rw [e1] at hrow
       have hw2:IntKind.i64.wrap ((M.getD (i + 1) []).getD jj 0 + hs.getD i 0) = (M.getD (i + 1) []).getD jj 0 + hs.getD i 0:=zan (by omega) (by omega)
       simp (maxSteps:=5000000) -dsimp only [↓gp,gq,reduceCtorEq,reduceEqDiff,reduceLT,reduceLeDiff,reduceAdd,reduceMul,reduceSub,Nat.reduceBEq,Int.reduceToNat,Int.reduceLE,Int.reduceLT,Int.reduceNeg,reduceMod,zac,zad,zab,zaa,gT,TK.isInt,TK.agg,Array.toList,h1c,h2c,r2c,h5c,h6c,h8c,r8c,r44c,h10c,r48c,h11c,h12c,h13c,r69c,h14c,hwj,hb3.top,zcM,e1,hrow,hrl,zaq,List.length_range,hw2]
       refine ⟨fun _=>⟨fun _=>⟨by kernel_rfl,by omega,by omega,by omega,by omega,by omega,by omega,h3,h3,by omega,by omega,by kernel_rfl,?_⟩,fun h=>absurd h4 h⟩,fun h=>absurd (show i + 1 ≤ hs.length by omega) h⟩
       exact zah ((i + 1,u)) (by refine ⟨?_,?_,?_,?_,?_,?_,?_,?_,?_,?_,?_,?_,?_,?_,?_,⟨by dsimp only;omega,by
        dsimp only
        rw [hadd]
        exact hb3.set (i:=i + 1) (by omega) (by simp (maxSteps:=5000000) -dsimp only [gr,reduceEqDiff,reduceLT,reduceAdd,reduceMod,Nat.reduceBEq,zaa,zac,zad,zab]) (by simp (maxSteps:=5000000) -dsimp only [gr,reduceEqDiff,reduceLT,reduceAdd,reduceMod,Nat.reduceBEq,zaa,zac,zad,zab,e1,h1c,h2c,r2c,h5c,h6c,h8c,r8c,r44c,h10c,r48c,h11c,h12c,h13c,r69c,h14c,hb3.top,hrow]) (fun x hx=>by simp (maxSteps:=5000000) -dsimp only [gr,reduceEqDiff,reduceLT,reduceAdd,reduceMod,Nat.reduceBEq,zaa,zac,zad,zab,e1 ▸ hx])⟩⟩ <;> (first | (simp (maxSteps:=5000000) -dsimp only [gr,reduceEqDiff,reduceLT,reduceAdd,reduceMod,Nat.reduceBEq,zaa,zac,zad,zab,h1c,h2c,r2c,h5c,h6c,h8c,r8c,r44c,h10c,r48c,h11c,h12c,h13c,r69c,h14c,zae (show i + 1 < m + 1 by omega) (by omega)];first | done | rfl | (simp;done)) | assumption | rfl)) (by first | omega | (simp only;omega) | (dsimp only;omega) | (show _ < _;simp;omega))
      ·have e:=hend (.inr (by omega))
       rw [e] at hb3
       simp (maxSteps:=5000000) -dsimp only [↓gp,gq,reduceCtorEq,reduceEqDiff,reduceLT,reduceLeDiff,reduceAdd,reduceMul,reduceSub,Nat.reduceBEq,Int.reduceToNat,Int.reduceLE,Int.reduceLT,Int.reduceNeg,reduceMod,zac,zad,zab,zaa,gT,TK.isInt,TK.agg,Array.toList,h1c,h2c,r2c,h5c,h6c,h8c,r8c,r44c,h10c,r48c,h11c,h12c,h13c,r69c,h14c]
       refine ⟨fun _=>⟨fun h=>absurd h h4,fun _=>?_⟩,fun h=>absurd (show i + 1 ≤ hs.length by omega) h⟩
       exact zah ((k + 1,a,b,c)) (by refine ⟨?_,?_,?_,?_,?_,?_,?_,?_,?_,?_,?_,⟨by dsimp only;omega,hb3.same (by simp (maxSteps:=5000000) -dsimp only [gr,reduceEqDiff,reduceLT,reduceAdd,reduceMod,Nat.reduceBEq,zaa,zac,zad,zab]) (fun x=>by simp (maxSteps:=5000000) -dsimp only [gr,reduceEqDiff,reduceLT,reduceAdd,reduceMod,Nat.reduceBEq,zaa,zac,zad,zab])⟩⟩ <;> (first | (simp (maxSteps:=5000000) -dsimp only [gr,reduceEqDiff,reduceLT,reduceAdd,reduceMod,Nat.reduceBEq,zaa,zac,zad,zab,h1b,h2b,r2b,h5b,h6b,h8b,r8b,r44b,h10b,r48b,h11b,h1c,h2c,r2c,h5c,h6c,h8c,r8c,r44c,h10c,r48c,h11c,h12c,h13c,r69c,h14c,zae h2 (by omega)];first | done | rfl | (simp;done)) | assumption | rfl)) (by first | omega | (simp only;omega) | (dsimp only;omega) | (show _ < _;simp;omega))
     ·have e:=hend (.inl (by omega))
      rw [e] at hb3
      simp (maxSteps:=5000000) -dsimp only [↓gp,gq,reduceCtorEq,reduceEqDiff,reduceLT,reduceLeDiff,reduceAdd,reduceMul,reduceSub,Nat.reduceBEq,Int.reduceToNat,Int.reduceLE,Int.reduceLT,Int.reduceNeg,reduceMod,zac,zad,zab,zaa,gT,TK.isInt,TK.agg,Array.toList,h1c,h2c,r2c,h5c,h6c,h8c,r8c,r44c,h10c,r48c,h11c,h12c,h13c,r69c,h14c]
      refine ⟨fun h=>absurd (show i + 1 ≤ hs.length from h) (by omega),fun _=>?_⟩
      exact zah ((k + 1,a,b,c)) (by refine ⟨?_,?_,?_,?_,?_,?_,?_,?_,?_,?_,?_,⟨by dsimp only;omega,hb3.same (by simp (maxSteps:=5000000) -dsimp only [gr,reduceEqDiff,reduceLT,reduceAdd,reduceMod,Nat.reduceBEq,zaa,zac,zad,zab]) (fun x=>by simp (maxSteps:=5000000) -dsimp only [gr,reduceEqDiff,reduceLT,reduceAdd,reduceMod,Nat.reduceBEq,zaa,zac,zad,zab])⟩⟩ <;> (first | (simp (maxSteps:=5000000) -dsimp only [gr,reduceEqDiff,reduceLT,reduceAdd,reduceMod,Nat.reduceBEq,zaa,zac,zad,zab,h1b,h2b,r2b,h5b,h6b,h8b,r8b,r44b,h10b,r48b,h11b,h1c,h2c,r2c,h5c,h6c,h8c,r8c,r44c,h10c,r48c,h11c,h12c,h13c,r69c,h14c,zae h2 (by omega)];first | done | rfl | (simp;done)) | assumption | rfl)) (by first | omega | (simp only;omega) | (dsimp only;omega) | (show _ < _;simp;omega))
    ·have:k = L.length:=by omega
     subst this
     exact zeY hb2 (by decide) (fun j hj=>by have:=List.mem_range.1 hj;omega)
 ·have hh:zjc n xs = false:=by simpa using hh
  rw [zCW (fun h=>by rw [h.1] at hh;cases hh)]
  exact zei (by simp (maxSteps:=5000000) -dsimp only [gr,reduceEqDiff,reduceLT,reduceAdd,reduceMod,Nat.reduceBEq,zaa,zac,zad,zab]) (by decide)
theorem zdN (n:Int) (xs:List Int) (p:Int):SqB (zdG n xs p):=by
 unfold zdG
 split
 ·rename_i h
  obtain ⟨h1,h6,_⟩:=zbP.1 (zcv.1 h.1).1
  exact .of (zjj _ p (n:=n.toNat) (by omega)) (by omega)
 ·exact .nil
theorem zn4 (M:Mat):(M.map iL).map (fun r=>PV.sl false 1 r) = iLL M:=by unfold iLL;rw [List.map_map];rfl
theorem za1 (n:Int) (xs:List Int) (p:Int):AC Try.prog 41 [.ag [int n,zbx xs],int p] (.fr 22 1 (iLL (zdG n xs p))):=zn4 (zdG n xs p) ▸ (zhF n xs p).flat
theorem za2 (n:Int) (xs:List Int) (p:Int):AC Try.prog 37 [.ag [int n,zbx xs],int p] (.fr 22 1 (iLL (zdG n xs p))):=zn4 (zdG n xs p) ▸ (zhE n xs p).flat
noncomputable def zBF (n:Int) (xs:List Int) (p i j:Int):Int:=if 0 ≤ i∧i < ((zdG n xs p).length:Int)∧0 ≤ j∧j < ((zdG n xs p).length:Int) then ((zdG n xs p).getD i.toNat []).getD j.toNat 0 else 0
theorem zlt (n:Int) (xs:List Int) (p i j:Int):AC Try.prog 43 [.ag [int n,zbx xs],int p,int i,int j] (.im (int (zBF n xs p i j))):=by
 refine AC.go (rs:=[.tmp 8]) zbc zax Try.func43 rfl rfl rfl (by kernel_rfl) fun hl=>?_
 simp (maxSteps:=5000000) -dsimp only [↓gp,gq,reduceCtorEq,reduceEqDiff,reduceLT,reduceLeDiff,reduceAdd,reduceMul,reduceSub,Nat.reduceBEq,Int.reduceToNat,Int.reduceLE,Int.reduceLT,Int.reduceNeg,reduceMod,zac,zad,zab,zaa,gT,TK.isInt,TK.agg,Array.toList]
 refine zag (za1 n xs p) ?_
 have hsq:=zdN n xs p
 unfold zBF
 generalize zdG n xs p = M at *
 have hl7:=hsq.len
 have hw:IntKind.i64.wrap ((M.length:Int) - 1) = (M.length:Int) - 1:=zan (by omega) (by omega)
 simp (maxSteps:=5000000) -dsimp only [↓gp,gq,reduceCtorEq,reduceEqDiff,reduceLT,reduceLeDiff,reduceAdd,reduceMul,reduceSub,Nat.reduceBEq,Int.reduceToNat,Int.reduceLE,Int.reduceLT,Int.reduceNeg,reduceMod,zac,zad,zab,zaa,gT,TK.isInt,TK.agg,Array.toList,hw]
 refine zag (zbo _ _ _) ?_
 simp (maxSteps:=5000000) -dsimp only [↓gp,gq,reduceCtorEq,reduceEqDiff,reduceLT,reduceLeDiff,reduceAdd,reduceMul,reduceSub,Nat.reduceBEq,Int.reduceToNat,Int.reduceLE,Int.reduceLT,Int.reduceNeg,reduceMod,zac,zad,zab,zaa,gT,TK.isInt,TK.agg,Array.toList,hw]
 refine ⟨fun h1=>zag (zbo _ _ _) ?_,fun h1=>?_⟩
 ·simp only [Bool.not_eq_false',Bool.and_eq_true,decide_eq_true_iff] at h1
  simp (maxSteps:=5000000) -dsimp only [↓gp,gq,reduceCtorEq,reduceEqDiff,reduceLT,reduceLeDiff,reduceAdd,reduceMul,reduceSub,Nat.reduceBEq,Int.reduceToNat,Int.reduceLE,Int.reduceLT,Int.reduceNeg,reduceMod,zac,zad,zab,zaa,gT,TK.isInt,TK.agg,Array.toList,hw]
  refine ⟨fun h2=>?_,fun h2=>?_⟩
  ·simp only [Bool.not_eq_true',Bool.and_eq_false_iff,decide_eq_false_iff_not] at h2
   exact if_neg (by omega)
  ·simp only [Bool.not_eq_false',Bool.and_eq_true,decide_eq_true_iff] at h2
   have hr:=hsq.row i.toNat (by omega)
   exact ⟨by omega,by omega,by omega,by omega,by omega,by omega,if_pos (by omega)⟩
 ·simp only [Bool.not_eq_true',Bool.and_eq_false_iff,decide_eq_false_iff_not] at h1
  exact if_neg (by omega)
theorem zlu (n:Int) (xs:List Int) (p i j:Int):AC Try.prog 42 [.ag [int n,zbx xs],int p,int i,int j] (.im (int (zBF n xs p i j))):=by
 refine AC.go (rs:=[.tmp 8]) zbc zax Try.func42 rfl rfl rfl (by kernel_rfl) fun hl=>?_
 simp (maxSteps:=5000000) -dsimp only [↓gp,gq,reduceCtorEq,reduceEqDiff,reduceLT,reduceLeDiff,reduceAdd,reduceMul,reduceSub,Nat.reduceBEq,Int.reduceToNat,Int.reduceLE,Int.reduceLT,Int.reduceNeg,reduceMod,zac,zad,zab,zaa,gT,TK.isInt,TK.agg,Array.toList]
 refine zag (za2 n xs p) ?_
 have hsq:=zdN n xs p
 unfold zBF
 generalize zdG n xs p = M at *
 have hl7:=hsq.len
 simp (maxSteps:=5000000) -dsimp only [↓gp,gq,reduceCtorEq,reduceEqDiff,reduceLT,reduceLeDiff,reduceAdd,reduceMul,reduceSub,Nat.reduceBEq,Int.reduceToNat,Int.reduceLE,Int.reduceLT,Int.reduceNeg,reduceMod,zac,zad,zab,zaa,gT,TK.isInt,TK.agg,Array.toList]
 refine ⟨fun a=>⟨fun b=>⟨fun c=>⟨fun d=>if_neg (by omega),fun d=>?_⟩,fun c=>if_neg (by omega)⟩,fun b=>if_neg (by omega)⟩,fun a=>if_neg (by omega)⟩
 have hr:=hsq.row i.toNat (by omega)
 exact ⟨by omega,by omega,by omega,by omega,by omega,by omega,if_pos (by omega)⟩
noncomputable def zHt (n:Int) (xs:List Int) (p:Int):Int:=zis (zdG n xs p) (zdG n xs p).length
noncomputable def zu6 (n:Int) (xs:List Int) (p:Int):Int:=zit (zdG n xs p) (zdG n xs p).length
theorem zf6 (n:Int) (xs:List Int) (p:Int):AC Try.prog 47 [.ag [int n,zbx xs],int p] (.im (int (zHt n xs p))):=by
 refine AC.go (rs:=[.tmp 4]) zbc zax Try.func47 rfl rfl rfl (by kernel_rfl) fun hl=>?_
 simp (maxSteps:=5000000) -dsimp only [↓gp,gq,reduceCtorEq,reduceEqDiff,reduceLT,reduceLeDiff,reduceAdd,reduceMul,reduceSub,Nat.reduceBEq,Int.reduceToNat,Int.reduceLE,Int.reduceLT,Int.reduceNeg,reduceMod,zac,zad,zab,zaa,gT,TK.isInt,TK.agg,Array.toList]
 refine zag (za1 n xs p) ?_
 have hsq:=zdN n xs p
 unfold zHt
 generalize zdG n xs p = M at *
 have hl7:=hsq.len
 simp (maxSteps:=5000000) -dsimp only [↓gp,gq,reduceCtorEq,reduceEqDiff,reduceLT,reduceLeDiff,reduceAdd,reduceMul,reduceSub,Nat.reduceBEq,Int.reduceToNat,Int.reduceLE,Int.reduceLT,Int.reduceNeg,reduceMod,zac,zad,zab,zaa,gT,TK.isInt,TK.agg,Array.toList]
 refine zar (fun (i:Nat) s=>s.sl 5 = int (zis M i)∧s.sl 6 = .own 11 1∧s.rw 11 = ⟨1,.sli 22 1 false (iLL M)⟩∧s.sl 7 = int i∧(i ≤ M.length)) (fun i=>M.length - i) (0) (by refine ⟨?_,?_,?_,?_,by omega⟩ <;> (first | (simp (maxSteps:=5000000) -dsimp only [gr,reduceEqDiff,reduceLT,reduceAdd,reduceMod,Nat.reduceBEq,zaa,zac,zad,zab,zis];first | done | rfl | (simp;done)) | assumption | rfl)) ?_
 intro i sa ⟨h5a,h6a,r11a,h7a,hIa⟩
 have hge:=zD5 M i
 have hle:=zD6 hsq i
 simp (maxSteps:=5000000) -dsimp only [↓gp,gq,reduceCtorEq,reduceEqDiff,reduceLT,reduceLeDiff,reduceAdd,reduceMul,reduceSub,Nat.reduceBEq,Int.reduceToNat,Int.reduceLE,Int.reduceLT,Int.reduceNeg,reduceMod,zac,zad,zab,zaa,gT,TK.isInt,TK.agg,Array.toList,h5a,h6a,r11a,h7a]
 refine ⟨fun h=>?_,fun h=>?_⟩
 ·have hr:=hsq.row i h
  have hlow:=zBl (M.getD i []) hge i (Nat.le_refl _)
  refine zar (fun (j:Nat) s=>s.sl 5 = int (zia i (M.getD i []) (zis M i) j)∧s.sl 6 = .own 11 1∧s.rw 11 = ⟨1,.sli 22 1 false (iLL M)⟩∧s.sl 7 = int i∧s.sl 8 = int j∧(i ≤ j∧j ≤ M.length)) (fun j=>M.length - j) (i) (by refine ⟨?_,?_,?_,?_,?_,by omega⟩ <;> (first | (simp (maxSteps:=5000000) -dsimp only [gr,reduceEqDiff,reduceLT,reduceAdd,reduceMod,Nat.reduceBEq,zaa,zac,zad,zab,h5a,h6a,r11a,h7a,hlow];first | done | rfl | (simp;done)) | assumption | rfl)) ?_
  intro j sb ⟨h5b,h6b,r11b,h7b,h8b,hIb⟩
  simp (maxSteps:=5000000) -dsimp only [↓gp,gq,reduceCtorEq,reduceEqDiff,reduceLT,reduceLeDiff,reduceAdd,reduceMul,reduceSub,Nat.reduceBEq,Int.reduceToNat,Int.reduceLE,Int.reduceLT,Int.reduceNeg,reduceMod,zac,zad,zab,zaa,gT,TK.isInt,TK.agg,Array.toList,h5b,h6b,r11b,h7b,h8b]
  refine ⟨fun h2=>?_,fun h2=>?_⟩
  ·have hw:IntKind.i64.wrap ((j:Int) - (i:Int)) = (j:Int) - i:=zan (by omega) (by omega)
   simp (maxSteps:=5000000) -dsimp only [↓gp,gq,reduceCtorEq,reduceEqDiff,reduceLT,reduceLeDiff,reduceAdd,reduceMul,reduceSub,Nat.reduceBEq,Int.reduceToNat,Int.reduceLE,Int.reduceLT,Int.reduceNeg,reduceMod,zac,zad,zab,zaa,gT,TK.isInt,TK.agg,Array.toList,h5b,h6b,r11b,h7b,h8b,hr,hw]
   refine ⟨h,h,h2,h2,fun h0=>zag (zqO _ _) ?_,fun h0=>?_⟩
   ·have e:zia i (M.getD i []) (zis M i) (j + 1) = max (zia i (M.getD i []) (zis M i) j) ((j:Int) - i):=by rw [zia,if_neg (by simpa using h0)]
    simp (maxSteps:=5000000) -dsimp only [↓gp,gq,reduceCtorEq,reduceEqDiff,reduceLT,reduceLeDiff,reduceAdd,reduceMul,reduceSub,Nat.reduceBEq,Int.reduceToNat,Int.reduceLE,Int.reduceLT,Int.reduceNeg,reduceMod,zac,zad,zab,zaa,gT,TK.isInt,TK.agg,Array.toList,h5b,h6b,r11b,h7b,h8b,hr,hw]
    exact zah (j + 1) (by refine ⟨?_,?_,?_,?_,?_,by omega⟩ <;> (first | (simp (maxSteps:=5000000) -dsimp only [gr,reduceEqDiff,reduceLT,reduceAdd,reduceMod,Nat.reduceBEq,zaa,zac,zad,zab,h5b,h6b,r11b,h7b,h8b,zae h2 (by omega),e];first | done | rfl | (simp;done)) | assumption | rfl)) (by first | omega | (simp only;omega) | (dsimp only;omega) | (show _ < _;simp;omega))
   ·have e:zia i (M.getD i []) (zis M i) (j + 1) = zia i (M.getD i []) (zis M i) j:=by rw [zia,if_pos (by simpa using h0)]
    exact zah (j + 1) (by refine ⟨?_,?_,?_,?_,?_,by omega⟩ <;> (first | (simp (maxSteps:=5000000) -dsimp only [gr,reduceEqDiff,reduceLT,reduceAdd,reduceMod,Nat.reduceBEq,zaa,zac,zad,zab,h5b,h6b,r11b,h7b,h8b,zae h2 (by omega),e];first | done | rfl | (simp;done)) | assumption | rfl)) (by first | omega | (simp only;omega) | (dsimp only;omega) | (show _ < _;simp;omega))
  ·have:j = (M.getD i []).length:=by omega
   subst this
   exact zah (i + 1) (by refine ⟨?_,?_,?_,?_,by omega⟩ <;> (first | (simp (maxSteps:=5000000) -dsimp only [gr,reduceEqDiff,reduceLT,reduceAdd,reduceMod,Nat.reduceBEq,zaa,zac,zad,zab,h5a,h6a,r11a,h7a,h5b,h6b,r11b,h7b,h8b,zae h (by omega),zis];first | done | rfl | (simp;done)) | assumption | rfl)) (by first | omega | (simp only;omega) | (dsimp only;omega) | (show _ < _;simp;omega))
 ·have:i = M.length:=by omega
  rw [this]
theorem zf7 (n:Int) (xs:List Int) (p:Int):AC Try.prog 46 [.ag [int n,zbx xs],int p] (.im (int (zHt n xs p))):=by
 refine AC.go (rs:=[.tmp 4]) zbc zax Try.func46 rfl rfl rfl (by kernel_rfl) fun hl=>?_
 simp (maxSteps:=5000000) -dsimp only [↓gp,gq,reduceCtorEq,reduceEqDiff,reduceLT,reduceLeDiff,reduceAdd,reduceMul,reduceSub,Nat.reduceBEq,Int.reduceToNat,Int.reduceLE,Int.reduceLT,Int.reduceNeg,reduceMod,zac,zad,zab,zaa,gT,TK.isInt,TK.agg,Array.toList]
 refine zag (za2 n xs p) ?_
 have hsq:=zdN n xs p
 unfold zHt
 generalize zdG n xs p = M at *
 have hl7:=hsq.len
 simp (maxSteps:=5000000) -dsimp only [↓gp,gq,reduceCtorEq,reduceEqDiff,reduceLT,reduceLeDiff,reduceAdd,reduceMul,reduceSub,Nat.reduceBEq,Int.reduceToNat,Int.reduceLE,Int.reduceLT,Int.reduceNeg,reduceMod,zac,zad,zab,zaa,gT,TK.isInt,TK.agg,Array.toList]
 refine zar (fun (i:Nat) s=>s.sl 5 = int (zis M i)∧s.sl 12 = .own 12 1∧s.rw 12 = ⟨1,.sli 22 1 false (iLL M)⟩∧s.sl 13 = int M.length∧s.sl 14 = int i∧(i ≤ M.length)) (fun i=>M.length - i) (0) (by refine ⟨?_,?_,?_,?_,?_,by omega⟩ <;> (first | (simp (maxSteps:=5000000) -dsimp only [gr,reduceEqDiff,reduceLT,reduceAdd,reduceMod,Nat.reduceBEq,zaa,zac,zad,zab,zis];first | done | rfl | (simp;done)) | assumption | rfl)) ?_
 intro i sa ⟨h5a,h12a,r12a,h13a,h14a,hIa⟩
 simp (maxSteps:=5000000) -dsimp only [↓gp,gq,reduceCtorEq,reduceEqDiff,reduceLT,reduceLeDiff,reduceAdd,reduceMul,reduceSub,Nat.reduceBEq,Int.reduceToNat,Int.reduceLE,Int.reduceLT,Int.reduceNeg,reduceMod,zac,zad,zab,zaa,gT,TK.isInt,TK.agg,Array.toList,h5a,h12a,r12a,h13a,h14a]
 refine ⟨fun h=>⟨h,h,?_⟩,fun h=>?_⟩
 ·have hr:=hsq.row i h
  refine zar (fun (j:Nat) s=>s.sl 5 = int (zia i (M.getD i []) (zis M i) j)∧s.sl 6 = int i∧s.sl 12 = .own 12 1∧s.rw 12 = ⟨1,.sli 22 1 false (iLL M)⟩∧s.sl 13 = int M.length∧s.sl 14 = int i∧s.sl 19 = .sl true 1 (iL (M.getD i []))∧s.sl 20 = int M.length∧s.sl 21 = int j∧(j ≤ M.length)) (fun j=>M.length - j) (0) (by refine ⟨?_,?_,?_,?_,?_,?_,?_,?_,?_,by omega⟩ <;> (first | (simp (maxSteps:=5000000) -dsimp only [gr,reduceEqDiff,reduceLT,reduceAdd,reduceMod,Nat.reduceBEq,zaa,zac,zad,zab,h5a,h12a,r12a,h13a,h14a,hr,zia];first | done | rfl | (simp;done)) | assumption | rfl)) ?_
  intro j sb ⟨h5b,h6b,h12b,r12b,h13b,h14b,h19b,h20b,h21b,hIb⟩
  simp (maxSteps:=5000000) -dsimp only [↓gp,gq,reduceCtorEq,reduceEqDiff,reduceLT,reduceLeDiff,reduceAdd,reduceMul,reduceSub,Nat.reduceBEq,Int.reduceToNat,Int.reduceLE,Int.reduceLT,Int.reduceNeg,reduceMod,zac,zad,zab,zaa,gT,TK.isInt,TK.agg,Array.toList,h5b,h6b,h12b,r12b,h13b,h14b,h19b,h20b,h21b,hr]
  refine ⟨fun h2=>⟨h2,h2,?_⟩,fun h2=>?_⟩
  ·have hw:IntKind.i64.wrap ((j:Int) - (i:Int)) = (j:Int) - i:=zan (by omega) (by omega)
   simp (maxSteps:=5000000) -dsimp only [↓gp,gq,reduceCtorEq,reduceEqDiff,reduceLT,reduceLeDiff,reduceAdd,reduceMul,reduceSub,Nat.reduceBEq,Int.reduceToNat,Int.reduceLE,Int.reduceLT,Int.reduceNeg,reduceMod,zac,zad,zab,zaa,gT,TK.isInt,TK.agg,Array.toList,h5b,h6b,h12b,r12b,h13b,h14b,h19b,h20b,h21b,hr,hw]
   refine ⟨fun h0=>?_,fun h0=>?_⟩
   ·have e:zia i (M.getD i []) (zis M i) (j + 1) = if (j:Int) - i > zia i (M.getD i []) (zis M i) j then (j:Int) - i else zia i (M.getD i []) (zis M i) j:=by
     rw [zia,if_neg (by simpa using h0)]
     split <;> omega
    exact zah (j + 1) (by refine ⟨?_,?_,?_,?_,?_,?_,?_,?_,?_,by omega⟩ <;> (first | (simp (maxSteps:=5000000) -dsimp only [gr,reduceEqDiff,reduceLT,reduceAdd,reduceMod,Nat.reduceBEq,zaa,zac,zad,zab,h5b,h6b,h12b,r12b,h13b,h14b,h19b,h20b,h21b,zae h2 (by omega),e];first | done | rfl | (simp;done)) | assumption | rfl)) (by first | omega | (simp only;omega) | (dsimp only;omega) | (show _ < _;simp;omega))
   ·have e:zia i (M.getD i []) (zis M i) (j + 1) = zia i (M.getD i []) (zis M i) j:=by rw [zia,if_pos (by simpa using h0)]
    exact zah (j + 1) (by refine ⟨?_,?_,?_,?_,?_,?_,?_,?_,?_,by omega⟩ <;> (first | (simp (maxSteps:=5000000) -dsimp only [gr,reduceEqDiff,reduceLT,reduceAdd,reduceMod,Nat.reduceBEq,zaa,zac,zad,zab,h5b,h6b,h12b,r12b,h13b,h14b,h19b,h20b,h21b,zae h2 (by omega),e];first | done | rfl | (simp;done)) | assumption | rfl)) (by first | omega | (simp only;omega) | (dsimp only;omega) | (show _ < _;simp;omega))
  ·have:j = (M.getD i []).length:=by omega
   subst this
   exact zah (i + 1) (by refine ⟨?_,?_,?_,?_,?_,by omega⟩ <;> (first | (simp (maxSteps:=5000000) -dsimp only [gr,reduceEqDiff,reduceLT,reduceAdd,reduceMod,Nat.reduceBEq,zaa,zac,zad,zab,h5a,h12a,r12a,h13a,h14a,h5b,h6b,h12b,r12b,h13b,h14b,h19b,h20b,h21b,zae h (by omega),zis];first | done | rfl | (simp;done)) | assumption | rfl)) (by first | omega | (simp only;omega) | (dsimp only;omega) | (show _ < _;simp;omega))
 ·have:i = M.length:=by omega
  rw [this]
theorem ze8 (n:Int) (xs:List Int) (p:Int):AC Try.prog 49 [.ag [int n,zbx xs],int p] (.im (int (zu6 n xs p))):=by
 refine AC.go (rs:=[.tmp 4]) zbc zax Try.func49 rfl rfl rfl (by kernel_rfl) fun hl=>?_
 simp (maxSteps:=5000000) -dsimp only [↓gp,gq,reduceCtorEq,reduceEqDiff,reduceLT,reduceLeDiff,reduceAdd,reduceMul,reduceSub,Nat.reduceBEq,Int.reduceToNat,Int.reduceLE,Int.reduceLT,Int.reduceNeg,reduceMod,zac,zad,zab,zaa,gT,TK.isInt,TK.agg,Array.toList]
 refine zag (za1 n xs p) ?_
 have hsq:=zdN n xs p
 unfold zu6
 generalize zdG n xs p = M at *
 have hl7:=hsq.len
 simp (maxSteps:=5000000) -dsimp only [↓gp,gq,reduceCtorEq,reduceEqDiff,reduceLT,reduceLeDiff,reduceAdd,reduceMul,reduceSub,Nat.reduceBEq,Int.reduceToNat,Int.reduceLE,Int.reduceLT,Int.reduceNeg,reduceMod,zac,zad,zab,zaa,gT,TK.isInt,TK.agg,Array.toList]
 refine zar (fun (i:Nat) s=>s.sl 5 = int (zit M i)∧s.sl 6 = .own 11 1∧s.rw 11 = ⟨1,.sli 22 1 false (iLL M)⟩∧s.sl 7 = int i∧(i ≤ M.length)) (fun i=>M.length - i) (0) (by refine ⟨?_,?_,?_,?_,by omega⟩ <;> (first | (simp (maxSteps:=5000000) -dsimp only [gr,reduceEqDiff,reduceLT,reduceAdd,reduceMod,Nat.reduceBEq,zaa,zac,zad,zab,zit];first | done | rfl | (simp;done)) | assumption | rfl)) ?_
 intro i sa ⟨h5a,h6a,r11a,h7a,hIa⟩
 simp (maxSteps:=5000000) -dsimp only [↓gp,gq,reduceCtorEq,reduceEqDiff,reduceLT,reduceLeDiff,reduceAdd,reduceMul,reduceSub,Nat.reduceBEq,Int.reduceToNat,Int.reduceLE,Int.reduceLT,Int.reduceNeg,reduceMod,zac,zad,zab,zaa,gT,TK.isInt,TK.agg,Array.toList,h5a,h6a,r11a,h7a]
 refine ⟨fun h=>?_,fun h=>?_⟩
 ·have hr:=hsq.row i h
  have hnz0:nzR ((M.getD i []).take 0) = false:=rfl
  refine zar (fun (j:Nat) s=>s.sl 5 = int (if nzR ((M.getD i []).take j) = true then (i:Int) else zit M i)∧s.sl 6 = .own 11 1∧s.rw 11 = ⟨1,.sli 22 1 false (iLL M)⟩∧s.sl 7 = int i∧s.sl 8 = int j∧(j ≤ M.length)) (fun j=>M.length - j) (0) (by refine ⟨?_,?_,?_,?_,?_,by omega⟩ <;> (first | (simp (maxSteps:=5000000) -dsimp only [gr,reduceEqDiff,reduceLT,reduceAdd,reduceMod,Nat.reduceBEq,zaa,zac,zad,zab,h5a,h6a,r11a,h7a,hnz0];first | done | rfl | (simp;done)) | assumption | rfl)) ?_
  intro j sb ⟨h5b,h6b,r11b,h7b,h8b,hIb⟩
  simp (maxSteps:=5000000) -dsimp only [↓gp,gq,reduceCtorEq,reduceEqDiff,reduceLT,reduceLeDiff,reduceAdd,reduceMul,reduceSub,Nat.reduceBEq,Int.reduceToNat,Int.reduceLE,Int.reduceLT,Int.reduceNeg,reduceMod,zac,zad,zab,zaa,gT,TK.isInt,TK.agg,Array.toList,h5b,h6b,r11b,h7b,h8b]
  refine ⟨fun h2=>?_,fun h2=>?_⟩
  ·have hs:=znM (r:=M.getD i []) (k:=j) (by omega)
   simp (maxSteps:=5000000) -dsimp only [↓gp,gq,reduceCtorEq,reduceEqDiff,reduceLT,reduceLeDiff,reduceAdd,reduceMul,reduceSub,Nat.reduceBEq,Int.reduceToNat,Int.reduceLE,Int.reduceLT,Int.reduceNeg,reduceMod,zac,zad,zab,zaa,gT,TK.isInt,TK.agg,Array.toList,h5b,h6b,r11b,h7b,h8b,hr]
   refine ⟨h,h,h2,h2,fun h0=>?_,fun h0=>?_⟩
   ·rw [h0,Bool.or_true] at hs
    exact zah (j + 1) (by refine ⟨?_,?_,?_,?_,?_,by omega⟩ <;> (first | (simp (maxSteps:=5000000) -dsimp only [gr,reduceEqDiff,reduceLT,reduceAdd,reduceMod,Nat.reduceBEq,zaa,zac,zad,zab,h5b,h6b,r11b,h7b,h8b,zae h2 (by omega),hs];first | done | rfl | (simp;done)) | assumption | rfl)) (by first | omega | (simp only;omega) | (dsimp only;omega) | (show _ < _;simp;omega))
   ·rw [h0,Bool.or_false] at hs
    exact zah (j + 1) (by refine ⟨?_,?_,?_,?_,?_,by omega⟩ <;> (first | (simp (maxSteps:=5000000) -dsimp only [gr,reduceEqDiff,reduceLT,reduceAdd,reduceMod,Nat.reduceBEq,zaa,zac,zad,zab,h5b,h6b,r11b,h7b,h8b,zae h2 (by omega),hs];first | done | rfl | (simp;done)) | assumption | rfl)) (by first | omega | (simp only;omega) | (dsimp only;omega) | (show _ < _;simp;omega))
  ·have ht:(M.getD i []).take j = M.getD i []:=List.take_of_length_le (by omega)
   rw [ht] at h5b
   exact zah (i + 1) (by refine ⟨?_,?_,?_,?_,by omega⟩ <;> (first | (simp (maxSteps:=5000000) -dsimp only [gr,reduceEqDiff,reduceLT,reduceAdd,reduceMod,Nat.reduceBEq,zaa,zac,zad,zab,h5a,h6a,r11a,h7a,h5b,h6b,r11b,h7b,h8b,zae h (by omega),zit];first | done | rfl | (simp;done)) | assumption | rfl)) (by first | omega | (simp only;omega) | (dsimp only;omega) | (show _ < _;simp;omega))
 ·have:i = M.length:=by omega
  rw [this]
theorem zhJ (r:List Int):AC Try.prog 159 [zbx r] (.im (bool (!nzR r))):=by
 refine AC.go (rs:=[.tmp 2]) zbc zax Try.func159 rfl rfl rfl (by kernel_rfl) fun hl=>?_
 simp only [zaZ,zbm,and_true,zbV,zde,zcd,zgE,zhi,true_and] at hl
 simp (maxSteps:=5000000) -dsimp only [↓gp,gq,reduceCtorEq,reduceEqDiff,reduceLT,reduceLeDiff,reduceAdd,reduceMul,reduceSub,Nat.reduceBEq,Int.reduceToNat,Int.reduceLE,Int.reduceLT,Int.reduceNeg,reduceMod,zac,zad,zab,zaa,gT,TK.isInt,TK.agg,Array.toList]
 refine zar (fun (k:Nat) s=>s.sl 5 = zbx r∧s.sl 6 = int r.length∧s.sl 7 = int k∧(k ≤ r.length∧nzR (r.take k) = false)) (fun k=>r.length - k) (0) (by refine ⟨?_,?_,?_,⟨by omega,rfl⟩⟩ <;> (first | (simp (maxSteps:=5000000) -dsimp only [gr,reduceEqDiff,reduceLT,reduceAdd,reduceMod,Nat.reduceBEq,zaa,zac,zad,zab];first | done | rfl | (simp;done)) | assumption | rfl)) ?_
 intro k sa ⟨h5a,h6a,h7a,hIa⟩
 obtain ⟨hk,hz⟩:=hIa
 simp (maxSteps:=5000000) -dsimp only [↓gp,gq,reduceCtorEq,reduceEqDiff,reduceLT,reduceLeDiff,reduceAdd,reduceMul,reduceSub,Nat.reduceBEq,Int.reduceToNat,Int.reduceLE,Int.reduceLT,Int.reduceNeg,reduceMod,zac,zad,zab,zaa,gT,TK.isInt,TK.agg,Array.toList,h5a,h6a,h7a]
 refine ⟨fun h=>⟨h,h,fun h0=>?_,fun h0=>?_⟩,fun h=>?_⟩
 ·have hs:=znM h
  have:nzR r = true:=by
   unfold nzR at hs ⊢
   exact List.any_eq_true.2 ⟨_,za0 0 h,h0⟩
  rw [this];rfl
 ·have hs:=znM h
  rw [h0,hz] at hs
  exact zah (k + 1) (by refine ⟨?_,?_,?_,⟨by omega,hs⟩⟩ <;> (first | (simp (maxSteps:=5000000) -dsimp only [gr,reduceEqDiff,reduceLT,reduceAdd,reduceMod,Nat.reduceBEq,zaa,zac,zad,zab,h5a,h6a,h7a,zae h hl];first | done | rfl | (simp;done)) | assumption | rfl)) (by first | omega | (simp only;omega) | (dsimp only;omega) | (show _ < _;simp;omega))
 ·rw [List.take_of_length_le (by omega)] at hz
  rw [hz];rfl
theorem zcY (M:Mat) (hsq:SqB M):AC Try.prog 113 [zq5 M] (.im (int (zit M M.length))):=by
 refine AC.go (rs:=[.tmp 2]) zbc zax Try.func113 rfl rfl rfl (by kernel_rfl) fun hl=>?_
 have hl7:=hsq.len
 simp (maxSteps:=5000000) -dsimp only [↓gp,gq,reduceCtorEq,reduceEqDiff,reduceLT,reduceLeDiff,reduceAdd,reduceMul,reduceSub,Nat.reduceBEq,Int.reduceToNat,Int.reduceLE,Int.reduceLT,Int.reduceNeg,reduceMod,zac,zad,zab,zaa,gT,TK.isInt,TK.agg,Array.toList]
 refine zar (fun (i:Nat) s=>s.sl 3 = int (zit M i)∧s.sl 6 = zq5 M∧s.sl 7 = int M.length∧s.sl 8 = int i∧(i ≤ M.length)) (fun i=>M.length - i) (0) (by refine ⟨?_,?_,?_,?_,by omega⟩ <;> (first | (simp (maxSteps:=5000000) -dsimp only [gr,reduceEqDiff,reduceLT,reduceAdd,reduceMod,Nat.reduceBEq,zaa,zac,zad,zab,zit];first | done | rfl | (simp;done)) | assumption | rfl)) ?_
 intro i sa ⟨h3a,h6a,h7a,h8a,hIa⟩
 simp (maxSteps:=5000000) -dsimp only [↓gp,gq,reduceCtorEq,reduceEqDiff,reduceLT,reduceLeDiff,reduceAdd,reduceMul,reduceSub,Nat.reduceBEq,Int.reduceToNat,Int.reduceLE,Int.reduceLT,Int.reduceNeg,reduceMod,zac,zad,zab,zaa,gT,TK.isInt,TK.agg,Array.toList,h3a,h6a,h7a,h8a]
 refine ⟨fun h=>⟨h,h,zag (zhJ _) ?_⟩,fun h=>?_⟩
 ·simp (maxSteps:=5000000) -dsimp only [↓gp,gq,reduceCtorEq,reduceEqDiff,reduceLT,reduceLeDiff,reduceAdd,reduceMul,reduceSub,Nat.reduceBEq,Int.reduceToNat,Int.reduceLE,Int.reduceLT,Int.reduceNeg,reduceMod,zac,zad,zab,zaa,gT,TK.isInt,TK.agg,Array.toList,h3a,h6a,h7a,h8a]
  refine ⟨fun h0=>?_,fun h0=>?_⟩
  ·have e:zit M (i + 1) = i:=by rw [zit,if_pos (by simpa using h0)]
   exact zah (i + 1) (by refine ⟨?_,?_,?_,?_,by omega⟩ <;> (first | (simp (maxSteps:=5000000) -dsimp only [gr,reduceEqDiff,reduceLT,reduceAdd,reduceMod,Nat.reduceBEq,zaa,zac,zad,zab,h3a,h6a,h7a,h8a,zae h (by omega),e];first | done | rfl | (simp;done)) | assumption | rfl)) (by first | omega | (simp only;omega) | (dsimp only;omega) | (show _ < _;simp;omega))
  ·have e:zit M (i + 1) = zit M i:=by rw [zit,if_neg (by simpa using h0)]
   exact zah (i + 1) (by refine ⟨?_,?_,?_,?_,by omega⟩ <;> (first | (simp (maxSteps:=5000000) -dsimp only [gr,reduceEqDiff,reduceLT,reduceAdd,reduceMod,Nat.reduceBEq,zaa,zac,zad,zab,h3a,h6a,h7a,h8a,zae h (by omega),e];first | done | rfl | (simp;done)) | assumption | rfl)) (by first | omega | (simp only;omega) | (dsimp only;omega) | (show _ < _;simp;omega))
 ·have:i = M.length:=by omega
  rw [this]
theorem zdu (n:Int) (xs:List Int) (p:Int):AC Try.prog 48 [.ag [int n,zbx xs],int p] (.im (int (zu6 n xs p))):=by
 refine AC.go (rs:=[.tmp 4]) zbc zax Try.func48 rfl rfl rfl (by kernel_rfl) fun hl=>?_
 simp (maxSteps:=5000000) -dsimp only [↓gp,gq,reduceCtorEq,reduceEqDiff,reduceLT,reduceLeDiff,reduceAdd,reduceMul,reduceSub,Nat.reduceBEq,Int.reduceToNat,Int.reduceLE,Int.reduceLT,Int.reduceNeg,reduceMod,zac,zad,zab,zaa,gT,TK.isInt,TK.agg,Array.toList]
 refine zag (za2 n xs p) ?_
 have hsq:=zdN n xs p
 unfold zu6
 generalize zdG n xs p = M at *
 simp (maxSteps:=5000000) -dsimp only [↓gp,gq,reduceCtorEq,reduceEqDiff,reduceLT,reduceLeDiff,reduceAdd,reduceMul,reduceSub,Nat.reduceBEq,Int.reduceToNat,Int.reduceLE,Int.reduceLT,Int.reduceNeg,reduceMod,zac,zad,zab,zaa,gT,TK.isInt,TK.agg,Array.toList]
 refine zag (zcY M hsq) ?_
 simp (maxSteps:=5000000) -dsimp only [↓gp,gq,reduceCtorEq,reduceEqDiff,reduceLT,reduceLeDiff,reduceAdd,reduceMul,reduceSub,Nat.reduceBEq,Int.reduceToNat,Int.reduceLE,Int.reduceLT,Int.reduceNeg,reduceMod,zac,zad,zab,zaa,gT,TK.isInt,TK.agg,Array.toList]
noncomputable def zAg (n:Int) (xs:List Int) (p:Int):List Int:=zdp (zdG n xs p) (zu6 n xs p + 1).toNat
noncomputable def zEp (n:Int) (xs:List Int) (p:Int):List Int:=zcV (zdG n xs p) (zdG n xs p).length (zdG n xs p).length
theorem zdO (M:Mat) (i:Nat):(zdp M i).length = i:=by simp [zdp]
theorem zq4 {M:Mat} (hsq:SqB M) (i:Nat) {j:Nat} (hj:j < M.length):IntKind.i64.wrap (zq8 (M.getD i []) j + (M.getD i []).getD j 0) = zq8 (M.getD i []) (j + 1):=by
 have h1:=zv2 (fun j=>hsq.small i j) j
 have h2:=hsq.small i j
 have h3:=hsq.len
 rw [zan (by omega) (by omega)];rfl
theorem zlv (n:Int) (xs:List Int) (p:Int):AC Try.prog 44 [.ag [int n,zbx xs],int p] (.fr 3 1 (iL (zAg n xs p))):=by
 refine AC.go (rs:=[.tmp 4]) zbc zax Try.func44 rfl rfl rfl (by kernel_rfl) fun hl=>?_
 simp (maxSteps:=5000000) -dsimp only [↓gp,gq,reduceCtorEq,reduceEqDiff,reduceLT,reduceLeDiff,reduceAdd,reduceMul,reduceSub,Nat.reduceBEq,Int.reduceToNat,Int.reduceLE,Int.reduceLT,Int.reduceNeg,reduceMod,zac,zad,zab,zaa,gT,TK.isInt,TK.agg,Array.toList]
 refine zag (za1 n xs p) ?_
 simp (maxSteps:=5000000) -dsimp only [↓gp,gq,reduceCtorEq,reduceEqDiff,reduceLT,reduceLeDiff,reduceAdd,reduceMul,reduceSub,Nat.reduceBEq,Int.reduceToNat,Int.reduceLE,Int.reduceLT,Int.reduceNeg,reduceMod,zac,zad,zab,zaa,gT,TK.isInt,TK.agg,Array.toList]
 refine zag (ze8 n xs p) ?_
 have hsq:=zdN n xs p
 unfold zAg zu6
 generalize zdG n xs p = M at *
 have hl7:=hsq.len
 have hlm:=zr2 M M.length
 generalize zit M M.length = last at *
 simp (maxSteps:=5000000) -dsimp only [↓gp,gq,reduceCtorEq,reduceEqDiff,reduceLT,reduceLeDiff,reduceAdd,reduceMul,reduceSub,Nat.reduceBEq,Int.reduceToNat,Int.reduceLE,Int.reduceLT,Int.reduceNeg,reduceMod,zac,zad,zab,zaa,gT,TK.isInt,TK.agg,Array.toList]
 refine zar (fun (za:Nat × Nat) s=>match za with | (i,v)=>s.sl 5 = .own 11 v∧s.rw 11 = ⟨v,.sli 3 1 false (iL (zdp M i))⟩∧s.sl 6 = .own 14 1∧s.rw 14 = ⟨1,.sli 22 1 false (iLL M)⟩∧s.sl 7 = int last∧s.sl 8 = int i∧((i:Int) ≤ last + 1)) (fun (i,v)=>(last + 1 - i).toNat) ((0,1)) (by refine ⟨?_,?_,?_,?_,?_,?_,by omega⟩ <;> (first | (simp (maxSteps:=5000000) -dsimp only [gr,reduceEqDiff,reduceLT,reduceAdd,reduceMod,Nat.reduceBEq,zaa,zac,zad,zab];first | done | rfl | (simp;done)) | assumption | rfl)) ?_
 intro (i,v) sa ⟨h5a,r11a,h6a,r14a,h7a,h8a,hIa⟩
 have hrl:=zdO M i
 simp (maxSteps:=5000000) -dsimp only [↓gp,gq,reduceCtorEq,reduceEqDiff,reduceLT,reduceLeDiff,reduceAdd,reduceMul,reduceSub,Nat.reduceBEq,Int.reduceToNat,Int.reduceLE,Int.reduceLT,Int.reduceNeg,reduceMod,zac,zad,zab,zaa,gT,TK.isInt,TK.agg,Array.toList,h5a,r11a,h6a,r14a,h7a,h8a]
 refine ⟨fun h=>?_,fun h=>?_⟩
 ·have hi:i < M.length:=by omega
  have hr:=hsq.row i hi
  refine zar (fun (j:Nat) s=>s.sl 5 = .own 11 v∧s.rw 11 = ⟨v,.sli 3 1 false (iL (zdp M i))⟩∧s.sl 6 = .own 14 1∧s.rw 14 = ⟨1,.sli 22 1 false (iLL M)⟩∧s.sl 7 = int last∧s.sl 8 = int i∧s.sl 9 = int (zq8 (M.getD i []) j)∧s.sl 10 = int j∧(j ≤ M.length)) (fun j=>M.length - j) (0) (by refine ⟨?_,?_,?_,?_,?_,?_,?_,?_,by omega⟩ <;> (first | (simp (maxSteps:=5000000) -dsimp only [gr,reduceEqDiff,reduceLT,reduceAdd,reduceMod,Nat.reduceBEq,zaa,zac,zad,zab,h5a,r11a,h6a,r14a,h7a,h8a,zq8];first | done | rfl | (simp;done)) | assumption | rfl)) ?_
  intro j sb ⟨h5b,r11b,h6b,r14b,h7b,h8b,h9b,h10b,hIb⟩
  simp (maxSteps:=5000000) -dsimp only [↓gp,gq,reduceCtorEq,reduceEqDiff,reduceLT,reduceLeDiff,reduceAdd,reduceMul,reduceSub,Nat.reduceBEq,Int.reduceToNat,Int.reduceLE,Int.reduceLT,Int.reduceNeg,reduceMod,zac,zad,zab,zaa,gT,TK.isInt,TK.agg,Array.toList,h5b,r11b,h6b,r14b,h7b,h8b,h9b,h10b,hr]
  refine ⟨fun h2=>?_,fun h2=>?_⟩
  ·have hw:=zq4 hsq i h2
   simp (maxSteps:=5000000) -dsimp only [↓gp,gq,reduceCtorEq,reduceEqDiff,reduceLT,reduceLeDiff,reduceAdd,reduceMul,reduceSub,Nat.reduceBEq,Int.reduceToNat,Int.reduceLE,Int.reduceLT,Int.reduceNeg,reduceMod,zac,zad,zab,zaa,gT,TK.isInt,TK.agg,Array.toList,h5b,r11b,h6b,r14b,h7b,h8b,h9b,h10b,hr,hw]
   refine ⟨hi,hi,h2,h2,zah (j + 1) (by refine ⟨?_,?_,?_,?_,?_,?_,?_,?_,by omega⟩ <;> (first | (simp (maxSteps:=5000000) -dsimp only [gr,reduceEqDiff,reduceLT,reduceAdd,reduceMod,Nat.reduceBEq,zaa,zac,zad,zab,h5b,r11b,h6b,r14b,h7b,h8b,h9b,h10b,zae h2 (by omega),hw];first | done | rfl | (simp;done)) | assumption | rfl)) (by first | omega | (simp only;omega) | (dsimp only;omega) | (show _ < _;simp;omega))⟩
  ·have:j = M.length:=by omega
   subst this
   have e:=zib M i
   refine ⟨by omega,zah ((i + 1,v + 1)) (by refine ⟨?_,?_,?_,?_,?_,?_,by dsimp only;omega⟩ <;> (first | (simp (maxSteps:=5000000) -dsimp only [gr,reduceEqDiff,reduceLT,reduceAdd,reduceMod,Nat.reduceBEq,zaa,zac,zad,zab,h5a,r11a,h6a,r14a,h7a,h8a,h5b,r11b,h6b,r14b,h7b,h8b,h9b,h10b,zae hi (by omega),e];first | done | rfl | (simp;done)) | assumption | rfl)) (by first | omega | (simp only;omega) | (dsimp only;omega) | (show _ < _;simp;omega))⟩
 ·have:(last + 1).toNat = i:=by omega
  rw [this]
theorem zlw (n:Int) (xs:List Int) (p:Int):AC Try.prog 39 [.ag [int n,zbx xs],int p] (.fr 3 1 (iL (zAg n xs p))):=by
 refine AC.go (rs:=[.tmp 4]) zbc zax Try.func39 rfl rfl rfl (by kernel_rfl) fun hl=>?_
 simp (maxSteps:=5000000) -dsimp only [↓gp,gq,reduceCtorEq,reduceEqDiff,reduceLT,reduceLeDiff,reduceAdd,reduceMul,reduceSub,Nat.reduceBEq,Int.reduceToNat,Int.reduceLE,Int.reduceLT,Int.reduceNeg,reduceMod,zac,zad,zab,zaa,gT,TK.isInt,TK.agg,Array.toList]
 refine zag (za2 n xs p) ?_
 have hsq:=zdN n xs p
 unfold zAg zu6
 generalize zdG n xs p = M at *
 have hl7:=hsq.len
 have hlm:=zr2 M M.length
 simp (maxSteps:=5000000) -dsimp only [↓gp,gq,reduceCtorEq,reduceEqDiff,reduceLT,reduceLeDiff,reduceAdd,reduceMul,reduceSub,Nat.reduceBEq,Int.reduceToNat,Int.reduceLE,Int.reduceLT,Int.reduceNeg,reduceMod,zac,zad,zab,zaa,gT,TK.isInt,TK.agg,Array.toList]
 refine zar (fun (za:Nat × Nat) s=>match za with | (i,v)=>s.sl 5 = .own 13 1∧s.rw 13 = ⟨1,.sli 22 1 false (iLL M)⟩∧s.sl 6 = .own 6 v∧s.rw 6 = ⟨v,.sli 3 1 false (iL (zdp M i))⟩∧s.sl 7 = int i∧((i:Int) ≤ zit M M.length + 1)) (fun (i,v)=>(zit M M.length + 1 - i).toNat) ((0,1)) (by refine ⟨?_,?_,?_,?_,?_,by omega⟩ <;> (first | (simp (maxSteps:=5000000) -dsimp only [gr,reduceEqDiff,reduceLT,reduceAdd,reduceMod,Nat.reduceBEq,zaa,zac,zad,zab];first | done | rfl | (simp;done)) | assumption | rfl)) ?_
 intro (i,v) sa ⟨h5a,r13a,h6a,r6a,h7a,hIa⟩
 have hrl:=zdO M i
 simp (maxSteps:=5000000) -dsimp only [↓gp,gq,reduceCtorEq,reduceEqDiff,reduceLT,reduceLeDiff,reduceAdd,reduceMul,reduceSub,Nat.reduceBEq,Int.reduceToNat,Int.reduceLE,Int.reduceLT,Int.reduceNeg,reduceMod,zac,zad,zab,zaa,gT,TK.isInt,TK.agg,Array.toList,h5a,r13a,h6a,r6a,h7a]
 refine zag (zcY M hsq) ?_
 generalize hlast:zit M M.length = last at *
 simp (maxSteps:=5000000) -dsimp only [↓gp,gq,reduceCtorEq,reduceEqDiff,reduceLT,reduceLeDiff,reduceAdd,reduceMul,reduceSub,Nat.reduceBEq,Int.reduceToNat,Int.reduceLE,Int.reduceLT,Int.reduceNeg,reduceMod,zac,zad,zab,zaa,gT,TK.isInt,TK.agg,Array.toList,h5a,r13a,h6a,r6a,h7a]
 refine ⟨fun h=>?_,fun h=>?_⟩
 ·have hi:i < M.length:=by omega
  have hr:=hsq.row i hi
  refine ⟨hi,hi,?_⟩
  refine zar (fun (j:Nat) s=>s.sl 5 = .own 13 1∧s.rw 13 = ⟨1,.sli 22 1 false (iLL M)⟩∧s.sl 6 = .own 6 v∧s.rw 6 = ⟨v,.sli 3 1 false (iL (zdp M i))⟩∧s.sl 7 = int i∧s.sl 8 = int (zq8 (M.getD i []) j)∧s.sl 23 = .sl true 1 (iL (M.getD i []))∧s.sl 24 = int M.length∧s.sl 25 = int j∧(j ≤ M.length)) (fun j=>M.length - j) (0) (by refine ⟨?_,?_,?_,?_,?_,?_,?_,?_,?_,by omega⟩ <;> (first | (simp (maxSteps:=5000000) -dsimp only [gr,reduceEqDiff,reduceLT,reduceAdd,reduceMod,Nat.reduceBEq,zaa,zac,zad,zab,h5a,r13a,h6a,r6a,h7a,hr,zq8];first | done | rfl | (simp;done)) | assumption | rfl)) ?_
  intro j sb ⟨h5b,r13b,h6b,r6b,h7b,h8b,h23b,h24b,h25b,hIb⟩
  simp (maxSteps:=5000000) -dsimp only [↓gp,gq,reduceCtorEq,reduceEqDiff,reduceLT,reduceLeDiff,reduceAdd,reduceMul,reduceSub,Nat.reduceBEq,Int.reduceToNat,Int.reduceLE,Int.reduceLT,Int.reduceNeg,reduceMod,zac,zad,zab,zaa,gT,TK.isInt,TK.agg,Array.toList,h5b,r13b,h6b,r6b,h7b,h8b,h23b,h24b,h25b,hr]
  refine ⟨fun h2=>?_,fun h2=>?_⟩
  ·have hw:=zq4 hsq i h2
   simp (maxSteps:=5000000) -dsimp only [↓gp,gq,reduceCtorEq,reduceEqDiff,reduceLT,reduceLeDiff,reduceAdd,reduceMul,reduceSub,Nat.reduceBEq,Int.reduceToNat,Int.reduceLE,Int.reduceLT,Int.reduceNeg,reduceMod,zac,zad,zab,zaa,gT,TK.isInt,TK.agg,Array.toList,h5b,r13b,h6b,r6b,h7b,h8b,h23b,h24b,h25b,hr,hw]
   refine ⟨h2,h2,zah (j + 1) (by refine ⟨?_,?_,?_,?_,?_,?_,?_,?_,?_,by omega⟩ <;> (first | (simp (maxSteps:=5000000) -dsimp only [gr,reduceEqDiff,reduceLT,reduceAdd,reduceMod,Nat.reduceBEq,zaa,zac,zad,zab,h5b,r13b,h6b,r6b,h7b,h8b,h23b,h24b,h25b,zae h2 (by omega),hw];first | done | rfl | (simp;done)) | assumption | rfl)) (by first | omega | (simp only;omega) | (dsimp only;omega) | (show _ < _;simp;omega))⟩
  ·have:j = M.length:=by omega
   subst this
   have e:=zib M i
   refine ⟨by omega,zah ((i + 1,v + 1)) (by refine ⟨?_,?_,?_,?_,?_,by dsimp only;omega⟩ <;> (first | (simp (maxSteps:=5000000) -dsimp only [gr,reduceEqDiff,reduceLT,reduceAdd,reduceMod,Nat.reduceBEq,zaa,zac,zad,zab,h5a,r13a,h6a,r6a,h7a,h5b,r13b,h6b,r6b,h7b,h8b,h23b,h24b,h25b,zae hi (by omega),e];first | done | rfl | (simp;done)) | assumption | rfl)) (by first | omega | (simp only;omega) | (dsimp only;omega) | (show _ < _;simp;omega))⟩
 ·have:(last + 1).toNat = i:=by omega
  rw [this]
theorem zq3 {M:Mat} (hsq:SqB M) {i j:Nat} (hi:i < M.length):IntKind.i64.wrap (zld M j i + sgI i ((M.getD i []).getD j 0)) = zld M j (i + 1):=by
 have h1:=zv3 hsq j i
 have h2:=hsq.small i j
 have h3:=hsq.len
 have:-100000 ≤ sgI i ((M.getD i []).getD j 0)∧sgI i ((M.getD i []).getD j 0) ≤ 100000:=by unfold sgI;split <;> omega
 rw [zan (by omega) (by omega)];rfl
theorem zhH (n:Int) (xs:List Int) (p:Int):AC Try.prog 45 [.ag [int n,zbx xs],int p] (.fr 3 1 (iL (zEp n xs p))):=by
 refine AC.go (rs:=[.tmp 4]) zbc zax Try.func45 rfl rfl rfl (by kernel_rfl) fun hl=>?_
 simp (maxSteps:=5000000) -dsimp only [↓gp,gq,reduceCtorEq,reduceEqDiff,reduceLT,reduceLeDiff,reduceAdd,reduceMul,reduceSub,Nat.reduceBEq,Int.reduceToNat,Int.reduceLE,Int.reduceLT,Int.reduceNeg,reduceMod,zac,zad,zab,zaa,gT,TK.isInt,TK.agg,Array.toList]
 refine zag (za1 n xs p) ?_
 have hsq:=zdN n xs p
 unfold zEp
 generalize zdG n xs p = M at *
 have hl7:=hsq.len
 simp (maxSteps:=5000000) -dsimp only [↓gp,gq,reduceCtorEq,reduceEqDiff,reduceLT,reduceLeDiff,reduceAdd,reduceMul,reduceSub,Nat.reduceBEq,Int.reduceToNat,Int.reduceLE,Int.reduceLT,Int.reduceNeg,reduceMod,zac,zad,zab,zaa,gT,TK.isInt,TK.agg,Array.toList]
 refine zar (fun (za:Nat × Nat) s=>match za with | (j,v)=>s.sl 5 = .own 10 v∧s.rw 10 = ⟨v,.sli 3 1 false (iL (zcV M M.length j))⟩∧s.sl 6 = .own 13 1∧s.rw 13 = ⟨1,.sli 22 1 false (iLL M)⟩∧s.sl 7 = int j∧(j ≤ M.length)) (fun (j,v)=>M.length - j) ((0,1)) (by refine ⟨?_,?_,?_,?_,?_,by omega⟩ <;> (first | (simp (maxSteps:=5000000) -dsimp only [gr,reduceEqDiff,reduceLT,reduceAdd,reduceMod,Nat.reduceBEq,zaa,zac,zad,zab];first | done | rfl | (simp;done)) | assumption | rfl)) ?_
 intro (j,v) sa ⟨h5a,r10a,h6a,r13a,h7a,hIa⟩
 have hcl:=zll M M.length j
 simp (maxSteps:=5000000) -dsimp only [↓gp,gq,reduceCtorEq,reduceEqDiff,reduceLT,reduceLeDiff,reduceAdd,reduceMul,reduceSub,Nat.reduceBEq,Int.reduceToNat,Int.reduceLE,Int.reduceLT,Int.reduceNeg,reduceMod,zac,zad,zab,zaa,gT,TK.isInt,TK.agg,Array.toList,h5a,r10a,h6a,r13a,h7a]
 refine ⟨fun h=>?_,fun h=>?_⟩
 ·refine zar (fun (i:Nat) s=>s.sl 5 = .own 10 v∧s.rw 10 = ⟨v,.sli 3 1 false (iL (zcV M M.length j))⟩∧s.sl 6 = .own 13 1∧s.rw 13 = ⟨1,.sli 22 1 false (iLL M)⟩∧s.sl 7 = int j∧s.sl 8 = int (zld M j i)∧s.sl 9 = int i∧(i ≤ M.length)) (fun i=>M.length - i) (0) (by refine ⟨?_,?_,?_,?_,?_,?_,?_,by omega⟩ <;> (first | (simp (maxSteps:=5000000) -dsimp only [gr,reduceEqDiff,reduceLT,reduceAdd,reduceMod,Nat.reduceBEq,zaa,zac,zad,zab,h5a,r10a,h6a,r13a,h7a,zld];first | done | rfl | (simp;done)) | assumption | rfl)) ?_
  intro i sb ⟨h5b,r10b,h6b,r13b,h7b,h8b,h9b,hIb⟩
  simp (maxSteps:=5000000) -dsimp only [↓gp,gq,reduceCtorEq,reduceEqDiff,reduceLT,reduceLeDiff,reduceAdd,reduceMul,reduceSub,Nat.reduceBEq,Int.reduceToNat,Int.reduceLE,Int.reduceLT,Int.reduceNeg,reduceMod,zac,zad,zab,zaa,gT,TK.isInt,TK.agg,Array.toList,h5b,r10b,h6b,r13b,h7b,h8b,h9b]
  refine ⟨fun h2=>?_,fun h2=>?_⟩
  ·have hw:=zq3 hsq (j:=j) h2
   have hr:=hsq.row i h2
   have hsm:=hsq.small i j
   have hm:(i:Int).tmod 2 = ((i % 2:Nat):Int):=by rw [zcz (by omega)];omega
   have hw1:IntKind.i64.wrap (2 * ((i % 2:Nat):Int)) = 2 * ((i % 2:Nat):Int):=zan (by omega) (by omega)
   have hw2:IntKind.i64.wrap (1 - 2 * ((i % 2:Nat):Int)) = 1 - 2 * ((i % 2:Nat):Int):=zan (by omega) (by omega)
   have hs:(1 - 2 * ((i % 2:Nat):Int)) * (M.getD i []).getD j 0 = sgI i ((M.getD i []).getD j 0):=by
    unfold sgI
    rcases Nat.mod_two_eq_zero_or_one i with e | e
    ·rw [e,if_pos rfl];simp
    ·rw [e,if_neg (by decide)];simp
   have hw3:IntKind.i64.wrap ((1 - 2 * ((i % 2:Nat):Int)) * (M.getD i []).getD j 0) = sgI i ((M.getD i []).getD j 0):=by
    rw [hs,zan] <;> unfold sgI <;> split <;> omega
   simp (maxSteps:=5000000) -dsimp only [↓gp,gq,reduceCtorEq,reduceEqDiff,reduceLT,reduceLeDiff,reduceAdd,reduceMul,reduceSub,Nat.reduceBEq,Int.reduceToNat,Int.reduceLE,Int.reduceLT,Int.reduceNeg,reduceMod,zac,zad,zab,zaa,gT,TK.isInt,TK.agg,Array.toList,h5b,r10b,h6b,r13b,h7b,h8b,h9b,hr,hm,hw1,hw2,hw3,hw]
   exact ⟨by decide,h2,h2,h,h,zah (i + 1) (by refine ⟨?_,?_,?_,?_,?_,?_,?_,by omega⟩ <;> (first | (simp (maxSteps:=5000000) -dsimp only [gr,reduceEqDiff,reduceLT,reduceAdd,reduceMod,Nat.reduceBEq,zaa,zac,zad,zab,h5b,r10b,h6b,r13b,h7b,h8b,h9b,zae h2 (by omega)];first | done | rfl | (simp;done)) | assumption | rfl)) (by first | omega | (simp only;omega) | (dsimp only;omega) | (show _ < _;simp;omega))⟩
  ·have:i = M.length:=by omega
   subst this
   have e:=zqM M M.length j
   refine ⟨by omega,zah ((j + 1,v + 1)) (by refine ⟨?_,?_,?_,?_,?_,by dsimp only;omega⟩ <;> (first | (simp (maxSteps:=5000000) -dsimp only [gr,reduceEqDiff,reduceLT,reduceAdd,reduceMod,Nat.reduceBEq,zaa,zac,zad,zab,h5a,r10a,h6a,r13a,h7a,h5b,r10b,h6b,r13b,h7b,h8b,h9b,zae h (by omega),e];first | done | rfl | (simp;done)) | assumption | rfl)) (by first | omega | (simp only;omega) | (dsimp only;omega) | (show _ < _;simp;omega))⟩
 ·have:j = M.length:=by omega
  rw [this]
theorem zhI (n:Int) (xs:List Int) (p:Int):AC Try.prog 40 [.ag [int n,zbx xs],int p] (.fr 3 1 (iL (zEp n xs p))):=by
 refine AC.go (rs:=[.tmp 4]) zbc zax Try.func40 rfl rfl rfl (by kernel_rfl) fun hl=>?_
 simp (maxSteps:=5000000) -dsimp only [↓gp,gq,reduceCtorEq,reduceEqDiff,reduceLT,reduceLeDiff,reduceAdd,reduceMul,reduceSub,Nat.reduceBEq,Int.reduceToNat,Int.reduceLE,Int.reduceLT,Int.reduceNeg,reduceMod,zac,zad,zab,zaa,gT,TK.isInt,TK.agg,Array.toList]
 refine zag (za2 n xs p) ?_
 have hsq:=zdN n xs p
 unfold zEp
 generalize zdG n xs p = M at *
 have hl7:=hsq.len
 simp (maxSteps:=5000000) -dsimp only [↓gp,gq,reduceCtorEq,reduceEqDiff,reduceLT,reduceLeDiff,reduceAdd,reduceMul,reduceSub,Nat.reduceBEq,Int.reduceToNat,Int.reduceLE,Int.reduceLT,Int.reduceNeg,reduceMod,zac,zad,zab,zaa,gT,TK.isInt,TK.agg,Array.toList,Int.toNat_natCast]
 have hini:List.replicate M.length (0:Int) = zmV M 0 0:=by
  refine List.ext_getElem (by simp [zmV]) fun j a b=>by simp [zmV,zld]
 refine ⟨by omega,by omega,?_⟩
 refine zar (fun (za:Nat × Nat) s=>match za with | (i,v)=>s.sl 5 = .own 13 1∧s.rw 13 = ⟨1,.sli 22 1 false (iLL M)⟩∧s.sl 6 = .own 16 v∧s.rw 16 = ⟨v,.sli 3 1 false (iL (zmV M i 0))⟩∧s.sl 17 = .own 13 1∧s.sl 18 = int M.length∧s.sl 19 = int i∧(i ≤ M.length)) (fun (i,v)=>M.length - i) ((0,1)) (by refine ⟨?_,?_,?_,?_,?_,?_,?_,by omega⟩ <;> (first | (simp (maxSteps:=5000000) -dsimp only [gr,reduceEqDiff,reduceLT,reduceAdd,reduceMod,Nat.reduceBEq,zaa,zac,zad,zab,zcL,hini];first | done | rfl | (simp;done)) | assumption | rfl)) ?_
 intro (i,v) sa ⟨h5a,r13a,h6a,r16a,h17a,h18a,h19a,hIa⟩
 simp (maxSteps:=5000000) -dsimp only [↓gp,gq,reduceCtorEq,reduceEqDiff,reduceLT,reduceLeDiff,reduceAdd,reduceMul,reduceSub,Nat.reduceBEq,Int.reduceToNat,Int.reduceLE,Int.reduceLT,Int.reduceNeg,reduceMod,zac,zad,zab,zaa,gT,TK.isInt,TK.agg,Array.toList,h5a,r13a,h6a,r16a,h17a,h18a,h19a]
 refine ⟨fun h=>?_,fun h=>?_⟩
 ·have hr:=hsq.row i h
  refine ⟨h,h,?_⟩
  refine zar (fun (zb:Nat × Nat) s=>match zb with | (j,u)=>s.sl 5 = .own 13 1∧s.rw 13 = ⟨1,.sli 22 1 false (iLL M)⟩∧s.sl 6 = .own 16 u∧s.rw 16 = ⟨u,.sli 3 1 false (iL (zmV M i j))⟩∧s.sl 17 = .own 13 1∧s.sl 18 = int M.length∧s.sl 19 = int i∧s.sl 7 = int i∧s.sl 24 = .sl true 1 (iL (M.getD i []))∧s.sl 25 = int M.length∧s.sl 26 = int j∧(j ≤ M.length)) (fun (j,u)=>M.length - j) ((0,v)) (by refine ⟨?_,?_,?_,?_,?_,?_,?_,?_,?_,?_,?_,by omega⟩ <;> (first | (simp (maxSteps:=5000000) -dsimp only [gr,reduceEqDiff,reduceLT,reduceAdd,reduceMod,Nat.reduceBEq,zaa,zac,zad,zab,h5a,r13a,h6a,r16a,h17a,h18a,h19a,hr];first | done | rfl | (simp;done)) | assumption | rfl)) ?_
  intro (j,u) sb ⟨h5b,r13b,h6b,r16b,h17b,h18b,h19b,h7b,h24b,h25b,h26b,hIb⟩
  have hm:(i:Int).tmod 2 = ((i % 2:Nat):Int):=by rw [zcz (by omega)];omega
  have hcl:=zr3 M i j
  by_cases h2:j < M.length
  ·have hw:=zq3 hsq (j:=j) h
   have hg:=zzO M i h2
   have hset:(zmV M i j).set j (zld M j (i + 1)) = zmV M i (j + 1):=zBn M i h2
   have hsm:=hsq.small i j
   have hneg:IntKind.i64.wrap (0 - (M.getD i []).getD j 0) = -(M.getD i []).getD j 0:=by rw [zan (by omega) (by omega)];omega
   simp (maxSteps:=5000000) -dsimp only [↓gp,gq,reduceCtorEq,reduceEqDiff,reduceLT,reduceLeDiff,reduceAdd,reduceMul,reduceSub,Nat.reduceBEq,Int.reduceToNat,Int.reduceLE,Int.reduceLT,Int.reduceNeg,reduceMod,zac,zad,zab,zaa,gT,TK.isInt,TK.agg,Array.toList,h5b,r13b,h6b,r16b,h17b,h18b,h19b,h7b,h24b,h25b,h26b,hr,hm,hneg,hg,hcl]
   refine ⟨fun _=>⟨h2,h2,by decide,fun h3=>⟨h2,h2,h2,by omega,?_⟩,fun h3=>⟨h2,h2,h2,by omega,?_⟩⟩,fun h=>absurd h2 h⟩
   ·have es:sgI i ((M.getD i []).getD j 0) = -(M.getD i []).getD j 0:=by
     have h3:((i % 2:Nat):Int) = 1:=by simpa using h3
     unfold sgI;rw [if_neg (by omega)]
    rw [es] at hw
    exact zah ((j + 1,u)) (by refine ⟨?_,?_,?_,?_,?_,?_,?_,?_,?_,?_,?_,by dsimp only;omega⟩ <;> (first | (simp (maxSteps:=5000000) -dsimp only [gr,reduceEqDiff,reduceLT,reduceAdd,reduceMod,Nat.reduceBEq,zaa,zac,zad,zab,h5b,r13b,h6b,r16b,h17b,h18b,h19b,h7b,h24b,h25b,h26b,zae h2 (by omega),hneg,hg,hw,hset];first | done | rfl | (simp;done)) | assumption | rfl)) (by first | omega | (simp only;omega) | (dsimp only;omega) | (show _ < _;simp;omega))
   ·have es:sgI i ((M.getD i []).getD j 0) = (M.getD i []).getD j 0:=by
     have h3:¬ ((i % 2:Nat):Int) = 1:=by simpa using h3
     unfold sgI;rw [if_pos (by omega)]
    rw [es] at hw
    exact zah ((j + 1,u)) (by refine ⟨?_,?_,?_,?_,?_,?_,?_,?_,?_,?_,?_,by dsimp only;omega⟩ <;> (first | (simp (maxSteps:=5000000) -dsimp only [gr,reduceEqDiff,reduceLT,reduceAdd,reduceMod,Nat.reduceBEq,zaa,zac,zad,zab,h5b,r13b,h6b,r16b,h17b,h18b,h19b,h7b,h24b,h25b,h26b,zae h2 (by omega),hg,hw,hset];first | done | rfl | (simp;done)) | assumption | rfl)) (by first | omega | (simp only;omega) | (dsimp only;omega) | (show _ < _;simp;omega))
  ·simp (maxSteps:=5000000) -dsimp only [↓gp,gq,reduceCtorEq,reduceEqDiff,reduceLT,reduceLeDiff,reduceAdd,reduceMul,reduceSub,Nat.reduceBEq,Int.reduceToNat,Int.reduceLE,Int.reduceLT,Int.reduceNeg,reduceMod,zac,zad,zab,zaa,gT,TK.isInt,TK.agg,Array.toList,h5b,r13b,h6b,r16b,h17b,h18b,h19b,h7b,h24b,h25b,h26b,hr]
   refine ⟨fun h=>absurd h h2,fun _=>?_⟩
   have:j = M.length:=by omega
   subst this
   have e:=zBm M i
   exact zah ((i + 1,u)) (by refine ⟨?_,?_,?_,?_,?_,?_,?_,by dsimp only;omega⟩ <;> (first | (simp (maxSteps:=5000000) -dsimp only [gr,reduceEqDiff,reduceLT,reduceAdd,reduceMod,Nat.reduceBEq,zaa,zac,zad,zab,h5a,r13a,h6a,r16a,h17a,h18a,h19a,h5b,r13b,h6b,r16b,h17b,h18b,h19b,h7b,h24b,h25b,h26b,zae h (by omega),e];first | done | rfl | (simp;done)) | assumption | rfl)) (by first | omega | (simp only;omega) | (dsimp only;omega) | (show _ < _;simp;omega))
 ·have:i = M.length:=by omega
  subst this
  rw [zzN]
theorem zhD (n:Int) (xs:List Int) (p:Int):AC Try.prog 52 [.ag [int n,zbx xs],int p] (.fr 22 1 (iLL (dtR n xs p))):=zn4 (dtR n xs p) ▸ (ziD n xs p).flat
theorem zq9 {p:Int} (h:isP p = true):∃ q:Nat,p = q∧q ≠ 0:=by
 unfold isP at h
 simp only [Bool.or_eq_true,beq_iff_eq] at h
 rcases h with (rfl | rfl) | rfl
 ·exact ⟨2,rfl,by decide⟩
 ·exact ⟨3,rfl,by decide⟩
 ·exact ⟨5,rfl,by decide⟩
theorem ziE {n:Int} {xs:List Int} (h:zjc n xs = true):∃ m:Nat,n = m∧1 ≤ m∧m ≤ 6∧zfL (zau xs)∧zau xs 0 = true∧∀ s,s < 64→zau xs s = true→s < 2 ^ m:=by
 obtain ⟨hcx,hpos⟩:=zcv.1 h
 obtain ⟨h1,h6,h3⟩:=zbP.1 hcx
 obtain ⟨m,rfl⟩:∃ m:Nat,n = m:=⟨n.toNat,by omega⟩
 refine ⟨m,rfl,by omega,by omega,fun s t hs ht=>zlx hs ht,?_,fun s hs hf=>?_⟩
 ·cases xs with
  | nil=>simp at hpos
  | cons x l=>exact zb4.2 ⟨x,by simp,by simp⟩
 ·obtain ⟨x,hx,e⟩:=zb4.1 hf
  obtain ⟨i,hi,rfl⟩:=zfg 0 hx
  obtain ⟨m2,t,e1,e2,h2,h3⟩:=zqN (h3 i hi).1
  have:m = m2:=by omega
  subst this
  rw [e2,Int.toNat_natCast] at e
  have:=Nat.and_le_left (n:=t) (m:=s)
  omega
theorem zFA (n:Int) (xs:List Int) (p:Int):dtR n xs p = zdG n xs p:=by
 unfold dtR zdG
 by_cases h:zjc n xs = true∧isP p = true
 ·rw [if_pos h,if_pos h]
  obtain ⟨m,rfl,h1,h6,hd,h0,_⟩:=ziE h.1
  obtain ⟨q,rfl,hq⟩:=zq9 h.2
  haveI:NeZero q:=⟨hq⟩
  exact (zsk (p:=q) h.2 hd h0 h6).symm
 ·rw [if_neg h,if_neg h]
theorem zwo {n:Int} {xs:List Int} {p:Int} (h:zjc n xs = true∧isP p = true):zEp n xs p = lnL n xs:=by
 obtain ⟨m,rfl,h1,h6,hd,h0,hs⟩:=ziE h.1
 have e:zdG (m:Int) xs p = zly (zau xs) p m:=by unfold zdG;rw [if_pos h];rfl
 unfold zEp lnL
 rw [if_pos (zcv.1 h.1).1,e,(zjj (zau xs) p h6).len,zC2 h6 hs]
 rfl
theorem zAp {n:Int} {xs:List Int} {p:Int} (h:zjc n xs = true∧isP p = true):((zAg n xs p).length:Int) = zu6 n xs p + 1∧0 < (zAg n xs p).length∧(zAg n xs p).getD 0 0 = 1:=by
 obtain ⟨m,rfl,h1,h6,hd,h0,hs⟩:=ziE h.1
 obtain ⟨q,rfl,hq⟩:=zq9 h.2
 haveI:NeZero q:=⟨hq⟩
 have e:zdG (m:Int) xs q = zly (zau xs) q m:=by unfold zdG;rw [if_pos h];rfl
 have hl:=(zjj (zau xs) q h6).len
 have hn:=zwr (zC3 (p:=q) h.2 hd h0 h6) m
 unfold zAg zu6
 rw [e,hl,zdO]
 refine ⟨by omega,by omega,?_⟩
 unfold zdp
 rw [List.getD_eq_getElem?_getD,List.getElem?_map,List.getElem?_range (by omega)]
 simp only [Option.map_some,Option.getD_some]
 rw [hl]
 exact zAr (p:=q) h.2 hd h0 h6
theorem zse {n:Int} {xs:List Int} {p:Int} (h:¬ (zjc n xs = true∧isP p = true)):zAg n xs p = []∧zu6 n xs p = -1:=by
 unfold zAg zu6
 rw [zf5 h]
 exact ⟨rfl,rfl⟩
theorem zjf {n:Int} {xs:List Int} {p:Int} (h:zjc n xs = true∧isP p = true):∃ m:Nat,n = m∧m ≤ 6∧(zdG n xs p).length = m + 1∧(∀ i,i < m + 1→((zdG n xs p).getD i []).length = m + 1) ∧
 ∀ k:Nat,1 ≤ k→((zdG n xs p).getD 1 []).getD k 0 = (((zAb n xs).filter fun s=>zas s == k).length:Int):=by
 obtain ⟨m,rfl,h1,h6,hd,h0,hs⟩:=ziE h.1
 obtain ⟨q,rfl,hq⟩:=zq9 h.2
 haveI:NeZero q:=⟨hq⟩
 have e:zdG (m:Int) xs q = zly (zau xs) q m:=by unfold zdG;rw [if_pos h];rfl
 have hsq:=zjj (zau xs) q h6
 rw [e]
 refine ⟨m,rfl,h6,hsq.len,hsq.row,fun k hk=>?_⟩
 have:=zAv (p:=q) h.2 hd h0 h6 hk
 unfold ent at this
 rw [this]
 congr 3
 unfold zAb
 refine zwf (fun s hs64=>?_) false
 unfold zik
 have e2:zbS (m:Int) (s:Int) = decide (s < 2 ^ m):=by
  unfold zbS
  rw [zcg]
  exact decide_eq_decide.2 ⟨fun h=>by have:=h.2.2.2;omega,fun h=>⟨by omega,by omega,by omega,by omega⟩⟩
 rw [(zcv.1 h.1).1,Bool.true_and,e2]
end Go.Proofs.Ytpnknaaehcljoaa

/- DERIVED by an AI agent. -/
import Derived.Test.YtjikeknpidbceaaGreatDoorQ4
import Derived.Test.YtjikeknpidbceaaGreatDoorP1
import Derived.Test.YtjikeknpidbceaaGreatDoorQ1
import Derived.Test.YtjikeknpidbceaaGreatDoorA13
import Derived.Test.YtjikeknpidbceaaGreatDoorQ3
namespace Go.Proofs.YtjikeknpidbceaaGreatDoor
open Go.Abs
open Nat (reduceEqDiff reduceMod reduceAdd reduceLT reduceLeDiff reduceSub reduceMul)
set_option linter.unusedSimpArgs false
set_option linter.unusedVariables false
theorem zoZ {m s:Nat} (hm:m ≤ 6) (hs:s < 2 ^ m):zgi m s = ((2 ^ m - 1 - s:Nat):Int):=by
 have hin:zby m s = true:=by
  unfold zby;rw [decide_eq_true_iff,zbO];exact ⟨by omega,by omega,by omega,by omega⟩
 unfold zgi
 rw [if_pos hin,zbO];omega
theorem zl1 {w w':Nat→Bool} {m:Nat} (hm:m ≤ 6) (h:∀ s,s < 64→(decide (s < 2 ^ m) && w s) = w' s):zaB w (2 ^ m) = zaB w' 64 :=
 zdh w' (zo4 w hm) fun s hs=>by rw [zfb,h s hs]
theorem zjC (m G s:Nat) (hm:m ≤ 6) (hG:G < 18446744073709551616) (hs:s < 2 ^ m):AC Tryz.prog 66 [int s,.eref false [u64 G] 0,.eref false [int m] 0] (.im (bool (!G.testBit (2 ^ m - 1 - s)))):=by
 refine AC.go (rs:=[.tmp 4]) za0 mixed Tryz.func66 rfl rfl rfl (by kernel_rfl) fun hl=>?_
 have h64:=zar hm
 simp (maxSteps:=9^7) -dsimp only [↓gp,gq,reduceCtorEq,reduceEqDiff,reduceLT,reduceLeDiff,reduceAdd,reduceMul,reduceSub,Nat.reduceBEq,Int.reduceToNat,Int.reduceLE,Int.reduceLT,Int.reduceNeg,reduceMod,gT]
 refine ⟨by kernel_rfl,zab (zgk m s) ?_⟩
 rw [zoZ hm hs]
 simp (maxSteps:=9^7) -dsimp only [↓gp,gq,reduceCtorEq,reduceEqDiff,reduceLT,reduceLeDiff,reduceAdd,reduceMul,reduceSub,Nat.reduceBEq,Int.reduceToNat,Int.reduceLE,Int.reduceLT,Int.reduceNeg,reduceMod,gT]
 refine zab (zb1 G _ hG (by omega)) ?_
 simp (maxSteps:=9^7) -dsimp only [↓gp,gq,reduceCtorEq,reduceEqDiff,reduceLT,reduceLeDiff,reduceAdd,reduceMul,reduceSub,Nat.reduceBEq,Int.reduceToNat,Int.reduceLE,Int.reduceLT,Int.reduceNeg,reduceMod,gT]
theorem znB (m:Nat) (hm:m ≤ 6) (f:Nat→Bool):AC Tryz.prog 30 [int m,u64 (zaB f 64:Nat)] (.im (u64 (zaB (zat m f) 64:Nat))):=by
 refine AC.go (rs:=[.tmp 4]) za0 mixed Tryz.func30 rfl rfl rfl (by kernel_rfl) fun hl=>?_
 have h64:=zar hm
 have hlt:=zbh f 64
 simp (maxSteps:=9^7) -dsimp only [↓gp,gq,reduceCtorEq,reduceEqDiff,reduceLT,reduceLeDiff,reduceAdd,reduceMul,reduceSub,Nat.reduceBEq,Int.reduceToNat,Int.reduceLE,Int.reduceLT,Int.reduceNeg,reduceMod,gT]
 refine zab (zdn m hm _ [.eref false [u64 (zaB f 64:Nat)] 0,.eref false [int m] 0] (fun s=>!(zaB f 64).testBit (2 ^ m - 1 - s)) (fun rw=>rfl) fun s hs=>zjC m _ s hm (by omega) hs) ?_
 rw [zl1 (w':=zat m f) hm fun s hs=>by rw [zbm f (by omega)];rfl]
 simp (maxSteps:=9^7) -dsimp only [↓gp,gq,reduceCtorEq,reduceEqDiff,reduceLT,reduceLeDiff,reduceAdd,reduceMul,reduceSub,Nat.reduceBEq,Int.reduceToNat,Int.reduceLE,Int.reduceLT,Int.reduceNeg,reduceMod,gT]
theorem zjD (G s t:Nat) (hG:G < 18446744073709551616) (hs:s < 64) (ht:t < 64):AC Tryz.prog 75 [int t,.eref false [int s] 0,.eref false [u64 G] 0] (.im (bool (zaJ G.testBit s t))):=by
 refine AC.go (rs:=[.tmp 4]) za0 mixed Tryz.func75 rfl rfl rfl (by kernel_rfl) fun hl=>?_
 have e1:zdI .i64 (t:Int) (s:Int) = ((t &&& s:Nat):Int):=zbF (by omega) (by omega)
 have e2:ior .i64 (t:Int) (s:Int) = ((t ||| s:Nat):Int):=zEI (by omega) (by omega)
 have h3:t ||| s < 64:=Nat.or_lt_two_pow (n:=6) ht hs
 simp (maxSteps:=9^7) -dsimp only [↓gp,gq,reduceCtorEq,reduceEqDiff,reduceLT,reduceLeDiff,reduceAdd,reduceMul,reduceSub,Nat.reduceBEq,Int.reduceToNat,Int.reduceLE,Int.reduceLT,Int.reduceNeg,reduceMod,gT,e1,e2]
 unfold zaJ
 refine ⟨fun h=>zab (zb1 G _ hG h3) ?_,fun h=>?_⟩
 ·have h:t &&& s = 0:=by simpa using h
  rw [h]
  simp (maxSteps:=9^7) -dsimp only [↓gp,gq,reduceCtorEq,reduceEqDiff,reduceLT,reduceLeDiff,reduceAdd,reduceMul,reduceSub,Nat.reduceBEq,Int.reduceToNat,Int.reduceLE,Int.reduceLT,Int.reduceNeg,reduceMod,gT]
 ·have h:(t &&& s == 0) = false:=by rw [beq_eq_false_iff_ne];intro e;simp [e] at h
  rw [h];rfl
theorem znC (f:Nat→Bool) (s:Nat) (hs:s < 64):AC Tryz.prog 35 [u64 (zaB f 64:Nat),int s] (.im (u64 (zaB (zaJ f s) 64:Nat))):=by
 refine AC.go (rs:=[.tmp 4]) za0 mixed Tryz.func35 rfl rfl rfl (by kernel_rfl) fun hl=>?_
 have hlt:=zbh f 64
 simp (maxSteps:=9^7) -dsimp only [↓gp,gq,reduceCtorEq,reduceEqDiff,reduceLT,reduceLeDiff,reduceAdd,reduceMul,reduceSub,Nat.reduceBEq,Int.reduceToNat,Int.reduceLE,Int.reduceLT,Int.reduceNeg,reduceMod,gT]
 refine zab (zdn 6 (by omega) _ [.eref false [int s] 0,.eref false [u64 (zaB f 64:Nat)] 0] (zaJ (zaB f 64).testBit s) (fun rw=>rfl) fun t ht=>zjD _ s t (by omega) hs (by omega)) ?_
 rw [zl1 (w':=zaJ f s) (by omega) fun t ht=>by rw [decide_eq_true (show t < 2 ^ 6 by omega),Bool.true_and];exact zlg (fun u hu=>zbm f hu) hs ht]
 simp (maxSteps:=9^7) -dsimp only [↓gp,gq,reduceCtorEq,reduceEqDiff,reduceLT,reduceLeDiff,reduceAdd,reduceMul,reduceSub,Nat.reduceBEq,Int.reduceToNat,Int.reduceLE,Int.reduceLT,Int.reduceNeg,reduceMod,gT]
noncomputable def dtR (n:Int) (xs:List Int) (p:Int):Mat:=if zgC n xs = true∧isP p = true then dtT (zat n.toNat (zag xs)) p n.toNat else []
theorem zl2 {n:Int} {xs:List Int} {p:Int} (h:¬ (zgC n xs = true∧isP p = true)):dtR n xs p = []:=if_neg h
theorem ziH (n:Int) (xs:List Int) (p:Int):AC Tryz.prog 8 [.ag [int n,zbr xs],int p] (.tb 24 3 ((dtR n xs p).map iL)):=by
 refine AC.go (rs:=[.tmp 4]) za0 mixed Tryz.func8 rfl rfl rfl (by kernel_rfl) fun hl=>?_
 simp only [zaT,zbg,and_true,zbK,zcZ,zb2,true_and] at hl
 simp (maxSteps:=9^7) -dsimp only [↓gp,gq,reduceCtorEq,reduceEqDiff,reduceLT,reduceLeDiff,reduceAdd,reduceMul,reduceSub,Nat.reduceBEq,Int.reduceToNat,Int.reduceLE,Int.reduceLT,Int.reduceNeg,reduceMod,gT]
 refine zab (zc2 n xs) ?_
 simp (maxSteps:=9^7) -dsimp only [↓gp,gq,reduceCtorEq,reduceEqDiff,reduceLT,reduceLeDiff,reduceAdd,reduceMul,reduceSub,Nat.reduceBEq,Int.reduceToNat,Int.reduceLE,Int.reduceLT,Int.reduceNeg,reduceMod,gT]
 refine ⟨fun hc=>⟨fun h0=>zab (zcg p) ?_,fun h0=>?_⟩,fun hc=>?_⟩
 ·have hcx:zcV n xs = true:=by simpa using hc
  have hh:zgC n xs = true:=zaO.2 ⟨hcx,by simp at h0;exact List.length_pos_iff.2 h0⟩
  simp (maxSteps:=9^7) -dsimp only [↓gp,gq,reduceCtorEq,reduceEqDiff,reduceLT,reduceLeDiff,reduceAdd,reduceMul,reduceSub,Nat.reduceBEq,Int.reduceToNat,Int.reduceLE,Int.reduceLT,Int.reduceNeg,reduceMod,gT]
  refine ⟨fun hp=>?_,fun hp=>?_⟩
  ·rw [zl2 (fun h=>by rw [h.2] at hp;cases hp)]
   exact zcM (by simp (maxSteps:=9^7) -dsimp only [gr,reduceEqDiff,reduceLT,reduceAdd,reduceMod,Nat.reduceBEq]) (by decide)
  ·have hp:isP p = true:=by simpa using hp
   obtain ⟨h1,h6,_⟩:=za7.1 hcx
   have hxo:=zdZ hcx
   have hxl:=zns hcx
   obtain ⟨m,rfl⟩:∃ m:Nat,n = m:=⟨n.toNat,by omega⟩
   have hb:dtR m xs p = dtT (zat m (zag xs)) p m:=if_pos ⟨hh,hp⟩
   rw [hb]
   have h64:=zar (m:=m) (by omega)
   have hE:AC Tryz.prog 29 [int m] (.tb 24 3 ((List.replicate (m + 1) (List.replicate (m + 1) (0:Int))).map iL)):=by
    have:=zea m (by omega)
    rwa [zrz] at this
   have hsq0:=zry (zat m (zag xs)) p m 0
   have hz:=zhn m
   have hset0:dtP (zat m (zag xs)) p m 0 = (List.replicate (m + 1) (List.replicate (m + 1) (0:Int))).set 0 (((List.replicate (m + 1) (List.replicate (m + 1) (0:Int))).getD 0 []).set 0 1):=by
    unfold dtP zfQ
    congr 2
    try (have:=hz.small 0 0;omega)
   have hrl0:=hz.row 0 (by omega)
   have hzl:=hz.len
   generalize hZ:List.replicate (m + 1) (List.replicate (m + 1) (0:Int)) = Z at *
   refine zAu hE (fun i hi=>by simp (maxSteps:=9^7) -dsimp only [gr,reduceEqDiff,reduceLT,reduceAdd,reduceMod,Nat.reduceBEq]) fun S hS0 hSd0 hSs hSr=>?_
   have hS:TabI S.rw 30 1 24 3 (List.range Z.length) Z:=hS0
   have hSd:S.sl 30 = .own 30 1:=hSd0
   have u1:S.sl 1 = int p:=by rw [hSs 1 (by decide)];simp (maxSteps:=9^7) -dsimp only [gr,reduceEqDiff,reduceLT,reduceAdd,reduceMod,Nat.reduceBEq]
   have u2:S.sl 2 = .ref 2 1 0:=by rw [hSs 2 (by decide)];simp (maxSteps:=9^7) -dsimp only [gr,reduceEqDiff,reduceLT,reduceAdd,reduceMod,Nat.reduceBEq]
   have u5:S.sl 5 = int m:=by rw [hSs 5 (by decide)];simp (maxSteps:=9^7) -dsimp only [gr,reduceEqDiff,reduceLT,reduceAdd,reduceMod,Nat.reduceBEq]
   have w2:S.rw 2 = ⟨1,.box 26 [int (m:Nat),zbr xs]⟩:=by rw [hSr 2 (by decide)];simp (maxSteps:=9^7) -dsimp only [gr,reduceEqDiff,reduceLT,reduceAdd,reduceMod,Nat.reduceBEq]
   rw [hzl] at hS
   have e0:(List.range (m + 1)).getD 0 0 = 0:=znw (by omega)
   have hrow0:=hS.row (i:=0) (by omega)
   rw [e0] at hrow0
   have htop:=hS.top
   clear hSs hSr hS0 hSd0
   simp (maxSteps:=9^7) -dsimp only [↓gp,gq,reduceCtorEq,reduceEqDiff,reduceLT,reduceLeDiff,reduceAdd,reduceMul,reduceSub,Nat.reduceBEq,Int.reduceToNat,Int.reduceLE,Int.reduceLT,Int.reduceNeg,reduceMod,gT,hSd,u1,u2,u5,w2,htop,zbs,e0,hrow0,hrl0,zaj,List.length_range]
   refine ⟨by omega,by omega,by omega,zab (zdT _ xs hxo) ?_⟩
   simp (maxSteps:=9^7) -dsimp only [↓gp,gq,reduceCtorEq,reduceEqDiff,reduceLT,reduceLeDiff,reduceAdd,reduceMul,reduceSub,Nat.reduceBEq,Int.reduceToNat,Int.reduceLE,Int.reduceLT,Int.reduceNeg,reduceMod,gT,hSd,u1,u2,u5,w2,htop,zbs,e0,hrow0,hrl0,zaj,List.length_range]
   refine zab (znB m (by omega) (zag xs)) ?_
   simp (maxSteps:=9^7) -dsimp only [↓gp,gq,reduceCtorEq,reduceEqDiff,reduceLT,reduceLeDiff,reduceAdd,reduceMul,reduceSub,Nat.reduceBEq,Int.reduceToNat,Int.reduceLE,Int.reduceLT,Int.reduceNeg,reduceMod,gT,hSd,u1,u2,u5,w2,htop,zbs,e0,hrow0,hrl0,zaj,List.length_range]
   have hmd:=zbh (zat m (zag xs)) 64
   have eord:za2 (zaB (zat m (zag xs)) 64).testBit = za2 (zat m (zag xs)):=zd9 fun s hs=>zbm _ hs
   have hSI:=zgH (zaB (zat m (zag xs)) 64) (by omega)
   rw [eord] at hSI
   refine zab hSI ?_
   have hLl:=zdd (zat m (zag xs))
   have hLm:=fun k (hk:k < (za2 (zat m (zag xs))).length)=>za6.1 (zax 0 hk)
   have hdt:=zry (zat m (zag xs)) p m
   have hstep:∀ k,dtP (zat m (zag xs)) p m (k + 1) = zht (dtP (zat m (zag xs)) p m k) m (m - zak ((za2 (zat m (zag xs))).getD k 0)) (zdf (zaJ (zat m (zag xs)) ((za2 (zat m (zag xs))).getD k 0)) p) (zba (zaJ (zat m (zag xs)) ((za2 (zat m (zag xs))).getD k 0))):=fun _=>rfl
   unfold dtT
   generalize hL:za2 (zat m (zag xs)) = L at *
   simp (maxSteps:=9^7) -dsimp only [↓gp,gq,reduceCtorEq,reduceEqDiff,reduceLT,reduceLeDiff,reduceAdd,reduceMul,reduceSub,Nat.reduceBEq,Int.reduceToNat,Int.reduceLE,Int.reduceLT,Int.reduceNeg,reduceMod,gT,hSd,u1,u2,u5,w2,htop,zbs,e0,hrow0,hrl0,zaj,List.length_range,zae]
   refine zan (fun (zb:Nat × Nat) s=>match zb with | (k,v)=>s.sl 1 = int p∧s.sl 2 = .ref 2 1 0∧s.rw 2 = ⟨1,.box 26 [int (m:Nat),zbr xs]⟩∧s.sl 5 = int m∧s.sl 6 = .own 30 1∧s.sl 7 = u64 (zaB (zat m (zag xs)) 64:Nat)∧s.sl 40 = .own 40 v∧s.rw 40 = ⟨v,.sli 3 1 false (iL (ofN L))⟩∧s.sl 41 = int L.length∧s.sl 42 = int k∧(k ≤ L.length∧TabI s.rw 30 1 24 3 (List.range (m + 1)) (dtP (zat m (zag xs)) p m k))) (fun (k,v)=>L.length - k) ((0,(S.rw 40).ver + 1)) (by refine ⟨?_,?_,?_,?_,?_,?_,?_,?_,?_,?_,⟨Nat.zero_le _,by rw [hset0];exact hS.set (i:=0) (by omega) (by simp (maxSteps:=9^7) -dsimp only [gr,reduceEqDiff,reduceLT,reduceAdd,reduceMod,Nat.reduceBEq]) (by simp (maxSteps:=9^7) -dsimp only [gr,reduceEqDiff,reduceLT,reduceAdd,reduceMod,Nat.reduceBEq,e0,htop,hrow0]) (fun x hx=>by simp (maxSteps:=9^7) -dsimp only [gr,reduceEqDiff,reduceLT,reduceAdd,reduceMod,Nat.reduceBEq,e0 ▸ hx])⟩⟩ <;> (first | (simp (maxSteps:=9^7) -dsimp only [gr,reduceEqDiff,reduceLT,reduceAdd,reduceMod,Nat.reduceBEq,hSd,u1,u2,u5,w2,zae];first | done | rfl | (simp;done)) | assumption | rfl)) ?_
   intro (k,v) sb ⟨h1b,h2b,r2b,h5b,h6b,h7b,h40b,r40b,h41b,h42b,hIb⟩
   obtain ⟨hk,hb2⟩:=hIb
   simp (maxSteps:=9^7) -dsimp only [↓gp,gq,reduceCtorEq,reduceEqDiff,reduceLT,reduceLeDiff,reduceAdd,reduceMul,reduceSub,Nat.reduceBEq,Int.reduceToNat,Int.reduceLE,Int.reduceLT,Int.reduceNeg,reduceMod,gT,h1b,h2b,r2b,h5b,h6b,h7b,h40b,r40b,h41b,h42b,zae]
   refine ⟨fun h2=>?_,fun h2=>?_⟩
   ·obtain ⟨hs64,hsd⟩:=hLm k h2
    have hsm2:L.getD k 0 < 2 ^ m:=by
     unfold zat at hsd
     rw [Bool.and_eq_true,decide_eq_true_iff] at hsd
     exact hsd.1
    have hg:=zaK h2
    have hstepk:=hstep k
    have hsqk:=hdt k
    generalize hs0:L.getD k 0 = s0 at *
    have hpn:=zcP (n:=m) (by omega) hsm2
    have hzz:=zcu hs64
    refine ⟨by omega,by omega,?_⟩
    simp (maxSteps:=9^7) -dsimp only [↓gp,gq,reduceCtorEq,reduceEqDiff,reduceLT,reduceLeDiff,reduceAdd,reduceMul,reduceSub,Nat.reduceBEq,Int.reduceToNat,Int.reduceLE,Int.reduceLT,Int.reduceNeg,reduceMod,gT,h1b,h2b,r2b,h5b,h6b,h7b,h40b,r40b,h41b,h42b,zae,hg]
    refine zab (zaP _) ?_
    have hw0:IntKind.i64.wrap ((m:Int) - (zak s0:Int)) = ((m - zak s0:Nat):Int):=by rw [zam (by omega) (by omega)];omega
    simp (maxSteps:=9^7) -dsimp only [↓gp,gq,reduceCtorEq,reduceEqDiff,reduceLT,reduceLeDiff,reduceAdd,reduceMul,reduceSub,Nat.reduceBEq,Int.reduceToNat,Int.reduceLE,Int.reduceLT,Int.reduceNeg,reduceMod,gT,h1b,h2b,r2b,h5b,h6b,h7b,h40b,r40b,h41b,h42b,zae,hg,hzz,hw0]
    refine zab (znC _ s0 hs64) ?_
    simp (maxSteps:=9^7) -dsimp only [↓gp,gq,reduceCtorEq,reduceEqDiff,reduceLT,reduceLeDiff,reduceAdd,reduceMul,reduceSub,Nat.reduceBEq,Int.reduceToNat,Int.reduceLE,Int.reduceLT,Int.reduceNeg,reduceMod,gT,h1b,h2b,r2b,h5b,h6b,h7b,h40b,r40b,h41b,h42b,zae,hg,hzz,hw0]
    refine zab (zf5 _ p hp) ?_
    have hsm:=zdB (zaJ (zat m (zag xs)) s0) p
    have hdl:=zcD (zaJ (zat m (zag xs)) s0)
    have hhl:=zaL (zaJ (zat m (zag xs)) s0) p
    generalize hhs:zdf (zaJ (zat m (zag xs)) s0) p = hs at *
    generalize hjj:m - zak s0 = jj at *
    generalize dtP (zat m (zag xs)) p m k = M0 at *
    have hsq:=fun i=>zou (m:=m) (j:=jj) hsqk hsm i
    simp (maxSteps:=9^7) -dsimp only [↓gp,gq,reduceCtorEq,reduceEqDiff,reduceLT,reduceLeDiff,reduceAdd,reduceMul,reduceSub,Nat.reduceBEq,Int.reduceToNat,Int.reduceLE,Int.reduceLT,Int.reduceNeg,reduceMod,gT,h1b,h2b,r2b,h5b,h6b,h7b,h40b,r40b,h41b,h42b,zae,hg,hzz,hw0]
    refine zan (fun (zc:Nat × Nat) s=>match zc with | (i,u)=>s.sl 1 = int p∧s.sl 2 = .ref 2 1 0∧s.rw 2 = ⟨1,.box 26 [int (m:Nat),zbr xs]⟩∧s.sl 5 = int m∧s.sl 6 = .own 30 1∧s.sl 7 = u64 (zaB (zat m (zag xs)) 64:Nat)∧s.sl 10 = int jj∧s.sl 40 = .own 40 v∧s.rw 40 = ⟨v,.sli 3 1 false (iL (ofN L))⟩∧s.sl 41 = int L.length∧s.sl 42 = int k∧s.sl 54 = .own 54 u∧s.rw 54 = ⟨u,.sli 3 1 false (iL hs)⟩∧s.sl 55 = int hs.length∧s.sl 56 = int i∧(i ≤ hs.length∧TabI s.rw 30 1 24 3 (List.range (m + 1)) (zht M0 m jj hs i))) (fun (i,u)=>hs.length - i) ((0,(sb.rw 54).ver + 1)) (by refine ⟨?_,?_,?_,?_,?_,?_,?_,?_,?_,?_,?_,?_,?_,?_,?_,⟨by omega,hb2.same (by simp (maxSteps:=9^7) -dsimp only [gr,reduceEqDiff,reduceLT,reduceAdd,reduceMod,Nat.reduceBEq]) (fun x=>by simp (maxSteps:=9^7) -dsimp only [gr,reduceEqDiff,reduceLT,reduceAdd,reduceMod,Nat.reduceBEq])⟩⟩ <;> (first | (simp (maxSteps:=9^7) -dsimp only [gr,reduceEqDiff,reduceLT,reduceAdd,reduceMod,Nat.reduceBEq,h1b,h2b,r2b,h5b,h6b,h7b,h40b,r40b,h41b,h42b];first | done | rfl | (simp;done)) | assumption | rfl)) ?_
    intro (i,u) sc ⟨h1c,h2c,r2c,h5c,h6c,h7c,h10c,h40c,r40c,h41c,h42c,h54c,r54c,h55c,h56c,hIc⟩
    obtain ⟨hi,hb3⟩:=hIc
    by_cases h3:i < hs.length
    ·have hwi:IntKind.i64.wrap ((i:Int) + 1) = ((i + 1:Nat):Int):=by rw [zam (by omega) (by omega)];omega
     by_cases h4:i + 1 ≤ m
     ·have hsq:=hsq i
      have hs1:=hsq.small (i + 1) jj
      have hs2:=hsm i
      have hml:=hsq.len
      have hrl:=hsq.row (i + 1) (by omega)
      have hadd:zht M0 m jj hs (i + 1) = zfQ (zht M0 m jj hs i) (i + 1) jj (hs.getD i 0):=by rw [zht,if_pos h4]
      generalize zht M0 m jj hs i = M at *
      have e1:(List.range (m + 1)).getD (i + 1) 0 = i + 1:=znw (by omega)
      have hrow:=hb3.row (i:=i + 1) (by omega)
      rw [e1] at hrow
      have hw2:IntKind.i64.wrap ((M.getD (i + 1) []).getD jj 0 + hs.getD i 0) = (M.getD (i + 1) []).getD jj 0 + hs.getD i 0:=zam (by omega) (by omega)
      simp (maxSteps:=9^7) -dsimp only [↓gp,gq,reduceCtorEq,reduceEqDiff,reduceLT,reduceLeDiff,reduceAdd,reduceMul,reduceSub,Nat.reduceBEq,Int.reduceToNat,Int.reduceLE,Int.reduceLT,Int.reduceNeg,reduceMod,gT,h1c,h2c,r2c,h5c,h6c,h7c,h10c,h40c,r40c,h41c,h42c,h54c,r54c,h55c,h56c,hwi,hb3.top,zbs,e1,hrow,hrl,zaj,List.length_range,hw2]
      refine ⟨fun _=>⟨h3,h3,fun _=>⟨by omega,by omega,by omega,by omega,by omega,by omega,?_⟩,fun h=>absurd h4 h⟩,fun h=>absurd h3 h⟩
      exact zac ((i + 1,u)) (by refine ⟨?_,?_,?_,?_,?_,?_,?_,?_,?_,?_,?_,?_,?_,?_,?_,⟨by dsimp only;omega,by
       dsimp only
       rw [hadd]
       exact hb3.set (i:=i + 1) (by omega) (by simp (maxSteps:=9^7) -dsimp only [gr,reduceEqDiff,reduceLT,reduceAdd,reduceMod,Nat.reduceBEq]) (by simp (maxSteps:=9^7) -dsimp only [gr,reduceEqDiff,reduceLT,reduceAdd,reduceMod,Nat.reduceBEq,e1,h1c,h2c,r2c,h5c,h6c,h7c,h10c,h40c,r40c,h41c,h42c,h54c,r54c,h55c,h56c,hb3.top,hrow]) (fun x hx=>by simp (maxSteps:=9^7) -dsimp only [gr,reduceEqDiff,reduceLT,reduceAdd,reduceMod,Nat.reduceBEq,e1 ▸ hx])⟩⟩ <;> (first | (simp (maxSteps:=9^7) -dsimp only [gr,reduceEqDiff,reduceLT,reduceAdd,reduceMod,Nat.reduceBEq,h1c,h2c,r2c,h5c,h6c,h7c,h10c,h40c,r40c,h41c,h42c,h54c,r54c,h55c,h56c,zaa h3 (by omega)];first | done | rfl | (simp;done)) | assumption | rfl)) (by first | omega | (simp only;omega) | (dsimp only;omega) | (show _ < _;simp;omega))
     ·have hadd:zht M0 m jj hs (i + 1) = zht M0 m jj hs i:=by rw [zht,if_neg h4]
      simp (maxSteps:=9^7) -dsimp only [↓gp,gq,reduceCtorEq,reduceEqDiff,reduceLT,reduceLeDiff,reduceAdd,reduceMul,reduceSub,Nat.reduceBEq,Int.reduceToNat,Int.reduceLE,Int.reduceLT,Int.reduceNeg,reduceMod,gT,h1c,h2c,r2c,h5c,h6c,h7c,h10c,h40c,r40c,h41c,h42c,h54c,r54c,h55c,h56c,hwi]
      refine ⟨fun _=>⟨h3,h3,fun h=>absurd h h4,fun _=>?_⟩,fun h=>absurd h3 h⟩
      exact zac ((i + 1,u)) (by refine ⟨?_,?_,?_,?_,?_,?_,?_,?_,?_,?_,?_,?_,?_,?_,?_,⟨by dsimp only;omega,by
       dsimp only
       rw [hadd]
       exact hb3.same (by simp (maxSteps:=9^7) -dsimp only [gr,reduceEqDiff,reduceLT,reduceAdd,reduceMod,Nat.reduceBEq]) (fun x=>by simp (maxSteps:=9^7) -dsimp only [gr,reduceEqDiff,reduceLT,reduceAdd,reduceMod,Nat.reduceBEq])⟩⟩ <;> (first | (simp (maxSteps:=9^7) -dsimp only [gr,reduceEqDiff,reduceLT,reduceAdd,reduceMod,Nat.reduceBEq,h1c,h2c,r2c,h5c,h6c,h7c,h10c,h40c,r40c,h41c,h42c,h54c,r54c,h55c,h56c,zaa h3 (by omega)];first | done | rfl | (simp;done)) | assumption | rfl)) (by first | omega | (simp only;omega) | (dsimp only;omega) | (show _ < _;simp;omega))
    ·have e:zht M0 m jj hs i = dtP (zat m (zag xs)) p m (k + 1):=by
      rw [hstepk,← hhl,show i = hs.length by omega]
     rw [e] at hb3
     simp (maxSteps:=9^7) -dsimp only [↓gp,gq,reduceCtorEq,reduceEqDiff,reduceLT,reduceLeDiff,reduceAdd,reduceMul,reduceSub,Nat.reduceBEq,Int.reduceToNat,Int.reduceLE,Int.reduceLT,Int.reduceNeg,reduceMod,gT,h1c,h2c,r2c,h5c,h6c,h7c,h10c,h40c,r40c,h41c,h42c,h54c,r54c,h55c,h56c]
     refine ⟨fun h=>absurd h h3,fun _=>?_⟩
     exact zac ((k + 1,v)) (by refine ⟨?_,?_,?_,?_,?_,?_,?_,?_,?_,?_,⟨by dsimp only;omega,hb3.same (by simp (maxSteps:=9^7) -dsimp only [gr,reduceEqDiff,reduceLT,reduceAdd,reduceMod,Nat.reduceBEq]) (fun x=>by simp (maxSteps:=9^7) -dsimp only [gr,reduceEqDiff,reduceLT,reduceAdd,reduceMod,Nat.reduceBEq])⟩⟩ <;> (first | (simp (maxSteps:=9^7) -dsimp only [gr,reduceEqDiff,reduceLT,reduceAdd,reduceMod,Nat.reduceBEq,h1b,h2b,r2b,h5b,h6b,h7b,h40b,r40b,h41b,h42b,h1c,h2c,r2c,h5c,h6c,h7c,h10c,h40c,r40c,h41c,h42c,h54c,r54c,h55c,h56c,zaa h2 (by omega)];first | done | rfl | (simp;done)) | assumption | rfl)) (by first | omega | (simp only;omega) | (dsimp only;omega) | (show _ < _;simp;omega))
   ·have:k = L.length:=by omega
    subst this
    exact zd8 hb2 (by decide) (fun j hj=>by have:=List.mem_range.1 hj;omega)
 ·rw [zl2 (fun h=>by first | (have q:=(zaO.1 h.1).2;simp at h0;simp [h0] at q;done) | (rw [(zaO.1 h.1).1] at hc;cases hc))]
  exact zcM (by simp (maxSteps:=9^7) -dsimp only [gr,reduceEqDiff,reduceLT,reduceAdd,reduceMod,Nat.reduceBEq]) (by decide)
 ·rw [zl2 (fun h=>by first | (have q:=(zaO.1 h.1).2;simp at h0;simp [h0] at q;done) | (rw [(zaO.1 h.1).1] at hc;cases hc))]
  exact zcM (by simp (maxSteps:=9^7) -dsimp only [gr,reduceEqDiff,reduceLT,reduceAdd,reduceMod,Nat.reduceBEq]) (by decide)
theorem zhu (m:Nat) (xs:List Int) (h:zcV (m:Int) xs = true):AC Tryz.prog 17 [.ag [int m,zbr xs]] (.tup [.ag [.im (int m),.fr 3 1 (iL (znD m xs))],.im (bool true)]):=by
 refine AC.go (rs:=[.cell 2 26,.tmp 3]) za0 mixed Tryz.func17 rfl rfl rfl (by kernel_rfl) fun hl=>?_
 simp only [zaT,zbg,and_true,zbK,zcZ,zb2,true_and] at hl
 have hml:=zi2 m xs
 have hmo:=zae (zfq m xs)
 simp (maxSteps:=9^7) -dsimp only [↓gp,gq,reduceCtorEq,reduceEqDiff,reduceLT,reduceLeDiff,reduceAdd,reduceMul,reduceSub,Nat.reduceBEq,Int.reduceToNat,Int.reduceLE,Int.reduceLT,Int.reduceNeg,reduceMod,gT]
 refine zab (zbM m xs) ?_
 simp (maxSteps:=9^7) -dsimp only [↓gp,gq,reduceCtorEq,reduceEqDiff,reduceLT,reduceLeDiff,reduceAdd,reduceMul,reduceSub,Nat.reduceBEq,Int.reduceToNat,Int.reduceLE,Int.reduceLT,Int.reduceNeg,reduceMod,gT,h]
 refine zab (zcl m xs) ?_
 obtain ⟨h1,h6,_⟩:=za7.1 h
 unfold znD zHc
 have hok:okS ((ofN (zfq m xs)).map (zgi m)):=by
  intro x hx
  obtain ⟨y,hy,rfl⟩:=List.mem_map.1 hx
  unfold ofN at hy
  obtain ⟨s,hs,rfl⟩:=List.mem_map.1 hy
  have h64:=zar (m:=m) (by omega)
  obtain ⟨⟨s1,s2⟩,_⟩:=zct.1 hs
  have hin:zby m s = true:=by
   unfold zf9 at s2
   simp only [Bool.and_eq_true] at s2
   exact s2.2.1
  have:s < 2 ^ m:=by
   unfold zby at hin
   rw [decide_eq_true_iff,zbO] at hin
   omega
  rw [zoZ (by omega) this]
  omega
 generalize ofN (zfq m xs) = ys at *
 simp (maxSteps:=9^7) -dsimp only [↓gp,gq,reduceCtorEq,reduceEqDiff,reduceLT,reduceLeDiff,reduceAdd,reduceMul,reduceSub,Nat.reduceBEq,Int.reduceToNat,Int.reduceLE,Int.reduceLT,Int.reduceNeg,reduceMod,gT]
 have hmap:∀ k,k < ys.length→(ys.take (k + 1)).map (zgi m) = (ys.take k).map (zgi m) ++ [zgi m (ys.getD k 0)]:=fun k h=>by rw [zaF 0 h];simp
 refine zan (fun (za:Nat × Nat × Nat) s=>match za with | (k,v,w)=>s.sl 1 = .ref 1 1 0∧s.rw 1 = ⟨1,.box 26 [int (m:Nat),zbr xs]⟩∧s.sl 2 = .ref 2 1 0∧s.rw 2 = ⟨1,.box 26 [int 0,.v (.slice none 0 0)]⟩∧s.sl 3 = bool false∧s.sl 4 = .own 12 w∧s.rw 12 = ⟨w,.sli 3 1 false (iL ys)⟩∧s.sl 5 = .own 13 v∧s.rw 13 = ⟨v,.sli 3 1 false (iL ((ys.take k).map (zgi m)))⟩∧s.sl 6 = int k∧(k ≤ ys.length)) (fun (k,v,w)=>ys.length - k) ((0,1,1)) (by refine ⟨?_,?_,?_,?_,?_,?_,?_,?_,?_,?_,by simp⟩ <;> (first | (simp (maxSteps:=9^7) -dsimp only [gr,reduceEqDiff,reduceLT,reduceAdd,reduceMod,Nat.reduceBEq];first | done | rfl | (simp;done)) | assumption | rfl)) ?_
 intro (k,v,w) sa ⟨h1a,r1a,h2a,r2a,h3a,h4a,r12a,h5a,r13a,h6a,hIa⟩
 simp (maxSteps:=9^7) -dsimp only [↓gp,gq,reduceCtorEq,reduceEqDiff,reduceLT,reduceLeDiff,reduceAdd,reduceMul,reduceSub,Nat.reduceBEq,Int.reduceToNat,Int.reduceLE,Int.reduceLT,Int.reduceNeg,reduceMod,gT,h1a,r1a,h2a,r2a,h3a,h4a,r12a,h5a,r13a,h6a]
 refine ⟨fun hk=>⟨by kernel_rfl,hk,hk,zab (zgj _ _) ?_⟩,fun hk=>?_⟩
 ·simp (maxSteps:=9^7) -dsimp only [↓gp,gq,reduceCtorEq,reduceEqDiff,reduceLT,reduceLeDiff,reduceAdd,reduceMul,reduceSub,Nat.reduceBEq,Int.reduceToNat,Int.reduceLE,Int.reduceLT,Int.reduceNeg,reduceMod,gT,h1a,r1a,h2a,r2a,h3a,h4a,r12a,h5a,r13a,h6a]
  have hle:((ys.take k).map (zgi m)).length ≤ 448:=by rw [List.length_map,List.length_take];omega
  refine ⟨by omega,by kernel_rfl,?_⟩
  exact zac ((k + 1,v + 1,w)) (by refine ⟨?_,?_,?_,?_,?_,?_,?_,?_,?_,?_,by dsimp only;omega⟩ <;> (first | (simp (maxSteps:=9^7) -dsimp only [gr,reduceEqDiff,reduceLT,reduceAdd,reduceMod,Nat.reduceBEq,h1a,r1a,h2a,r2a,h3a,h4a,r12a,h5a,r13a,h6a,zaa hk (by omega),hmap k hk];first | done | rfl | (simp;done)) | assumption | rfl)) (by first | omega | (simp only;omega) | (dsimp only;omega) | (show _ < _;simp;omega))
 ·have:k = ys.length:=by omega
  subst this
  have ht:ys.take ys.length = ys:=List.take_length
  rw [ht] at r13a ⊢
  refine zab (zb6 m _ hok) ?_
  simp (maxSteps:=9^7) -dsimp only [↓gp,gq,reduceCtorEq,reduceEqDiff,reduceLT,reduceLeDiff,reduceAdd,reduceMul,reduceSub,Nat.reduceBEq,Int.reduceToNat,Int.reduceLE,Int.reduceLT,Int.reduceNeg,reduceMod,gT,h1a,r1a,h2a,r2a,h3a,h4a,r12a,h5a,r13a,h6a]
theorem zhv (n:Int) (xs:List Int) (w:Nat) (hs:w < 64) (hx:okS xs) (hlen:xs.length ≤ 1000):AC Tryz.prog 43 [.ag [int n,zbr xs],int w] (.ag [.im (int n),.fr 3 1 (iL (ofN (zfB (inF (znF xs w)) true)))]):=by
 refine AC.go (rs:=[.cell 4 26]) za0 mixed Tryz.func43 rfl rfl rfl (by kernel_rfl) fun hl=>?_
 simp only [zaT,zbg,and_true,zbK,zcZ,zb2,true_and] at hl
 simp (maxSteps:=9^7) -dsimp only [↓gp,gq,reduceCtorEq,reduceEqDiff,reduceLT,reduceLeDiff,reduceAdd,reduceMul,reduceSub,Nat.reduceBEq,Int.reduceToNat,Int.reduceLE,Int.reduceLT,Int.reduceNeg,reduceMod,gT]
 have hlk:znF xs w = znF (xs.take xs.length) w:=by rw [List.take_length]
 refine zan (fun (za:Nat × Nat) s=>match za with | (k,v)=>s.sl 1 = int w∧s.sl 2 = .ref 2 1 0∧s.rw 2 = ⟨1,.box 26 [int n,zbr xs]⟩∧s.sl 4 = .ref 4 1 0∧s.rw 4 = ⟨1,.box 26 [int 0,.v (.slice none 0 0)]⟩∧s.sl 5 = .own 7 v∧s.rw 7 = ⟨v,.sli 3 1 false (iL (znF (xs.take k) w))⟩∧s.sl 6 = int k∧(k ≤ xs.length)) (fun (k,v)=>xs.length - k) ((0,1)) (by refine ⟨?_,?_,?_,?_,?_,?_,?_,?_,by simp⟩ <;> (first | (simp (maxSteps:=9^7) -dsimp only [gr,reduceEqDiff,reduceLT,reduceAdd,reduceMod,Nat.reduceBEq];first | done | rfl | (simp;done)) | assumption | rfl)) ?_
 intro (k,v) sa ⟨h1a,h2a,r2a,h4a,r4a,h5a,r7a,h6a,hIa⟩
 have hll:(znF (xs.take k) w).length ≤ 1000:=by
  unfold znF
  rw [List.length_map]
  have:=List.length_filter_le (fun x=>zdI .i64 x (w:Int) == (w:Int)) (xs.take k)
  rw [List.length_take] at this
  omega
 simp (maxSteps:=9^7) -dsimp only [↓gp,gq,reduceCtorEq,reduceEqDiff,reduceLT,reduceLeDiff,reduceAdd,reduceMul,reduceSub,Nat.reduceBEq,Int.reduceToNat,Int.reduceLE,Int.reduceLT,Int.reduceNeg,reduceMod,gT,h1a,h2a,r2a,h4a,r4a,h5a,r7a,h6a]
 refine ⟨fun h=>⟨h,h,?_⟩,fun h=>?_⟩
 ·have hxk:=zo2 hx h
  have hwx:IntKind.i64.wrap (xs.getD k 0 - (w:Int)) = xs.getD k 0 - (w:Int):=zam (by omega) (by omega)
  refine ⟨fun hy=>?_,fun hy=>?_⟩
  ·have e:znF (xs.take (k + 1)) w = znF (xs.take k) w ++ [xs.getD k 0 - (w:Int)]:=by
    unfold znF
    rw [zaF 0 h,List.filter_append,List.map_append,List.filter_cons,if_pos hy];rfl
   exact ⟨h,h,by omega,zac ((k + 1,v + 1)) (by refine ⟨?_,?_,?_,?_,?_,?_,?_,?_,by dsimp only;omega⟩ <;> (first | (simp (maxSteps:=9^7) -dsimp only [gr,reduceEqDiff,reduceLT,reduceAdd,reduceMod,Nat.reduceBEq,h1a,h2a,r2a,h4a,r4a,h5a,r7a,h6a,zaa h (by omega),hwx,e];first | done | rfl | (simp;done)) | assumption | rfl)) (by first | omega | (simp only;omega) | (dsimp only;omega) | (show _ < _;simp;omega))⟩
  ·have e:znF (xs.take (k + 1)) w = znF (xs.take k) w:=by
    unfold znF
    rw [zaF 0 h,List.filter_append,List.map_append,List.filter_cons,if_neg (by rw [hy];decide)];simp
   exact zac ((k + 1,v)) (by refine ⟨?_,?_,?_,?_,?_,?_,?_,?_,by dsimp only;omega⟩ <;> (first | (simp (maxSteps:=9^7) -dsimp only [gr,reduceEqDiff,reduceLT,reduceAdd,reduceMod,Nat.reduceBEq,h1a,h2a,r2a,h4a,r4a,h5a,r7a,h6a,zaa h (by omega),e];first | done | rfl | (simp;done)) | assumption | rfl)) (by first | omega | (simp only;omega) | (dsimp only;omega) | (show _ < _;simp;omega))
 ·have:k = xs.length:=by omega
  subst this
  rw [hlk]
  refine zab (zb6 n _ ?_) ?_
  ·intro x hx'
   unfold znF at hx'
   obtain ⟨y,hy,rfl⟩:=List.mem_map.1 hx'
   obtain ⟨a,b⟩:=List.mem_filter.1 hy
   rw [List.take_length] at a
   have:=hx y a
   rw [beq_iff_eq] at b
   have h2:zdI .i64 y (w:Int) = ((y.toNat &&& w:Nat):Int):=by
    rw [← zbF (by omega) (by omega)];congr 1;omega
   have h3:y.toNat &&& w ≤ y.toNat:=Nat.and_le_left
   omega
  ·simp (maxSteps:=9^7) -dsimp only [↓gp,gq,reduceCtorEq,reduceEqDiff,reduceLT,reduceLeDiff,reduceAdd,reduceMul,reduceSub,Nat.reduceBEq,Int.reduceToNat,Int.reduceLE,Int.reduceLT,Int.reduceNeg,reduceMod,gT,h1a,h2a,r2a,h4a,r4a,h5a,r7a,h6a]
theorem ziZ (n:Int) (xs:List Int) (p:Int):AC Tryz.prog 13 [.ag [int n,zbr xs],int p] (.tb 24 3 ((dtR n xs p).map iL)):=by
 refine AC.go (rs:=[.tmp 4]) za0 mixed Tryz.func13 rfl rfl rfl (by kernel_rfl) fun hl=>?_
 simp only [zaT,zbg,and_true,zbK,zcZ,zb2,true_and] at hl
 simp (maxSteps:=9^7) -dsimp only [↓gp,gq,reduceCtorEq,reduceEqDiff,reduceLT,reduceLeDiff,reduceAdd,reduceMul,reduceSub,Nat.reduceBEq,Int.reduceToNat,Int.reduceLE,Int.reduceLT,Int.reduceNeg,reduceMod,gT]
 refine zab (zfj n xs) ?_
 have hdt:=zru n xs
 simp (maxSteps:=9^7) -dsimp only [↓gp,gq,reduceCtorEq,reduceEqDiff,reduceLT,reduceLeDiff,reduceAdd,reduceMul,reduceSub,Nat.reduceBEq,Int.reduceToNat,Int.reduceLE,Int.reduceLT,Int.reduceNeg,reduceMod,gT,hdt]
 refine ⟨fun hh=>zab (zbd p) ?_,fun hh=>?_⟩
 ·have hh:zgC n xs = true:=by simpa using hh
  simp (maxSteps:=9^7) -dsimp only [↓gp,gq,reduceCtorEq,reduceEqDiff,reduceLT,reduceLeDiff,reduceAdd,reduceMul,reduceSub,Nat.reduceBEq,Int.reduceToNat,Int.reduceLE,Int.reduceLT,Int.reduceNeg,reduceMod,gT]
  refine ⟨fun hp=>?_,fun hp=>?_⟩
  ·rw [zl2 (fun h=>by rw [h.2] at hp;cases hp)]
   exact zcM (by simp (maxSteps:=9^7) -dsimp only [gr,reduceEqDiff,reduceLT,reduceAdd,reduceMod,Nat.reduceBEq]) (by decide)
  ·have hp:isP p = true:=by simpa using hp
   have hcx:=(zaO.1 hh).1
   obtain ⟨h1,h6,_⟩:=za7.1 hcx
   have hxo:=zdZ hcx
   have hxl:=zns hcx
   obtain ⟨m,rfl⟩:∃ m:Nat,n = m:=⟨n.toNat,by omega⟩
   have hb:dtR m xs p = dtT (zat m (zag xs)) p m:=if_pos ⟨hh,hp⟩
   rw [hb]
   have h64:=zar (m:=m) (by omega)
   have hm1:IntKind.i64.wrap ((m:Int) + 1) = ((m + 1:Nat):Int):=by rw [zam (by omega) (by omega)];rfl
   refine zoc (k:=15) (v:=1) (e:=24) (e2:=3) (by simp (maxSteps:=9^7) -dsimp only [gr,reduceEqDiff,reduceLT,reduceAdd,reduceMod,Nat.reduceBEq]) (fun j=>by simp (maxSteps:=9^7) -dsimp only [gr,reduceEqDiff,reduceLT,reduceAdd,reduceMod,Nat.reduceBEq]) (fun (i:Nat) s=>s.sl 1 = int p∧s.sl 2 = .ref 2 1 0∧s.rw 2 = ⟨1,.box 26 [int (m:Nat),zbr xs]⟩∧s.sl 5 = .own 15 (i + 1)∧s.sl 6 = int m∧s.sl 7 = int i∧(i ≤ m + 1∧TabG s.rw 15 (i + 1) 24 3 i (List.replicate i (List.replicate (m + 1) 0)))) (fun i=>m + 1 - i) (0) (fun sX htX hslX hoX=>(by refine ⟨?_,?_,?_,?_,?_,?_,⟨by omega,htX⟩⟩ <;> (first | (simp (maxSteps:=9^7) -dsimp only [gr,reduceEqDiff,reduceLT,reduceAdd,reduceMod,Nat.reduceBEq,hslX,hoX];first | done | rfl | (simp;done)) | assumption | rfl))) ?_
   intro i sa ⟨h1a,h2a,r2a,h5a,h6a,h7a,hIa⟩
   obtain ⟨hi,ht⟩:=hIa
   simp (maxSteps:=9^7) -dsimp only [↓gp,gq,reduceCtorEq,reduceEqDiff,reduceLT,reduceLeDiff,reduceAdd,reduceMul,reduceSub,Nat.reduceBEq,Int.reduceToNat,Int.reduceLE,Int.reduceLT,Int.reduceNeg,reduceMod,gT,h1a,h2a,r2a,h5a,h6a,h7a,hm1,Int.toNat_natCast]
   refine ⟨fun h=>⟨by omega,by omega,?_⟩,fun h=>?_⟩
   ·refine zGi ?_
    simp (maxSteps:=9^7) -dsimp only [↓gp,gq,reduceCtorEq,reduceEqDiff,reduceLT,reduceLeDiff,reduceAdd,reduceMul,reduceSub,Nat.reduceBEq,Int.reduceToNat,Int.reduceLE,Int.reduceLT,Int.reduceNeg,reduceMod,gT,h1a,h2a,r2a,h5a,h6a,h7a,ht.top]
    refine ⟨by omega,?_⟩
    exact zkX (k:=15) (v:=i + 1 + 1) (e:=24) (e2:=3) (n:=i) (d:=35) (vd:=(sa.rw 35).ver + 1) (M:=List.replicate i (List.replicate (m + 1) 0)) (r:=List.replicate (m + 1) 0) (by simp (maxSteps:=9^7) -dsimp only [gr,reduceEqDiff,reduceLT,reduceAdd,reduceMod,Nat.reduceBEq,ht.top]) (by simp) (fun j hj=>by simp (maxSteps:=9^7) -dsimp only [gr,reduceEqDiff,reduceLT,reduceAdd,reduceMod,Nat.reduceBEq,ht.row j hj]) (fun j hj=>by simp (maxSteps:=9^7) -dsimp only [gr,reduceEqDiff,reduceLT,reduceAdd,reduceMod,Nat.reduceBEq,ht.rest j hj]) (by simp (maxSteps:=9^7) -dsimp only [gr,reduceEqDiff,reduceLT,reduceAdd,reduceMod,Nat.reduceBEq,hm1]) (by decide) (by decide) (i + 1) (fun sX htX hslX hoX=>(by refine ⟨?_,?_,?_,?_,?_,?_,⟨by omega,(zrA i _ ▸ htX:TabG _ _ _ _ _ _ _)⟩⟩ <;> (first | (simp (maxSteps:=9^7) -dsimp only [gr,reduceEqDiff,reduceLT,reduceAdd,reduceMod,Nat.reduceBEq,hslX,hoX,h1a,h2a,r2a,h5a,h6a,h7a,h1a,h2a,r2a,h5a,h6a,h7a,zaa (show i < m + 1 by omega) (by omega)];first | done | rfl | (simp;done)) | assumption | rfl))) (by first | omega | (simp only;omega) | (dsimp only;omega) | (show _ < _;simp;omega))
   ·have:i = m + 1:=by omega
    subst this
    have hS:=ht.done
    have hz:=zhn m
    have hset0:dtP (zat m (zag xs)) p m 0 = (List.replicate (m + 1) (List.replicate (m + 1) (0:Int))).set 0 (((List.replicate (m + 1) (List.replicate (m + 1) (0:Int))).getD 0 []).set 0 1):=by
     unfold dtP zfQ
     congr 2
    have hrl0:=hz.row 0 (by omega)
    have hzl:=hz.len
    generalize hZ:List.replicate (m + 1) (List.replicate (m + 1) (0:Int)) = Z at *
    have e0:(List.range (m + 1)).getD 0 0 = 0:=znw (by omega)
    have hrow0:=hS.row (i:=0) (by omega)
    rw [e0] at hrow0
    have htop:=hS.top
    simp (maxSteps:=9^7) -dsimp only [↓gp,gq,reduceCtorEq,reduceEqDiff,reduceLT,reduceLeDiff,reduceAdd,reduceMul,reduceSub,Nat.reduceBEq,Int.reduceToNat,Int.reduceLE,Int.reduceLT,Int.reduceNeg,reduceMod,gT,h1a,h2a,r2a,h5a,h6a,h7a,htop,zbs,e0,hrow0,hrl0,zaj,List.length_range]
    refine ⟨by omega,by omega,by omega,zab (zhu m xs hcx) ?_⟩
    simp (maxSteps:=9^7) -dsimp only [↓gp,gq,reduceCtorEq,reduceEqDiff,reduceLT,reduceLeDiff,reduceAdd,reduceMul,reduceSub,Nat.reduceBEq,Int.reduceToNat,Int.reduceLE,Int.reduceLT,Int.reduceNeg,reduceMod,gT,h1a,h2a,r2a,h5a,h6a,h7a,htop,zbs,e0,hrow0,hrl0,zaj,List.length_range]
    refine zab (zcJ m (znD m xs)) ?_
    rw [zD7 hcx]
    have hLl:=zdd (zat m (zag xs))
    have hLm:=fun k (hk:k < (za2 (zat m (zag xs))).length)=>za6.1 (zax 0 hk)
    have hdt:=zry (zat m (zag xs)) p m
    have hstep:∀ k,dtP (zat m (zag xs)) p m (k + 1) = zht (dtP (zat m (zag xs)) p m k) m (m - zak ((za2 (zat m (zag xs))).getD k 0)) (zdf (zaJ (zat m (zag xs)) ((za2 (zat m (zag xs))).getD k 0)) p) (zba (zaJ (zat m (zag xs)) ((za2 (zat m (zag xs))).getD k 0))):=fun _=>rfl
    unfold dtT
    generalize hL:za2 (zat m (zag xs)) = L at *
    simp (maxSteps:=9^7) -dsimp only [↓gp,gq,reduceCtorEq,reduceEqDiff,reduceLT,reduceLeDiff,reduceAdd,reduceMul,reduceSub,Nat.reduceBEq,Int.reduceToNat,Int.reduceLE,Int.reduceLT,Int.reduceNeg,reduceMod,gT,h1a,h2a,r2a,h5a,h6a,h7a,htop,zbs,e0,hrow0,hrl0,zaj,List.length_range,zae]
    have hdx:=zo0 hcx
    have hdo:=zdZ hdx
    have hdn:=zns hdx
    have hhol:=fun (s:Nat) (hs:s < 64)=>zD8 hcx hs hp
    generalize znD m xs = D at *
    refine zan (fun (zb:Nat × Nat × Nat × Nat) s=>match zb with | (k,a,b,c)=>s.sl 1 = int p∧s.sl 2 = .ref 2 1 0∧s.rw 2 = ⟨1,.box 26 [int (m:Nat),zbr xs]⟩∧s.sl 5 = .own 15 (m + 1 + 1)∧s.sl 6 = int m∧s.sl 8 = .ref 8 a 0∧s.rw 8 = ⟨a,.box 26 [int (m:Nat),.own 44 b]⟩∧s.rw 44 = ⟨b,.sli 3 1 false (iL D)⟩∧s.sl 10 = .own 48 c∧s.rw 48 = ⟨c,.sli 3 1 false (iL (ofN L))⟩∧s.sl 11 = int k∧(k ≤ L.length∧TabI s.rw 15 (m + 1 + 1) 24 3 (List.range (m + 1)) (dtP (zat m (zag xs)) p m k))) (fun (k,a,b,c)=>L.length - k) ((0,(sa.rw 8).ver + 1,(sa.rw 44).ver + 1,(sa.rw 48).ver + 1)) (by refine ⟨?_,?_,?_,?_,?_,?_,?_,?_,?_,?_,?_,⟨Nat.zero_le _,by rw [hset0];exact hS.set (i:=0) (by omega) (by simp (maxSteps:=9^7) -dsimp only [gr,reduceEqDiff,reduceLT,reduceAdd,reduceMod,Nat.reduceBEq]) (by simp (maxSteps:=9^7) -dsimp only [gr,reduceEqDiff,reduceLT,reduceAdd,reduceMod,Nat.reduceBEq,e0,htop,hrow0]) (fun x hx=>by simp (maxSteps:=9^7) -dsimp only [gr,reduceEqDiff,reduceLT,reduceAdd,reduceMod,Nat.reduceBEq,e0 ▸ hx])⟩⟩ <;> (first | (simp (maxSteps:=9^7) -dsimp only [gr,reduceEqDiff,reduceLT,reduceAdd,reduceMod,Nat.reduceBEq,h1a,h2a,r2a,h5a,h6a,h7a,zae];first | done | rfl | (simp;done)) | assumption | rfl)) ?_
    intro (k,a,b,c) sb ⟨h1b,h2b,r2b,h5b,h6b,h8b,r8b,r44b,h10b,r48b,h11b,hIb⟩
    obtain ⟨hk,hb2⟩:=hIb
    simp (maxSteps:=9^7) -dsimp only [↓gp,gq,reduceCtorEq,reduceEqDiff,reduceLT,reduceLeDiff,reduceAdd,reduceMul,reduceSub,Nat.reduceBEq,Int.reduceToNat,Int.reduceLE,Int.reduceLT,Int.reduceNeg,reduceMod,gT,h1b,h2b,r2b,h5b,h6b,h8b,r8b,r44b,h10b,r48b,h11b,zae]
    refine ⟨fun h2=>?_,fun h2=>?_⟩
    ·obtain ⟨hs64,hsd⟩:=hLm k h2
     have hsm2:L.getD k 0 < 2 ^ m:=by
      unfold zat at hsd
      rw [Bool.and_eq_true,decide_eq_true_iff] at hsd
      exact hsd.1
     have hg:=zaK h2
     have hstepk:=hstep k
     have hsqk:=hdt k
     have hholk:=hhol _ hs64
     generalize hs0:L.getD k 0 = s0 at *
     have hpn:=zcP (n:=m) (by omega) hsm2
     simp (maxSteps:=9^7) -dsimp only [↓gp,gq,reduceCtorEq,reduceEqDiff,reduceLT,reduceLeDiff,reduceAdd,reduceMul,reduceSub,Nat.reduceBEq,Int.reduceToNat,Int.reduceLE,Int.reduceLT,Int.reduceNeg,reduceMod,gT,h1b,h2b,r2b,h5b,h6b,h8b,r8b,r44b,h10b,r48b,h11b,zae,hg]
     refine ⟨h2,h2,zab (zaE s0 (by omega)) ?_⟩
     have hw0:IntKind.i64.wrap ((m:Int) - (zak s0:Int)) = ((m - zak s0:Nat):Int):=by rw [zam (by omega) (by omega)];omega
     simp (maxSteps:=9^7) -dsimp only [↓gp,gq,reduceCtorEq,reduceEqDiff,reduceLT,reduceLeDiff,reduceAdd,reduceMul,reduceSub,Nat.reduceBEq,Int.reduceToNat,Int.reduceLE,Int.reduceLT,Int.reduceNeg,reduceMod,gT,h1b,h2b,r2b,h5b,h6b,h8b,r8b,r44b,h10b,r48b,h11b,zae,hg,hw0]
     refine ⟨by kernel_rfl,h2,h2,zab (zhv _ D s0 hs64 hdo (by omega)) ?_⟩
     simp (maxSteps:=9^7) -dsimp only [↓gp,gq,reduceCtorEq,reduceEqDiff,reduceLT,reduceLeDiff,reduceAdd,reduceMul,reduceSub,Nat.reduceBEq,Int.reduceToNat,Int.reduceLE,Int.reduceLT,Int.reduceNeg,reduceMod,gT,h1b,h2b,r2b,h5b,h6b,h8b,r8b,r44b,h10b,r48b,h11b,zae,hg,hw0]
     refine zab (zdC _ _ p) ?_
     rw [hholk]
     have hsm:=zdB (zaJ (zat m (zag xs)) s0) p
     have hdl:=zcD (zaJ (zat m (zag xs)) s0)
     have hhl:=zaL (zaJ (zat m (zag xs)) s0) p
     generalize hhs:zdf (zaJ (zat m (zag xs)) s0) p = hs at *
     generalize hjj:m - zak s0 = jj at *
     generalize dtP (zat m (zag xs)) p m k = M0 at *
     have hsq:=fun i=>zou (m:=m) (j:=jj) hsqk hsm i
     simp (maxSteps:=9^7) -dsimp only [↓gp,gq,reduceCtorEq,reduceEqDiff,reduceLT,reduceLeDiff,reduceAdd,reduceMul,reduceSub,Nat.reduceBEq,Int.reduceToNat,Int.reduceLE,Int.reduceLT,Int.reduceNeg,reduceMod,gT,h1b,h2b,r2b,h5b,h6b,h8b,r8b,r44b,h10b,r48b,h11b,zae,hg,hw0]
     refine ⟨by kernel_rfl,?_⟩
     refine zan (fun (zc:Nat × Nat) s=>match zc with | (i,u)=>s.sl 1 = int p∧s.sl 2 = .ref 2 1 0∧s.rw 2 = ⟨1,.box 26 [int (m:Nat),zbr xs]⟩∧s.sl 5 = .own 15 (m + 1 + 1)∧s.sl 6 = int m∧s.sl 8 = .ref 8 a 0∧s.rw 8 = ⟨a,.box 26 [int (m:Nat),.own 44 b]⟩∧s.rw 44 = ⟨b,.sli 3 1 false (iL D)⟩∧s.sl 10 = .own 48 c∧s.rw 48 = ⟨c,.sli 3 1 false (iL (ofN L))⟩∧s.sl 11 = int k∧s.sl 12 = int jj∧s.sl 13 = .own 69 u∧s.rw 69 = ⟨u,.sli 3 1 false (iL hs)⟩∧s.sl 14 = int (i + 1:Nat)∧(i ≤ hs.length∧TabI s.rw 15 (m + 1 + 1) 24 3 (List.range (m + 1)) (zht M0 m jj hs i))) (fun (i,u)=>hs.length - i) ((0,(sb.rw 69).ver + 1)) (by refine ⟨?_,?_,?_,?_,?_,?_,?_,?_,?_,?_,?_,?_,?_,?_,?_,⟨by omega,hb2.same (by simp (maxSteps:=9^7) -dsimp only [gr,reduceEqDiff,reduceLT,reduceAdd,reduceMod,Nat.reduceBEq]) (fun x=>by simp (maxSteps:=9^7) -dsimp only [gr,reduceEqDiff,reduceLT,reduceAdd,reduceMod,Nat.reduceBEq])⟩⟩ <;> (first | (simp (maxSteps:=9^7) -dsimp only [gr,reduceEqDiff,reduceLT,reduceAdd,reduceMod,Nat.reduceBEq,h1b,h2b,r2b,h5b,h6b,h8b,r8b,r44b,h10b,r48b,h11b];first | done | rfl | (simp;done)) | assumption | rfl)) ?_
     intro (i,u) sc ⟨h1c,h2c,r2c,h5c,h6c,h8c,r8c,r44c,h10c,r48c,h11c,h12c,h13c,r69c,h14c,hIc⟩
     obtain ⟨hi,hb3⟩:=hIc
     have hend:(i = hs.length ∨ m ≤ i)→zht M0 m jj hs i = dtP (zat m (zag xs)) p m (k + 1):=fun h=>by
      rw [hstepk,← hhl]
      rcases h with h | h
      ·rw [h]
      ·have:=zAs (M:=M0) (j:=jj) (hs:=hs) h (hs.length - i)
       rw [show i + (hs.length - i) = hs.length by omega] at this
       exact this.symm
     by_cases h3:i < hs.length
     ·have hwi:IntKind.i64.wrap ((i + 1:Nat):Int) = ((i + 1:Nat):Int):=zam (by omega) (by omega)
      have hwj:IntKind.i64.wrap (((i + 1:Nat):Int) - 1) = (i:Int):=by rw [zam (by omega) (by omega)];omega
      by_cases h4:i + 1 ≤ m
      ·have hsq:=hsq i
       have hs1:=hsq.small (i + 1) jj
       have hs2:=hsm i
       have hml:=hsq.len
       have hrl:=hsq.row (i + 1) (by omega)
       have hadd:zht M0 m jj hs (i + 1) = zfQ (zht M0 m jj hs i) (i + 1) jj (hs.getD i 0):=by rw [zht,if_pos h4]
       generalize zht M0 m jj hs i = M at *
       have e1:(List.range (m + 1)).getD (i + 1) 0 = i + 1:=znw (by omega)
       have hrow:=hb3.row (i:=i + 1) (by omega)
       rw [e1] at hrow
       have hw2:IntKind.i64.wrap ((M.getD (i + 1) []).getD jj 0 + hs.getD i 0) = (M.getD (i + 1) []).getD jj 0 + hs.getD i 0:=zam (by omega) (by omega)
       simp (maxSteps:=9^7) -dsimp only [↓gp,gq,reduceCtorEq,reduceEqDiff,reduceLT,reduceLeDiff,reduceAdd,reduceMul,reduceSub,Nat.reduceBEq,Int.reduceToNat,Int.reduceLE,Int.reduceLT,Int.reduceNeg,reduceMod,gT,h1c,h2c,r2c,h5c,h6c,h8c,r8c,r44c,h10c,r48c,h11c,h12c,h13c,r69c,h14c,hwj,hb3.top,zbs,e1,hrow,hrl,zaj,List.length_range,hw2]
       refine ⟨fun _=>⟨fun _=>⟨by kernel_rfl,by omega,by omega,by omega,by omega,by omega,by omega,h3,h3,by omega,by omega,by kernel_rfl,?_⟩,fun h=>absurd h4 h⟩,fun h=>absurd (show i + 1 ≤ hs.length by omega) h⟩
       exact zac ((i + 1,u)) (by refine ⟨?_,?_,?_,?_,?_,?_,?_,?_,?_,?_,?_,?_,?_,?_,?_,⟨by dsimp only;omega,by
        dsimp only
        rw [hadd]
        exact hb3.set (i:=i + 1) (by omega) (by simp (maxSteps:=9^7) -dsimp only [gr,reduceEqDiff,reduceLT,reduceAdd,reduceMod,Nat.reduceBEq]) (by simp (maxSteps:=9^7) -dsimp only [gr,reduceEqDiff,reduceLT,reduceAdd,reduceMod,Nat.reduceBEq,e1,h1c,h2c,r2c,h5c,h6c,h8c,r8c,r44c,h10c,r48c,h11c,h12c,h13c,r69c,h14c,hb3.top,hrow]) (fun x hx=>by simp (maxSteps:=9^7) -dsimp only [gr,reduceEqDiff,reduceLT,reduceAdd,reduceMod,Nat.reduceBEq,e1 ▸ hx])⟩⟩ <;> (first | (simp (maxSteps:=9^7) -dsimp only [gr,reduceEqDiff,reduceLT,reduceAdd,reduceMod,Nat.reduceBEq,h1c,h2c,r2c,h5c,h6c,h8c,r8c,r44c,h10c,r48c,h11c,h12c,h13c,r69c,h14c,zaa (show i + 1 < m + 1 by omega) (by omega)];first | done | rfl | (simp;done)) | assumption | rfl)) (by first | omega | (simp only;omega) | (dsimp only;omega) | (show _ < _;simp;omega))
      ·have e:=hend (.inr (by omega))
       rw [e] at hb3
       simp (maxSteps:=9^7) -dsimp only [↓gp,gq,reduceCtorEq,reduceEqDiff,reduceLT,reduceLeDiff,reduceAdd,reduceMul,reduceSub,Nat.reduceBEq,Int.reduceToNat,Int.reduceLE,Int.reduceLT,Int.reduceNeg,reduceMod,gT,h1c,h2c,r2c,h5c,h6c,h8c,r8c,r44c,h10c,r48c,h11c,h12c,h13c,r69c,h14c]
       refine ⟨fun _=>⟨fun h=>absurd h h4,fun _=>?_⟩,fun h=>absurd (show i + 1 ≤ hs.length by omega) h⟩
       exact zac ((k + 1,a,b,c)) (by refine ⟨?_,?_,?_,?_,?_,?_,?_,?_,?_,?_,?_,⟨by dsimp only;omega,hb3.same (by simp (maxSteps:=9^7) -dsimp only [gr,reduceEqDiff,reduceLT,reduceAdd,reduceMod,Nat.reduceBEq]) (fun x=>by simp (maxSteps:=9^7) -dsimp only [gr,reduceEqDiff,reduceLT,reduceAdd,reduceMod,Nat.reduceBEq])⟩⟩ <;> (first | (simp (maxSteps:=9^7) -dsimp only [gr,reduceEqDiff,reduceLT,reduceAdd,reduceMod,Nat.reduceBEq,h1b,h2b,r2b,h5b,h6b,h8b,r8b,r44b,h10b,r48b,h11b,h1c,h2c,r2c,h5c,h6c,h8c,r8c,r44c,h10c,r48c,h11c,h12c,h13c,r69c,h14c,zaa h2 (by omega)];first | done | rfl | (simp;done)) | assumption | rfl)) (by first | omega | (simp only;omega) | (dsimp only;omega) | (show _ < _;simp;omega))
     ·have e:=hend (.inl (by omega))
      rw [e] at hb3
      simp (maxSteps:=9^7) -dsimp only [↓gp,gq,reduceCtorEq,reduceEqDiff,reduceLT,reduceLeDiff,reduceAdd,reduceMul,reduceSub,Nat.reduceBEq,Int.reduceToNat,Int.reduceLE,Int.reduceLT,Int.reduceNeg,reduceMod,gT,h1c,h2c,r2c,h5c,h6c,h8c,r8c,r44c,h10c,r48c,h11c,h12c,h13c,r69c,h14c]
      refine ⟨fun h=>absurd (show i + 1 ≤ hs.length from h) (by omega),fun _=>?_⟩
      exact zac ((k + 1,a,b,c)) (by refine ⟨?_,?_,?_,?_,?_,?_,?_,?_,?_,?_,?_,⟨by dsimp only;omega,hb3.same (by simp (maxSteps:=9^7) -dsimp only [gr,reduceEqDiff,reduceLT,reduceAdd,reduceMod,Nat.reduceBEq]) (fun x=>by simp (maxSteps:=9^7) -dsimp only [gr,reduceEqDiff,reduceLT,reduceAdd,reduceMod,Nat.reduceBEq])⟩⟩ <;> (first | (simp (maxSteps:=9^7) -dsimp only [gr,reduceEqDiff,reduceLT,reduceAdd,reduceMod,Nat.reduceBEq,h1b,h2b,r2b,h5b,h6b,h8b,r8b,r44b,h10b,r48b,h11b,h1c,h2c,r2c,h5c,h6c,h8c,r8c,r44c,h10c,r48c,h11c,h12c,h13c,r69c,h14c,zaa h2 (by omega)];first | done | rfl | (simp;done)) | assumption | rfl)) (by first | omega | (simp only;omega) | (dsimp only;omega) | (show _ < _;simp;omega))
    ·have:k = L.length:=by omega
     subst this
     exact zd8 hb2 (by decide) (fun j hj=>by have:=List.mem_range.1 hj;omega)
 ·have hh:zgC n xs = false:=by simpa using hh
  rw [zl2 (fun h=>by rw [h.1] at hh;cases hh)]
  exact zcM (by simp (maxSteps:=9^7) -dsimp only [gr,reduceEqDiff,reduceLT,reduceAdd,reduceMod,Nat.reduceBEq]) (by decide)
def zeJ (h:List Int) (s k:Nat):List Nat:=((List.range k).filter fun j=>h.getD j 0 != 0).map (s + ·)
theorem zvV (h:List Int) (s k:Nat):zeJ h s (k + 1) = if (h.getD k 0 != 0) = true then zeJ h s k ++ [s + k] else zeJ h s k:=by
 unfold zeJ
 rw [List.range_succ,List.filter_append]
 by_cases hz:(h.getD k 0 != 0) = true
 ·have e:List.filter (fun j=>h.getD j 0 != 0) [k] = [k]:=by
   show (match h.getD k 0 != 0 with | true=>[k] | false=>[]) = [k]
   rw [hz]
  rw [if_pos hz,e,List.map_append];rfl
 ·have e:List.filter (fun j=>h.getD j 0 != 0) [k] = []:=by
   show (match h.getD k 0 != 0 with | true=>[k] | false=>[]) = []
   rw [show (h.getD k 0 != 0) = false by simpa using hz]
  rw [if_neg hz,e,List.append_nil]
def zdJ (f:Nat→Bool) (p:Int):Nat→List Nat
 | 0=>[]
 | i + 1=>zdJ f p i ++ zeJ (zdf (zaJ f ((za2 f).getD i 0)) p) (zak ((za2 f).getD i 0)) (zdf (zaJ f ((za2 f).getD i 0)) p).length
def zoY:List Nat→Int | []=>-1 | a :: l=>((l.foldl min a:Nat):Int)
theorem zxj (l:List Nat) (n:Nat):zoY (l ++ [n]) = if zoY l < 0 ∨ (n:Int) < zoY l then (n:Int) else zoY l:=by
 cases l with
 | nil=>rfl
 | cons a l =>
   show (((l ++ [n]).foldl min a:Nat):Int) = ite (((l.foldl min a:Nat):Int) < 0 ∨ (n:Int) < ((l.foldl min a:Nat):Int)) _ ((l.foldl min a:Nat):Int)
   rw [List.foldl_append]
   show ((min (l.foldl min a) n:Nat):Int) = _
   split <;> omega
theorem zjA {h:List Int} {s k x:Nat}:x ∈ zeJ h s k ↔ ∃ j,j < k∧h.getD j 0 ≠ 0∧x = s + j:=by
 unfold zeJ
 rw [List.mem_map]
 constructor
 ·rintro ⟨j,hj,rfl⟩
  obtain ⟨a,b⟩:=List.mem_filter.1 hj
  exact ⟨j,List.mem_range.1 a,by simpa using b,rfl⟩
 ·rintro ⟨j,a,b,rfl⟩
  exact ⟨j,List.mem_filter.2 ⟨List.mem_range.2 a,by simpa using b⟩,rfl⟩
theorem zjB {f:Nat→Bool} {p:Int} {x:Nat}:∀ {i:Nat},x ∈ zdJ f p i ↔ ∃ t,t < i∧x ∈ zeJ (zdf (zaJ f ((za2 f).getD t 0)) p) (zak ((za2 f).getD t 0)) (zdf (zaJ f ((za2 f).getD t 0)) p).length
 | 0=>by simp [zdJ]
 | i + 1=>by
   rw [zdJ,List.mem_append,zjB]
   constructor
   ·rintro (⟨t,a,b⟩ | h)
    ·exact ⟨t,by omega,b⟩
    ·exact ⟨i,by omega,h⟩
   ·rintro ⟨t,a,b⟩
    by_cases e:t = i
    ·subst e;exact .inr b
    ·exact .inl ⟨t,by omega,b⟩
theorem zBo {h:List Int} {s k:Nat} (hs:s < 64) (hk:k ≤ 7):∀ x ∈ zeJ h (zak s) k,x ≤ 100:=fun x hx=>by
 obtain ⟨j,a,_,rfl⟩:=zjA.1 hx
 have:=zcq hs
 omega
theorem zD5 {f:Nat→Bool} {p:Int} {i:Nat} (hi:i ≤ (za2 f).length):∀ x ∈ zdJ f p i,x ≤ 100:=fun x hx=>by
 obtain ⟨t,ht,h⟩:=zjB.1 hx
 have hs:=(za6.1 (zax 0 (show t < (za2 f).length by omega))).1
 exact zBo hs (by rw [zaL];exact zcD _) x h
def zlF (f:Nat→Bool) (p:Int):List Nat:=zdJ f p (za2 f).length
noncomputable def zrV (n:Int) (xs:List Int) (p:Int):Int:=if zcV n xs = true∧isP p = true then zoY (zlF (zag xs) p) else -1
theorem zBp {m:Nat} {xs:List Int} {p:Int} (h:zcV (m:Int) xs = true) {s:Nat} (hs:s < 64) (hp:isP p = true):zDN (zbT m (ofN (zfB (inF (znF xs s)) true))) p = zdf (zaJ (zag xs) s) p:=by
 unfold zDN
 rw [if_pos hp]
 exact congrArg (fun f=>zdf f p) (funext fun t=>zxm h hs t)
theorem zlG (n:Int) (xs:List Int) (p:Int):AC Tryz.prog 54 [.ag [int n,zbr xs],int p] (.im (int (zrV n xs p))):=by
 refine AC.go (rs:=[.tmp 4]) za0 mixed Tryz.func54 rfl rfl rfl (by kernel_rfl) fun hl=>?_
 simp (maxSteps:=9^7) -dsimp only [↓gp,gq,reduceCtorEq,reduceEqDiff,reduceLT,reduceLeDiff,reduceAdd,reduceMul,reduceSub,Nat.reduceBEq,Int.reduceToNat,Int.reduceLE,Int.reduceLT,Int.reduceNeg,reduceMod,gT]
 refine zab (zcJ n xs) ?_
 have hLl:=zdd (zbT n xs)
 have hno:¬ zcV n xs = true→za2 (zbT n xs) = []:=fun h=>by
  have h:zcV n xs = false:=by simpa using h
  refine List.eq_nil_iff_forall_not_mem.2 fun s hs=>?_
  have:=(za6.1 hs).2
  unfold zbT at this
  rw [h] at this;cases this
 have hyes:zcV n xs = true→zbT n xs = zag xs:=fun h=>by funext s;unfold zbT;rw [h,Bool.true_and]
 have hLm:=fun k (hk:k < (za2 (zbT n xs)).length)=>za6.1 (zax 0 hk)
 have hres:(isP p = true∧zrV n xs p = zoY (zdJ (zag xs) p (za2 (zbT n xs)).length)) ∨ zrV n xs p = -1:=by
  by_cases hc:zcV n xs = true∧isP p = true
  ·refine .inl ⟨hc.2,?_⟩
   rw [zrV,if_pos hc,hyes hc.1];rfl
  ·exact .inr (if_neg hc)
 have hres2:isP p = false→zrV n xs p = -1:=fun h=>if_neg fun hc=>by rw [hc.2] at h;cases h
 have hres3:¬ zcV n xs = true→zrV n xs p = -1:=fun h=>if_neg fun hc=>h hc.1
 have hin:∀ k,k < (za2 (zbT n xs)).length→zcV n xs = true:=fun k hk=>Classical.byContradiction fun h=>by rw [hno h] at hk;simp at hk
 have hcl:zcV n xs = true→∀ i,zdJ (zag xs) p (i + 1) = zdJ (zag xs) p i ++ zeJ (zdf (zaJ (zag xs) ((za2 (zbT n xs)).getD i 0)) p) (zak ((za2 (zbT n xs)).getD i 0)) (zdf (zaJ (zag xs) ((za2 (zbT n xs)).getD i 0)) p).length:=fun h i=>by
  have:za2 (zag xs) = za2 (zbT n xs):=by rw [hyes h]
  rw [← this];rfl
 have hbd:zcV n xs = true→∀ i,i ≤ (za2 (zbT n xs)).length→∀ x ∈ zdJ (zag xs) p i,x ≤ 100:=fun h i hi=>by
  have:za2 (zag xs) = za2 (zbT n xs):=by rw [hyes h]
  exact zD5 (by rw [this];exact hi)
 generalize hL:za2 (zbT n xs) = L at *
 have hoL:=zae L
 have hm1:int (-1) = int (zoY (zdJ (zag xs) p 0)):=rfl
 simp (maxSteps:=9^7) -dsimp only [↓gp,gq,reduceCtorEq,reduceEqDiff,reduceLT,reduceLeDiff,reduceAdd,reduceMul,reduceSub,Nat.reduceBEq,Int.reduceToNat,Int.reduceLE,Int.reduceLT,Int.reduceNeg,reduceMod,gT,zae]
 refine zan (fun (i:Nat) s=>s.sl 1 = int p∧s.sl 2 = .ref 2 1 0∧s.rw 2 = ⟨1,.box 26 [int n,zbr xs]⟩∧s.sl 5 = int (zoY (zdJ (zag xs) p i))∧s.sl 6 = .own 12 1∧s.rw 12 = ⟨1,.sli 3 1 false (iL (ofN L))⟩∧s.sl 7 = int i∧(i ≤ L.length∧(i = 0 ∨ isP p = true))) (fun i=>L.length - i) (0) (by refine ⟨?_,?_,?_,?_,?_,?_,?_,⟨Nat.zero_le _,.inl rfl⟩⟩ <;> (first | (simp (maxSteps:=9^7) -dsimp only [gr,reduceEqDiff,reduceLT,reduceAdd,reduceMod,Nat.reduceBEq,hm1];first | done | rfl | (simp;done)) | assumption | rfl)) ?_
 intro i sa ⟨h1a,h2a,r2a,h5a,h6a,r12a,h7a,hIa⟩
 obtain ⟨hi,hpi⟩:=hIa
 simp (maxSteps:=9^7) -dsimp only [↓gp,gq,reduceCtorEq,reduceEqDiff,reduceLT,reduceLeDiff,reduceAdd,reduceMul,reduceSub,Nat.reduceBEq,Int.reduceToNat,Int.reduceLE,Int.reduceLT,Int.reduceNeg,reduceMod,gT,h1a,h2a,r2a,h5a,h6a,r12a,h7a,zae]
 refine ⟨fun hlt=>zab (zbd p) ?_,fun hlt=>?_⟩
 ·simp (maxSteps:=9^7) -dsimp only [↓gp,gq,reduceCtorEq,reduceEqDiff,reduceLT,reduceLeDiff,reduceAdd,reduceMul,reduceSub,Nat.reduceBEq,Int.reduceToNat,Int.reduceLE,Int.reduceLT,Int.reduceNeg,reduceMod,gT,h1a,h2a,r2a,h5a,h6a,r12a,h7a,zae]
  have hlt:i < L.length:=by omega
  have hcx:=hin i hlt
  obtain ⟨h1,h6,_⟩:=za7.1 hcx
  obtain ⟨m,rfl⟩:∃ m:Nat,n = m:=⟨n.toNat,by omega⟩
  refine ⟨fun hp=>?_,fun hp=>?_⟩
  ·have hs64:=(hLm i hlt).1
   have hg:=zaK hlt
   have hhol:=zBp (p:=p) hcx hs64 hp
   have hcs:=hcl hcx i
   have hb0:=hbd hcx i (by omega)
   have hdl:=zcD (zaJ (zag xs) (L.getD i 0))
   have hhl:=zaL (zaJ (zag xs) (L.getD i 0)) p
   generalize hs0:L.getD i 0 = s0 at *
   have hpl:=zcq hs64
   simp (maxSteps:=9^7) -dsimp only [↓gp,gq,reduceCtorEq,reduceEqDiff,reduceLT,reduceLeDiff,reduceAdd,reduceMul,reduceSub,Nat.reduceBEq,Int.reduceToNat,Int.reduceLE,Int.reduceLT,Int.reduceNeg,reduceMod,gT,h1a,h2a,r2a,h5a,h6a,r12a,h7a,zae,hg]
   refine ⟨by kernel_rfl,hlt,hlt,zab (zhv _ xs s0 hs64 (zdZ hcx) (by have:=zns hcx;omega)) ?_⟩
   simp (maxSteps:=9^7) -dsimp only [↓gp,gq,reduceCtorEq,reduceEqDiff,reduceLT,reduceLeDiff,reduceAdd,reduceMul,reduceSub,Nat.reduceBEq,Int.reduceToNat,Int.reduceLE,Int.reduceLT,Int.reduceNeg,reduceMod,gT,h1a,h2a,r2a,h5a,h6a,r12a,h7a,zae,hg]
   refine zab (zdC _ _ p) ?_
   rw [hhol]
   generalize zdf (zaJ (zag xs) s0) p = hs at *
   simp (maxSteps:=9^7) -dsimp only [↓gp,gq,reduceCtorEq,reduceEqDiff,reduceLT,reduceLeDiff,reduceAdd,reduceMul,reduceSub,Nat.reduceBEq,Int.reduceToNat,Int.reduceLE,Int.reduceLT,Int.reduceNeg,reduceMod,gT,h1a,h2a,r2a,h5a,h6a,r12a,h7a,zae,hg]
   have hz0:zdJ (zag xs) p i = zdJ (zag xs) p i ++ zeJ hs (zak s0) 0:=(List.append_nil _).symm
   refine ⟨by kernel_rfl,?_⟩
   refine zan (fun (k:Nat) s=>s.sl 1 = int p∧s.sl 2 = .ref 2 1 0∧s.rw 2 = ⟨1,.box 26 [int (m:Nat),zbr xs]⟩∧s.sl 5 = int (zoY (zdJ (zag xs) p i ++ zeJ hs (zak s0) k))∧s.sl 6 = .own 12 1∧s.rw 12 = ⟨1,.sli 3 1 false (iL (ofN L))⟩∧s.sl 7 = int i∧s.sl 8 = .own 30 ((sa.rw 30).ver + 1)∧s.rw 30 = ⟨(sa.rw 30).ver + 1,.sli 3 1 false (iL hs)⟩∧s.sl 9 = int k∧(k ≤ hs.length)) (fun k=>hs.length - k) (0) (by refine ⟨?_,?_,?_,?_,?_,?_,?_,?_,?_,?_,Nat.zero_le _⟩ <;> (first | (simp (maxSteps:=9^7) -dsimp only [gr,reduceEqDiff,reduceLT,reduceAdd,reduceMod,Nat.reduceBEq,h1a,h2a,r2a,h5a,h6a,r12a,h7a,← hz0];first | done | rfl | (simp;done)) | assumption | rfl)) ?_
   intro k sb ⟨h1b,h2b,r2b,h5b,h6b,r12b,h7b,h8b,r30b,h9b,hIb⟩
   simp (maxSteps:=9^7) -dsimp only [↓gp,gq,reduceCtorEq,reduceEqDiff,reduceLT,reduceLeDiff,reduceAdd,reduceMul,reduceSub,Nat.reduceBEq,Int.reduceToNat,Int.reduceLE,Int.reduceLT,Int.reduceNeg,reduceMod,gT,h1b,h2b,r2b,h5b,h6b,r12b,h7b,h8b,r30b,h9b,zae,hg]
   refine ⟨fun hk=>⟨hlt,hlt,zab (zaE s0 (by omega)) ?_⟩,fun hk=>?_⟩
   ·have hw:IntKind.i64.wrap ((zak s0:Int) + (k:Int)) = ((zak s0 + k:Nat):Int):=by rw [zam (by omega) (by omega)];omega
    have hks:=zvV hs (zak s0) k
    have hsn:zoY (zdJ (zag xs) p i ++ zeJ hs (zak s0) (k + 1)) = if (hs.getD k 0 != 0) = true then (if zoY (zdJ (zag xs) p i ++ zeJ hs (zak s0) k) < 0 ∨ ((zak s0 + k:Nat):Int) < zoY (zdJ (zag xs) p i ++ zeJ hs (zak s0) k) then ((zak s0 + k:Nat):Int) else zoY (zdJ (zag xs) p i ++ zeJ hs (zak s0) k)) else zoY (zdJ (zag xs) p i ++ zeJ hs (zak s0) k):=by
     rw [hks]
     split
     ·rw [← List.append_assoc,zxj]
     ·rfl
    simp (maxSteps:=9^7) -dsimp only [↓gp,gq,reduceCtorEq,reduceEqDiff,reduceLT,reduceLeDiff,reduceAdd,reduceMul,reduceSub,Nat.reduceBEq,Int.reduceToNat,Int.reduceLE,Int.reduceLT,Int.reduceNeg,reduceMod,gT,h1b,h2b,r2b,h5b,h6b,r12b,h7b,h8b,r30b,h9b,zae,hg,hw]
    generalize zoY (zdJ (zag xs) p i ++ zeJ hs (zak s0) k) = A at *
    refine ⟨hk,hk,fun hz=>⟨fun ha=>⟨fun hb=>?_,fun hb=>?_⟩,fun ha=>?_⟩,fun hz=>?_⟩
    ·rw [if_pos hz,if_pos (.inr hb)] at hsn
     exact zac (k + 1) (by refine ⟨?_,?_,?_,?_,?_,?_,?_,?_,?_,?_,by omega⟩ <;> (first | (simp (maxSteps:=9^7) -dsimp only [gr,reduceEqDiff,reduceLT,reduceAdd,reduceMod,Nat.reduceBEq,h1b,h2b,r2b,h5b,h6b,r12b,h7b,h8b,r30b,h9b,hsn,zaa (show k < 8 by omega) (by omega)];first | done | rfl | (simp;done)) | assumption | rfl)) (by first | omega | (simp only;omega) | (dsimp only;omega) | (show _ < _;simp;omega))
    ·rw [if_pos hz,if_neg (fun h=>h.elim ha hb)] at hsn
     exact zac (k + 1) (by refine ⟨?_,?_,?_,?_,?_,?_,?_,?_,?_,?_,by omega⟩ <;> (first | (simp (maxSteps:=9^7) -dsimp only [gr,reduceEqDiff,reduceLT,reduceAdd,reduceMod,Nat.reduceBEq,h1b,h2b,r2b,h5b,h6b,r12b,h7b,h8b,r30b,h9b,hsn,zaa (show k < 8 by omega) (by omega)];first | done | rfl | (simp;done)) | assumption | rfl)) (by first | omega | (simp only;omega) | (dsimp only;omega) | (show _ < _;simp;omega))
    ·rw [if_pos hz,if_pos (.inl ha)] at hsn
     exact zac (k + 1) (by refine ⟨?_,?_,?_,?_,?_,?_,?_,?_,?_,?_,by omega⟩ <;> (first | (simp (maxSteps:=9^7) -dsimp only [gr,reduceEqDiff,reduceLT,reduceAdd,reduceMod,Nat.reduceBEq,h1b,h2b,r2b,h5b,h6b,r12b,h7b,h8b,r30b,h9b,hsn,zaa (show k < 8 by omega) (by omega)];first | done | rfl | (simp;done)) | assumption | rfl)) (by first | omega | (simp only;omega) | (dsimp only;omega) | (show _ < _;simp;omega))
    ·rw [if_neg (by rw [hz];decide)] at hsn
     exact zac (k + 1) (by refine ⟨?_,?_,?_,?_,?_,?_,?_,?_,?_,?_,by omega⟩ <;> (first | (simp (maxSteps:=9^7) -dsimp only [gr,reduceEqDiff,reduceLT,reduceAdd,reduceMod,Nat.reduceBEq,h1b,h2b,r2b,h5b,h6b,r12b,h7b,h8b,r30b,h9b,hsn,zaa (show k < 8 by omega) (by omega)];first | done | rfl | (simp;done)) | assumption | rfl)) (by first | omega | (simp only;omega) | (dsimp only;omega) | (show _ < _;simp;omega))
   ·have hke:k = hs.length:=by omega
    subst hke
    rw [← hcs] at h5b
    exact zac (i + 1) (by refine ⟨?_,?_,?_,?_,?_,?_,?_,⟨by omega,.inr hp⟩⟩ <;> (first | (simp (maxSteps:=9^7) -dsimp only [gr,reduceEqDiff,reduceLT,reduceAdd,reduceMod,Nat.reduceBEq,h1a,h2a,r2a,h5a,h6a,r12a,h7a,h1b,h2b,r2b,h5b,h6b,r12b,h7b,h8b,r30b,h9b,zaa hlt (by omega)];first | done | rfl | (simp;done)) | assumption | rfl)) (by first | omega | (simp only;omega) | (dsimp only;omega) | (show _ < _;simp;omega))
  ·rw [hres2 hp]
   rcases hpi with rfl | h
   ·rfl
   ·rw [h] at hp;cases hp
 ·have hil:i = L.length:=by omega
  rcases hres with ⟨_,h⟩ | h
  ·rw [h,hil]
  ·rw [h]
   by_cases hc:zcV n xs = true
   ·rcases hpi with rfl | hp
    ·rfl
    ·have hd:zrV n xs p = zoY (zlF (zag xs) p):=if_pos ⟨hc,hp⟩
     rw [hd] at h
     have:zlF (zag xs) p = zdJ (zag xs) p i:=by
      unfold zlF
      have:za2 (zag xs) = L:=by rw [← hL,hyes hc]
      rw [this,hil]
     rw [← this,h]
   ·have:L = []:=hno hc
    rw [hil,this];rfl
def zBm (b:Int) (l:List Nat):Int:=l.foldl (fun (b:Int) (x:Nat)=>min b (x:Int)) b
theorem zD3 {b:Int}:∀ l:List Nat,zBm b l ≤ b∧∀ x ∈ l,zBm b l ≤ (x:Int):=fun l=>by
 induction l generalizing b with
 | nil=>exact ⟨Int.le_refl _,fun x hx=>by simp at hx⟩
 | cons y l ih =>
   obtain ⟨h1,h2⟩:=ih (b:=min b (y:Int))
   have e:zBm b (y :: l) = zBm (min b (y:Int)) l:=rfl
   rw [e]
   refine ⟨by omega,fun x hx=>?_⟩
   rcases List.mem_cons.1 hx with rfl | hx
   ·omega
   ·exact h2 x hx
theorem zBn {b:Int}:∀ l:List Nat,zBm b l = b ∨ ∃ x ∈ l,zBm b l = (x:Int):=fun l=>by
 induction l generalizing b with
 | nil=>exact .inl rfl
 | cons y l ih =>
   have e:zBm b (y :: l) = zBm (min b (y:Int)) l:=rfl
   rw [e]
   rcases ih (b:=min b (y:Int)) with h | ⟨x,hx,h⟩
   ·by_cases hy:b ≤ (y:Int)
    ·exact .inl (by omega)
    ·exact .inr ⟨y,by simp,by omega⟩
   ·exact .inr ⟨x,by simp [hx],h⟩
def zFF (f:Nat→Bool) (p:Int):Int:=zBm ((zba f:Int) - 1) (zlF f p)
theorem zxi (a:Nat) (l:List Nat):(∀ x ∈ a :: l,l.foldl min a ≤ x)∧l.foldl min a ∈ a :: l:=by
 induction l generalizing a with
 | nil=>exact ⟨fun x hx=>by rw [List.mem_singleton.1 hx];exact Nat.le_refl _,by simp⟩
 | cons y l ih =>
   obtain ⟨h1,h2⟩:=ih (min a y)
   have e:(y :: l).foldl min a = l.foldl min (min a y):=rfl
   rw [e]
   refine ⟨fun x hx=>?_,?_⟩
   ·have h0:=h1 (min a y) (by simp)
    rcases List.mem_cons.1 hx with rfl | hx
    ·omega
    ·rcases List.mem_cons.1 hx with rfl | hx
     ·omega
     ·exact h1 x (by simp [hx])
   ·rcases List.mem_cons.1 h2 with h | h
    ·rw [h]
     rcases Nat.le_total a y with q | q
     ·rw [Nat.min_eq_left q];simp
     ·rw [Nat.min_eq_right q];simp
    ·simp [h]
section
variable {f:Nat→Bool} {m q:Nat} [NeZero q]
theorem zsX (hp:isP (q:Int) = true) (hf:zew f) (hm:m ≤ 6) (hs:∀ t,t < 64→f t = true→t < 2 ^ m) {x:Nat}:x ∈ zlF f q ↔ ∃ F k,F < 2 ^ m∧f F = true∧¬ Ac q (zaJ f F) k∧zak F + k = x:=by
 have h64:=zar hm
 have hz:∀ F k,(zdf (zaJ f F) q).getD k 0 ≠ 0 ↔ ¬ Ac q (zaJ f F) k:=fun F k=>by
  rw [zgr,Ne,(zfl (p:=q) hp (zh4 hf F) k).2]
 unfold zlF
 rw [zjB]
 constructor
 ·rintro ⟨t,ht,h⟩
  obtain ⟨j,a,b,rfl⟩:=zjA.1 h
  obtain ⟨h1,h2⟩:=za6.1 (zax 0 ht)
  exact ⟨_,j,hs _ h1 h2,h2,(hz _ _).1 b,rfl⟩
 ·rintro ⟨F,k,a,b,c,rfl⟩
  obtain ⟨t,ht,e⟩:=zcN 0 (za6.2 ⟨Nat.lt_of_lt_of_le a h64,b⟩)
  refine ⟨t,ht,?_⟩
  rw [e]
  refine zjA.2 ⟨k,Nat.lt_of_not_le fun hle=>c (zDR (by rw [zaL] at hle;exact hle)),(hz _ _).2 c,rfl⟩
theorem zD4 (hp:isP (q:Int) = true) (hf:zew f) (h0:f 0 = true) (hm:m ≤ 6) (hs:∀ t,t < 64→f t = true→t < 2 ^ m):∃ d:Nat,zsJ q f m d∧zoY (zlF f q) = d∧zFF f q = d∧(d:Int) ≤ (zba f:Int) - 1:=by
 have h64:=zar hm
 have hdp:0 < zba f:=by
  have:=zfe 64 0 (by decide) h0
  unfold zba;omega
 obtain ⟨T,hT64,hfT,hTd⟩:=zhU (f:=f) 64 hdp
 have hTd:zak T + 1 = zba f:=hTd
 have htop:∀ s,s < 64→f s = true→zak s ≤ zak T:=fun s h1 h2=>by
  have:=zfe 64 s h1 h2
  have hd:zba f = zhl f 64:=rfl
  omega
 have hTm:zak T ∈ zlF f q:=(zsX hp hf hm hs).2 ⟨T,0,hs T hT64 hfT,hfT,zrB hp hf hT64 hfT (zAv hT64 htop),rfl⟩
 cases hc:zlF f q with
 | nil=>rw [hc] at hTm;simp at hTm
 | cons a l =>
   obtain ⟨h1,h2⟩:=zxi a l
   have hci:=fun x=>zsX (x:=x) hp hf hm hs
   rw [hc] at hTm hci
   refine ⟨l.foldl min a,⟨?_,zsK hf fun F hF hfF k hk=>?_⟩,rfl,?_,?_⟩
   ·exact (hci _).1 h2
   ·refine Classical.byContradiction fun hac=>?_
    have:=h1 _ ((hci _).2 ⟨F,k,hF,hfF,hac,rfl⟩)
    omega
   ·unfold zFF
    rw [hc]
    have e:(zba f:Int) - 1 = ((zak T:Nat):Int):=by omega
    rw [e]
    obtain ⟨g1,g2⟩:=zD3 (b:=((zak T:Nat):Int)) (a :: l)
    have g3:=g2 _ h2
    rcases zBn (b:=((zak T:Nat):Int)) (a :: l) with g | ⟨x,hx,g⟩
    ·have:=h1 _ hTm;omega
    ·have:=h1 x hx;omega
   ·have:=h1 _ hTm;omega
end
theorem zCu (x:Int):0 ≤ zdI .i64 x 255∧zdI .i64 x 255 < 256:=by
 have h2:(BitVec.ofInt 64 (255:Int)).toNat = 255:=by decide
 have e:zdI .i64 x 255 = IntKind.i64.wrap (((BitVec.ofInt 64 x &&& BitVec.ofInt 64 255).toNat:Nat):Int):=rfl
 have:(BitVec.ofInt 64 x &&& BitVec.ofInt 64 255).toNat ≤ 255:=by
  rw [BitVec.toNat_and,h2];exact Nat.and_le_right
 rw [e,zam (by omega) (by omega)]
 omega
abbrev TC:TypeId:=73
def zHI (P:Int→Prop) (rv:RV):Prop:=∃ x,rv = .im (int x)∧P x
def crH (h:Int):Int:=IntKind.i64.wrap (IntKind.i64.wrap (h * 6364136223846793005) + 1442695040888963407)
def zHJ (rv:RV):Prop:=∃ b,rv = .im (bool b)
theorem ziC (bs:List Int):zA6 Tryz.prog 25 TC bs:=by
 refine AG.go (rs:=[.tmp 2]) za0 mixed Tryz.func25 rfl rfl rfl (by kernel_rfl) fun hl _ s hs hR=>?_
 simp only [zaT,zbg,and_true] at hl
 have hbl:bs.length ≤ 9223372036854775807:=by
  have:=hl.1
  simpa [kL] using this
 simp (maxSteps:=9^7) -dsimp only [↓gp,gq,reduceCtorEq,reduceEqDiff,reduceLT,reduceLeDiff,reduceAdd,reduceMul,reduceSub,Nat.reduceBEq,Int.reduceToNat,Int.reduceLE,Int.reduceLT,Int.reduceNeg,reduceMod,gT,hs,hR,zlW]
 refine zan (fun (za:Nat × Int) s=>match za with | (i,h)=>s.sl 0 = .sl false 1 (kL .u8 bs)∧s.sl 3 = int h∧s.sl 4 = int i∧(i ≤ bs.length)) (fun (i,h)=>bs.length - i) ((0,IntKind.i64.wrap (26583 + (bs.length:Int)))) (by refine ⟨?_,?_,?_,by simp⟩ <;> (first | (simp (maxSteps:=9^7) -dsimp only [gr,reduceEqDiff,reduceLT,reduceAdd,reduceMod,Nat.reduceBEq,hs];first | done | rfl | (simp;done)) | assumption | rfl)) ?_
 intro (i,h) sa ⟨h0a,h3a,h4a,hIa⟩
 simp (maxSteps:=9^7) -dsimp only [↓gp,gq,reduceCtorEq,reduceEqDiff,reduceLT,reduceLeDiff,reduceAdd,reduceMul,reduceSub,Nat.reduceBEq,Int.reduceToNat,Int.reduceLE,Int.reduceLT,Int.reduceNeg,reduceMod,gT,h0a,h3a,h4a]
 have hw:∀ hk:i < bs.length,IntKind.i64.wrap ((i:Int) + 1) = ((i + 1:Nat):Int):=fun hk=>zaa hk hbl
 refine ⟨fun hk=>⟨fun h4=>⟨hk,hk,?_⟩,fun h4=>?_⟩,fun hk=>?_⟩
 ·exact zac ((i + 1,zdI .i64 (IntKind.i64.wrap (IntKind.i64.wrap (IntKind.i64.wrap (h * 131) + IntKind.i64.wrap (bs.getD i 0)) + 7)) 1073741823)) (by refine ⟨?_,?_,?_,by dsimp only;omega⟩ <;> (first | (simp (maxSteps:=9^7) -dsimp only [gr,reduceEqDiff,reduceLT,reduceAdd,reduceMod,Nat.reduceBEq,h0a,h3a,h4a,hw hk];first | done | rfl | (simp;done)) | assumption | rfl)) (by first | omega | (simp only;omega) | (dsimp only;omega) | (show _ < _;simp;omega))
 ·exact ⟨31,_,h,rfl,by simp (maxSteps:=9^7) -dsimp only [gr,reduceEqDiff,reduceLT,reduceAdd,reduceMod,Nat.reduceBEq];rfl⟩
 ·exact ⟨31,_,h,rfl,by simp (maxSteps:=9^7) -dsimp only [gr,reduceEqDiff,reduceLT,reduceAdd,reduceMod,Nat.reduceBEq];rfl⟩
def byF (bs:List Int) (i:Nat) (h:Int):Int :=
 if i < bs.length then zdI .i64 (IntKind.i64.wrap (zdI .i64 (zEz .i64 (zso .i64 (crH h) 33) (zso .i64 (crH h) 45)) 255 + IntKind.i64.wrap (bs.getD i 0))) 255
 else zdI .i64 (zEz .i64 (zso .i64 (crH h) 33) (zso .i64 (crH h) 45)) 255
def nxI (bs:List Int) (i:Nat):Nat:=if i < bs.length then i + 1 else i
theorem ziD (bs:List Int) (i:Nat) (h:Int):0 ≤ byF bs i h∧byF bs i h < 256:=by
 unfold byF
 split <;> exact zCu _
set_option maxRecDepth 100000 in
theorem zoL (bs:List Int) (hbs:bs.length ≤ 9223372036854775806):zoN Tryz.prog 63 TC bs [] fun i h=>(.int .i64 (byF bs i h),nxI bs i,crH h):=by
 intro i h
 refine AG.go (rs:=[.tmp 2]) za0 mixed Tryz.func63 rfl rfl rfl (by kernel_rfl) fun hl _ s hs hR=>?_
 have e0:s.rw 1000000 = ⟨1,.box TC [.sl false 1 (kL .u8 bs),int i,int h]⟩:=by rw [hR];rfl
 have e1:s.rw 1000500 = ⟨0,.dead⟩:=by rw [hR];rfl
 simp (maxSteps:=9^7) -dsimp only [↓gp,gq,reduceCtorEq,reduceEqDiff,reduceLT,reduceLeDiff,reduceAdd,reduceMul,reduceSub,Nat.reduceBEq,Int.reduceToNat,Int.reduceLE,Int.reduceLT,Int.reduceNeg,reduceMod,gT,hs,e0]
 refine ⟨by kernel_rfl,by kernel_rfl,fun hi=>⟨by kernel_rfl,hi,hi,?_⟩,fun hi=>?_⟩
 ·have hw:IntKind.i64.wrap ((i:Int) + 1) = ((i + 1:Nat):Int):=zaa hi (by omega)
  rw [hw]
  refine ⟨by simp only [byF,if_pos hi];rfl,?_,by simp (maxSteps:=9^7) -dsimp only [gr,reduceEqDiff,reduceLT,reduceAdd,reduceMod,Nat.reduceBEq,e1]⟩
  simp (maxSteps:=9^7) -dsimp only [gr,reduceEqDiff,reduceLT,reduceAdd,reduceMod,Nat.reduceBEq,e0]
  simp only [nxI,if_pos hi]
  rfl
 ·refine ⟨by simp only [byF,if_neg hi];rfl,?_,by simp (maxSteps:=9^7) -dsimp only [gr,reduceEqDiff,reduceLT,reduceAdd,reduceMod,Nat.reduceBEq,e1]⟩
  simp (maxSteps:=9^7) -dsimp only [gr,reduceEqDiff,reduceLT,reduceAdd,reduceMod,Nat.reduceBEq,e0]
  simp only [nxI,if_neg hi]
  rfl
def zFC (n x:Int):Prop:=0 ≤ x∧(x < n ∨ (n ≤ 0∧x = 0))
theorem zA3 {n x:Int} (hn:0 < n) (hx:0 ≤ x):zFC n (x.tmod n):=by
 rw [zdY hx]
 exact ⟨Int.emod_nonneg _ (by omega),.inl (Int.emod_lt_of_pos _ hn)⟩
theorem zgs {n:Nat} {x:Int} (hn:0 < n) (hx:zFC n x):∃ m:Nat,x = m∧m < n:=by
 obtain ⟨h1,h2 | ⟨h2,h3⟩⟩:=hx
 ·exact ⟨x.toNat,by omega,by omega⟩
 ·omega
def beF (bs:List Int) (n:Int) (i:Nat) (h:Int):Value × Nat × Int :=
 if n ≤ 0 then (.int .i64 0,i,h)
 else if n ≤ 256 then (.int .i64 ((byF bs i h).tmod n),nxI bs i,crH h)
 else (.int .i64 ((byF bs i h * 16777216 + byF bs (nxI bs i) (crH h) * 65536 + byF bs (nxI bs (nxI bs i)) (crH (crH h)) * 256 + byF bs (nxI bs (nxI bs (nxI bs i))) (crH (crH (crH h)))).tmod n),nxI bs (nxI bs (nxI bs (nxI bs i))),crH (crH (crH (crH h))))
theorem zA4 (bs:List Int) (n:Int) (i:Nat) (h:Int):zHI (zFC n) (.im (.v (beF bs n i h).1)):=by
 unfold beF
 have b1:=ziD bs i h
 have b2:=ziD bs (nxI bs i) (crH h)
 have b3:=ziD bs (nxI bs (nxI bs i)) (crH (crH h))
 have b4:=ziD bs (nxI bs (nxI bs (nxI bs i))) (crH (crH (crH h)))
 split
 ·rename_i h0
  exact ⟨0,rfl,Int.le_refl _,.inr ⟨h0,rfl⟩⟩
 ·split
  ·exact ⟨_,rfl,zA3 (by omega) (by omega)⟩
  ·exact ⟨_,rfl,zA3 (by omega) (by omega)⟩
theorem znz (bs:List Int) (n:Int) (i:Nat) (h:Int):∃ (x:Int) (j:Nat) (g:Int),beF bs n i h = (.int .i64 x,j,g)∧zFC n x:=by
 obtain ⟨x,hx,hq⟩:=zA4 bs n i h
 injection hx with hx
 injection hx with hx
 exact ⟨x,(beF bs n i h).2.1,(beF bs n i h).2.2,by rw [← hx],hq⟩
theorem zhx (n:Int):zca [int n]:=fun p hp=>by rw [List.mem_singleton.1 hp];rfl
set_option maxRecDepth 100000 in
theorem zb0 (bs:List Int) (hbs:bs.length ≤ 9223372036854775806) (n:Int) (hn:n ≤ 1000000):zoN Tryz.prog 26 TC bs [int n] (beF bs n):=by
 intro i h
 refine AG.go (rs:=[.tmp 4]) za0 mixed Tryz.func26 rfl rfl rfl (by kernel_rfl) fun hl _ s hs hR=>?_
 have e0:s.rw 1000000 = ⟨1,.box TC [.sl false 1 (kL .u8 bs),int i,int h]⟩:=by rw [hR];rfl
 have e1:s.rw 1000500 = ⟨0,.dead⟩:=by rw [hR];rfl
 have hc:=zoL bs hbs
 have hp:zca []:=fun _ h=>absurd h (by simp)
 have b1:=ziD bs i h
 have b2:=ziD bs (nxI bs i) (crH h)
 have b3:=ziD bs (nxI bs (nxI bs i)) (crH (crH h))
 have b4:=ziD bs (nxI bs (nxI bs (nxI bs i))) (crH (crH (crH h)))
 simp (maxSteps:=9^7) -dsimp only [↓gp,gq,reduceCtorEq,reduceEqDiff,reduceLT,reduceLeDiff,reduceAdd,reduceMul,reduceSub,Nat.reduceBEq,Int.reduceToNat,Int.reduceLE,Int.reduceLT,Int.reduceNeg,reduceMod,gT,hs,e0]
 refine ⟨fun h0=>?_,fun h0=>⟨fun h1=>?_,fun h1=>?_⟩⟩
 ·unfold beF;rw [if_pos h0]
  exact ⟨rfl,by simp (maxSteps:=9^7) -dsimp only [gr,reduceEqDiff,reduceLT,reduceAdd,reduceMod,Nat.reduceBEq,e0] <;> rfl,by simp (maxSteps:=9^7) -dsimp only [gr,reduceEqDiff,reduceLT,reduceAdd,reduceMod,Nat.reduceBEq,e1]⟩
 ·refine zeA hc hp (i:=i) (h:=h) (by simp (maxSteps:=9^7) -dsimp only [gr,reduceEqDiff,reduceLT,reduceAdd,reduceMod,Nat.reduceBEq,e0] <;> rfl) rfl ?_
  simp (maxSteps:=9^7) -dsimp only [↓gp,gq,reduceCtorEq,reduceEqDiff,reduceLT,reduceLeDiff,reduceAdd,reduceMul,reduceSub,Nat.reduceBEq,Int.reduceToNat,Int.reduceLE,Int.reduceLT,Int.reduceNeg,reduceMod,gT,hs,e0]
  unfold beF;rw [if_neg h0,if_pos h1]
  exact ⟨by omega,rfl,by simp (maxSteps:=9^7) -dsimp only [gr,reduceEqDiff,reduceLT,reduceAdd,reduceMod,Nat.reduceBEq,e0] <;> rfl,by simp (maxSteps:=9^7) -dsimp only [gr,reduceEqDiff,reduceLT,reduceAdd,reduceMod,Nat.reduceBEq,e1]⟩
 ·refine zeA hc hp (i:=i) (h:=h) (by simp (maxSteps:=9^7) -dsimp only [gr,reduceEqDiff,reduceLT,reduceAdd,reduceMod,Nat.reduceBEq,e0] <;> rfl) rfl ?_
  simp (maxSteps:=9^7) -dsimp only [↓gp,gq,reduceCtorEq,reduceEqDiff,reduceLT,reduceLeDiff,reduceAdd,reduceMul,reduceSub,Nat.reduceBEq,Int.reduceToNat,Int.reduceLE,Int.reduceLT,Int.reduceNeg,reduceMod,gT,hs,e0]
  refine zeA hc hp (i:=nxI bs i) (h:=crH h) (by simp (maxSteps:=9^7) -dsimp only [gr,reduceEqDiff,reduceLT,reduceAdd,reduceMod,Nat.reduceBEq,e0] <;> rfl) rfl ?_
  simp (maxSteps:=9^7) -dsimp only [↓gp,gq,reduceCtorEq,reduceEqDiff,reduceLT,reduceLeDiff,reduceAdd,reduceMul,reduceSub,Nat.reduceBEq,Int.reduceToNat,Int.reduceLE,Int.reduceLT,Int.reduceNeg,reduceMod,gT,hs,e0]
  refine zeA hc hp (i:=nxI bs (nxI bs i)) (h:=crH (crH h)) (by simp (maxSteps:=9^7) -dsimp only [gr,reduceEqDiff,reduceLT,reduceAdd,reduceMod,Nat.reduceBEq,e0] <;> rfl) rfl ?_
  simp (maxSteps:=9^7) -dsimp only [↓gp,gq,reduceCtorEq,reduceEqDiff,reduceLT,reduceLeDiff,reduceAdd,reduceMul,reduceSub,Nat.reduceBEq,Int.reduceToNat,Int.reduceLE,Int.reduceLT,Int.reduceNeg,reduceMod,gT,hs,e0]
  refine zeA hc hp (i:=nxI bs (nxI bs (nxI bs i))) (h:=crH (crH (crH h))) (by simp (maxSteps:=9^7) -dsimp only [gr,reduceEqDiff,reduceLT,reduceAdd,reduceMod,Nat.reduceBEq,e0] <;> rfl) rfl ?_
  generalize hx:byF bs i h = x at *
  generalize hy:byF bs (nxI bs i) (crH h) = y at *
  generalize hz:byF bs (nxI bs (nxI bs i)) (crH (crH h)) = z at *
  generalize hw:byF bs (nxI bs (nxI bs (nxI bs i))) (crH (crH (crH h))) = w at *
  have w1:IntKind.i64.wrap (x * 16777216) = x * 16777216:=zam (by omega) (by omega)
  have w2:IntKind.i64.wrap (y * 65536) = y * 65536:=zam (by omega) (by omega)
  have w3:IntKind.i64.wrap (x * 16777216 + y * 65536) = x * 16777216 + y * 65536:=zam (by omega) (by omega)
  have w4:IntKind.i64.wrap (z * 256) = z * 256:=zam (by omega) (by omega)
  have w5:IntKind.i64.wrap (x * 16777216 + y * 65536 + z * 256) = x * 16777216 + y * 65536 + z * 256:=zam (by omega) (by omega)
  have w6:IntKind.i64.wrap (x * 16777216 + y * 65536 + z * 256 + w) = x * 16777216 + y * 65536 + z * 256 + w:=zam (by omega) (by omega)
  simp (maxSteps:=9^7) -dsimp only [↓gp,gq,reduceCtorEq,reduceEqDiff,reduceLT,reduceLeDiff,reduceAdd,reduceMul,reduceSub,Nat.reduceBEq,Int.reduceToNat,Int.reduceLE,Int.reduceLT,Int.reduceNeg,reduceMod,gT,hs,e0,w1,w2,w3,w4,w5,w6]
  unfold beF;rw [if_neg h0,if_neg h1,hx,hy,hz,hw]
  exact ⟨by omega,rfl,by simp (maxSteps:=9^7) -dsimp only [gr,reduceEqDiff,reduceLT,reduceAdd,reduceMod,Nat.reduceBEq,e0] <;> rfl,by simp (maxSteps:=9^7) -dsimp only [gr,reduceEqDiff,reduceLT,reduceAdd,reduceMod,Nat.reduceBEq,e1]⟩
theorem zaY (bs:List Int) (hbs:bs.length ≤ 9223372036854775806) (n:Int) (hn:n ≤ 1000000):zw2 Tryz.prog 26 TC bs ⟨0,.dead⟩ [int n] (zHI (zFC n)) :=
 (zb0 bs hbs n hn).toCur fun i h=>zA4 bs n i h
def onF (bs:List Int) (n:Int) (i:Nat) (h:Int):Value × Nat × Int:=((match (beF bs n i h).1 with | .int _ x=>.bool (x == 0) | _=>.bool false),(beF bs n i h).2)
theorem zlV (bs:List Int) (hbs:bs.length ≤ 9223372036854775806) (n:Int) (hn:n ≤ 1000000):zoN Tryz.prog 58 TC bs [int n] (onF bs n):=by
 intro i h
 refine AG.go (rs:=[.tmp 4]) za0 mixed Tryz.func58 rfl rfl rfl (by kernel_rfl) fun hl _ s hs hR=>?_
 have e0:s.rw 1000000 = ⟨1,.box TC [.sl false 1 (kL .u8 bs),int i,int h]⟩:=by rw [hR];rfl
 have e1:s.rw 1000500 = ⟨0,.dead⟩:=by rw [hR];rfl
 simp (maxSteps:=9^7) -dsimp only [↓gp,gq,reduceCtorEq,reduceEqDiff,reduceLT,reduceLeDiff,reduceAdd,reduceMul,reduceSub,Nat.reduceBEq,Int.reduceToNat,Int.reduceLE,Int.reduceLT,Int.reduceNeg,reduceMod,gT,hs,e0]
 refine zeA (zb0 bs hbs n hn) (zhx n) (i:=i) (h:=h) (by simp (maxSteps:=9^7) -dsimp only [gr,reduceEqDiff,reduceLT,reduceAdd,reduceMod,Nat.reduceBEq,e0] <;> rfl) rfl ?_
 unfold onF
 obtain ⟨y,j3,g3,hr,hy⟩:=znz bs n i h
 rw [hr]
 simp (maxSteps:=9^7) -dsimp only [↓gp,gq,reduceCtorEq,reduceEqDiff,reduceLT,reduceLeDiff,reduceAdd,reduceMul,reduceSub,Nat.reduceBEq,Int.reduceToNat,Int.reduceLE,Int.reduceLT,Int.reduceNeg,reduceMod,gT,hs,e0]
 exact ⟨rfl,by simp (maxSteps:=9^7) -dsimp only [gr,reduceEqDiff,reduceLT,reduceAdd,reduceMod,Nat.reduceBEq,e0] <;> rfl,by simp (maxSteps:=9^7) -dsimp only [gr,reduceEqDiff,reduceLT,reduceAdd,reduceMod,Nat.reduceBEq,e1]⟩
theorem zG6 (bs:List Int) (n:Int) (i:Nat) (h:Int):∃ (x:Bool) (j:Nat) (g:Int),onF bs n i h = (.bool x,j,g):=by
 obtain ⟨y,j3,g3,hr,hy⟩:=znz bs n i h
 unfold onF
 rw [hr]
 exact ⟨_,_,_,rfl⟩
theorem zez (bs:List Int) (hbs:bs.length ≤ 9223372036854775806) (n:Int) (hn:n ≤ 1000000):zw2 Tryz.prog 58 TC bs ⟨0,.dead⟩ [int n] zHJ :=
 (zlV bs hbs n hn).toCur fun i h=>by obtain ⟨x,j,g,e⟩:=zG6 bs n i h;rw [e];exact ⟨x,rfl⟩
def piF (bs:List Int) (l:List Int) (i:Nat) (h:Int):Value × Nat × Int:=((match (beF bs l.length i h).1 with | .int _ x=>.int .i64 (l.getD x.toNat 0) | _=>.int .i64 0),(beF bs l.length i h).2)
theorem zA5 (bs:List Int) {l:List Int} (hl:0 < l.length) (i:Nat) (h:Int):∃ (x:Int) (j:Nat) (g:Int),piF bs l i h = (.int .i64 x,j,g)∧x ∈ l:=by
 obtain ⟨y,j3,g3,hr,hy⟩:=znz bs l.length i h
 obtain ⟨m,rfl,hm⟩:=zgs hl hy
 unfold piF
 rw [hr]
 exact ⟨_,_,_,rfl,zax 0 hm⟩
theorem zcH (bs:List Int) (hbs:bs.length ≤ 9223372036854775806) (l:List Int) (hl0:0 < l.length) (hl1:l.length ≤ 1000000):zw4 Tryz.prog 60 TC bs 3 (iL l) (piF bs l):=by
 intro i h
 refine AG.go (rs:=[.tmp 4]) za0 mixed Tryz.func60 rfl rfl rfl (by kernel_rfl) fun hl _ s hs hR=>?_
 have e0:s.rw 1000000 = ⟨1,.box TC [.sl false 1 (kL .u8 bs),int i,int h]⟩:=by rw [hR];rfl
 have e1:s.rw 1000500 = ⟨1,.sli 3 1 false (iL l)⟩:=by rw [hR];rfl
 simp (maxSteps:=9^7) -dsimp only [↓gp,gq,reduceCtorEq,reduceEqDiff,reduceLT,reduceLeDiff,reduceAdd,reduceMul,reduceSub,Nat.reduceBEq,Int.reduceToNat,Int.reduceLE,Int.reduceLT,Int.reduceNeg,reduceMod,gT,hs,e0,e1]
 refine zeA (zb0 bs hbs l.length (by omega)) (zhx _) (i:=i) (h:=h) (by simp (maxSteps:=9^7) -dsimp only [gr,reduceEqDiff,reduceLT,reduceAdd,reduceMod,Nat.reduceBEq,e0] <;> rfl) rfl ?_
 unfold piF
 obtain ⟨y,j3,g3,hr,hy⟩:=znz bs l.length i h
 obtain ⟨m,rfl,hm⟩:=zgs hl0 hy
 rw [hr]
 simp (maxSteps:=9^7) -dsimp only [↓gp,gq,reduceCtorEq,reduceEqDiff,reduceLT,reduceLeDiff,reduceAdd,reduceMul,reduceSub,Nat.reduceBEq,Int.reduceToNat,Int.reduceLE,Int.reduceLT,Int.reduceNeg,reduceMod,gT,hs,e0,e1]
 exact ⟨by omega,hm,rfl,by simp (maxSteps:=9^7) -dsimp only [gr,reduceEqDiff,reduceLT,reduceAdd,reduceMod,Nat.reduceBEq,e0] <;> rfl,by simp (maxSteps:=9^7) -dsimp only [gr,reduceEqDiff,reduceLT,reduceAdd,reduceMod,Nat.reduceBEq,e1] <;> rfl⟩
theorem zc3 (bs:List Int) (hbs:bs.length ≤ 9223372036854775806) (l:List Int) (hl0:0 < l.length) (hl1:l.length ≤ 1000000):zw2 Tryz.prog 60 TC bs ⟨1,.sli 3 1 false (iL l)⟩ [.own 1000500 1] (zHI fun x=>x ∈ l) :=
 (zcH bs hbs l hl0 hl1).toCur fun i h=>by obtain ⟨x,j,g,e,hx⟩:=zA5 bs hl0 i h;rw [e];exact ⟨x,rfl,hx⟩
theorem zoM (bs:List Int) (hbs:bs.length ≤ 9223372036854775806) (l:List ByteArray) (hl0:0 < l.length) (hl1:l.length ≤ 1000000):zw2 Tryz.prog 105 TC bs ⟨1,.sli 9 1 false (sL l)⟩ [.own 1000500 1] (fun rv=>∃ x,rv = .im (str x)∧x ∈ l):=by
 intro i h
 refine AG.go (rs:=[.tmp 4]) za0 mixed Tryz.func105 rfl rfl rfl (by kernel_rfl) fun hl _ s hs hR=>?_
 have e0:s.rw 1000000 = ⟨1,.box TC [.sl false 1 (kL .u8 bs),int i,int h]⟩:=by rw [hR];rfl
 have e1:s.rw 1000500 = ⟨1,.sli 9 1 false (sL l)⟩:=by rw [hR];rfl
 have hsl:(sL l).length = l.length:=by simp [sL]
 simp (maxSteps:=9^7) -dsimp only [↓gp,gq,reduceCtorEq,reduceEqDiff,reduceLT,reduceLeDiff,reduceAdd,reduceMul,reduceSub,Nat.reduceBEq,Int.reduceToNat,Int.reduceLE,Int.reduceLT,Int.reduceNeg,reduceMod,gT,hs,e0,e1,hsl]
 refine zaG (zaY bs hbs l.length (by omega)) .none (by simp (maxSteps:=9^7) -dsimp only [gr,reduceEqDiff,reduceLT,reduceAdd,reduceMod,Nat.reduceBEq,e0,e1,hsl] <;> rfl) (GvL.one (zbS (by simp (maxSteps:=9^7) -dsimp only [gr,reduceEqDiff,reduceLT,reduceAdd,reduceMod,Nat.reduceBEq,e0,e1,hsl] <;> rfl)) (by repeat (first | exact GvL.nil | refine GvL.one (GvA.v _) ?_ | refine GvL.one (GvA.sl _ _ _) ?_))) rfl (fun _ h=>by cases h) fun rv i1 g1 ⟨x,hrv,hx⟩=>?_
 subst hrv
 obtain ⟨m,rfl,hm⟩:=zgs hl0 hx
 simp (maxSteps:=9^7) -dsimp only [↓gp,gq,reduceCtorEq,reduceEqDiff,reduceLT,reduceLeDiff,reduceAdd,reduceMul,reduceSub,Nat.reduceBEq,Int.reduceToNat,Int.reduceLE,Int.reduceLT,Int.reduceNeg,reduceMod,gT,hs,e0,e1,hsl]
 refine ⟨by omega,hm,?_⟩
 exact ⟨_,i1,g1,[],⟨_,rfl,zax _ hm⟩,.one (.lf (.im _)),List.nodup_nil,by simp (maxSteps:=9^7) -dsimp only [gr,reduceEqDiff,reduceLT,reduceAdd,reduceMod,Nat.reduceBEq,e0] <;> rfl,by simp (maxSteps:=9^7) -dsimp only [gr,reduceEqDiff,reduceLT,reduceAdd,reduceMod,Nat.reduceBEq,e1] <;> rfl⟩
theorem zw0 (bs:List Int):AC Tryz.prog 4 [.sl false 1 (kL .u8 bs)] (.im (bool (decide (1048576 < (bs.length:Int))))):=by
 refine AC.go (rs:=[.tmp 2]) za0 mixed Tryz.func4 rfl rfl rfl (by kernel_rfl) fun hl=>?_
 simp (maxSteps:=9^7) -dsimp only [↓gp,gq,reduceCtorEq,reduceEqDiff,reduceLT,reduceLeDiff,reduceAdd,reduceMul,reduceSub,Nat.reduceBEq,Int.reduceToNat,Int.reduceLE,Int.reduceLT,Int.reduceNeg,reduceMod,gT]
theorem zlr (xs ys:List Int):AC Tryz.prog 37 [zbr xs,zbr ys] (.im (bool (decide (xs = ys)))):=by
 refine AC.go (rs:=[.tmp 4]) za0 mixed Tryz.func37 rfl rfl rfl (by kernel_rfl) fun hl=>?_
 simp only [zaT,zg2,zbg,and_true] at hl
 simp (maxSteps:=9^7) -dsimp only [↓gp,gq,reduceCtorEq,reduceEqDiff,reduceLT,reduceLeDiff,reduceAdd,reduceMul,reduceSub,Nat.reduceBEq,Int.reduceToNat,Int.reduceLE,Int.reduceLT,Int.reduceNeg,reduceMod,gT]
 refine ⟨fun h=>?_,fun h=>?_⟩
 ·intro e
  simp [e] at h
 ·have hn:xs.length = ys.length:=by simp at h;omega
  refine zan (fun (i:Nat) s=>s.sl 0 = zbr xs∧s.sl 1 = zbr ys∧s.sl 5 = int i∧i ≤ xs.length∧xs.take i = ys.take i) (fun i=>xs.length - i) 0 ⟨by simp (maxSteps:=9^7) -dsimp only [gr,reduceEqDiff,reduceLT,reduceAdd,reduceMod,Nat.reduceBEq],by simp (maxSteps:=9^7) -dsimp only [gr,reduceEqDiff,reduceLT,reduceAdd,reduceMod,Nat.reduceBEq],by simp (maxSteps:=9^7) -dsimp only [gr,reduceEqDiff,reduceLT,reduceAdd,reduceMod,Nat.reduceBEq];rfl,by simp,by simp⟩ ?_
  intro i s1 ⟨h0,h1,h5,hi,hall⟩
  simp (maxSteps:=9^7) -dsimp only [↓gp,gq,reduceCtorEq,reduceEqDiff,reduceLT,reduceLeDiff,reduceAdd,reduceMul,reduceSub,Nat.reduceBEq,Int.reduceToNat,Int.reduceLE,Int.reduceLT,Int.reduceNeg,reduceMod,gT,h0,h1,h5]
  refine ⟨fun h=>⟨by kernel_rfl,h,h,by omega,by omega,fun ha=>?_,fun ha=>?_⟩,fun h=>?_⟩
  ·intro e
   simp [e] at ha
  ·refine zac (i + 1) ⟨by simp (maxSteps:=9^7) -dsimp only [gr,reduceEqDiff,reduceLT,reduceAdd,reduceMod,Nat.reduceBEq,h0],by simp (maxSteps:=9^7) -dsimp only [gr,reduceEqDiff,reduceLT,reduceAdd,reduceMod,Nat.reduceBEq,h1],by simp (maxSteps:=9^7) -dsimp only [gr,reduceEqDiff,reduceLT,reduceAdd,reduceMod,Nat.reduceBEq];rw [zaa h hl.1],h,?_⟩ (by omega)
   rw [zaF 0 h,zaF 0 (show i < ys.length by omega),hall]
   simp at ha
   simpa using ha
  ·rw [List.take_of_length_le (by omega),List.take_of_length_le (by omega)] at hall
   exact hall
theorem zi0 (xs ys:List (List Int)):AC Tryz.prog 12 [zo6 xs,zo6 ys] (.im (bool (decide (xs = ys)))):=by
 refine AC.go (rs:=[.tmp 4]) za0 mixed Tryz.func12 rfl rfl rfl (by kernel_rfl) fun hl=>?_
 simp only [zaT,zze,zbg,and_true] at hl
 simp (maxSteps:=9^7) -dsimp only [↓gp,gq,reduceCtorEq,reduceEqDiff,reduceLT,reduceLeDiff,reduceAdd,reduceMul,reduceSub,Nat.reduceBEq,Int.reduceToNat,Int.reduceLE,Int.reduceLT,Int.reduceNeg,reduceMod,gT]
 refine ⟨fun h=>?_,fun h=>?_⟩
 ·intro e
  simp [e] at h
 ·have hn:xs.length = ys.length:=by simp at h;omega
  refine zan (fun (i:Nat) s=>s.sl 0 = zo6 xs∧s.sl 1 = zo6 ys∧s.sl 5 = int i∧i ≤ xs.length∧xs.take i = ys.take i) (fun i=>xs.length - i) 0 ⟨by simp (maxSteps:=9^7) -dsimp only [gr,reduceEqDiff,reduceLT,reduceAdd,reduceMod,Nat.reduceBEq],by simp (maxSteps:=9^7) -dsimp only [gr,reduceEqDiff,reduceLT,reduceAdd,reduceMod,Nat.reduceBEq],by simp (maxSteps:=9^7) -dsimp only [gr,reduceEqDiff,reduceLT,reduceAdd,reduceMod,Nat.reduceBEq];rfl,by simp,by simp⟩ ?_
  intro i s1 ⟨h0,h1,h5,hi,hall⟩
  simp (maxSteps:=9^7) -dsimp only [↓gp,gq,reduceCtorEq,reduceEqDiff,reduceLT,reduceLeDiff,reduceAdd,reduceMul,reduceSub,Nat.reduceBEq,Int.reduceToNat,Int.reduceLE,Int.reduceLT,Int.reduceNeg,reduceMod,gT,h0,h1,h5]
  refine ⟨fun h=>⟨by kernel_rfl,h,h,by omega,by omega,zab (zlr _ _) ?_⟩,fun h=>?_⟩
  ·simp (maxSteps:=9^7) -dsimp only [↓gp,gq,reduceCtorEq,reduceEqDiff,reduceLT,reduceLeDiff,reduceAdd,reduceMul,reduceSub,Nat.reduceBEq,Int.reduceToNat,Int.reduceLE,Int.reduceLT,Int.reduceNeg,reduceMod,gT,h0,h1,h5]
   refine ⟨fun ha=>?_,fun ha=>?_⟩
   ·intro e
    simp [e] at ha
   ·refine zac (i + 1) ⟨by simp (maxSteps:=9^7) -dsimp only [gr,reduceEqDiff,reduceLT,reduceAdd,reduceMod,Nat.reduceBEq,h0],by simp (maxSteps:=9^7) -dsimp only [gr,reduceEqDiff,reduceLT,reduceAdd,reduceMod,Nat.reduceBEq,h1],by simp (maxSteps:=9^7) -dsimp only [gr,reduceEqDiff,reduceLT,reduceAdd,reduceMod,Nat.reduceBEq];rw [zaa h hl.1.1],h,?_⟩ (by omega)
    rw [zaF [] h,zaF [] (show i < ys.length by omega),hall]
    simp at ha
    simpa using ha
  ·rw [List.take_of_length_le (by omega),List.take_of_length_le (by omega)] at hall
   exact hall
theorem zoK (s:Nat) (h:s < 64):AC Tryz.prog 19 [int s] (.im (int (zak s:Nat))):=by
 refine AC.go (rs:=[.tmp 2]) za0 mixed Tryz.func19 rfl rfl rfl (by kernel_rfl) fun hl=>?_
 simp (maxSteps:=9^7) -dsimp only [↓gp,gq,reduceCtorEq,reduceEqDiff,reduceLT,reduceLeDiff,reduceAdd,reduceMul,reduceSub,Nat.reduceBEq,Int.reduceToNat,Int.reduceLE,Int.reduceLT,Int.reduceNeg,reduceMod,gT]
 refine zab (zcy _ _ _) ?_
 simp (maxSteps:=9^7) -dsimp only [↓gp,gq,reduceCtorEq,reduceEqDiff,reduceLT,reduceLeDiff,reduceAdd,reduceMul,reduceSub,Nat.reduceBEq,Int.reduceToNat,Int.reduceLE,Int.reduceLT,Int.reduceNeg,reduceMod,gT]
 refine ⟨fun h2=>?_,fun _=>zab (zaE s (by omega)) ?_⟩
 ·have e:(s:Int) ≤ 63:=by omega
  rw [decide_eq_true e] at h2
  simp at h2
 ·simp (maxSteps:=9^7) -dsimp only [↓gp,gq,reduceCtorEq,reduceEqDiff,reduceLT,reduceLeDiff,reduceAdd,reduceMul,reduceSub,Nat.reduceBEq,Int.reduceToNat,Int.reduceLE,Int.reduceLT,Int.reduceNeg,reduceMod,gT]
end Go.Proofs.YtjikeknpidbceaaGreatDoor

/- DERIVED by an AI agent. -/
import Derived.Test.YtjikeknpidbceaaGreatDoorQ3
import Derived.Test.YtjikeknpidbceaaGreatDoorQ2
import Derived.Test.YtjikeknpidbceaaGreatDoorA13
import Derived.Test.YtjikeknpidbceaaGreatDoorP1
import Derived.Test.YtjikeknpidbceaaGreatDoorQ1
import Derived.Test.YtjikeknpidbceaaGreatDoorA12
namespace Go.Proofs.YtjikeknpidbceaaGreatDoor
open Go.Abs
open Nat (reduceEqDiff reduceMod reduceAdd reduceLT reduceLeDiff reduceSub reduceMul)
set_option linter.unusedSimpArgs false
set_option linter.unusedVariables false
theorem zcu {t:Nat} (h:t < 64):zlz (t:Int) = (zak t:Nat):=by rw [zlz,if_pos (by omega)];simp
theorem zld (f:Nat→Bool) (m:Nat):zhl f (m + 1) = if f m = true then max (zhl f m) (zak m + 1) else zhl f m:=rfl
theorem zlN (f:Nat→Bool):AC Tryz.prog 93 [u64 (zaB f 64:Nat)] (.im (int ((zba f:Int) - 1))):=by
 refine AC.go (rs:=[.tmp 2]) za0 mixed Tryz.func93 rfl rfl rfl (by kernel_rfl) fun hl=>?_
 simp (maxSteps:=9^7) -dsimp only [↓gp,gq,reduceCtorEq,reduceEqDiff,reduceLT,reduceLeDiff,reduceAdd,reduceMul,reduceSub,Nat.reduceBEq,Int.reduceToNat,Int.reduceLE,Int.reduceLT,Int.reduceNeg,reduceMod,gT]
 have hm1:=zbh f 64
 refine zan (fun (m:Nat) s=>s.sl 0 = u64 (zaB f 64:Nat)∧s.sl 3 = int ((zhl f m:Int) - 1)∧s.sl 4 = int m∧(m ≤ 64)) (fun m=>64 - m) (0) (by refine ⟨?_,?_,?_,by omega⟩ <;> (first | (simp (maxSteps:=9^7) -dsimp only [gr,reduceEqDiff,reduceLT,reduceAdd,reduceMod,Nat.reduceBEq,zhl];first | done | rfl | (simp;done)) | assumption | rfl)) ?_
 intro m sa ⟨h0a,h3a,h4a,hIa⟩
 simp (maxSteps:=9^7) -dsimp only [↓gp,gq,reduceCtorEq,reduceEqDiff,reduceLT,reduceLeDiff,reduceAdd,reduceMul,reduceSub,Nat.reduceBEq,Int.reduceToNat,Int.reduceLE,Int.reduceLT,Int.reduceNeg,reduceMod,gT,h0a,h3a,h4a]
 refine ⟨fun h=>zab (zb1 (zaB f 64) m (by omega) (by omega)) ?_,fun h=>?_⟩
 ·have h:m < 64:=by omega
  rw [zbm f h]
  simp (maxSteps:=9^7) -dsimp only [↓gp,gq,reduceCtorEq,reduceEqDiff,reduceLT,reduceLeDiff,reduceAdd,reduceMul,reduceSub,Nat.reduceBEq,Int.reduceToNat,Int.reduceLE,Int.reduceLT,Int.reduceNeg,reduceMod,gT,h0a,h3a,h4a]
  refine ⟨fun hf=>zab (zaP _) ?_,fun hf=>?_⟩
  ·simp (maxSteps:=9^7) -dsimp only [↓gp,gq,reduceCtorEq,reduceEqDiff,reduceLT,reduceLeDiff,reduceAdd,reduceMul,reduceSub,Nat.reduceBEq,Int.reduceToNat,Int.reduceLE,Int.reduceLT,Int.reduceNeg,reduceMod,gT,h0a,h3a,h4a,zcu h]
   refine ⟨fun hg=>zab (zaP _) ?_,fun hg=>?_⟩
   ·simp (maxSteps:=9^7) -dsimp only [↓gp,gq,reduceCtorEq,reduceEqDiff,reduceLT,reduceLeDiff,reduceAdd,reduceMul,reduceSub,Nat.reduceBEq,Int.reduceToNat,Int.reduceLE,Int.reduceLT,Int.reduceNeg,reduceMod,gT,h0a,h3a,h4a,zcu h]
    have e:(zhl f (m + 1):Int) - 1 = (zak m:Int):=by rw [zld,if_pos hf];omega
    exact zac (m + 1) (by refine ⟨?_,?_,?_,by omega⟩ <;> (first | (simp (maxSteps:=9^7) -dsimp only [gr,reduceEqDiff,reduceLT,reduceAdd,reduceMod,Nat.reduceBEq,h0a,h3a,h4a,zaa h (by omega),zcu h,e];first | done | rfl | (simp;done)) | assumption | rfl)) (by first | omega | (simp only;omega) | (dsimp only;omega) | (show _ < _;simp;omega))
   ·have e:zhl f (m + 1) = zhl f m:=by rw [zld,if_pos hf];omega
    exact zac (m + 1) (by refine ⟨?_,?_,?_,by omega⟩ <;> (first | (simp (maxSteps:=9^7) -dsimp only [gr,reduceEqDiff,reduceLT,reduceAdd,reduceMod,Nat.reduceBEq,h0a,h3a,h4a,zaa h (by omega),e];first | done | rfl | (simp;done)) | assumption | rfl)) (by first | omega | (simp only;omega) | (dsimp only;omega) | (show _ < _;simp;omega))
  ·have e:zhl f (m + 1) = zhl f m:=by rw [zld,if_neg (by rw [hf];decide)]
   exact zac (m + 1) (by refine ⟨?_,?_,?_,by omega⟩ <;> (first | (simp (maxSteps:=9^7) -dsimp only [gr,reduceEqDiff,reduceLT,reduceAdd,reduceMod,Nat.reduceBEq,h0a,h3a,h4a,zaa h (by omega),e];first | done | rfl | (simp;done)) | assumption | rfl)) (by first | omega | (simp only;omega) | (dsimp only;omega) | (show _ < _;simp;omega))
 ·have:m = 64:=by omega
  subst this;rfl
theorem zrv {f:Nat→Bool} {m j:Nat} (hf:f m = true):zaC f j (m + 1) = if j = zak m then zaC f j m ++ [m] else zaC f j m:=by
 rw [zfa,hf]
 by_cases e:j = zak m
 ·subst e;simp
 ·have:¬ zak m = j:=fun h=>e h.symm
  simp [e,this]
theorem zAp {f:Nat→Bool} {m j:Nat} (hf:f m = false):zaC f j (m + 1) = zaC f j m:=by rw [zfa,hf];simp
def ziz (f:Nat→Bool):Mat:=(List.range (zba f)).map fun k=>ofN (zaC f k 64)
theorem zor (f:Nat→Bool):(ziz f).length = zba f:=by simp [ziz]
theorem zgp (f:Nat→Bool) {k:Nat} (h:k < zba f):(ziz f).getD k [] = ofN (zaC f k 64):=by simp [ziz,List.getD,h]
theorem zlO (f:Nat→Bool):AC Tryz.prog 72 [u64 (zaB f 64:Nat)] (.tb 24 3 ((List.range (zba f)).map fun j=>iL (ofN (zaC f j 64)))):=by
 refine AC.go (rs:=[.tmp 2]) za0 mixed Tryz.func72 rfl rfl rfl (by kernel_rfl) fun hl=>?_
 have hm1:=zbh f 64
 have hd:=zcD f
 simp (maxSteps:=9^7) -dsimp only [↓gp,gq,reduceCtorEq,reduceEqDiff,reduceLT,reduceLeDiff,reduceAdd,reduceMul,reduceSub,Nat.reduceBEq,Int.reduceToNat,Int.reduceLE,Int.reduceLT,Int.reduceNeg,reduceMod,gT]
 refine zab (zlN f) ?_
 have hw:IntKind.i64.wrap ((zba f:Int) - 1 + 1) = (zba f:Int):=by rw [zam (by omega) (by omega)];omega
 simp (maxSteps:=9^7) -dsimp only [↓gp,gq,reduceCtorEq,reduceEqDiff,reduceLT,reduceLeDiff,reduceAdd,reduceMul,reduceSub,Nat.reduceBEq,Int.reduceToNat,Int.reduceLE,Int.reduceLT,Int.reduceNeg,reduceMod,gT,hw]
 refine ⟨by omega,by omega,?_⟩
 refine zz3 (k:=9) (v:=1) (e:=24) (e2:=3) (n:=zba f) (by simp (maxSteps:=9^7) -dsimp only [gr,reduceEqDiff,reduceLT,reduceAdd,reduceMod,Nat.reduceBEq,hw]) (fun j=>by simp (maxSteps:=9^7) -dsimp only [gr,reduceEqDiff,reduceLT,reduceAdd,reduceMod,Nat.reduceBEq]) (fun (m:Nat) s=>s.sl 0 = u64 (zaB f 64:Nat)∧s.sl 3 = .own 9 1∧s.sl 4 = int m∧(m ≤ 64∧TabF s.rw 9 1 24 3 (zba f) (fun j=>1 + (zaC f j m).length) (fun j=>ofN (zaC f j m)))) (fun m=>64 - m) (0) (fun sX htX hslX hoX=>(by refine ⟨?_,?_,?_,⟨by omega,htX⟩⟩ <;> (first | (simp (maxSteps:=9^7) -dsimp only [gr,reduceEqDiff,reduceLT,reduceAdd,reduceMod,Nat.reduceBEq,hslX,hoX];first | done | rfl | (simp;done)) | assumption | rfl))) ?_
 intro m sa ⟨h0a,h3a,h4a,hIa⟩
 obtain ⟨hm,ht⟩:=hIa
 simp (maxSteps:=9^7) -dsimp only [↓gp,gq,reduceCtorEq,reduceEqDiff,reduceLT,reduceLeDiff,reduceAdd,reduceMul,reduceSub,Nat.reduceBEq,Int.reduceToNat,Int.reduceLE,Int.reduceLT,Int.reduceNeg,reduceMod,gT,h0a,h3a,h4a]
 refine ⟨fun h=>zab (zb1 (zaB f 64) m (by omega) (by omega)) ?_,fun h=>?_⟩
 ·have h:m < 64:=by omega
  rw [zbm f h]
  simp (maxSteps:=9^7) -dsimp only [↓gp,gq,reduceCtorEq,reduceEqDiff,reduceLT,reduceLeDiff,reduceAdd,reduceMul,reduceSub,Nat.reduceBEq,Int.reduceToNat,Int.reduceLE,Int.reduceLT,Int.reduceNeg,reduceMod,gT,h0a,h3a,h4a]
  refine ⟨fun hf=>zab (zaP _) ?_,fun hf=>?_⟩
  ·have hk:zak m < zba f:=zfe 64 m h hf
   have hr:=ht.row (zak m) hk
   have hol:=zcO f (zak m) hm
   simp (maxSteps:=9^7) -dsimp only [↓gp,gq,reduceCtorEq,reduceEqDiff,reduceLT,reduceLeDiff,reduceAdd,reduceMul,reduceSub,Nat.reduceBEq,Int.reduceToNat,Int.reduceLE,Int.reduceLT,Int.reduceNeg,reduceMod,gT,h0a,h3a,h4a,zcu h,ht.top,zhi,zz2,hr,zae]
   refine ⟨hk,hk,by omega,hk,by omega,zac (m + 1) ⟨(by (first | (simp (maxSteps:=9^7) -dsimp only [gr,reduceEqDiff,reduceLT,reduceAdd,reduceMod,Nat.reduceBEq,h0a,h3a,h4a,zaa h (by omega)];first | done | rfl | (simp;done)) | assumption | rfl)),(by (first | (simp (maxSteps:=9^7) -dsimp only [gr,reduceEqDiff,reduceLT,reduceAdd,reduceMod,Nat.reduceBEq,h0a,h3a,h4a,zaa h (by omega)];first | done | rfl | (simp;done)) | assumption | rfl)),(by (first | (simp (maxSteps:=9^7) -dsimp only [gr,reduceEqDiff,reduceLT,reduceAdd,reduceMod,Nat.reduceBEq,h0a,h3a,h4a,zaa h (by omega)];first | done | rfl | (simp;done)) | assumption | rfl)),⟨by omega,ht.add hk (r:=ofN (zaC f (zak m) m) ++ [(m:Int)]) (by simp (maxSteps:=9^7) -dsimp only [gr,reduceEqDiff,reduceLT,reduceAdd,reduceMod,Nat.reduceBEq,h0a,h3a,h4a]) (by simp (maxSteps:=9^7) -dsimp only [gr,reduceEqDiff,reduceLT,reduceAdd,reduceMod,Nat.reduceBEq,h0a,h3a,h4a]) (fun x hx=>by simp (maxSteps:=9^7) -dsimp only [gr,reduceEqDiff,reduceLT,reduceAdd,reduceMod,Nat.reduceBEq,h0a,h3a,h4a,hx]) (fun j _=>?_) (fun j _=>?_)⟩⟩ (by first | omega | (simp only;omega) | (dsimp only;omega) | (show _ < _;simp;omega))⟩
   ·rw [zrv hf]
    split
    ·rename_i e;subst e;simp;omega
    ·rfl
   ·rw [zrv hf]
    split
    ·rename_i e;subst e;rw [za1];rfl
    ·rfl
  ·have e:∀ j,zaC f j (m + 1) = zaC f j m:=fun j=>zAp hf
   refine zac (m + 1) ⟨(by (first | (simp (maxSteps:=9^7) -dsimp only [gr,reduceEqDiff,reduceLT,reduceAdd,reduceMod,Nat.reduceBEq,h0a,h3a,h4a,zaa h (by omega)];first | done | rfl | (simp;done)) | assumption | rfl)),(by (first | (simp (maxSteps:=9^7) -dsimp only [gr,reduceEqDiff,reduceLT,reduceAdd,reduceMod,Nat.reduceBEq,h0a,h3a,h4a,zaa h (by omega)];first | done | rfl | (simp;done)) | assumption | rfl)),(by (first | (simp (maxSteps:=9^7) -dsimp only [gr,reduceEqDiff,reduceLT,reduceAdd,reduceMod,Nat.reduceBEq,h0a,h3a,h4a,zaa h (by omega)];first | done | rfl | (simp;done)) | assumption | rfl)),⟨by omega,?_⟩⟩ (by first | omega | (simp only;omega) | (dsimp only;omega) | (show _ < _;simp;omega))
   simp only [e]
   exact ht.same (by simp (maxSteps:=9^7) -dsimp only [gr,reduceEqDiff,reduceLT,reduceAdd,reduceMod,Nat.reduceBEq]) (fun x=>by simp (maxSteps:=9^7) -dsimp only [gr,reduceEqDiff,reduceLT,reduceAdd,reduceMod,Nat.reduceBEq])
 ·have:m = 64:=by omega
  subst this
  exact zz4 ht (by decide) (by omega)
theorem zos (f:Nat→Bool):AC Tryz.prog 72 [u64 (zaB f 64:Nat)] (.fr 24 1 (iLL (ziz f))):=by
 have:=(zlO f).flat
 unfold ziz iLL
 rw [List.map_map] at this ⊢
 exact this
theorem zhY (a b:Nat) (ha:a < 64) (hb:b < 64) (hp:zak b = zak a + 1):AC Tryz.prog 96 [int a,int b] (.im (int (zdS a b))):=by
 refine AC.go (rs:=[.tmp 4]) za0 mixed Tryz.func96 rfl rfl rfl (by kernel_rfl) fun hl=>?_
 have hpa:=zcq ha
 have hand:=zdy (a:=a) (b:=b) (by omega) (by omega)
 simp (maxSteps:=9^7) -dsimp only [↓gp,gq,reduceCtorEq,reduceEqDiff,reduceLT,reduceLeDiff,reduceAdd,reduceMul,reduceSub,Nat.reduceBEq,Int.reduceToNat,Int.reduceLE,Int.reduceLT,Int.reduceNeg,reduceMod,gT,hand]
 refine ⟨fun h=>?_,fun h=>?_⟩
 ·have hs:¬ a &&& b = a:=by
   intro e
   rw [zdR.2 e] at h
   simp at h
  unfold zdS;rw [if_neg hs]
 ·have hs:a &&& b = a:=zdR.1 (by
   have h9:((a ^^^ (a &&& b):Nat):Int) = 0:=by simpa using h
   omega)
  obtain ⟨hle,hx⟩:=zvp a ha b hb hs
  have hne:a ≠ b:=fun e=>by rw [e] at hp;omega
  have hand2:=zdy (a:=b) (b:=a) (by omega) (by omega)
  rw [Nat.and_comm b a,hx] at hand2
  have hw3:IntKind.i64.wrap (((b - a:Nat):Int) - 1) = ((b - a - 1:Nat):Int):=by rw [zam (by omega) (by omega)];omega
  have hand3:=zbF (a:=b) (b:=b - a - 1) (by omega) (by omega)
  have hlt:b &&& (b - a - 1) < 64:=by have:b &&& (b - a - 1) ≤ b:=Nat.and_le_left;omega
  have hp6:=zcq hlt
  have hmod:((zak (b &&& (b - a - 1)):Nat):Int).tmod 2 = ((zak (b &&& (b - a - 1)) % 2:Nat):Int):=by rw [zdY (by omega)];omega
  simp (maxSteps:=9^7) -dsimp only [↓gp,gq,reduceCtorEq,reduceEqDiff,reduceLT,reduceLeDiff,reduceAdd,reduceMul,reduceSub,Nat.reduceBEq,Int.reduceToNat,Int.reduceLE,Int.reduceLT,Int.reduceNeg,reduceMod,gT,hand2,hw3,hand3]
  refine zab (zaP _) ?_
  simp (maxSteps:=9^7) -dsimp only [↓gp,gq,reduceCtorEq,reduceEqDiff,reduceLT,reduceLeDiff,reduceAdd,reduceMul,reduceSub,Nat.reduceBEq,Int.reduceToNat,Int.reduceLE,Int.reduceLT,Int.reduceNeg,reduceMod,gT,zcu hlt,hmod]
  unfold zdS
  rw [if_pos hs]
  refine ⟨by decide,fun h0=>?_,fun h0=>?_⟩
  ·rw [if_pos (by have h9:((zak (b &&& (b - a - 1)) % 2:Nat):Int) = 0:=by simpa using h0
                  omega)]
  ·rw [if_neg (by intro e;rw [e] at h0;simp at h0)]
theorem zET {lo hi:List Nat} {i j:Nat} (hi':i < lo.length) (hj:j < hi.length):(hi.map fun b=>zdS (lo.getD i 0) b).getD j 0 = zdS (lo.getD i 0) (hi.getD j 0):=by
 simp [List.getD,hj]
theorem zle (lo hi:List Nat) (k:Nat) (hl1:lo.length ≤ 64) (hl2:hi.length ≤ 64) (hm1:∀ i,i < lo.length→lo.getD i 0 < 64∧zak (lo.getD i 0) = k) (hm2:∀ i,i < hi.length→hi.getD i 0 < 64∧zak (hi.getD i 0) = k + 1) :
 AC Tryz.prog 74 [zbr (ofN lo),zbr (ofN hi)] (.tb 24 3 ((zbX lo hi).map iL)):=by
 refine AC.go (rs:=[.tmp 4]) za0 mixed Tryz.func74 rfl rfl rfl (by kernel_rfl) fun hl=>?_
 simp (maxSteps:=9^7) -dsimp only [↓gp,gq,reduceCtorEq,reduceEqDiff,reduceLT,reduceLeDiff,reduceAdd,reduceMul,reduceSub,Nat.reduceBEq,Int.reduceToNat,Int.reduceLE,Int.reduceLT,Int.reduceNeg,reduceMod,gT,zae]
 refine ⟨by omega,by omega,?_⟩
 refine zvg (k:=12) (v:=1) (e:=24) (e2:=3) (n:=lo.length) (by simp (maxSteps:=9^7) -dsimp only [gr,reduceEqDiff,reduceLT,reduceAdd,reduceMod,Nat.reduceBEq,zae]) (fun j=>by simp (maxSteps:=9^7) -dsimp only [gr,reduceEqDiff,reduceLT,reduceAdd,reduceMod,Nat.reduceBEq]) (fun (i:Nat) s=>s.sl 1 = zbr (ofN hi)∧s.sl 5 = .own 12 1∧s.sl 13 = zbr (ofN lo)∧s.sl 14 = int lo.length∧s.sl 15 = int i∧(i ≤ lo.length∧TabP s.rw 12 1 24 3 lo.length i (zbX (lo.take i) hi))) (fun i=>lo.length - i) (0) (fun sX htX hslX hoX=>(by refine ⟨?_,?_,?_,?_,?_,⟨by omega,htX⟩⟩ <;> (first | (simp (maxSteps:=9^7) -dsimp only [gr,reduceEqDiff,reduceLT,reduceAdd,reduceMod,Nat.reduceBEq,hslX,hoX,zae];first | done | rfl | (simp;done)) | assumption | rfl))) ?_
 intro i sa ⟨h1a,h5a,h13a,h14a,h15a,hIa⟩
 obtain ⟨hi',ht⟩:=hIa
 simp (maxSteps:=9^7) -dsimp only [↓gp,gq,reduceCtorEq,reduceEqDiff,reduceLT,reduceLeDiff,reduceAdd,reduceMul,reduceSub,Nat.reduceBEq,Int.reduceToNat,Int.reduceLE,Int.reduceLT,Int.reduceNeg,reduceMod,gT,h1a,h5a,h13a,h14a,h15a,ht.top,zbp,zae]
 refine ⟨fun h=>?_,fun h=>?_⟩
 ·have hge:(ofN lo).getD i 0 = ((lo.getD i 0:Nat):Int):=zaK h
  have hlen:(zbX (lo.take i) hi).length = i:=by rw [zcj,List.length_take];omega
  refine ⟨h,h,by omega,by omega,h,by omega,?_⟩
  refine zrj (k:=12) (v:=1) (e:=24) (e2:=3) (n:=lo.length) (i:=i) (d:=24) (vd:=(sa.rw 24).ver + 1) (M:=zbX (lo.take i) hi) (r:=List.replicate hi.length 0) (by simp (maxSteps:=9^7) -dsimp only [gr,reduceEqDiff,reduceLT,reduceAdd,reduceMod,Nat.reduceBEq,ht.top]) hlen (fun j hj=>by simp (maxSteps:=9^7) -dsimp only [gr,reduceEqDiff,reduceLT,reduceAdd,reduceMod,Nat.reduceBEq,ht.row j hj]) (fun j hj=>by simp (maxSteps:=9^7) -dsimp only [gr,reduceEqDiff,reduceLT,reduceAdd,reduceMod,Nat.reduceBEq,ht.rest j hj]) (by simp (maxSteps:=9^7) -dsimp only [gr,reduceEqDiff,reduceLT,reduceAdd,reduceMod,Nat.reduceBEq]) (by decide) (by decide) h (fun (j:Nat) s=>s.sl 1 = zbr (ofN hi)∧s.sl 5 = .own 12 1∧s.sl 13 = zbr (ofN lo)∧s.sl 14 = int lo.length∧s.sl 15 = int i∧s.sl 6 = int i∧s.sl 7 = int (lo.getD i 0:Nat)∧s.sl 26 = zbr (ofN hi)∧s.sl 27 = int hi.length∧s.sl 28 = int j∧(j ≤ hi.length∧TabP s.rw 12 1 24 3 lo.length (i + 1) (zbX (lo.take i) hi ++ [prt (hi.map fun b=>zdS (lo.getD i 0) b) (List.replicate hi.length 0) j]))) (fun j=>hi.length - j) (0) (fun sX htX hslX hoX=>(by refine ⟨?_,?_,?_,?_,?_,?_,?_,?_,?_,?_,⟨by omega,by rw [zes];exact htX⟩⟩ <;> (first | (simp (maxSteps:=9^7) -dsimp only [gr,reduceEqDiff,reduceLT,reduceAdd,reduceMod,Nat.reduceBEq,hslX,hoX,h1a,h5a,h13a,h14a,h15a,zae,hge];first | done | rfl | (simp;done)) | assumption | rfl))) ?_
  intro j sb ⟨h1b,h5b,h13b,h14b,h15b,h6b,h7b,h26b,h27b,h28b,hIb⟩
  obtain ⟨hj,ht2⟩:=hIb
  have hnl:(hi.map fun b=>zdS (lo.getD i 0) b).length = (List.replicate hi.length (0:Int)).length:=by simp
  have hrr:=ht2.row i (by omega)
  rw [zrk hlen] at hrr
  have hpl:∀ t,(prt (hi.map fun b=>zdS (lo.getD i 0) b) (List.replicate hi.length 0) t).length = hi.length:=fun t=>by rw [zcF hnl];simp
  simp (maxSteps:=9^7) -dsimp only [↓gp,gq,reduceCtorEq,reduceEqDiff,reduceLT,reduceLeDiff,reduceAdd,reduceMul,reduceSub,Nat.reduceBEq,Int.reduceToNat,Int.reduceLE,Int.reduceLT,Int.reduceNeg,reduceMod,gT,h1b,h5b,h13b,h14b,h15b,h6b,h7b,h26b,h27b,h28b,ht2.top,zkU,hrr,hpl,zbp,zae]
  refine ⟨fun h2=>?_,fun h2=>?_⟩
  ·have hge2:(ofN hi).getD j 0 = ((hi.getD j 0:Nat):Int):=zaK h2
   have ha:=hm1 i h
   have hb:=hm2 j h2
   refine ⟨h2,h2,?_⟩
   simp (maxSteps:=9^7) -dsimp only [↓gp,gq,reduceCtorEq,reduceEqDiff,reduceLT,reduceLeDiff,reduceAdd,reduceMul,reduceSub,Nat.reduceBEq,Int.reduceToNat,Int.reduceLE,Int.reduceLT,Int.reduceNeg,reduceMod,gT,h1b,h5b,h13b,h14b,h15b,h6b,h7b,h26b,h27b,h28b,ht2.top,zkU,hrr,hpl,zbp,hge2]
   refine ⟨by kernel_rfl,h,h,zab (zhY _ _ ha.1 hb.1 (by omega)) ?_⟩
   simp (maxSteps:=9^7) -dsimp only [↓gp,gq,reduceCtorEq,reduceEqDiff,reduceLT,reduceLeDiff,reduceAdd,reduceMul,reduceSub,Nat.reduceBEq,Int.reduceToNat,Int.reduceLE,Int.reduceLT,Int.reduceNeg,reduceMod,gT,h1b,h5b,h13b,h14b,h15b,h6b,h7b,h26b,h27b,h28b,ht2.top,zkU,hrr,hpl,zbp,hge2]
   refine ⟨h2,by omega,by kernel_rfl,zac (j + 1) ⟨(by (first | (simp (maxSteps:=9^7) -dsimp only [gr,reduceEqDiff,reduceLT,reduceAdd,reduceMod,Nat.reduceBEq,h1b,h5b,h13b,h14b,h15b,h6b,h7b,h26b,h27b,h28b,zaa h2 (by omega)];first | done | rfl | (simp;done)) | assumption | rfl)),(by (first | (simp (maxSteps:=9^7) -dsimp only [gr,reduceEqDiff,reduceLT,reduceAdd,reduceMod,Nat.reduceBEq,h1b,h5b,h13b,h14b,h15b,h6b,h7b,h26b,h27b,h28b,zaa h2 (by omega)];first | done | rfl | (simp;done)) | assumption | rfl)),(by (first | (simp (maxSteps:=9^7) -dsimp only [gr,reduceEqDiff,reduceLT,reduceAdd,reduceMod,Nat.reduceBEq,h1b,h5b,h13b,h14b,h15b,h6b,h7b,h26b,h27b,h28b,zaa h2 (by omega)];first | done | rfl | (simp;done)) | assumption | rfl)),(by (first | (simp (maxSteps:=9^7) -dsimp only [gr,reduceEqDiff,reduceLT,reduceAdd,reduceMod,Nat.reduceBEq,h1b,h5b,h13b,h14b,h15b,h6b,h7b,h26b,h27b,h28b,zaa h2 (by omega)];first | done | rfl | (simp;done)) | assumption | rfl)),(by (first | (simp (maxSteps:=9^7) -dsimp only [gr,reduceEqDiff,reduceLT,reduceAdd,reduceMod,Nat.reduceBEq,h1b,h5b,h13b,h14b,h15b,h6b,h7b,h26b,h27b,h28b,zaa h2 (by omega)];first | done | rfl | (simp;done)) | assumption | rfl)),(by (first | (simp (maxSteps:=9^7) -dsimp only [gr,reduceEqDiff,reduceLT,reduceAdd,reduceMod,Nat.reduceBEq,h1b,h5b,h13b,h14b,h15b,h6b,h7b,h26b,h27b,h28b,zaa h2 (by omega)];first | done | rfl | (simp;done)) | assumption | rfl)),(by (first | (simp (maxSteps:=9^7) -dsimp only [gr,reduceEqDiff,reduceLT,reduceAdd,reduceMod,Nat.reduceBEq,h1b,h5b,h13b,h14b,h15b,h6b,h7b,h26b,h27b,h28b,zaa h2 (by omega)];first | done | rfl | (simp;done)) | assumption | rfl)),(by (first | (simp (maxSteps:=9^7) -dsimp only [gr,reduceEqDiff,reduceLT,reduceAdd,reduceMod,Nat.reduceBEq,h1b,h5b,h13b,h14b,h15b,h6b,h7b,h26b,h27b,h28b,zaa h2 (by omega)];first | done | rfl | (simp;done)) | assumption | rfl)),(by (first | (simp (maxSteps:=9^7) -dsimp only [gr,reduceEqDiff,reduceLT,reduceAdd,reduceMod,Nat.reduceBEq,h1b,h5b,h13b,h14b,h15b,h6b,h7b,h26b,h27b,h28b,zaa h2 (by omega)];first | done | rfl | (simp;done)) | assumption | rfl)),(by (first | (simp (maxSteps:=9^7) -dsimp only [gr,reduceEqDiff,reduceLT,reduceAdd,reduceMod,Nat.reduceBEq,h1b,h5b,h13b,h14b,h15b,h6b,h7b,h26b,h27b,h28b,zaa h2 (by omega)];first | done | rfl | (simp;done)) | assumption | rfl)),⟨by omega,?_⟩⟩ (by first | omega | (simp only;omega) | (dsimp only;omega) | (show _ < _;simp;omega))⟩
   have e:zbX (lo.take i) hi ++ [prt (hi.map fun b=>zdS (lo.getD i 0) b) (List.replicate hi.length 0) (j + 1)] = (zbX (lo.take i) hi ++ [prt (hi.map fun b=>zdS (lo.getD i 0) b) (List.replicate hi.length 0) j]).set i ((prt (hi.map fun b=>zdS (lo.getD i 0) b) (List.replicate hi.length 0) j).set j (zdS (lo.getD i 0) (hi.getD j 0))):=by
    rw [zvh hlen,← zET h h2,zgm hnl (by simpa using h2)]
   rw [e]
   exact ht2.set (by omega) (by simp (maxSteps:=9^7) -dsimp only [gr,reduceEqDiff,reduceLT,reduceAdd,reduceMod,Nat.reduceBEq,h1b,h5b,h13b,h14b,h15b,h6b,h7b,h26b,h27b,h28b]) (by simp (maxSteps:=9^7) -dsimp only [gr,reduceEqDiff,reduceLT,reduceAdd,reduceMod,Nat.reduceBEq,h1b,h5b,h13b,h14b,h15b,h6b,h7b,h26b,h27b,h28b]) (fun x hx=>by simp (maxSteps:=9^7) -dsimp only [gr,reduceEqDiff,reduceLT,reduceAdd,reduceMod,Nat.reduceBEq,h1b,h5b,h13b,h14b,h15b,h6b,h7b,h26b,h27b,h28b,hx])
  ·have:j = hi.length:=by omega
   subst this
   refine zac (i + 1) ⟨(by (first | (simp (maxSteps:=9^7) -dsimp only [gr,reduceEqDiff,reduceLT,reduceAdd,reduceMod,Nat.reduceBEq,h1a,h5a,h13a,h14a,h15a,h1b,h5b,h13b,h14b,h15b,h6b,h7b,h26b,h27b,h28b,zaa h (by omega)];first | done | rfl | (simp;done)) | assumption | rfl)),(by (first | (simp (maxSteps:=9^7) -dsimp only [gr,reduceEqDiff,reduceLT,reduceAdd,reduceMod,Nat.reduceBEq,h1a,h5a,h13a,h14a,h15a,h1b,h5b,h13b,h14b,h15b,h6b,h7b,h26b,h27b,h28b,zaa h (by omega)];first | done | rfl | (simp;done)) | assumption | rfl)),(by (first | (simp (maxSteps:=9^7) -dsimp only [gr,reduceEqDiff,reduceLT,reduceAdd,reduceMod,Nat.reduceBEq,h1a,h5a,h13a,h14a,h15a,h1b,h5b,h13b,h14b,h15b,h6b,h7b,h26b,h27b,h28b,zaa h (by omega)];first | done | rfl | (simp;done)) | assumption | rfl)),(by (first | (simp (maxSteps:=9^7) -dsimp only [gr,reduceEqDiff,reduceLT,reduceAdd,reduceMod,Nat.reduceBEq,h1a,h5a,h13a,h14a,h15a,h1b,h5b,h13b,h14b,h15b,h6b,h7b,h26b,h27b,h28b,zaa h (by omega)];first | done | rfl | (simp;done)) | assumption | rfl)),(by (first | (simp (maxSteps:=9^7) -dsimp only [gr,reduceEqDiff,reduceLT,reduceAdd,reduceMod,Nat.reduceBEq,h1a,h5a,h13a,h14a,h15a,h1b,h5b,h13b,h14b,h15b,h6b,h7b,h26b,h27b,h28b,zaa h (by omega)];first | done | rfl | (simp;done)) | assumption | rfl)),⟨by omega,?_⟩⟩ (by first | omega | (simp only;omega) | (dsimp only;omega) | (show _ < _;simp;omega))
   have e:prt (hi.map fun b=>zdS (lo.getD i 0) b) (List.replicate hi.length 0) hi.length = hi.map fun b=>zdS (lo.getD i 0) b:=by
    have:=zgl hnl
    simpa using this
   have ht3:=ht2
   rw [e,znt h] at ht3
   exact ht3.same (by simp (maxSteps:=9^7) -dsimp only [gr,reduceEqDiff,reduceLT,reduceAdd,reduceMod,Nat.reduceBEq]) (fun x=>by simp (maxSteps:=9^7) -dsimp only [gr,reduceEqDiff,reduceLT,reduceAdd,reduceMod,Nat.reduceBEq])
 ·have:i = lo.length:=by omega
  subst this
  rw [List.take_length] at ht
  exact zd8 ht.done (by decide) (fun j hj=>by have:=List.mem_range.1 hj;omega)
noncomputable def rkL (f:Nat→Bool) (p:Int) (k:Nat):List Int:=(List.range (zba f + 1)).map fun j=>if j < k then (rkF f p j:Int) else 0
theorem zwP (f:Nat→Bool) (p:Int) (k:Nat):(rkL f p k).length = zba f + 1:=by simp [rkL]
theorem zCe (f:Nat→Bool) (p:Int) {k j:Nat} (h:j < zba f + 1):(rkL f p k).getD j 0 = if j < k then (rkF f p j:Int) else 0:=by simp [rkL,List.getD,h]
theorem zER (f:Nat→Bool) (p:Int):List.replicate (zba f + 1) 0 = rkL f p 1:=by
 refine List.ext_getElem (by simp [rkL]) fun j a b=>?_
 simp only [List.getElem_replicate,rkL,List.getElem_map,List.getElem_range]
 split
 ·have:j = 0:=by omega
  subst this;simp [rkF]
 ·rfl
theorem zES (f:Nat→Bool) (p:Int) {k:Nat} (h:k < zba f):(rkL f p k).set k (rkF f p k) = rkL f p (k + 1):=by
 refine List.ext_getElem (by simp [rkL]) fun j a b=>?_
 rw [List.getElem_set]
 simp only [rkL,List.getElem_map,List.getElem_range]
 by_cases e:k = j
 ·subst e;simp
 ·rw [if_neg e]
  by_cases h1:j < k
  ·rw [if_pos h1,if_pos (by omega)]
  ·rw [if_neg h1,if_neg (by omega)]
theorem zf5 (f:Nat→Bool) (p:Int) (hp:isP p = true):AC Tryz.prog 34 [u64 (zaB f 64:Nat),int p] (.fr 3 1 (iL (zdf f p))):=by
 refine AC.go (rs:=[.tmp 4]) za0 mixed Tryz.func34 rfl rfl rfl (by kernel_rfl) fun hl=>?_
 have hd:=zcD f
 have hsl:=zor f
 simp (maxSteps:=9^7) -dsimp only [↓gp,gq,reduceCtorEq,reduceEqDiff,reduceLT,reduceLeDiff,reduceAdd,reduceMul,reduceSub,Nat.reduceBEq,Int.reduceToNat,Int.reduceLE,Int.reduceLT,Int.reduceNeg,reduceMod,gT]
 refine zab (zos f) ?_
 have hw:IntKind.i64.wrap ((zba f:Int) + 1) = ((zba f + 1:Nat):Int):=by rw [zam (by omega) (by omega)];rfl
 simp (maxSteps:=9^7) -dsimp only [↓gp,gq,reduceCtorEq,reduceEqDiff,reduceLT,reduceLeDiff,reduceAdd,reduceMul,reduceSub,Nat.reduceBEq,Int.reduceToNat,Int.reduceLE,Int.reduceLT,Int.reduceNeg,reduceMod,gT,hsl,hw]
 refine ⟨by omega,by omega,?_⟩
 refine zan (fun (za:Nat × Nat × Nat) s=>match za with | (k,v,w)=>s.sl 1 = int p∧s.sl 5 = .own 11 v∧s.rw 11 = ⟨v,.sli 24 1 false (iLL (ziz f))⟩∧s.sl 6 = .own 15 w∧s.rw 15 = ⟨w,.sli 3 1 false (iL (rkL f p k))⟩∧s.sl 7 = int k∧(1 ≤ k∧k ≤ zba f + 1∧(k ≤ zba f ∨ zba f = 0))) (fun (k,v,w)=>zba f + 1 - k) ((1,1,1)) (by refine ⟨?_,?_,?_,?_,?_,?_,by simp;omega⟩ <;> (first | (simp (maxSteps:=9^7) -dsimp only [gr,reduceEqDiff,reduceLT,reduceAdd,reduceMod,Nat.reduceBEq,hsl,hw,zER f p,zdK];first | done | rfl | (simp;done)) | assumption | rfl)) ?_
 intro (k,v,w) sa ⟨h1a,h5a,r11a,h6a,r15a,h7a,hIa⟩
 obtain ⟨hk1,hk2,hk3⟩:=hIa
 have hrl:=zwP f p k
 simp (maxSteps:=9^7) -dsimp only [↓gp,gq,reduceCtorEq,reduceEqDiff,reduceLT,reduceLeDiff,reduceAdd,reduceMul,reduceSub,Nat.reduceBEq,Int.reduceToNat,Int.reduceLE,Int.reduceLT,Int.reduceNeg,reduceMod,gT,h1a,h5a,r11a,h6a,r15a,h7a,hsl,hrl]
 refine ⟨fun h=>?_,fun h=>?_⟩
 ·have hwk:IntKind.i64.wrap ((k:Int) - 1) = ((k - 1:Nat):Int):=by rw [zam (by omega) (by omega)];omega
  have hg1:=zgp f (k:=k - 1) (by omega)
  have hg2:=zgp f h
  have ho1:=zcO f (k - 1) (Nat.le_refl 64)
  have ho2:=zcO f k (Nat.le_refl 64)
  simp (maxSteps:=9^7) -dsimp only [↓gp,gq,reduceCtorEq,reduceEqDiff,reduceLT,reduceLeDiff,reduceAdd,reduceMul,reduceSub,Nat.reduceBEq,Int.reduceToNat,Int.reduceLE,Int.reduceLT,Int.reduceNeg,reduceMod,gT,h1a,h5a,r11a,h6a,r15a,h7a,hsl,hrl,hwk,hg1,hg2]
  refine ⟨by kernel_rfl,by omega,by omega,h,h,zab (zle (zaC f (k - 1) 64) (zaC f k 64) (k - 1) ho1 ho2 (fun i hi=>?_) (fun i hi=>?_)) ?_⟩
  ·have:=zeq.1 (zax 0 hi);exact ⟨this.1,this.2.2⟩
  ·have:=zeq.1 (zax 0 hi);exact ⟨this.1,by omega⟩
  ·simp (maxSteps:=9^7) -dsimp only [↓gp,gq,reduceCtorEq,reduceEqDiff,reduceLT,reduceLeDiff,reduceAdd,reduceMul,reduceSub,Nat.reduceBEq,Int.reduceToNat,Int.reduceLE,Int.reduceLT,Int.reduceNeg,reduceMod,gT,h1a,h5a,r11a,h6a,r15a,h7a,hsl,hrl,hwk,hg1,hg2]
   have hrk:zok p (zbX (zaC f (k - 1) 64) (zaC f k 64)) = rkF f p k:=by unfold rkF;rw [if_neg (by omega)]
   have hb1:=zcj (zaC f (k - 1) 64) (zaC f k 64)
   have hb3:=znp (zaC f (k - 1) 64) (zaC f k 64)
   refine zab (zot _ p hp (by omega) (zno _ _) (by omega)) ?_
   rw [hrk]
   have hset:=zES f p h
   simp (maxSteps:=9^7) -dsimp only [↓gp,gq,reduceCtorEq,reduceEqDiff,reduceLT,reduceLeDiff,reduceAdd,reduceMul,reduceSub,Nat.reduceBEq,Int.reduceToNat,Int.reduceLE,Int.reduceLT,Int.reduceNeg,reduceMod,gT,h1a,h5a,r11a,h6a,r15a,h7a,hsl,hrl,hwk,hg1,hg2,hset]
   refine ⟨by omega,by omega,by kernel_rfl,?_⟩
   exact zac ((k + 1,v,w)) (by refine ⟨?_,?_,?_,?_,?_,?_,⟨by dsimp only;omega,by dsimp only;omega,by dsimp only;omega⟩⟩ <;> (first | (simp (maxSteps:=9^7) -dsimp only [gr,reduceEqDiff,reduceLT,reduceAdd,reduceMod,Nat.reduceBEq,h1a,h5a,r11a,h6a,r15a,h7a,zaa h (by omega),hwk,hg1,hg2,hset];first | done | rfl | (simp;done)) | assumption | rfl)) (by first | omega | (simp only;omega) | (dsimp only;omega) | (show _ < _;simp;omega))
 ·have hrk:∀ j,j < zba f + 1→(rkL f p k).getD j 0 = (rkF f p j:Int):=fun j hj=>by
   rw [zCe f p hj]
   split
   ·rfl
   ·rw [zAq (by omega)];rfl
  generalize rkL f p k = rk at *
  refine ⟨by omega,by omega,?_⟩
  refine zan (fun (zb:Nat × Nat × Nat × Nat) s=>match zb with | (k,v,w,u)=>s.sl 5 = .own 11 v∧s.rw 11 = ⟨v,.sli 24 1 false (iLL (ziz f))⟩∧s.sl 6 = .own 15 w∧s.rw 15 = ⟨w,.sli 3 1 false (iL rk)⟩∧s.sl 8 = .own 39 u∧s.rw 39 = ⟨u,.sli 3 1 false (iL (prt (zdf f p) (List.replicate (zba f) 0) k))⟩∧s.sl 41 = int (zba f:Nat)∧s.sl 42 = int k∧(k ≤ zba f)) (fun (k,v,w,u)=>zba f - k) ((0,v,w,(sa.rw 39).ver + 1)) (by refine ⟨?_,?_,?_,?_,?_,?_,?_,?_,by omega⟩ <;> (first | (simp (maxSteps:=9^7) -dsimp only [gr,reduceEqDiff,reduceLT,reduceAdd,reduceMod,Nat.reduceBEq,h1a,h5a,r11a,h6a,r15a,h7a,hsl,zes,zdK];first | done | rfl | (simp;done)) | assumption | rfl)) ?_
  intro (k,v,w,u) sb ⟨h5b,r11b,h6b,r15b,h8b,r39b,h41b,h42b,hIb⟩
  have hnl:(zdf f p).length = (List.replicate (zba f) (0:Int)).length:=by simp [zaL]
  have hpl:(prt (zdf f p) (List.replicate (zba f) 0) k).length = zba f:=by rw [zcF hnl];simp
  by_cases h2:k < zba f
  ·have hwk:=zaa h2 (by omega)
   have hg1:=zgp f h2
   have ho1:=zcO f k (Nat.le_refl 64)
   have hr1:=znq f p k
   have hr2:=znq f p (k + 1)
   have hw1:IntKind.i64.wrap (((zaC f k 64).length:Int) - (rkF f p k:Int)) = ((zaC f k 64).length:Int) - (rkF f p k:Int):=zam (by omega) (by omega)
   have hw2:IntKind.i64.wrap (((zaC f k 64).length:Int) - (rkF f p k:Int) - (rkF f p (k + 1):Int)) = ((zaC f k 64).length:Int) - (rkF f p k:Int) - (rkF f p (k + 1):Int):=zam (by omega) (by omega)
   have hk1:=hrk k (by omega)
   have hk2:=hrk (k + 1) (by omega)
   have hset:(prt (zdf f p) (List.replicate (zba f) 0) k).set k (((zaC f k 64).length:Int) - rkF f p k - rkF f p (k + 1)) = prt (zdf f p) (List.replicate (zba f) 0) (k + 1):=by
    rw [← zhm f p h2,zgm hnl (by simpa using h2)]
   simp (maxSteps:=9^7) -dsimp only [↓gp,gq,reduceCtorEq,reduceEqDiff,reduceLT,reduceLeDiff,reduceAdd,reduceMul,reduceSub,Nat.reduceBEq,Int.reduceToNat,Int.reduceLE,Int.reduceLT,Int.reduceNeg,reduceMod,gT,h5b,r11b,h6b,r15b,h8b,r39b,h41b,h42b,hsl,hrl,hpl,hwk,hg1,zae,hk1,hk2,hw1,hw2,hset]
   refine ⟨fun _=>⟨by kernel_rfl,h2,h2,by omega,by omega,by omega,by omega,h2,by omega,by kernel_rfl,?_⟩,fun h3=>absurd h2 h3⟩
   exact zac ((k + 1,v,w,u)) (by refine ⟨?_,?_,?_,?_,?_,?_,?_,?_,by dsimp only;omega⟩ <;> (first | (simp (maxSteps:=9^7) -dsimp only [gr,reduceEqDiff,reduceLT,reduceAdd,reduceMod,Nat.reduceBEq,h5b,r11b,h6b,r15b,h8b,r39b,h41b,h42b,hwk,hg1,hk1,hk2,hw1,hw2,hset];first | done | rfl | (simp;done)) | assumption | rfl)) (by first | omega | (simp only;omega) | (dsimp only;omega) | (show _ < _;simp;omega))
  ·simp (maxSteps:=9^7) -dsimp only [↓gp,gq,reduceCtorEq,reduceEqDiff,reduceLT,reduceLeDiff,reduceAdd,reduceMul,reduceSub,Nat.reduceBEq,Int.reduceToNat,Int.reduceLE,Int.reduceLT,Int.reduceNeg,reduceMod,gT,h5b,r11b,h6b,r15b,h8b,r39b,h41b,h42b,hsl,hrl,hpl]
   refine ⟨fun h3=>absurd h3 h2,fun _=>?_⟩
   have e:k = (List.replicate (zba f) (0:Int)).length:=by simp;omega
   have:=zgl hnl
   rw [← e] at this
   rw [this]
noncomputable def zgC (n:Int) (xs:List Int):Bool:=zcV n xs && !(xs.length == 0)
theorem zaO {n:Int} {xs:List Int}:zgC n xs = true ↔ zcV n xs = true∧0 < xs.length:=by
 unfold zgC
 cases zcV n xs <;> simp [Nat.pos_iff_ne_zero]
noncomputable def zwO (n:Int) (xs:List Int):Int:=if zgC n xs = true then (zak (xs.getD (xs.length - 1) 0).toNat:Int) - 1 else -2
theorem zru (n:Int) (xs:List Int):decide (zwO n xs < -1) = !zgC n xs:=by
 unfold zwO
 cases zgC n xs <;> simp;omega
theorem zfj (n:Int) (xs:List Int):AC Tryz.prog 38 [.ag [int n,zbr xs]] (.im (int (zwO n xs))):=by
 refine AC.go (rs:=[.tmp 2]) za0 mixed Tryz.func38 rfl rfl rfl (by kernel_rfl) fun hl=>?_
 simp only [zaT,zbg,and_true,zbK,zcZ,zb2,true_and] at hl
 simp (maxSteps:=9^7) -dsimp only [↓gp,gq,reduceCtorEq,reduceEqDiff,reduceLT,reduceLeDiff,reduceAdd,reduceMul,reduceSub,Nat.reduceBEq,Int.reduceToNat,Int.reduceLE,Int.reduceLT,Int.reduceNeg,reduceMod,gT]
 refine zab (zbM n xs) ?_
 have hw:0 < xs.length→IntKind.i64.wrap ((xs.length:Int) - 1) = ((xs.length - 1:Nat):Int):=fun h=>by rw [zam (by omega) (by omega)];omega
 by_cases hh:zgC n xs = true
 ·obtain ⟨h1,h2⟩:=zaO.1 hh
  have hs:=zo2 (zdZ h1) (k:=xs.length - 1) (by omega)
  have hc:=zcK (s:=xs.getD (xs.length - 1) 0) hs.1 (by omega)
  have hz:((xs.length:Int) == 0) = false:=by rw [beq_eq_false_iff_ne];omega
  have hp:=zcq (s:=(xs.getD (xs.length - 1) 0).toNat) (by omega)
  simp (maxSteps:=9^7) -dsimp only [↓gp,gq,reduceCtorEq,reduceEqDiff,reduceLT,reduceLeDiff,reduceAdd,reduceMul,reduceSub,Nat.reduceBEq,Int.reduceToNat,Int.reduceLE,Int.reduceLT,Int.reduceNeg,reduceMod,gT,h1,hz,hw h2,Int.toNat_natCast]
  refine ⟨by omega,by omega,zab hc ?_⟩
  have hw2:IntKind.i64.wrap ((zak (xs.getD (xs.length - 1) 0).toNat:Int) - 1) = (zak (xs.getD (xs.length - 1) 0).toNat:Int) - 1:=zam (by omega) (by omega)
  have hd:zwO n xs = (zak (xs.getD (xs.length - 1) 0).toNat:Int) - 1:=if_pos hh
  simp (maxSteps:=9^7) -dsimp only [↓gp,gq,reduceCtorEq,reduceEqDiff,reduceLT,reduceLeDiff,reduceAdd,reduceMul,reduceSub,Nat.reduceBEq,Int.reduceToNat,Int.reduceLE,Int.reduceLT,Int.reduceNeg,reduceMod,gT,hw2,hd]
 ·have hd:zwO n xs = -2:=if_neg hh
  rw [hd]
  simp (maxSteps:=9^7) -dsimp only [↓gp,gq,reduceCtorEq,reduceEqDiff,reduceLT,reduceLeDiff,reduceAdd,reduceMul,reduceSub,Nat.reduceBEq,Int.reduceToNat,Int.reduceLE,Int.reduceLT,Int.reduceNeg,reduceMod,gT]
  exact fun hc h0=>absurd (zaO.2 ⟨by simpa using hc,by simp at h0;exact List.length_pos_iff.2 h0⟩) hh
theorem zb6 (n:Int) (xs:List Int) (hx:okS xs):AC Tryz.prog 53 [int n,zbr xs] (.ag [.im (int n),.fr 3 1 (iL (ofN (zfB (inF xs) true)))]):=by
 refine AC.go (rs:=[.cell 4 26]) za0 mixed Tryz.func53 rfl rfl rfl (by kernel_rfl) fun hl=>?_
 simp (maxSteps:=9^7) -dsimp only [↓gp,gq,reduceCtorEq,reduceEqDiff,reduceLT,reduceLeDiff,reduceAdd,reduceMul,reduceSub,Nat.reduceBEq,Int.reduceToNat,Int.reduceLE,Int.reduceLT,Int.reduceNeg,reduceMod,gT]
 refine zab (zeB true xs hx) ?_
 simp (maxSteps:=9^7) -dsimp only [↓gp,gq,reduceCtorEq,reduceEqDiff,reduceLT,reduceLeDiff,reduceAdd,reduceMul,reduceSub,Nat.reduceBEq,Int.reduceToNat,Int.reduceLE,Int.reduceLT,Int.reduceNeg,reduceMod,gT]
theorem zlc (n:Int) (xs:List Int) (w:Nat) (hw:w < 64) (hx:okS xs) (hlen:xs.length ≤ 1000):AC Tryz.prog 76 [.ag [int n,zbr xs],int w] (.ag [.im (int n),.fr 3 1 (iL (ofN (zfB (inF (xs.map fun x=>zdI .i64 x w)) true)))]):=by
 refine AC.go (rs:=[.cell 4 26]) za0 mixed Tryz.func76 rfl rfl rfl (by kernel_rfl) fun hl=>?_
 simp only [zaT,zbg,and_true,zbK,zcZ,zb2,true_and] at hl
 simp (maxSteps:=9^7) -dsimp only [↓gp,gq,reduceCtorEq,reduceEqDiff,reduceLT,reduceLeDiff,reduceAdd,reduceMul,reduceSub,Nat.reduceBEq,Int.reduceToNat,Int.reduceLE,Int.reduceLT,Int.reduceNeg,reduceMod,gT]
 have hmap:∀ k,k < xs.length→(xs.take (k + 1)).map (fun x=>zdI .i64 x w) = (xs.take k).map (fun x=>zdI .i64 x w) ++ [zdI .i64 (xs.getD k 0) w]:=fun k h=>by rw [zaF 0 h];simp
 refine zan (fun (za:Nat × Nat) s=>match za with | (k,v)=>s.sl 1 = int w∧s.sl 2 = .ref 2 1 0∧s.rw 2 = ⟨1,.box 26 [int n,zbr xs]⟩∧s.sl 4 = .ref 4 1 0∧s.rw 4 = ⟨1,.box 26 [int 0,.v (.slice none 0 0)]⟩∧s.sl 5 = .own 7 v∧s.rw 7 = ⟨v,.sli 3 1 false (iL ((xs.take k).map fun x=>zdI .i64 x w))⟩∧s.sl 6 = int k∧(k ≤ xs.length)) (fun (k,v)=>xs.length - k) ((0,1)) (by refine ⟨?_,?_,?_,?_,?_,?_,?_,?_,by simp⟩ <;> (first | (simp (maxSteps:=9^7) -dsimp only [gr,reduceEqDiff,reduceLT,reduceAdd,reduceMod,Nat.reduceBEq];first | done | rfl | (simp;done)) | assumption | rfl)) ?_
 intro (k,v) sa ⟨h1a,h2a,r2a,h4a,r4a,h5a,r7a,h6a,hIa⟩
 simp (maxSteps:=9^7) -dsimp only [↓gp,gq,reduceCtorEq,reduceEqDiff,reduceLT,reduceLeDiff,reduceAdd,reduceMul,reduceSub,Nat.reduceBEq,Int.reduceToNat,Int.reduceLE,Int.reduceLT,Int.reduceNeg,reduceMod,gT,h1a,h2a,r2a,h4a,r4a,h5a,r7a,h6a]
 refine ⟨fun h=>⟨h,h,by rw [List.length_map,List.length_take];omega,zac ((k + 1,v + 1)) (by refine ⟨?_,?_,?_,?_,?_,?_,?_,?_,by omega⟩ <;> (first | (simp (maxSteps:=9^7) -dsimp only [gr,reduceEqDiff,reduceLT,reduceAdd,reduceMod,Nat.reduceBEq,h1a,h2a,r2a,h4a,r4a,h5a,r7a,h6a,zaa h (by omega),hmap k h];first | done | rfl | (simp;done)) | assumption | rfl)) (by first | omega | (simp only;omega) | (dsimp only;omega) | (show _ < _;simp;omega))⟩,fun h=>?_⟩
 have:k = xs.length:=by omega
 subst this
 have ht:xs.take xs.length = xs:=List.take_length
 rw [ht] at r7a
 refine zab (zb6 n _ ?_) ?_
 ·intro x hx'
  obtain ⟨y,hy,rfl⟩:=List.mem_map.1 hx'
  exact zz8 (hx y (by rwa [ht] at hy)) (by omega)
 ·simp (maxSteps:=9^7) -dsimp only [↓gp,gq,reduceCtorEq,reduceEqDiff,reduceLT,reduceLeDiff,reduceAdd,reduceMul,reduceSub,Nat.reduceBEq,Int.reduceToNat,Int.reduceLE,Int.reduceLT,Int.reduceNeg,reduceMod,gT,h1a,h2a,r2a,h4a,r4a,h5a,r7a,h6a,ht]
theorem zsI {xs:List Int} (hx:okS xs) {w:Nat} (hw:w < 64) (s:Nat):inF (xs.map fun x=>zdI .i64 x (w:Int)) s = true ↔ ∃ x ∈ xs,x.toNat &&& w = s:=by
 unfold inF
 rw [decide_eq_true_iff,List.mem_map]
 have key:∀ x ∈ xs,zdI .i64 x (w:Int) = ((x.toNat &&& w:Nat):Int):=fun x h=>by
  have:=hx x h
  rw [← zbF (by omega) (by omega)]
  congr 1;omega
 exact ⟨fun ⟨x,h1,h2⟩=>⟨x,h1,by rw [key x h1] at h2;omega⟩,fun ⟨x,h1,h2⟩=>⟨x,h1,by rw [key x h1,h2]⟩⟩
noncomputable def zEP (xs:List Int) (w:Nat):List Int:=ofN (zfB (inF (xs.map fun x=>zdI .i64 x (w:Int))) true)
theorem zAo {xs:List Int} (hx:okS xs) {w:Nat} (hw:w < 64) {t:Nat} (ht:t < 64):zag (zEP xs w) t = za4 (zag xs) w t:=by
 unfold zEP za4
 rw [zk9]
 refine Bool.eq_iff_iff.2 ⟨fun h=>?_,fun h=>?_⟩
 ·obtain ⟨s,hs,h2⟩:=List.any_eq_true.1 h
  simp only [Bool.and_eq_true,beq_iff_eq] at h2
  obtain ⟨x,hx1,hx2⟩:=(zsI hx hw s).1 h2.1
  have e1:t &&& s = t:=by rw [Nat.and_comm];exact h2.2
  have e2:s &&& x.toNat = s:=by rw [← hx2,Nat.and_comm,← Nat.and_assoc,Nat.and_self]
  have e3:s &&& w = s:=by rw [← hx2,Nat.and_assoc,Nat.and_self]
  rw [Bool.and_eq_true]
  refine ⟨zbz.2 ⟨x,hx1,by rw [Nat.and_comm];exact zfd e1 e2⟩,?_⟩
  rw [beq_iff_eq,Nat.and_comm];exact zfd e1 e3
 ·rw [Bool.and_eq_true,beq_iff_eq] at h
  obtain ⟨x,hx1,hx2⟩:=zbz.1 h.1
  have hlt:x.toNat &&& w < 64:=by
   have:x.toNat &&& w ≤ w:=Nat.and_le_right
   omega
  refine List.any_eq_true.2 ⟨x.toNat &&& w,List.mem_range.2 hlt,?_⟩
  rw [Bool.and_eq_true,beq_iff_eq]
  exact ⟨(zsI hx hw _).2 ⟨x,hx1,rfl⟩,by rw [Nat.and_assoc,h.2,hx2]⟩
theorem zGN {n:Int} {xs:List Int} (h:zcV n xs = true) {w:Nat} (hw:w < 64):zcV n (zEP xs w) = true:=by
 have hx:=zdZ h
 obtain ⟨h1,h6,hk⟩:=za7.1 h
 refine zhj ⟨h1,h6,fun k hk2=>?_⟩
 unfold zEP at hk2 ⊢
 rw [zae] at hk2
 have hpw:=zsG (inF (xs.map fun x=>zdI .i64 x (w:Int))) true
 have hmem:=fun i (hi:i < (zfB (inF (xs.map fun x=>zdI .i64 x (w:Int))) true).length)=>zct.1 (zax 0 hi)
 have hin:=fun i (hi:i < (zfB (inF (xs.map fun x=>zdI .i64 x (w:Int))) true).length)=>(zsI hx hw _).1 (hmem i hi).1.2
 generalize zfB (inF (xs.map fun x=>zdI .i64 x (w:Int))) true = ys at *
 have hbef:∀ i j,i < j→j < ys.length→zz7 (ys.getD i 0) (ys.getD j 0):=fun i j hij hj=>by
  have:=List.pairwise_iff_getElem.1 hpw i j (by omega) hj hij
  have a:ys.getD i 0 = ys[i]'(by omega):=by simp [List.getD,show i < ys.length by omega]
  have b:ys.getD j 0 = ys[j]:=by simp [List.getD,hj]
  rw [a,b];exact this
 refine ⟨?_,fun h0=>?_,fun i hi=>?_⟩
 ·obtain ⟨x,hx1,hx2⟩:=hin k hk2
  rw [zaK hk2]
  obtain ⟨i,hi,rfl⟩:=zcN 0 hx1
  have:=(hk i hi).1
  unfold zby at this ⊢
  rw [decide_eq_true_iff] at this ⊢
  have hle:ys.getD k 0 ≤ (xs.getD i 0).toNat:=by rw [← hx2];exact Nat.and_le_left
  refine ⟨by omega,by omega,by omega,?_⟩
  omega
 ·rw [zaK hk2,zaK (by omega)]
  have hb:=hbef (k - 1) k (by omega) hk2
  have:=(hmem k hk2).1.1
  have:=(hmem (k - 1) (by omega)).1.1
  unfold zl4
  unfold zz7 at hb
  rw [zcu (by omega),zcu (by omega)]
  simp only [Bool.and_eq_true,decide_eq_true_iff]
  refine ⟨by omega,by omega,?_⟩
  split
  ·rw [decide_eq_true_iff];omega
  ·rw [decide_eq_true_iff];omega
 ·have hlti:=(hmem i (by omega)).1.1
  have hltk:=(hmem k hk2).1
  rw [zaK hk2,zaK (by omega),zbF (by omega) (by omega)]
  intro e
  have:=zfc.1 (hmem i (by omega)).2 (ys.getD k 0) hltk.1 hltk.2 (by omega)
  have hb:=hbef i k hi hk2
  rw [this] at hb
  exact zgh hb
theorem zns {n:Int} {xs:List Int} (h:zcV n xs = true):xs.length ≤ 64:=by
 have hn:=zB2 (za7.1 h)
 have hx:=zdZ h
 have h2:(xs.map Int.toNat).Nodup:=by
  refine List.Pairwise.map _ (fun a b=>?_) (List.Pairwise.imp_of_mem (S:=fun a b=>0 ≤ a∧0 ≤ b∧a ≠ b) (fun ha hb hab=>⟨(hx _ ha).1,(hx _ hb).1,hab⟩) hn)
  intro ⟨q1,q2,q3⟩ e
  omega
 refine Classical.byContradiction fun hc=>?_
 have:=(zsy (m:=List.range 64) h2 (fun x hx'=>?_) (by simp;omega)).length_eq
 ·simp at this;omega
 ·obtain ⟨y,hy,rfl⟩:=List.mem_map.1 hx'
  have:=hx y hy
  exact List.mem_range.2 (by omega)
theorem zCd {n:Int} {xs:List Int} (h:zcV n xs = true) {w:Nat} (hw:w < 64) (t:Nat) (ht:t < 64):zbT n (zEP xs w) t = za4 (zag xs) w t:=by
 unfold zbT
 rw [zGN h hw,zAo (zdZ h) hw ht];rfl
theorem zEQ {n:Int} {xs:List Int} (h:zcV n xs = true) {w:Nat} (hw:w < 64) {p:Int} (hp:isP p = true):zDN (zbT n (zEP xs w)) p = zdf (za4 (zag xs) w) p:=by
 unfold zDN
 rw [if_pos hp]
 exact zhV p fun s hs=>zCd h hw s hs
theorem zCE {m:Nat} (h1:1 ≤ m) (hm:m ≤ 6) {f:Nat→Bool} (hf:∀ s,s < 64→f s = true→s < 2 ^ m):zcV (m:Int) (ofN (zfB f true)) = true:=by
 refine zhj ⟨(by omega:(1:Int) ≤ (m:Int)),(by omega:(m:Int) ≤ 6),fun k hk2=>?_⟩
 rw [zae] at hk2
 have hpw:=zsG f true
 have hmem:=fun i (hi:i < (zfB f true).length)=>zct.1 (zax 0 hi)
 generalize zfB f true = ys at *
 have hbef:∀ i j,i < j→j < ys.length→zz7 (ys.getD i 0) (ys.getD j 0):=fun i j hij hj=>by
  have:=List.pairwise_iff_getElem.1 hpw i j (by omega) hj hij
  have a:ys.getD i 0 = ys[i]'(by omega):=by simp [List.getD,show i < ys.length by omega]
  have b:ys.getD j 0 = ys[j]:=by simp [List.getD,hj]
  rw [a,b];exact this
 refine ⟨?_,fun h0=>?_,fun i hi=>?_⟩
 ·have h1:=hmem k hk2
  have h2:=hf _ h1.1.1 h1.1.2
  rw [zaK hk2]
  unfold zby
  rw [decide_eq_true_iff]
  refine ⟨by omega,by omega,by omega,?_⟩
  rw [zbO];exact_mod_cast h2
 ·rw [zaK hk2,zaK (by omega)]
  have hb:=hbef (k - 1) k (by omega) hk2
  have:=(hmem k hk2).1.1
  have:=(hmem (k - 1) (by omega)).1.1
  unfold zl4
  unfold zz7 at hb
  rw [zcu (by omega),zcu (by omega)]
  simp only [Bool.and_eq_true,decide_eq_true_iff]
  refine ⟨by omega,by omega,?_⟩
  split
  ·rw [decide_eq_true_iff];omega
  ·rw [decide_eq_true_iff];omega
 ·have hlti:=(hmem i (by omega)).1.1
  have hltk:=(hmem k hk2).1
  rw [zaK hk2,zaK (by omega),zbF (by omega) (by omega)]
  intro e
  have:=zfc.1 (hmem i (by omega)).2 (ys.getD k 0) hltk.1 hltk.2 (by omega)
  have hb:=hbef i k hi hk2
  rw [this] at hb
  exact zgh hb
theorem zCF (xs:List Int) (t:Nat):inF xs t = decide ((t:Int) ∈ xs):=rfl
noncomputable def zHc (n:Int) (xs:List Int):List Int:=(ofN (zfq n xs)).map (zgi n)
noncomputable def znD (n:Int) (xs:List Int):List Int:=ofN (zfB (inF (zHc n xs)) true)
theorem zxk {m:Nat} {xs:List Int} (h:zcV (m:Int) xs = true) (t:Nat) :
 (t:Int) ∈ zHc m xs ↔ ∃ u,u < 2 ^ m∧zag xs u = false∧(∀ v,v < 2 ^ m→zag xs v = false→v &&& u = v→v = u)∧t = 2 ^ m - 1 - u:=by
 obtain ⟨h1,h6,_⟩:=za7.1 h
 have h64:=zar (m:=m) (by omega)
 have hms:∀ s:Nat,zf9 m xs s = true ↔ s < 2 ^ m∧zag xs s = false:=fun s=>by
  unfold zf9 zby
  rw [h,Bool.true_and,Bool.and_eq_true,decide_eq_true_iff,Bool.not_eq_true',zbO]
  exact ⟨fun ⟨⟨_,_,_,a⟩,b⟩=>⟨by omega,b⟩,fun ⟨a,b⟩=>⟨⟨by omega,by omega,by omega,by omega⟩,b⟩⟩
 have hcm:∀ s:Nat,s < 2 ^ m→zgi m s = ((2 ^ m - 1 - s:Nat):Int):=fun s hs=>by
  have hin:zby m s = true:=by
   unfold zby;rw [decide_eq_true_iff,zbO];exact ⟨by omega,by omega,by omega,by omega⟩
  unfold zgi
  rw [if_pos hin,zbO];omega
 unfold zHc
 rw [List.mem_map]
 refine ⟨fun ⟨x,hx,e⟩=>?_,fun ⟨u,hu,hfu,hmin,e⟩=>?_⟩
 ·unfold ofN at hx
  obtain ⟨s,hs,rfl⟩:=List.mem_map.1 hx
  obtain ⟨⟨s1,s2⟩,s3⟩:=zct.1 hs
  obtain ⟨a,b⟩:=(hms s).1 s2
  rw [hcm s a] at e
  exact ⟨s,a,b,fun v hv hfv hvu=>zde.1 s3 v (by omega) ((hms v).2 ⟨hv,hfv⟩) hvu,by omega⟩
 ·refine ⟨u,?_,by rw [hcm u hu,e]⟩
  unfold ofN
  refine List.mem_map.2 ⟨u,zct.2 ⟨⟨by omega,(hms u).2 ⟨hu,hfu⟩⟩,zde.2 fun v hv hq hvu=>?_⟩,rfl⟩
  obtain ⟨a,b⟩:=(hms v).1 hq
  exact hmin v a b hvu
theorem zo0 {m:Nat} {xs:List Int} (h:zcV (m:Int) xs = true):zcV (m:Int) (znD m xs) = true:=by
 obtain ⟨h1,h6,_⟩:=za7.1 h
 refine zCE (by omega) (by omega) fun s hs hf=>?_
 rw [zCF,decide_eq_true_iff] at hf
 obtain ⟨u,hu,_,_,rfl⟩:=(zxk h s).1 hf
 omega
theorem znE {m:Nat} {xs:List Int} (h:zcV (m:Int) xs = true) {s:Nat} (hs:s < 64):zag (znD m xs) s = zat m (zag xs) s:=by
 obtain ⟨h1,h6,_⟩:=za7.1 h
 unfold znD
 rw [zk9]
 exact zwQ (by omega) (fun s t a b=>znv a b) (fun t=>zxk h t) hs
theorem zD6 {m:Nat} {xs:List Int} (h:zcV (m:Int) xs = true) {s:Nat} (hs:s < 64):zbT m (znD m xs) s = zat m (zag xs) s:=by
 unfold zbT
 rw [zo0 h,znE h hs];rfl
theorem zD7 {m:Nat} {xs:List Int} (h:zcV (m:Int) xs = true):za2 (zbT m (znD m xs)) = za2 (zat m (zag xs)):=zd9 fun s hs=>zD6 h hs
def znF (xs:List Int) (s:Nat):List Int:=(xs.filter fun x=>zdI .i64 x s == (s:Int)).map fun x=>x - s
theorem zxl {xs:List Int} (hx:okS xs) {s:Nat} (hs:s < 64) (v:Nat):(v:Int) ∈ znF xs s ↔ ∃ x ∈ xs,x.toNat &&& s = s∧v = x.toNat - s:=by
 have key:∀ x ∈ xs,zdI .i64 x (s:Int) = ((x.toNat &&& s:Nat):Int):=fun x h=>by
  have:=hx x h
  rw [← zbF (by omega) (by omega)]
  congr 1;omega
 unfold znF
 rw [List.mem_map]
 refine ⟨fun ⟨x,h1,e⟩=>?_,fun ⟨x,h1,h2,e⟩=>?_⟩
 ·obtain ⟨a,b⟩:=List.mem_filter.1 h1
  rw [beq_iff_eq,key x a] at b
  exact ⟨x,a,by omega,by have:=hx x a;omega⟩
 ·refine ⟨x,List.mem_filter.2 ⟨h1,by rw [beq_iff_eq,key x h1,h2]⟩,?_⟩
  have:=hx x h1
  have:s ≤ x.toNat:=by rw [← h2];exact Nat.and_le_left
  omega
theorem zFG {m:Nat} {xs:List Int} (h:zcV (m:Int) xs = true) {s:Nat} (hs:s < 64):zcV (m:Int) (ofN (zfB (inF (znF xs s)) true)) = true:=by
 obtain ⟨h1,h6,hk⟩:=za7.1 h
 refine zCE (by omega) (by omega) fun t ht hf=>?_
 rw [zCF,decide_eq_true_iff] at hf
 obtain ⟨x,hx,_,rfl⟩:=(zxl (zdZ h) hs t).1 hf
 obtain ⟨i,hi,rfl⟩:=zcN 0 hx
 have:=(hk i hi).1
 unfold zby at this
 rw [decide_eq_true_iff,zbO] at this
 omega
theorem zxm {m:Nat} {xs:List Int} (h:zcV (m:Int) xs = true) {s:Nat} (hs:s < 64) (t:Nat):zbT m (ofN (zfB (inF (znF xs s)) true)) t = zaJ (zag xs) s t:=by
 unfold zbT
 rw [zFG h hs,Bool.true_and,zk9]
 exact zwR (fun x hx=>by have:=zdZ h x hx;omega) hs (fun v=>zxl (zdZ h) hs v) t
theorem zD8 {m:Nat} {xs:List Int} (h:zcV (m:Int) xs = true) {s:Nat} (hs:s < 64) {p:Int} (hp:isP p = true) :
 zDN (zbT m (ofN (zfB (inF (znF (znD m xs) s)) true))) p = zdf (zaJ (zat m (zag xs)) s) p:=by
 unfold zDN
 rw [if_pos hp]
 refine zhV p fun t ht=>?_
 rw [zxm (zo0 h) hs]
 exact zlg (fun u hu=>znE h hu) hs ht
noncomputable def zfR (n:Int) (xs:List Int) (p:Int):Mat:=if zgC n xs = true∧isP p = true then zlM (zag xs) p n.toNat else []
theorem zgq {n:Int} {xs:List Int} {p:Int} (h:¬ (zgC n xs = true∧isP p = true)):zfR n xs p = []:=if_neg h
theorem znw {n i:Nat} (h:i < n):(List.range n).getD i 0 = i:=by simp [List.getD,h]
theorem zrA {α:Type} (n:Nat) (a:α):List.replicate n a ++ [a] = List.replicate (n + 1) a:=by rw [List.replicate_succ']
theorem zh3 (n:Int) (xs:List Int) (p:Int):AC Tryz.prog 36 [.ag [int n,zbr xs],int p] (.tb 24 3 ((zfR n xs p).map iL)):=by
 refine AC.go (rs:=[.tmp 4]) za0 mixed Tryz.func36 rfl rfl rfl (by kernel_rfl) fun hl=>?_
 simp only [zaT,zbg,and_true,zbK,zcZ,zb2,true_and] at hl
 simp (maxSteps:=9^7) -dsimp only [↓gp,gq,reduceCtorEq,reduceEqDiff,reduceLT,reduceLeDiff,reduceAdd,reduceMul,reduceSub,Nat.reduceBEq,Int.reduceToNat,Int.reduceLE,Int.reduceLT,Int.reduceNeg,reduceMod,gT]
 refine zab (zfj n xs) ?_
 have hdt:=zru n xs
 simp (maxSteps:=9^7) -dsimp only [↓gp,gq,reduceCtorEq,reduceEqDiff,reduceLT,reduceLeDiff,reduceAdd,reduceMul,reduceSub,Nat.reduceBEq,Int.reduceToNat,Int.reduceLE,Int.reduceLT,Int.reduceNeg,reduceMod,gT,hdt]
 refine ⟨fun hh=>zab (zbd p) ?_,fun hh=>?_⟩
 ·have hh:zgC n xs = true:=by simpa using hh
  simp (maxSteps:=9^7) -dsimp only [↓gp,gq,reduceCtorEq,reduceEqDiff,reduceLT,reduceLeDiff,reduceAdd,reduceMul,reduceSub,Nat.reduceBEq,Int.reduceToNat,Int.reduceLE,Int.reduceLT,Int.reduceNeg,reduceMod,gT]
  refine ⟨fun hp=>?_,fun hp=>?_⟩
  ·rw [zgq (fun h=>by rw [h.2] at hp;cases hp)]
   exact zcM (by simp (maxSteps:=9^7) -dsimp only [gr,reduceEqDiff,reduceLT,reduceAdd,reduceMod,Nat.reduceBEq]) (by decide)
  ·have hp:isP p = true:=by simpa using hp
   have hcx:=(zaO.1 hh).1
   obtain ⟨h1,h6,_⟩:=za7.1 hcx
   have hb:zfR n xs p = zlM (zag xs) p n.toNat:=if_pos ⟨hh,hp⟩
   rw [hb]
   have hxo:=zdZ hcx
   have hxl:=zns hcx
   obtain ⟨m,rfl⟩:∃ m:Nat,n = m:=⟨n.toNat,by omega⟩
   rw [Int.toNat_natCast]
   have h64:=zar (m:=m) (by omega)
   have hsh:zrU .i64 1 (m:Int) = ((2 ^ m:Nat):Int):=zbx (by omega)
   have hun:IntKind.u64.wrap (m:Int) = (m:Int):=zb3 (by omega)
   have hm1:IntKind.i64.wrap ((m:Int) + 1) = ((m + 1:Nat):Int):=by rw [zam (by omega) (by omega)];rfl
   refine zoc (k:=11) (v:=1) (e:=24) (e2:=3) (by simp (maxSteps:=9^7) -dsimp only [gr,reduceEqDiff,reduceLT,reduceAdd,reduceMod,Nat.reduceBEq]) (fun j=>by simp (maxSteps:=9^7) -dsimp only [gr,reduceEqDiff,reduceLT,reduceAdd,reduceMod,Nat.reduceBEq]) (fun (i:Nat) s=>s.sl 1 = int p∧s.sl 2 = .ref 2 1 0∧s.rw 2 = ⟨1,.box 26 [int (m:Nat),zbr xs]⟩∧s.sl 5 = .own 11 (i + 1)∧s.sl 6 = int i∧(i ≤ m + 1∧TabG s.rw 11 (i + 1) 24 3 i (List.replicate i (List.replicate (m + 1) 0)))) (fun i=>m + 1 - i) (0) (fun sX htX hslX hoX=>(by refine ⟨?_,?_,?_,?_,?_,⟨by omega,htX⟩⟩ <;> (first | (simp (maxSteps:=9^7) -dsimp only [gr,reduceEqDiff,reduceLT,reduceAdd,reduceMod,Nat.reduceBEq,hslX,hoX];first | done | rfl | (simp;done)) | assumption | rfl))) ?_
   intro i sa ⟨h1a,h2a,r2a,h5a,h6a,hIa⟩
   obtain ⟨hi,ht⟩:=hIa
   simp (maxSteps:=9^7) -dsimp only [↓gp,gq,reduceCtorEq,reduceEqDiff,reduceLT,reduceLeDiff,reduceAdd,reduceMul,reduceSub,Nat.reduceBEq,Int.reduceToNat,Int.reduceLE,Int.reduceLT,Int.reduceNeg,reduceMod,gT,h1a,h2a,r2a,h5a,h6a,hm1,Int.toNat_natCast]
   refine ⟨fun h=>⟨by omega,by omega,?_⟩,fun h=>?_⟩
   ·refine zGi ?_
    simp (maxSteps:=9^7) -dsimp only [↓gp,gq,reduceCtorEq,reduceEqDiff,reduceLT,reduceLeDiff,reduceAdd,reduceMul,reduceSub,Nat.reduceBEq,Int.reduceToNat,Int.reduceLE,Int.reduceLT,Int.reduceNeg,reduceMod,gT,h1a,h2a,r2a,h5a,h6a,ht.top]
    refine ⟨by omega,?_⟩
    exact zkX (k:=11) (v:=i + 1 + 1) (e:=24) (e2:=3) (n:=i) (d:=31) (vd:=(sa.rw 31).ver + 1) (M:=List.replicate i (List.replicate (m + 1) 0)) (r:=List.replicate (m + 1) 0) (by simp (maxSteps:=9^7) -dsimp only [gr,reduceEqDiff,reduceLT,reduceAdd,reduceMod,Nat.reduceBEq,ht.top]) (by simp) (fun j hj=>by simp (maxSteps:=9^7) -dsimp only [gr,reduceEqDiff,reduceLT,reduceAdd,reduceMod,Nat.reduceBEq,ht.row j hj]) (fun j hj=>by simp (maxSteps:=9^7) -dsimp only [gr,reduceEqDiff,reduceLT,reduceAdd,reduceMod,Nat.reduceBEq,ht.rest j hj]) (by simp (maxSteps:=9^7) -dsimp only [gr,reduceEqDiff,reduceLT,reduceAdd,reduceMod,Nat.reduceBEq,hm1]) (by decide) (by decide) (i + 1) (fun sX htX hslX hoX=>(by refine ⟨?_,?_,?_,?_,?_,⟨by omega,(zrA i _ ▸ htX:TabG _ _ _ _ _ _ _)⟩⟩ <;> (first | (simp (maxSteps:=9^7) -dsimp only [gr,reduceEqDiff,reduceLT,reduceAdd,reduceMod,Nat.reduceBEq,hslX,hoX,h1a,h2a,r2a,h5a,h6a,h1a,h2a,r2a,h5a,h6a,zaa (show i < m + 1 by omega) (by omega)];first | done | rfl | (simp;done)) | assumption | rfl))) (by first | omega | (simp only;omega) | (dsimp only;omega) | (show _ < _;simp;omega))
   ·have:i = m + 1:=by omega
    subst this
    have htI:=ht.done
    refine zan (fun (w:Nat) s=>s.sl 1 = int p∧s.sl 2 = .ref 2 1 0∧s.rw 2 = ⟨1,.box 26 [int (m:Nat),zbr xs]⟩∧s.sl 5 = .own 11 (m + 1 + 1)∧s.sl 7 = int w∧(w ≤ 2 ^ m∧TabI s.rw 11 (m + 1 + 1) 24 3 (List.range (m + 1)) (zhp (zag xs) p m w))) (fun w=>2 ^ m - w) (0) (by refine ⟨?_,?_,?_,?_,?_,⟨Nat.zero_le _,htI.same (by simp (maxSteps:=9^7) -dsimp only [gr,reduceEqDiff,reduceLT,reduceAdd,reduceMod,Nat.reduceBEq]) (fun x=>by simp (maxSteps:=9^7) -dsimp only [gr,reduceEqDiff,reduceLT,reduceAdd,reduceMod,Nat.reduceBEq])⟩⟩ <;> (first | (simp (maxSteps:=9^7) -dsimp only [gr,reduceEqDiff,reduceLT,reduceAdd,reduceMod,Nat.reduceBEq,h1a,h2a,r2a,h5a,h6a];first | done | rfl | (simp;done)) | assumption | rfl)) ?_
    intro w sb ⟨h1b,h2b,r2b,h5b,h7b,hIb⟩
    obtain ⟨hw,hb2⟩:=hIb
    simp (maxSteps:=9^7) -dsimp only [↓gp,gq,reduceCtorEq,reduceEqDiff,reduceLT,reduceLeDiff,reduceAdd,reduceMul,reduceSub,Nat.reduceBEq,Int.reduceToNat,Int.reduceLE,Int.reduceLT,Int.reduceNeg,reduceMod,gT,h1b,h2b,r2b,h5b,h7b,hsh,hun]
    refine ⟨fun h2=>zab (zaE w (by omega)) ?_,fun h2=>?_⟩
    ·simp (maxSteps:=9^7) -dsimp only [↓gp,gq,reduceCtorEq,reduceEqDiff,reduceLT,reduceLeDiff,reduceAdd,reduceMul,reduceSub,Nat.reduceBEq,Int.reduceToNat,Int.reduceLE,Int.reduceLT,Int.reduceNeg,reduceMod,gT,h1b,h2b,r2b,h5b,h7b,hsh,hun]
     refine zab (zlc _ xs w (by omega) hxo (by omega)) ?_
     simp (maxSteps:=9^7) -dsimp only [↓gp,gq,reduceCtorEq,reduceEqDiff,reduceLT,reduceLeDiff,reduceAdd,reduceMul,reduceSub,Nat.reduceBEq,Int.reduceToNat,Int.reduceLE,Int.reduceLT,Int.reduceNeg,reduceMod,gT,h1b,h2b,r2b,h5b,h7b,hsh,hun]
     refine zab (zdC _ _ p) ?_
     have hins:=zEQ hcx (w:=w) (by omega) hp
     unfold zEP at hins
     rw [hins]
     have hpn:=zcP (n:=m) (by omega) h2
     have hsm:=zdB (za4 (zag xs) w) p
     have hdl:=zcD (za4 (zag xs) w)
     have hhl:=zaL (za4 (zag xs) w) p
     generalize hhs:zdf (za4 (zag xs) w) p = hs at *
     have hsq:=fun k=>zon (j:=zak w) (zoo (zag xs) p m w) hsm k
     simp (maxSteps:=9^7) -dsimp only [↓gp,gq,reduceCtorEq,reduceEqDiff,reduceLT,reduceLeDiff,reduceAdd,reduceMul,reduceSub,Nat.reduceBEq,Int.reduceToNat,Int.reduceLE,Int.reduceLT,Int.reduceNeg,reduceMod,gT,h1b,h2b,r2b,h5b,h7b,hsh,hun]
     refine zan (fun (zc:Nat × Nat) s=>match zc with | (k,u)=>s.sl 1 = int p∧s.sl 2 = .ref 2 1 0∧s.rw 2 = ⟨1,.box 26 [int (m:Nat),zbr xs]⟩∧s.sl 5 = .own 11 (m + 1 + 1)∧s.sl 7 = int w∧s.sl 8 = int (zak w:Nat)∧s.sl 9 = .own 48 u∧s.rw 48 = ⟨u,.sli 3 1 false (iL hs)⟩∧s.sl 10 = int k∧(k ≤ hs.length∧TabI s.rw 11 (m + 1 + 1) 24 3 (List.range (m + 1)) (zho (zhp (zag xs) p m w) (zak w) hs k))) (fun (k,u)=>hs.length - k) ((0,(sb.rw 48).ver + 1)) (by refine ⟨?_,?_,?_,?_,?_,?_,?_,?_,?_,⟨by omega,hb2.same (by simp (maxSteps:=9^7) -dsimp only [gr,reduceEqDiff,reduceLT,reduceAdd,reduceMod,Nat.reduceBEq]) (fun x=>by simp (maxSteps:=9^7) -dsimp only [gr,reduceEqDiff,reduceLT,reduceAdd,reduceMod,Nat.reduceBEq])⟩⟩ <;> (first | (simp (maxSteps:=9^7) -dsimp only [gr,reduceEqDiff,reduceLT,reduceAdd,reduceMod,Nat.reduceBEq,h1b,h2b,r2b,h5b,h7b];first | done | rfl | (simp;done)) | assumption | rfl)) ?_
     intro (k,u) sc ⟨h1c,h2c,r2c,h5c,h7c,h8c,h9c,r48c,h10c,hIc⟩
     obtain ⟨hk,hb3⟩:=hIc
     have hend:(k = hs.length ∨ zak w < k)→zho (zhp (zag xs) p m w) (zak w) hs k = zhp (zag xs) p m (w + 1):=fun h=>by
      have e0:zhp (zag xs) p m (w + 1) = zho (zhp (zag xs) p m w) (zak w) (zdf (za4 (zag xs) w) p) (zba (za4 (zag xs) w)):=rfl
      rw [e0,← hhl,hhs]
      rcases h with h | h
      ·rw [h]
      ·have:=zAn (M:=zhp (zag xs) p m w) (hs:=hs) h (hs.length - k)
       rw [show k + (hs.length - k) = hs.length by omega] at this
       exact this.symm
     by_cases h3:k < hs.length
     ·by_cases h4:k ≤ zak w
      ·have hsq:=hsq k
       have hs1:=hsq.small (zak w - k) (zak w)
       have hs2:=hsm k
       have hml:=hsq.len
       have hrl:=hsq.row (zak w - k) (by omega)
       have hadd:zho (zhp (zag xs) p m w) (zak w) hs (k + 1) = zfQ (zho (zhp (zag xs) p m w) (zak w) hs k) (zak w - k) (zak w) (hs.getD k 0):=by rw [zho,if_pos h4]
       generalize zho (zhp (zag xs) p m w) (zak w) hs k = M at *
       have e1:(List.range (m + 1)).getD (zak w - k) 0 = zak w - k:=znw (by omega)
       have hrow:=hb3.row (i:=zak w - k) (by omega)
       rw [e1] at hrow
       have hw1:IntKind.i64.wrap ((zak w:Int) - (k:Int)) = ((zak w - k:Nat):Int):=by rw [zam (by omega) (by omega)];omega
       have hw2:IntKind.i64.wrap ((M.getD (zak w - k) []).getD (zak w) 0 + hs.getD k 0) = (M.getD (zak w - k) []).getD (zak w) 0 + hs.getD k 0:=zam (by omega) (by omega)
       simp (maxSteps:=9^7) -dsimp only [↓gp,gq,reduceCtorEq,reduceEqDiff,reduceLT,reduceLeDiff,reduceAdd,reduceMul,reduceSub,Nat.reduceBEq,Int.reduceToNat,Int.reduceLE,Int.reduceLT,Int.reduceNeg,reduceMod,gT,h1c,h2c,r2c,h5c,h7c,h8c,h9c,r48c,h10c,hw1,hb3.top,zbs,e1,hrow,hrl,zaj,List.length_range,hw2]
       refine ⟨fun _=>⟨fun _=>⟨by kernel_rfl,by omega,by omega,by omega,by omega,by omega,by omega,h3,h3,by omega,by omega,by kernel_rfl,?_⟩,fun h=>absurd h4 h⟩,fun h=>absurd h3 h⟩
       exact zac ((k + 1,u)) (by refine ⟨?_,?_,?_,?_,?_,?_,?_,?_,?_,⟨by dsimp only;omega,by
        dsimp only
        rw [hadd]
        exact hb3.set (i:=zak w - k) (by omega) (by simp (maxSteps:=9^7) -dsimp only [gr,reduceEqDiff,reduceLT,reduceAdd,reduceMod,Nat.reduceBEq]) (by simp (maxSteps:=9^7) -dsimp only [gr,reduceEqDiff,reduceLT,reduceAdd,reduceMod,Nat.reduceBEq,e1,h1c,h2c,r2c,h5c,h7c,h8c,h9c,r48c,h10c,hb3.top,hrow]) (fun x hx=>by simp (maxSteps:=9^7) -dsimp only [gr,reduceEqDiff,reduceLT,reduceAdd,reduceMod,Nat.reduceBEq,e1 ▸ hx])⟩⟩ <;> (first | (simp (maxSteps:=9^7) -dsimp only [gr,reduceEqDiff,reduceLT,reduceAdd,reduceMod,Nat.reduceBEq,h1c,h2c,r2c,h5c,h7c,h8c,h9c,r48c,h10c,zaa h3 (by omega)];first | done | rfl | (simp;done)) | assumption | rfl)) (by first | omega | (simp only;omega) | (dsimp only;omega) | (show _ < _;simp;omega))
      ·have e:=hend (.inr (by omega))
       rw [e] at hb3
       simp (maxSteps:=9^7) -dsimp only [↓gp,gq,reduceCtorEq,reduceEqDiff,reduceLT,reduceLeDiff,reduceAdd,reduceMul,reduceSub,Nat.reduceBEq,Int.reduceToNat,Int.reduceLE,Int.reduceLT,Int.reduceNeg,reduceMod,gT,h1c,h2c,r2c,h5c,h7c,h8c,h9c,r48c,h10c]
       refine ⟨fun _=>⟨fun h=>absurd h h4,fun _=>?_⟩,fun h=>absurd h3 h⟩
       exact zac (w + 1) (by refine ⟨?_,?_,?_,?_,?_,⟨by omega,hb3.same (by simp (maxSteps:=9^7) -dsimp only [gr,reduceEqDiff,reduceLT,reduceAdd,reduceMod,Nat.reduceBEq]) (fun x=>by simp (maxSteps:=9^7) -dsimp only [gr,reduceEqDiff,reduceLT,reduceAdd,reduceMod,Nat.reduceBEq])⟩⟩ <;> (first | (simp (maxSteps:=9^7) -dsimp only [gr,reduceEqDiff,reduceLT,reduceAdd,reduceMod,Nat.reduceBEq,h1b,h2b,r2b,h5b,h7b,h1c,h2c,r2c,h5c,h7c,h8c,h9c,r48c,h10c,zaa h2 (by omega)];first | done | rfl | (simp;done)) | assumption | rfl)) (by first | omega | (simp only;omega) | (dsimp only;omega) | (show _ < _;simp;omega))
     ·have e:=hend (.inl (by omega))
      rw [e] at hb3
      simp (maxSteps:=9^7) -dsimp only [↓gp,gq,reduceCtorEq,reduceEqDiff,reduceLT,reduceLeDiff,reduceAdd,reduceMul,reduceSub,Nat.reduceBEq,Int.reduceToNat,Int.reduceLE,Int.reduceLT,Int.reduceNeg,reduceMod,gT,h1c,h2c,r2c,h5c,h7c,h8c,h9c,r48c,h10c]
      refine ⟨fun h=>absurd h h3,fun _=>?_⟩
      exact zac (w + 1) (by refine ⟨?_,?_,?_,?_,?_,⟨by omega,hb3.same (by simp (maxSteps:=9^7) -dsimp only [gr,reduceEqDiff,reduceLT,reduceAdd,reduceMod,Nat.reduceBEq]) (fun x=>by simp (maxSteps:=9^7) -dsimp only [gr,reduceEqDiff,reduceLT,reduceAdd,reduceMod,Nat.reduceBEq])⟩⟩ <;> (first | (simp (maxSteps:=9^7) -dsimp only [gr,reduceEqDiff,reduceLT,reduceAdd,reduceMod,Nat.reduceBEq,h1b,h2b,r2b,h5b,h7b,h1c,h2c,r2c,h5c,h7c,h8c,h9c,r48c,h10c,zaa h2 (by omega)];first | done | rfl | (simp;done)) | assumption | rfl)) (by first | omega | (simp only;omega) | (dsimp only;omega) | (show _ < _;simp;omega))
    ·have:w = 2 ^ m:=by omega
     subst this
     exact zd8 hb2 (by decide) (fun j hj=>by have:=List.mem_range.1 hj;omega)
 ·have hh:zgC n xs = false:=by simpa using hh
  rw [zgq (fun h=>by rw [h.1] at hh;cases hh)]
  exact zcM (by simp (maxSteps:=9^7) -dsimp only [gr,reduceEqDiff,reduceLT,reduceAdd,reduceMod,Nat.reduceBEq]) (by decide)
def zwS (n:Nat):List Int:=List.replicate n 0
theorem zea (n:Nat) (hn:n ≤ 100):AC Tryz.prog 29 [int n] (.tb 24 3 (List.replicate (n + 1) (iL (zwS (n + 1))))):=by
 refine AC.go (rs:=[.tmp 2]) za0 mixed Tryz.func29 rfl rfl rfl (by kernel_rfl) fun hl=>?_
 have hw:IntKind.i64.wrap ((n:Int) + 1) = ((n + 1:Nat):Int):=by rw [zam (by omega) (by omega)];rfl
 simp (maxSteps:=9^7) -dsimp only [↓gp,gq,reduceCtorEq,reduceEqDiff,reduceLT,reduceLeDiff,reduceAdd,reduceMul,reduceSub,Nat.reduceBEq,Int.reduceToNat,Int.reduceLE,Int.reduceLT,Int.reduceNeg,reduceMod,gT,hw,Int.toNat_natCast]
 refine ⟨by omega,by omega,?_⟩
 refine zz5 (fun (i:Nat) s=>s.sl 0 = int n∧s.sl 3 = .own 7 1∧s.rw 7 = ⟨1,.tab 24 (zhB 7 (n + 1) i)⟩∧s.sl 9 = int (n + 1:Nat)∧s.sl 10 = int i∧(i ≤ n + 1∧(∀ j,j < i→s.rw (sid 7 j) = ⟨1,.sli 3 1 false (iL (zwS (n + 1)))⟩)∧∀ j,i ≤ j→s.rw (sid 7 j) = ⟨0,.dead⟩)) (fun i=>n + 1 - i) (0) (Wk.tab (k:=7) (v:=1) (e:=24) (c:=List.replicate (n + 1) (.v (.slice none 0 0))) (by simp (maxSteps:=9^7) -dsimp only [gr,reduceEqDiff,reduceLT,reduceAdd,reduceMod,Nat.reduceBEq]) (znm _)) (by refine ⟨?_,?_,?_,?_,?_,⟨by simp,fun j h=>absurd h (by omega),fun j _=>by simp (maxSteps:=9^7) -dsimp only [gr,reduceEqDiff,reduceLT,reduceAdd,reduceMod,Nat.reduceBEq]⟩⟩ <;> (first | (simp (maxSteps:=9^7) -dsimp only [gr,reduceEqDiff,reduceLT,reduceAdd,reduceMod,Nat.reduceBEq,← zrl];first | done | rfl | (simp;done)) | assumption | rfl)) ?_
 intro i sa ⟨h0a,h3a,r7a,h9a,h10a,hIa⟩
 obtain ⟨hi,hlo,hhi⟩:=hIa
 simp (maxSteps:=9^7) -dsimp only [↓gp,gq,reduceCtorEq,reduceEqDiff,reduceLT,reduceLeDiff,reduceAdd,reduceMul,reduceSub,Nat.reduceBEq,Int.reduceToNat,Int.reduceLE,Int.reduceLT,Int.reduceNeg,reduceMod,gT,h0a,h3a,r7a,h9a,h10a,hw,zbp,Int.toNat_natCast]
 refine ⟨fun h=>⟨by omega,by omega,h,by omega,?_⟩,fun h=>?_⟩
 ·exact zBW (i + 1) (Wk.ren (d:=17) (k:=7) (k':=sid 7 i) (v:=(sa.rw 17).ver + 1) (vk:=1) (e:=3) (et:=24) (sz:=1) (c:=iL (zwS (n + 1))) (cs:=spl (zhB 7 (n + 1) i) i [.own 17 ((sa.rw 17).ver + 1)]) (cs':=zhB 7 (n + 1) (i + 1)) (by simp (maxSteps:=9^7) -dsimp only [gr,reduceEqDiff,reduceLT,reduceAdd,reduceMod,Nat.reduceBEq,zwS]) (by simp (maxSteps:=9^7) -dsimp only [gr,reduceEqDiff,reduceLT,reduceAdd,reduceMod,Nat.reduceBEq,h0a,h3a,r7a,h9a,h10a]) (by simp (maxSteps:=9^7) -dsimp only [gr,reduceEqDiff,reduceLT,reduceAdd,reduceMod,Nat.reduceBEq,hhi i (Nat.le_refl _)]) (by decide) (zvj h)) (by refine ⟨?_,?_,?_,?_,?_,⟨by omega,fun j hj=>(by
   by_cases e:j = i
   ·subst e;simp (maxSteps:=9^7) -dsimp only [gr,reduceEqDiff,reduceLT,reduceAdd,reduceMod,Nat.reduceBEq]
   ·simp (maxSteps:=9^7) -dsimp only [gr,reduceEqDiff,reduceLT,reduceAdd,reduceMod,Nat.reduceBEq,e,hlo j (by omega)]),fun j hj=>(by
   have e:¬ j = i:=by omega
   simp (maxSteps:=9^7) -dsimp only [gr,reduceEqDiff,reduceLT,reduceAdd,reduceMod,Nat.reduceBEq,e,hhi j (by omega)])⟩⟩ <;> (first | (simp (maxSteps:=9^7) -dsimp only [gr,reduceEqDiff,reduceLT,reduceAdd,reduceMod,Nat.reduceBEq,h0a,h3a,r7a,h9a,h10a,zaa h (by omega)];first | done | rfl | (simp;done)) | assumption | rfl)) (by first | omega | (simp only;omega) | (dsimp only;omega) | (show _ < _;simp;omega))
 ·obtain rfl:i = n + 1:=by omega
  refine zBX (n:=n + 1) (by decide) (by omega) (by rw [r7a,zvi]) (by simp) fun j hj=>?_
  rw [hlo j hj]
  simp [List.getD,hj]
theorem zrz (m:Nat):List.replicate (m + 1) (iL (zwS (m + 1))) = (List.replicate (m + 1) (List.replicate (m + 1) (0:Int))).map iL:=by simp [zwS]
theorem zh2 (n:Int) (xs:List Int) (p:Int):AC Tryz.prog 22 [.ag [int n,zbr xs],int p] (.tb 24 3 ((zfR n xs p).map iL)):=by
 refine AC.go (rs:=[.tmp 4]) za0 mixed Tryz.func22 rfl rfl rfl (by kernel_rfl) fun hl=>?_
 simp only [zaT,zbg,and_true,zbK,zcZ,zb2,true_and] at hl
 simp (maxSteps:=9^7) -dsimp only [↓gp,gq,reduceCtorEq,reduceEqDiff,reduceLT,reduceLeDiff,reduceAdd,reduceMul,reduceSub,Nat.reduceBEq,Int.reduceToNat,Int.reduceLE,Int.reduceLT,Int.reduceNeg,reduceMod,gT]
 refine zab (zc2 n xs) ?_
 simp (maxSteps:=9^7) -dsimp only [↓gp,gq,reduceCtorEq,reduceEqDiff,reduceLT,reduceLeDiff,reduceAdd,reduceMul,reduceSub,Nat.reduceBEq,Int.reduceToNat,Int.reduceLE,Int.reduceLT,Int.reduceNeg,reduceMod,gT]
 refine ⟨fun hc=>⟨fun h0=>zab (zcg p) ?_,fun h0=>?_⟩,fun hc=>?_⟩
 ·have hcx:zcV n xs = true:=by simpa using hc
  have hh:zgC n xs = true:=zaO.2 ⟨hcx,by simp at h0;exact List.length_pos_iff.2 h0⟩
  simp (maxSteps:=9^7) -dsimp only [↓gp,gq,reduceCtorEq,reduceEqDiff,reduceLT,reduceLeDiff,reduceAdd,reduceMul,reduceSub,Nat.reduceBEq,Int.reduceToNat,Int.reduceLE,Int.reduceLT,Int.reduceNeg,reduceMod,gT]
  refine ⟨fun hp=>?_,fun hp=>?_⟩
  ·rw [zgq (fun h=>by rw [h.2] at hp;cases hp)]
   exact zcM (by simp (maxSteps:=9^7) -dsimp only [gr,reduceEqDiff,reduceLT,reduceAdd,reduceMod,Nat.reduceBEq]) (by decide)
  ·have hp:isP p = true:=by simpa using hp
   obtain ⟨h1,h6,_⟩:=za7.1 hcx
   have hb:zfR n xs p = zlM (zag xs) p n.toNat:=if_pos ⟨hh,hp⟩
   rw [hb]
   have hxo:=zdZ hcx
   have hxl:=zns hcx
   obtain ⟨m,rfl⟩:∃ m:Nat,n = m:=⟨n.toNat,by omega⟩
   rw [Int.toNat_natCast]
   have h64:=zar (m:=m) (by omega)
   have hsh:zrU .i64 1 (m:Int) = ((2 ^ m:Nat):Int):=zbx (by omega)
   have hun:IntKind.u64.wrap (m:Int) = (m:Int):=zb3 (by omega)
   refine zab (zea m (by omega)) ?_
   rw [zrz]
   simp (maxSteps:=9^7) -dsimp only [↓gp,gq,reduceCtorEq,reduceEqDiff,reduceLT,reduceLeDiff,reduceAdd,reduceMul,reduceSub,Nat.reduceBEq,Int.reduceToNat,Int.reduceLE,Int.reduceLT,Int.reduceNeg,reduceMod,gT]
   refine zab (zdT _ xs hxo) ?_
   simp (maxSteps:=9^7) -dsimp only [↓gp,gq,reduceCtorEq,reduceEqDiff,reduceLT,reduceLeDiff,reduceAdd,reduceMul,reduceSub,Nat.reduceBEq,Int.reduceToNat,Int.reduceLE,Int.reduceLT,Int.reduceNeg,reduceMod,gT]
   refine zan (fun (w:Nat) s=>s.sl 1 = int p∧s.sl 2 = .ref 2 1 0∧s.rw 2 = ⟨1,.box 26 [int (m:Nat),zbr xs]⟩∧s.sl 5 = .own 27 1∧s.sl 6 = u64 (zaB (zag xs) 64:Nat)∧s.sl 7 = int w∧(w ≤ 2 ^ m∧TabI s.rw 27 1 24 3 (List.range (m + 1)) (zhp (zag xs) p m w))) (fun w=>2 ^ m - w) (0) (by refine ⟨?_,?_,?_,?_,?_,?_,⟨Nat.zero_le _,TabI.adopt (d:=27) (by simp only [zeC];rfl) (fun x=>by simp only [zeC];rfl) (fun i hi=>by simp (maxSteps:=9^7) -dsimp only [gr,reduceEqDiff,reduceLT,reduceAdd,reduceMod,Nat.reduceBEq]) (by simp (maxSteps:=9^7) -dsimp only [gr,reduceEqDiff,reduceLT,reduceAdd,reduceMod,Nat.reduceBEq]) List.length_replicate⟩⟩ <;> (first | (simp (maxSteps:=9^7) -dsimp only [gr,reduceEqDiff,reduceLT,reduceAdd,reduceMod,Nat.reduceBEq];first | done | rfl | (simp;done)) | assumption | rfl)) ?_
   intro w sb ⟨h1b,h2b,r2b,h5b,h6b,h7b,hIb⟩
   obtain ⟨hw,hb2⟩:=hIb
   simp (maxSteps:=9^7) -dsimp only [↓gp,gq,reduceCtorEq,reduceEqDiff,reduceLT,reduceLeDiff,reduceAdd,reduceMul,reduceSub,Nat.reduceBEq,Int.reduceToNat,Int.reduceLE,Int.reduceLT,Int.reduceNeg,reduceMod,gT,h1b,h2b,r2b,h5b,h6b,h7b,hsh,hun]
   refine ⟨fun h2=>zab (zaP _) ?_,fun h2=>?_⟩
   ·have hw64:w < 64:=by omega
    have hz:=zcu hw64
    simp (maxSteps:=9^7) -dsimp only [↓gp,gq,reduceCtorEq,reduceEqDiff,reduceLT,reduceLeDiff,reduceAdd,reduceMul,reduceSub,Nat.reduceBEq,Int.reduceToNat,Int.reduceLE,Int.reduceLT,Int.reduceNeg,reduceMod,gT,h1b,h2b,r2b,h5b,h6b,h7b,hsh,hun,hz]
    refine zab (ziJ (zag xs) w hw64) ?_
    simp (maxSteps:=9^7) -dsimp only [↓gp,gq,reduceCtorEq,reduceEqDiff,reduceLT,reduceLeDiff,reduceAdd,reduceMul,reduceSub,Nat.reduceBEq,Int.reduceToNat,Int.reduceLE,Int.reduceLT,Int.reduceNeg,reduceMod,gT,h1b,h2b,r2b,h5b,h6b,h7b,hsh,hun,hz]
    refine zab (zf5 _ p hp) ?_
    have epart:(fun t=>zag xs t && zly w t) = za4 (zag xs) w:=rfl
    rw [epart]
    have hpn:=zcP (n:=m) (by omega) h2
    have hsm:=zdB (za4 (zag xs) w) p
    have hdl:=zcD (za4 (zag xs) w)
    have hhl:=zaL (za4 (zag xs) w) p
    generalize hhs:zdf (za4 (zag xs) w) p = hs at *
    have hsq:=fun k=>zon (j:=zak w) (zoo (zag xs) p m w) hsm k
    simp (maxSteps:=9^7) -dsimp only [↓gp,gq,reduceCtorEq,reduceEqDiff,reduceLT,reduceLeDiff,reduceAdd,reduceMul,reduceSub,Nat.reduceBEq,Int.reduceToNat,Int.reduceLE,Int.reduceLT,Int.reduceNeg,reduceMod,gT,h1b,h2b,r2b,h5b,h6b,h7b,hsh,hun]
    refine zan (fun (zc:Nat × Nat) s=>match zc with | (k,u)=>s.sl 1 = int p∧s.sl 2 = .ref 2 1 0∧s.rw 2 = ⟨1,.box 26 [int (m:Nat),zbr xs]⟩∧s.sl 5 = .own 27 1∧s.sl 6 = u64 (zaB (zag xs) 64:Nat)∧s.sl 7 = int w∧s.sl 8 = int (zak w:Nat)∧s.sl 44 = .own 44 u∧s.rw 44 = ⟨u,.sli 3 1 false (iL hs)⟩∧s.sl 45 = int hs.length∧s.sl 46 = int k∧(k ≤ hs.length∧TabI s.rw 27 1 24 3 (List.range (m + 1)) (zho (zhp (zag xs) p m w) (zak w) hs k))) (fun (k,u)=>hs.length - k) ((0,(sb.rw 44).ver + 1)) (by refine ⟨?_,?_,?_,?_,?_,?_,?_,?_,?_,?_,?_,⟨by omega,hb2.same (by simp (maxSteps:=9^7) -dsimp only [gr,reduceEqDiff,reduceLT,reduceAdd,reduceMod,Nat.reduceBEq]) (fun x=>by simp (maxSteps:=9^7) -dsimp only [gr,reduceEqDiff,reduceLT,reduceAdd,reduceMod,Nat.reduceBEq])⟩⟩ <;> (first | (simp (maxSteps:=9^7) -dsimp only [gr,reduceEqDiff,reduceLT,reduceAdd,reduceMod,Nat.reduceBEq,h1b,h2b,r2b,h5b,h6b,h7b];first | done | rfl | (simp;done)) | assumption | rfl)) ?_
    intro (k,u) sc ⟨h1c,h2c,r2c,h5c,h6c,h7c,h8c,h44c,r44c,h45c,h46c,hIc⟩
    obtain ⟨hk,hb3⟩:=hIc
    by_cases h3:k < hs.length
    ·by_cases h4:k ≤ zak w
     ·have hsq:=hsq k
      have hs1:=hsq.small (zak w - k) (zak w)
      have hs2:=hsm k
      have hml:=hsq.len
      have hrl:=hsq.row (zak w - k) (by omega)
      have hadd:zho (zhp (zag xs) p m w) (zak w) hs (k + 1) = zfQ (zho (zhp (zag xs) p m w) (zak w) hs k) (zak w - k) (zak w) (hs.getD k 0):=by rw [zho,if_pos h4]
      generalize zho (zhp (zag xs) p m w) (zak w) hs k = M at *
      have e1:(List.range (m + 1)).getD (zak w - k) 0 = zak w - k:=znw (by omega)
      have hrow:=hb3.row (i:=zak w - k) (by omega)
      rw [e1] at hrow
      have hw1:IntKind.i64.wrap ((zak w:Int) - (k:Int)) = ((zak w - k:Nat):Int):=by rw [zam (by omega) (by omega)];omega
      have hw2:IntKind.i64.wrap ((M.getD (zak w - k) []).getD (zak w) 0 + hs.getD k 0) = (M.getD (zak w - k) []).getD (zak w) 0 + hs.getD k 0:=zam (by omega) (by omega)
      simp (maxSteps:=9^7) -dsimp only [↓gp,gq,reduceCtorEq,reduceEqDiff,reduceLT,reduceLeDiff,reduceAdd,reduceMul,reduceSub,Nat.reduceBEq,Int.reduceToNat,Int.reduceLE,Int.reduceLT,Int.reduceNeg,reduceMod,gT,h1c,h2c,r2c,h5c,h6c,h7c,h8c,h44c,r44c,h45c,h46c,hw1,hb3.top,zbs,e1,hrow,hrl,zaj,List.length_range,hw2]
      refine ⟨fun _=>⟨h3,h3,fun _=>⟨by omega,by omega,by omega,by omega,by omega,by omega,?_⟩,fun h=>absurd h4 h⟩,fun h=>absurd h3 h⟩
      exact zac ((k + 1,u)) (by refine ⟨?_,?_,?_,?_,?_,?_,?_,?_,?_,?_,?_,⟨by dsimp only;omega,by
       dsimp only
       rw [hadd]
       exact hb3.set (i:=zak w - k) (by omega) (by simp (maxSteps:=9^7) -dsimp only [gr,reduceEqDiff,reduceLT,reduceAdd,reduceMod,Nat.reduceBEq]) (by simp (maxSteps:=9^7) -dsimp only [gr,reduceEqDiff,reduceLT,reduceAdd,reduceMod,Nat.reduceBEq,e1,h1c,h2c,r2c,h5c,h6c,h7c,h8c,h44c,r44c,h45c,h46c,hb3.top,hrow]) (fun x hx=>by simp (maxSteps:=9^7) -dsimp only [gr,reduceEqDiff,reduceLT,reduceAdd,reduceMod,Nat.reduceBEq,e1 ▸ hx])⟩⟩ <;> (first | (simp (maxSteps:=9^7) -dsimp only [gr,reduceEqDiff,reduceLT,reduceAdd,reduceMod,Nat.reduceBEq,h1c,h2c,r2c,h5c,h6c,h7c,h8c,h44c,r44c,h45c,h46c,zaa h3 (by omega)];first | done | rfl | (simp;done)) | assumption | rfl)) (by first | omega | (simp only;omega) | (dsimp only;omega) | (show _ < _;simp;omega))
     ·have hadd:zho (zhp (zag xs) p m w) (zak w) hs (k + 1) = zho (zhp (zag xs) p m w) (zak w) hs k:=by rw [zho,if_neg h4]
      simp (maxSteps:=9^7) -dsimp only [↓gp,gq,reduceCtorEq,reduceEqDiff,reduceLT,reduceLeDiff,reduceAdd,reduceMul,reduceSub,Nat.reduceBEq,Int.reduceToNat,Int.reduceLE,Int.reduceLT,Int.reduceNeg,reduceMod,gT,h1c,h2c,r2c,h5c,h6c,h7c,h8c,h44c,r44c,h45c,h46c]
      refine ⟨fun _=>⟨h3,h3,fun h=>absurd h h4,fun _=>?_⟩,fun h=>absurd h3 h⟩
      exact zac ((k + 1,u)) (by refine ⟨?_,?_,?_,?_,?_,?_,?_,?_,?_,?_,?_,⟨by dsimp only;omega,by
       dsimp only
       rw [hadd]
       exact hb3.same (by simp (maxSteps:=9^7) -dsimp only [gr,reduceEqDiff,reduceLT,reduceAdd,reduceMod,Nat.reduceBEq]) (fun x=>by simp (maxSteps:=9^7) -dsimp only [gr,reduceEqDiff,reduceLT,reduceAdd,reduceMod,Nat.reduceBEq])⟩⟩ <;> (first | (simp (maxSteps:=9^7) -dsimp only [gr,reduceEqDiff,reduceLT,reduceAdd,reduceMod,Nat.reduceBEq,h1c,h2c,r2c,h5c,h6c,h7c,h8c,h44c,r44c,h45c,h46c,zaa h3 (by omega)];first | done | rfl | (simp;done)) | assumption | rfl)) (by first | omega | (simp only;omega) | (dsimp only;omega) | (show _ < _;simp;omega))
    ·have e:zho (zhp (zag xs) p m w) (zak w) hs k = zhp (zag xs) p m (w + 1):=by
      have e0:zhp (zag xs) p m (w + 1) = zho (zhp (zag xs) p m w) (zak w) (zdf (za4 (zag xs) w) p) (zba (za4 (zag xs) w)):=rfl
      rw [e0,← hhl,hhs,show k = hs.length by omega]
     rw [e] at hb3
     simp (maxSteps:=9^7) -dsimp only [↓gp,gq,reduceCtorEq,reduceEqDiff,reduceLT,reduceLeDiff,reduceAdd,reduceMul,reduceSub,Nat.reduceBEq,Int.reduceToNat,Int.reduceLE,Int.reduceLT,Int.reduceNeg,reduceMod,gT,h1c,h2c,r2c,h5c,h6c,h7c,h8c,h44c,r44c,h45c,h46c]
     refine ⟨fun h=>absurd h h3,fun _=>?_⟩
     exact zac (w + 1) (by refine ⟨?_,?_,?_,?_,?_,?_,⟨by omega,hb3.same (by simp (maxSteps:=9^7) -dsimp only [gr,reduceEqDiff,reduceLT,reduceAdd,reduceMod,Nat.reduceBEq]) (fun x=>by simp (maxSteps:=9^7) -dsimp only [gr,reduceEqDiff,reduceLT,reduceAdd,reduceMod,Nat.reduceBEq])⟩⟩ <;> (first | (simp (maxSteps:=9^7) -dsimp only [gr,reduceEqDiff,reduceLT,reduceAdd,reduceMod,Nat.reduceBEq,h1b,h2b,r2b,h5b,h6b,h7b,h1c,h2c,r2c,h5c,h6c,h7c,h8c,h44c,r44c,h45c,h46c,zaa h2 (by omega)];first | done | rfl | (simp;done)) | assumption | rfl)) (by first | omega | (simp only;omega) | (dsimp only;omega) | (show _ < _;simp;omega))
   ·have:w = 2 ^ m:=by omega
    subst this
    exact zd8 hb2 (by decide) (fun j hj=>by have:=List.mem_range.1 hj;omega)
 ·rw [zgq (fun h=>by have:=(zaO.1 h.1).2;simp at h0;rw [h0] at this;simp at this)]
  exact zcM (by simp (maxSteps:=9^7) -dsimp only [gr,reduceEqDiff,reduceLT,reduceAdd,reduceMod,Nat.reduceBEq]) (by decide)
 ·rw [zgq (fun h=>by have:=(zaO.1 h.1).1;rw [this] at hc;cases hc)]
  exact zcM (by simp (maxSteps:=9^7) -dsimp only [gr,reduceEqDiff,reduceLT,reduceAdd,reduceMod,Nat.reduceBEq]) (by decide)
theorem zAu {P:Program} {s:St} {K:St→Prop} {f:FuncId} {args raw:List PV} {Ka:RV→Prop} {d e e2:Nat} {us:Dm s} {u:Dm K} {M:Mat} (h:AC P f args (.tb e e2 (M.map iL))) (hd:∀ i,i < M.length→(s.rw (sid d i)).ver = 0)
 (hk:∀ S:St,TabI S.rw d ((s.rw d).ver + 1) e e2 (List.range M.length) M→S.sl d = .own d ((s.rw d).ver + 1)→(∀ t,t ≠ d→S.sl t = s.sl t)→(∀ j,(j % 1000 == d % 1000) = false→S.rw j = s.rw j)→K S):ziN P f args Ka (ztE P f args raw (some d) (kk s us) (kk K u)) :=
 zBx _ h (Wk.refl _) (hk _ ⟨by
  have:=zkp (s:=s) d e e2 (M.map iL) (fun i hi=>hd i (by simpa using hi))
  rwa [List.length_map] at this,List.nodup_range⟩ (zeT d e e2 _) (fun t ht=>zdo d e e2 t _ ht) (fun j hj=>zeU d e e2 j _ hj))
end Go.Proofs.YtjikeknpidbceaaGreatDoor

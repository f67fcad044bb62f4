/- DERIVED by an AI agent. -/
import Derived.Test.YtkledeboboplmaaGreatDoorQ2
import Derived.Test.YtkledeboboplmaaGreatDoorA13
import Derived.Test.YtkledeboboplmaaGreatDoorP1
import Derived.Test.YtkledeboboplmaaGreatDoorQ1
import Derived.Test.YtkledeboboplmaaGreatDoorA12
namespace Go.Proofs.YtkledeboboplmaaGreatDoor
open Go.Abs
open Nat (reduceEqDiff reduceMod reduceAdd reduceLT reduceLeDiff reduceSub reduceMul)
set_option linter.unusedSimpArgs false
set_option linter.unusedVariables false
theorem zc3 {t:Nat} (h:t < 64):zms (t:Int) = (zat t:Nat):=by rw [zms,if_pos (by omega)];simp
theorem zlR (f:Nat→Bool) (m:Nat):zjg f (m + 1) = if f m = true then max (zjg f m) (zat m + 1) else zjg f m:=rfl
theorem zc4 (f:Nat→Bool):AC Tryz.prog 93 [u64 (zaB f 64:Nat)] (.im (int ((za8 f:Int) - 1))):=by
 refine AC.go (rs:=[.tmp 2]) zaD mixed Tryz.func93 rfl rfl rfl (by kernel_rfl) fun hl=>?_
 simp -dsimp only [↓gp,gq,simprocAttr,gT]
 have hm1:=zbk f 64
 refine zah (fun (m:Nat) s=>s.sl 0 = u64 (zaB f 64:Nat)∧s.sl 3 = int ((zjg f m:Int) - 1)∧s.sl 4 = int m∧(m ≤ 64)) (fun m=>64 - m) (0) (by refine ⟨?_,?_,?_,by omega⟩ <;> (first | (simp -dsimp only [gr,simprocAttr,zjg];first | done | rfl | (simp;done)) | assumption | rfl)) ?_
 intro m sa ⟨h0a,h3a,h4a,hIa⟩
 simp -dsimp only [↓gp,gq,simprocAttr,gT,h0a,h3a,h4a]
 refine ⟨fun h=>zab (zbu (zaB f 64) m (by omega) (by omega)) ?_,fun h=>?_⟩
 ·have h:m < 64:=by omega
  rw [za6 f h]
  simp -dsimp only [↓gp,gq,simprocAttr,gT,h0a,h3a,h4a]
  refine ⟨fun hf=>zab (zaA _) ?_,fun hf=>?_⟩
  ·simp -dsimp only [↓gp,gq,simprocAttr,gT,h0a,h3a,h4a,zc3 h]
   refine ⟨fun hg=>zab (zaA _) ?_,fun hg=>?_⟩
   ·simp -dsimp only [↓gp,gq,simprocAttr,gT,h0a,h3a,h4a,zc3 h]
    have e:(zjg f (m + 1):Int) - 1 = (zat m:Int):=by rw [zlR,if_pos hf];omega
    exact zac (m + 1) (by refine ⟨?_,?_,?_,by omega⟩ <;> (first | (simp -dsimp only [gr,simprocAttr,h0a,h3a,h4a,zaa h (by omega),zc3 h,e];first | done | rfl | (simp;done)) | assumption | rfl)) (by first | omega | (simp only;omega) | (dsimp only;omega) | (show _ < _;simp;omega))
   ·have e:zjg f (m + 1) = zjg f m:=by rw [zlR,if_pos hf];omega
    exact zac (m + 1) (by refine ⟨?_,?_,?_,by omega⟩ <;> (first | (simp -dsimp only [gr,simprocAttr,h0a,h3a,h4a,zaa h (by omega),e];first | done | rfl | (simp;done)) | assumption | rfl)) (by first | omega | (simp only;omega) | (dsimp only;omega) | (show _ < _;simp;omega))
  ·have e:zjg f (m + 1) = zjg f m:=by rw [zlR,if_neg (by rw [hf];decide)]
   exact zac (m + 1) (by refine ⟨?_,?_,?_,by omega⟩ <;> (first | (simp -dsimp only [gr,simprocAttr,h0a,h3a,h4a,zaa h (by omega),e];first | done | rfl | (simp;done)) | assumption | rfl)) (by first | omega | (simp only;omega) | (dsimp only;omega) | (show _ < _;simp;omega))
 ·have:m = 64:=by omega
  subst this;rfl
theorem zsg {f:Nat→Bool} {m j:Nat} (hf:f m = true):zaQ f j (m + 1) = if j = zat m then zaQ f j m ++ [m] else zaQ f j m:=by
 rw [zfG,hf]
 by_cases e:j = zat m
 ·subst e;simp
 ·have:¬ zat m = j:=fun h=>e h.symm
  simp [e,this]
theorem zBv {f:Nat→Bool} {m j:Nat} (hf:f m = false):zaQ f j (m + 1) = zaQ f j m:=by rw [zfG,hf];simp
def zeo (f:Nat→Bool):Mat:=(List.range (za8 f)).map fun k=>ofN (zaQ f k 64)
theorem zeM (f:Nat→Bool):(zeo f).length = za8 f:=by simp [zeo]
theorem zdH (f:Nat→Bool) {k:Nat} (h:k < za8 f):(zeo f).getD k [] = ofN (zaQ f k 64):=by simp [zeo,List.getD,h]
theorem zgw (f:Nat→Bool):AC Tryz.prog 150 [u64 (zaB f 64:Nat)] (.tb 22 3 ((List.range (za8 f)).map fun j=>iL (ofN (zaQ f j 64)))):=by
 refine AC.go (rs:=[.tmp 2]) zaD mixed Tryz.func150 rfl rfl rfl (by kernel_rfl) fun hl=>?_
 have hm1:=zbk f 64
 have hd:=zbj f
 simp -dsimp only [↓gp,gq,simprocAttr,gT]
 refine zab (zc4 f) ?_
 have hw:IntKind.i64.wrap ((za8 f:Int) - 1 + 1) = (za8 f:Int):=by rw [zai (by omega) (by omega)];omega
 simp -dsimp only [↓gp,gq,simprocAttr,gT,hw]
 refine ⟨by omega,by omega,?_⟩
 refine zAT (k:=9) (v:=1) (e:=22) (e2:=3) (n:=za8 f) (by simp -dsimp only [gr,simprocAttr,hw]) (fun j=>by simp -dsimp only [gr,simprocAttr]) (fun (m:Nat) s=>s.sl 0 = u64 (zaB f 64:Nat)∧s.sl 3 = .own 9 1∧s.sl 4 = int m∧(m ≤ 64∧TabF s.rw 9 1 22 3 (za8 f) (fun j=>1 + (zaQ f j m).length) (fun j=>ofN (zaQ f j m)))) (fun m=>64 - m) (0) (fun sX htX hslX hoX=>(by refine ⟨?_,?_,?_,⟨by omega,htX⟩⟩ <;> (first | (simp -dsimp only [gr,simprocAttr,hslX,hoX];first | done | rfl | (simp;done)) | assumption | rfl))) ?_
 intro m sa ⟨h0a,h3a,h4a,hIa⟩
 obtain ⟨hm,ht⟩:=hIa
 simp -dsimp only [↓gp,gq,simprocAttr,gT,h0a,h3a,h4a]
 refine ⟨fun h=>zab (zbu (zaB f 64) m (by omega) (by omega)) ?_,fun h=>?_⟩
 ·have h:m < 64:=by omega
  rw [za6 f h]
  simp -dsimp only [↓gp,gq,simprocAttr,gT,h0a,h3a,h4a]
  refine ⟨fun hf=>zab (zaA _) ?_,fun hf=>?_⟩
  ·have hk:zat m < za8 f:=zeP 64 m h hf
   have hr:=ht.row (zat m) hk
   have hol:=zbA f (zat m) hm
   simp -dsimp only [↓gp,gq,simprocAttr,gT,h0a,h3a,h4a,zc3 h,ht.top,zhF,zAS,hr,zad]
   refine ⟨hk,hk,by omega,hk,by omega,zac (m + 1) ⟨(by (first | (simp -dsimp only [gr,simprocAttr,h0a,h3a,h4a,zaa h (by omega)];first | done | rfl | (simp;done)) | assumption | rfl)),(by (first | (simp -dsimp only [gr,simprocAttr,h0a,h3a,h4a,zaa h (by omega)];first | done | rfl | (simp;done)) | assumption | rfl)),(by (first | (simp -dsimp only [gr,simprocAttr,h0a,h3a,h4a,zaa h (by omega)];first | done | rfl | (simp;done)) | assumption | rfl)),⟨by omega,ht.add hk (r:=ofN (zaQ f (zat m) m) ++ [(m:Int)]) (by simp -dsimp only [gr,simprocAttr,h0a,h3a,h4a]) (by simp -dsimp only [gr,simprocAttr,h0a,h3a,h4a]) (fun x hx=>by simp -dsimp only [gr,simprocAttr,h0a,h3a,h4a,hx]) (fun j _=>?_) (fun j _=>?_)⟩⟩ (by first | omega | (simp only;omega) | (dsimp only;omega) | (show _ < _;simp;omega))⟩
   ·rw [zsg hf]
    split
    ·rename_i e;subst e;simp;omega
    ·rfl
   ·rw [zsg hf]
    split
    ·rename_i e;subst e;rw [zaS];rfl
    ·rfl
  ·have e:∀ j,zaQ f j (m + 1) = zaQ f j m:=fun j=>zBv hf
   refine zac (m + 1) ⟨(by (first | (simp -dsimp only [gr,simprocAttr,h0a,h3a,h4a,zaa h (by omega)];first | done | rfl | (simp;done)) | assumption | rfl)),(by (first | (simp -dsimp only [gr,simprocAttr,h0a,h3a,h4a,zaa h (by omega)];first | done | rfl | (simp;done)) | assumption | rfl)),(by (first | (simp -dsimp only [gr,simprocAttr,h0a,h3a,h4a,zaa h (by omega)];first | done | rfl | (simp;done)) | assumption | rfl)),⟨by omega,?_⟩⟩ (by first | omega | (simp only;omega) | (dsimp only;omega) | (show _ < _;simp;omega))
   simp only [e]
   exact ht.same (by simp -dsimp only [gr,simprocAttr]) (fun x=>by simp -dsimp only [gr,simprocAttr])
 ·have:m = 64:=by omega
  subst this
  exact zAU ht (by decide) (by omega)
theorem zhP (f:Nat→Bool):AC Tryz.prog 150 [u64 (zaB f 64:Nat)] (.fr 22 1 (iLL (zeo f))):=by
 have:=(zgw f).flat
 unfold zeo iLL
 rw [List.map_map] at this ⊢
 exact this
theorem ziz (a b:Nat) (ha:a < 64) (hb:b < 64) (hp:zat b = zat a + 1):AC Tryz.prog 190 [int a,int b] (.im (int (zg0 a b))):=by
 refine AC.go (rs:=[.tmp 4]) zaD mixed Tryz.func190 rfl rfl rfl (by kernel_rfl) fun hl=>?_
 have hpa:=zb3 ha
 have hand:=zbi (a:=a) (b:=b) (by omega) (by omega)
 simp (maxSteps:=9^7) -dsimp only [↓gp,gq,reduceCtorEq,reduceEqDiff,reduceLT,reduceLeDiff,reduceAdd,reduceMul,reduceSub,Nat.reduceBEq,Int.reduceToNat,Int.reduceLE,Int.reduceLT,Int.reduceNeg,reduceMod,gT,hand]
 refine ⟨fun h=>?_,fun h=>?_⟩
 ·have hs:¬ a &&& b = a:=by
   intro e
   rw [zb2.2 e] at h
   simp at h
  unfold zg0;rw [if_neg hs]
 ·have hs:a &&& b = a:=zb2.1 (by
   have h9:((a ^^^ (a &&& b):Nat):Int) = 0:=by simpa using h
   omega)
  obtain ⟨hle,hx⟩:=zww a ha b hb hs
  have hne:a ≠ b:=fun e=>by rw [e] at hp;omega
  have hand2:=zbi (a:=b) (b:=a) (by omega) (by omega)
  rw [Nat.and_comm b a,hx] at hand2
  have hw3:IntKind.i64.wrap (((b - a:Nat):Int) - 1) = ((b - a - 1:Nat):Int):=by rw [zai (by omega) (by omega)];omega
  have hand3:=zbc (a:=b) (b:=b - a - 1) (by omega) (by omega)
  have hlt:b &&& (b - a - 1) < 64:=by have:b &&& (b - a - 1) ≤ b:=Nat.and_le_left;omega
  have hp6:=zb3 hlt
  have hmod:((zat (b &&& (b - a - 1)):Nat):Int).tmod 2 = ((zat (b &&& (b - a - 1)) % 2:Nat):Int):=by rw [zcV (by omega)];omega
  simp (maxSteps:=9^7) -dsimp only [↓gp,gq,reduceCtorEq,reduceEqDiff,reduceLT,reduceLeDiff,reduceAdd,reduceMul,reduceSub,Nat.reduceBEq,Int.reduceToNat,Int.reduceLE,Int.reduceLT,Int.reduceNeg,reduceMod,gT,hand2,hw3,hand3]
  refine zab (zaA _) ?_
  simp (maxSteps:=9^7) -dsimp only [↓gp,gq,reduceCtorEq,reduceEqDiff,reduceLT,reduceLeDiff,reduceAdd,reduceMul,reduceSub,Nat.reduceBEq,Int.reduceToNat,Int.reduceLE,Int.reduceLT,Int.reduceNeg,reduceMod,gT,zc3 hlt,hmod]
  unfold zg0
  rw [if_pos hs]
  refine ⟨by decide,fun h0=>?_,fun h0=>?_⟩
  ·rw [if_pos (by have h9:((zat (b &&& (b - a - 1)) % 2:Nat):Int) = 0:=by simpa using h0
                  omega)]
  ·rw [if_neg (by intro e;rw [e] at h0;simp at h0)]
theorem zGK {lo hi:List Nat} {i j:Nat} (hi':i < lo.length) (hj:j < hi.length):(hi.map fun b=>zg0 (lo.getD i 0) b).getD j 0 = zg0 (lo.getD i 0) (hi.getD j 0):=by
 simp [List.getD,hj]
theorem zlS (lo hi:List Nat) (k:Nat) (hl1:lo.length ≤ 64) (hl2:hi.length ≤ 64) (hm1:∀ i,i < lo.length→lo.getD i 0 < 64∧zat (lo.getD i 0) = k) (hm2:∀ i,i < hi.length→hi.getD i 0 < 64∧zat (hi.getD i 0) = k + 1) :
 AC Tryz.prog 153 [zax (ofN lo),zax (ofN hi)] (.tb 22 3 ((zb5 lo hi).map iL)):=by
 refine AC.go (rs:=[.tmp 4]) zaD mixed Tryz.func153 rfl rfl rfl (by kernel_rfl) fun hl=>?_
 simp -dsimp only [↓gp,gq,simprocAttr,gT,zad]
 refine ⟨by omega,by omega,?_⟩
 refine zwh (k:=12) (v:=1) (e:=22) (e2:=3) (n:=lo.length) (by simp -dsimp only [gr,simprocAttr,zad]) (fun j=>by simp -dsimp only [gr,simprocAttr]) (fun (i:Nat) s=>s.sl 1 = zax (ofN hi)∧s.sl 5 = .own 12 1∧s.sl 13 = zax (ofN lo)∧s.sl 14 = int lo.length∧s.sl 15 = int i∧(i ≤ lo.length∧TabP s.rw 12 1 22 3 lo.length i (zb5 (lo.take i) hi))) (fun i=>lo.length - i) (0) (fun sX htX hslX hoX=>(by refine ⟨?_,?_,?_,?_,?_,⟨by omega,htX⟩⟩ <;> (first | (simp -dsimp only [gr,simprocAttr,hslX,hoX,zad];first | done | rfl | (simp;done)) | assumption | rfl))) ?_
 intro i sa ⟨h1a,h5a,h13a,h14a,h15a,hIa⟩
 obtain ⟨hi',ht⟩:=hIa
 simp -dsimp only [↓gp,gq,simprocAttr,gT,h1a,h5a,h13a,h14a,h15a,ht.top,zbN,zad]
 refine ⟨fun h=>?_,fun h=>?_⟩
 ·have hge:(ofN lo).getD i 0 = ((lo.getD i 0:Nat):Int):=zaG h
  have hlen:(zb5 (lo.take i) hi).length = i:=by rw [zcy,List.length_take];omega
  refine ⟨h,h,by omega,by omega,h,by omega,?_⟩
  refine zr2 (k:=12) (v:=1) (e:=22) (e2:=3) (n:=lo.length) (i:=i) (d:=24) (vd:=(sa.rw 24).ver + 1) (M:=zb5 (lo.take i) hi) (r:=List.replicate hi.length 0) (by simp -dsimp only [gr,simprocAttr,ht.top]) hlen (fun j hj=>by simp -dsimp only [gr,simprocAttr,ht.row j hj]) (fun j hj=>by simp -dsimp only [gr,simprocAttr,ht.rest j hj]) (by simp -dsimp only [gr,simprocAttr]) (by decide) (by decide) h (fun (j:Nat) s=>s.sl 1 = zax (ofN hi)∧s.sl 5 = .own 12 1∧s.sl 13 = zax (ofN lo)∧s.sl 14 = int lo.length∧s.sl 15 = int i∧s.sl 6 = int i∧s.sl 7 = int (lo.getD i 0:Nat)∧s.sl 26 = zax (ofN hi)∧s.sl 27 = int hi.length∧s.sl 28 = int j∧(j ≤ hi.length∧TabP s.rw 12 1 22 3 lo.length (i + 1) (zb5 (lo.take i) hi ++ [prt (hi.map fun b=>zg0 (lo.getD i 0) b) (List.replicate hi.length 0) j]))) (fun j=>hi.length - j) (0) (fun sX htX hslX hoX=>(by refine ⟨?_,?_,?_,?_,?_,?_,?_,?_,?_,?_,⟨by omega,by rw [zeL];exact htX⟩⟩ <;> (first | (simp -dsimp only [gr,simprocAttr,hslX,hoX,h1a,h5a,h13a,h14a,h15a,zad,hge];first | done | rfl | (simp;done)) | assumption | rfl))) ?_
  intro j sb ⟨h1b,h5b,h13b,h14b,h15b,h6b,h7b,h26b,h27b,h28b,hIb⟩
  obtain ⟨hj,ht2⟩:=hIb
  have hnl:(hi.map fun b=>zg0 (lo.getD i 0) b).length = (List.replicate hi.length (0:Int)).length:=by simp
  have hrr:=ht2.row i (by omega)
  rw [zr3 hlen] at hrr
  have hpl:∀ t,(prt (hi.map fun b=>zg0 (lo.getD i 0) b) (List.replicate hi.length 0) t).length = hi.length:=fun t=>by rw [zcT hnl];simp
  simp -dsimp only [↓gp,gq,simprocAttr,gT,h1b,h5b,h13b,h14b,h15b,h6b,h7b,h26b,h27b,h28b,ht2.top,zlA,hrr,hpl,zbN,zad]
  refine ⟨fun h2=>?_,fun h2=>?_⟩
  ·have hge2:(ofN hi).getD j 0 = ((hi.getD j 0:Nat):Int):=zaG h2
   have ha:=hm1 i h
   have hb:=hm2 j h2
   refine ⟨h2,h2,?_⟩
   simp -dsimp only [↓gp,gq,simprocAttr,gT,h1b,h5b,h13b,h14b,h15b,h6b,h7b,h26b,h27b,h28b,ht2.top,zlA,hrr,hpl,zbN,hge2]
   refine ⟨by kernel_rfl,h,h,zab (ziz _ _ ha.1 hb.1 (by omega)) ?_⟩
   simp -dsimp only [↓gp,gq,simprocAttr,gT,h1b,h5b,h13b,h14b,h15b,h6b,h7b,h26b,h27b,h28b,ht2.top,zlA,hrr,hpl,zbN,hge2]
   refine ⟨h2,by omega,by kernel_rfl,zac (j + 1) ⟨(by (first | (simp -dsimp only [gr,simprocAttr,h1b,h5b,h13b,h14b,h15b,h6b,h7b,h26b,h27b,h28b,zaa h2 (by omega)];first | done | rfl | (simp;done)) | assumption | rfl)),(by (first | (simp -dsimp only [gr,simprocAttr,h1b,h5b,h13b,h14b,h15b,h6b,h7b,h26b,h27b,h28b,zaa h2 (by omega)];first | done | rfl | (simp;done)) | assumption | rfl)),(by (first | (simp -dsimp only [gr,simprocAttr,h1b,h5b,h13b,h14b,h15b,h6b,h7b,h26b,h27b,h28b,zaa h2 (by omega)];first | done | rfl | (simp;done)) | assumption | rfl)),(by (first | (simp -dsimp only [gr,simprocAttr,h1b,h5b,h13b,h14b,h15b,h6b,h7b,h26b,h27b,h28b,zaa h2 (by omega)];first | done | rfl | (simp;done)) | assumption | rfl)),(by (first | (simp -dsimp only [gr,simprocAttr,h1b,h5b,h13b,h14b,h15b,h6b,h7b,h26b,h27b,h28b,zaa h2 (by omega)];first | done | rfl | (simp;done)) | assumption | rfl)),(by (first | (simp -dsimp only [gr,simprocAttr,h1b,h5b,h13b,h14b,h15b,h6b,h7b,h26b,h27b,h28b,zaa h2 (by omega)];first | done | rfl | (simp;done)) | assumption | rfl)),(by (first | (simp -dsimp only [gr,simprocAttr,h1b,h5b,h13b,h14b,h15b,h6b,h7b,h26b,h27b,h28b,zaa h2 (by omega)];first | done | rfl | (simp;done)) | assumption | rfl)),(by (first | (simp -dsimp only [gr,simprocAttr,h1b,h5b,h13b,h14b,h15b,h6b,h7b,h26b,h27b,h28b,zaa h2 (by omega)];first | done | rfl | (simp;done)) | assumption | rfl)),(by (first | (simp -dsimp only [gr,simprocAttr,h1b,h5b,h13b,h14b,h15b,h6b,h7b,h26b,h27b,h28b,zaa h2 (by omega)];first | done | rfl | (simp;done)) | assumption | rfl)),(by (first | (simp -dsimp only [gr,simprocAttr,h1b,h5b,h13b,h14b,h15b,h6b,h7b,h26b,h27b,h28b,zaa h2 (by omega)];first | done | rfl | (simp;done)) | assumption | rfl)),⟨by omega,?_⟩⟩ (by first | omega | (simp only;omega) | (dsimp only;omega) | (show _ < _;simp;omega))⟩
   have e:zb5 (lo.take i) hi ++ [prt (hi.map fun b=>zg0 (lo.getD i 0) b) (List.replicate hi.length 0) (j + 1)] = (zb5 (lo.take i) hi ++ [prt (hi.map fun b=>zg0 (lo.getD i 0) b) (List.replicate hi.length 0) j]).set i ((prt (hi.map fun b=>zg0 (lo.getD i 0) b) (List.replicate hi.length 0) j).set j (zg0 (lo.getD i 0) (hi.getD j 0))):=by
    rw [zwi hlen,← zGK h h2,zgN hnl (by simpa using h2)]
   rw [e]
   exact ht2.set (by omega) (by simp -dsimp only [gr,simprocAttr,h1b,h5b,h13b,h14b,h15b,h6b,h7b,h26b,h27b,h28b]) (by simp -dsimp only [gr,simprocAttr,h1b,h5b,h13b,h14b,h15b,h6b,h7b,h26b,h27b,h28b]) (fun x hx=>by simp -dsimp only [gr,simprocAttr,h1b,h5b,h13b,h14b,h15b,h6b,h7b,h26b,h27b,h28b,hx])
  ·have:j = hi.length:=by omega
   subst this
   refine zac (i + 1) ⟨(by (first | (simp -dsimp only [gr,simprocAttr,h1a,h5a,h13a,h14a,h15a,h1b,h5b,h13b,h14b,h15b,h6b,h7b,h26b,h27b,h28b,zaa h (by omega)];first | done | rfl | (simp;done)) | assumption | rfl)),(by (first | (simp -dsimp only [gr,simprocAttr,h1a,h5a,h13a,h14a,h15a,h1b,h5b,h13b,h14b,h15b,h6b,h7b,h26b,h27b,h28b,zaa h (by omega)];first | done | rfl | (simp;done)) | assumption | rfl)),(by (first | (simp -dsimp only [gr,simprocAttr,h1a,h5a,h13a,h14a,h15a,h1b,h5b,h13b,h14b,h15b,h6b,h7b,h26b,h27b,h28b,zaa h (by omega)];first | done | rfl | (simp;done)) | assumption | rfl)),(by (first | (simp -dsimp only [gr,simprocAttr,h1a,h5a,h13a,h14a,h15a,h1b,h5b,h13b,h14b,h15b,h6b,h7b,h26b,h27b,h28b,zaa h (by omega)];first | done | rfl | (simp;done)) | assumption | rfl)),(by (first | (simp -dsimp only [gr,simprocAttr,h1a,h5a,h13a,h14a,h15a,h1b,h5b,h13b,h14b,h15b,h6b,h7b,h26b,h27b,h28b,zaa h (by omega)];first | done | rfl | (simp;done)) | assumption | rfl)),⟨by omega,?_⟩⟩ (by first | omega | (simp only;omega) | (dsimp only;omega) | (show _ < _;simp;omega))
   have e:prt (hi.map fun b=>zg0 (lo.getD i 0) b) (List.replicate hi.length 0) hi.length = hi.map fun b=>zg0 (lo.getD i 0) b:=by
    have:=zgM hnl
    simpa using this
   have ht3:=ht2
   rw [e,zoe h] at ht3
   exact ht3.same (by simp -dsimp only [gr,simprocAttr]) (fun x=>by simp -dsimp only [gr,simprocAttr])
 ·have:i = lo.length:=by omega
  subst this
  rw [List.take_length] at ht
  exact zr1 ht.done (by decide) (fun j hj=>by have:=List.mem_range.1 hj;omega)
noncomputable def rkL (f:Nat→Bool) (p:Int) (k:Nat):List Int:=(List.range (za8 f + 1)).map fun j=>if j < k then (rkF f p j:Int) else 0
theorem zxJ (f:Nat→Bool) (p:Int) (k:Nat):(rkL f p k).length = za8 f + 1:=by simp [rkL]
theorem zDD (f:Nat→Bool) (p:Int) {k j:Nat} (h:j < za8 f + 1):(rkL f p k).getD j 0 = if j < k then (rkF f p j:Int) else 0:=by simp [rkL,List.getD,h]
theorem zGI (f:Nat→Bool) (p:Int):List.replicate (za8 f + 1) 0 = rkL f p 1:=by
 refine List.ext_getElem (by simp [rkL]) fun j a b=>?_
 simp only [List.getElem_replicate,rkL,List.getElem_map,List.getElem_range]
 split
 ·have:j = 0:=by omega
  subst this;simp [rkF]
 ·rfl
theorem zGJ (f:Nat→Bool) (p:Int) {k:Nat} (h:k < za8 f):(rkL f p k).set k (rkF f p k) = rkL f p (k + 1):=by
 refine List.ext_getElem (by simp [rkL]) fun j a b=>?_
 rw [List.getElem_set]
 simp only [rkL,List.getElem_map,List.getElem_range]
 by_cases e:k = j
 ·subst e;simp
 ·rw [if_neg e]
  by_cases h1:j < k
  ·rw [if_pos h1,if_pos (by omega)]
  ·rw [if_neg h1,if_neg (by omega)]
theorem zgv (f:Nat→Bool) (p:Int) (hp:isP p = true):AC Tryz.prog 98 [u64 (zaB f 64:Nat),int p] (.fr 3 1 (iL (zdj f p))):=by
 refine AC.go (rs:=[.tmp 4]) zaD mixed Tryz.func98 rfl rfl rfl (by kernel_rfl) fun hl=>?_
 have hd:=zbj f
 have hsl:=zeM f
 simp -dsimp only [↓gp,gq,simprocAttr,gT]
 refine zab (zhP f) ?_
 have hw:IntKind.i64.wrap ((za8 f:Int) + 1) = ((za8 f + 1:Nat):Int):=by rw [zai (by omega) (by omega)];rfl
 simp -dsimp only [↓gp,gq,simprocAttr,gT,hsl,hw]
 refine ⟨by omega,by omega,?_⟩
 refine zah (fun (za:Nat × Nat × Nat) s=>match za with | (k,v,w)=>s.sl 1 = int p∧s.sl 5 = .own 11 v∧s.rw 11 = ⟨v,.sli 22 1 false (iLL (zeo f))⟩∧s.sl 6 = .own 15 w∧s.rw 15 = ⟨w,.sli 3 1 false (iL (rkL f p k))⟩∧s.sl 7 = int k∧(1 ≤ k∧k ≤ za8 f + 1∧(k ≤ za8 f ∨ za8 f = 0))) (fun (k,v,w)=>za8 f + 1 - k) ((1,1,1)) (by refine ⟨?_,?_,?_,?_,?_,?_,by simp;omega⟩ <;> (first | (simp -dsimp only [gr,simprocAttr,hsl,hw,zGI f p,zc6];first | done | rfl | (simp;done)) | assumption | rfl)) ?_
 intro (k,v,w) sa ⟨h1a,h5a,r11a,h6a,r15a,h7a,hIa⟩
 obtain ⟨hk1,hk2,hk3⟩:=hIa
 have hrl:=zxJ f p k
 simp -dsimp only [↓gp,gq,simprocAttr,gT,h1a,h5a,r11a,h6a,r15a,h7a,hsl,hrl]
 refine ⟨fun h=>?_,fun h=>?_⟩
 ·have hwk:IntKind.i64.wrap ((k:Int) - 1) = ((k - 1:Nat):Int):=by rw [zai (by omega) (by omega)];omega
  have hg1:=zdH f (k:=k - 1) (by omega)
  have hg2:=zdH f h
  have ho1:=zbA f (k - 1) (Nat.le_refl 64)
  have ho2:=zbA f k (Nat.le_refl 64)
  simp -dsimp only [↓gp,gq,simprocAttr,gT,h1a,h5a,r11a,h6a,r15a,h7a,hsl,hrl,hwk,hg1,hg2]
  refine ⟨by kernel_rfl,by omega,by omega,h,h,zab (zlS (zaQ f (k - 1) 64) (zaQ f k 64) (k - 1) ho1 ho2 (fun i hi=>?_) (fun i hi=>?_)) ?_⟩
  ·have:=zca.1 (zaj 0 hi);exact ⟨this.1,this.2.2⟩
  ·have:=zca.1 (zaj 0 hi);exact ⟨this.1,by omega⟩
  ·simp -dsimp only [↓gp,gq,simprocAttr,gT,h1a,h5a,r11a,h6a,r15a,h7a,hsl,hrl,hwk,hg1,hg2]
   have hrk:zpl p (zb5 (zaQ f (k - 1) 64) (zaQ f k 64)) = rkF f p k:=by unfold rkF;rw [if_neg (by omega)]
   have hb1:=zcy (zaQ f (k - 1) 64) (zaQ f k 64)
   have hb3:=zoh (zaQ f (k - 1) 64) (zaQ f k 64)
   refine zab (zpn _ p hp (by omega) (zog _ _) (by omega)) ?_
   rw [hrk]
   have hset:=zGJ f p h
   simp -dsimp only [↓gp,gq,simprocAttr,gT,h1a,h5a,r11a,h6a,r15a,h7a,hsl,hrl,hwk,hg1,hg2,hset]
   refine ⟨by omega,by omega,by kernel_rfl,?_⟩
   exact zac ((k + 1,v,w)) (by refine ⟨?_,?_,?_,?_,?_,?_,⟨by dsimp only;omega,by dsimp only;omega,by dsimp only;omega⟩⟩ <;> (first | (simp -dsimp only [gr,simprocAttr,h1a,h5a,r11a,h6a,r15a,h7a,zaa h (by omega),hwk,hg1,hg2,hset];first | done | rfl | (simp;done)) | assumption | rfl)) (by first | omega | (simp only;omega) | (dsimp only;omega) | (show _ < _;simp;omega))
 ·have hrk:∀ j,j < za8 f + 1→(rkL f p k).getD j 0 = (rkF f p j:Int):=fun j hj=>by
   rw [zDD f p hj]
   split
   ·rfl
   ·rw [zBw (by omega)];rfl
  generalize rkL f p k = rk at *
  refine ⟨by omega,by omega,?_⟩
  refine zah (fun (zb:Nat × Nat × Nat × Nat) s=>match zb with | (k,v,w,u)=>s.sl 5 = .own 11 v∧s.rw 11 = ⟨v,.sli 22 1 false (iLL (zeo f))⟩∧s.sl 6 = .own 15 w∧s.rw 15 = ⟨w,.sli 3 1 false (iL rk)⟩∧s.sl 8 = .own 39 u∧s.rw 39 = ⟨u,.sli 3 1 false (iL (prt (zdj f p) (List.replicate (za8 f) 0) k))⟩∧s.sl 41 = int (za8 f:Nat)∧s.sl 42 = int k∧(k ≤ za8 f)) (fun (k,v,w,u)=>za8 f - k) ((0,v,w,(sa.rw 39).ver + 1)) (by refine ⟨?_,?_,?_,?_,?_,?_,?_,?_,by omega⟩ <;> (first | (simp -dsimp only [gr,simprocAttr,h1a,h5a,r11a,h6a,r15a,h7a,hsl,zeL,zc6];first | done | rfl | (simp;done)) | assumption | rfl)) ?_
  intro (k,v,w,u) sb ⟨h5b,r11b,h6b,r15b,h8b,r39b,h41b,h42b,hIb⟩
  have hnl:(zdj f p).length = (List.replicate (za8 f) (0:Int)).length:=by simp [zaY]
  have hpl:(prt (zdj f p) (List.replicate (za8 f) 0) k).length = za8 f:=by rw [zcT hnl];simp
  by_cases h2:k < za8 f
  ·have hwk:=zaa h2 (by omega)
   have hg1:=zdH f h2
   have ho1:=zbA f k (Nat.le_refl 64)
   have hr1:=zoi f p k
   have hr2:=zoi f p (k + 1)
   have hw1:IntKind.i64.wrap (((zaQ f k 64).length:Int) - (rkF f p k:Int)) = ((zaQ f k 64).length:Int) - (rkF f p k:Int):=zai (by omega) (by omega)
   have hw2:IntKind.i64.wrap (((zaQ f k 64).length:Int) - (rkF f p k:Int) - (rkF f p (k + 1):Int)) = ((zaQ f k 64).length:Int) - (rkF f p k:Int) - (rkF f p (k + 1):Int):=zai (by omega) (by omega)
   have hk1:=hrk k (by omega)
   have hk2:=hrk (k + 1) (by omega)
   have hset:(prt (zdj f p) (List.replicate (za8 f) 0) k).set k (((zaQ f k 64).length:Int) - rkF f p k - rkF f p (k + 1)) = prt (zdj f p) (List.replicate (za8 f) 0) (k + 1):=by
    rw [← zhS f p h2,zgN hnl (by simpa using h2)]
   simp -dsimp only [↓gp,gq,simprocAttr,gT,h5b,r11b,h6b,r15b,h8b,r39b,h41b,h42b,hsl,hrl,hpl,hwk,hg1,zad,hk1,hk2,hw1,hw2,hset]
   refine ⟨fun _=>⟨by kernel_rfl,h2,h2,by omega,by omega,by omega,by omega,h2,by omega,by kernel_rfl,?_⟩,fun h3=>absurd h2 h3⟩
   exact zac ((k + 1,v,w,u)) (by refine ⟨?_,?_,?_,?_,?_,?_,?_,?_,by dsimp only;omega⟩ <;> (first | (simp -dsimp only [gr,simprocAttr,h5b,r11b,h6b,r15b,h8b,r39b,h41b,h42b,hwk,hg1,hk1,hk2,hw1,hw2,hset];first | done | rfl | (simp;done)) | assumption | rfl)) (by first | omega | (simp only;omega) | (dsimp only;omega) | (show _ < _;simp;omega))
  ·simp -dsimp only [↓gp,gq,simprocAttr,gT,h5b,r11b,h6b,r15b,h8b,r39b,h41b,h42b,hsl,hrl,hpl]
   refine ⟨fun h3=>absurd h3 h2,fun _=>?_⟩
   have e:k = (List.replicate (za8 f) (0:Int)).length:=by simp;omega
   have:=zgM hnl
   rw [← e] at this
   rw [this]
noncomputable def zjf (n:Int) (xs:List Int):Bool:=zaL n xs && !(xs.length == 0)
theorem zbz {n:Int} {xs:List Int}:zjf n xs = true ↔ zaL n xs = true∧0 < xs.length:=by
 unfold zjf
 cases zaL n xs <;> simp [Nat.pos_iff_ne_zero]
noncomputable def zdi (n:Int) (xs:List Int):Int:=if zjf n xs = true then (zat (xs.getD (xs.length - 1) 0).toNat:Int) - 1 else -2
theorem zbH (n:Int) (xs:List Int):AC Tryz.prog 27 [.ag [int n,zax xs]] (.im (int (zdi n xs))):=by
 refine AC.go (rs:=[.tmp 2]) zaD mixed Tryz.func27 rfl rfl rfl (by kernel_rfl) fun hl=>?_
 simp only [zaN,za4,and_true,zbZ,zdx,zcE,true_and] at hl
 simp -dsimp only [↓gp,gq,simprocAttr,gT]
 refine zab (zaE n xs) ?_
 have hw:0 < xs.length→IntKind.i64.wrap ((xs.length:Int) - 1) = ((xs.length - 1:Nat):Int):=fun h=>by rw [zai (by omega) (by omega)];omega
 by_cases hh:zjf n xs = true
 ·obtain ⟨h1,h2⟩:=zbz.1 hh
  have hs:=zsh (zb4 h1) (k:=xs.length - 1) (by omega)
  have hc:=zcc (s:=xs.getD (xs.length - 1) 0) hs.1 (by omega)
  have hz:((xs.length:Int) == 0) = false:=by rw [beq_eq_false_iff_ne];omega
  have hp:=zb3 (s:=(xs.getD (xs.length - 1) 0).toNat) (by omega)
  simp -dsimp only [↓gp,gq,simprocAttr,gT,h1,hz,hw h2,Int.toNat_natCast]
  refine ⟨by omega,by omega,zab hc ?_⟩
  have hw2:IntKind.i64.wrap ((zat (xs.getD (xs.length - 1) 0).toNat:Int) - 1) = (zat (xs.getD (xs.length - 1) 0).toNat:Int) - 1:=zai (by omega) (by omega)
  have hd:zdi n xs = (zat (xs.getD (xs.length - 1) 0).toNat:Int) - 1:=if_pos hh
  simp -dsimp only [↓gp,gq,simprocAttr,gT,hw2,hd]
 ·have hd:zdi n xs = -2:=if_neg hh
  rw [hd]
  simp -dsimp only [↓gp,gq,simprocAttr,gT]
  exact fun hc h0=>absurd (zbz.2 ⟨by simpa using hc,by simp at h0;exact List.length_pos_iff.2 h0⟩) hh
theorem zhO (n:Int) (xs:List Int) (hx:okS xs):AC Tryz.prog 143 [int n,zax xs] (.ag [.im (int n),.fr 3 1 (iL (ofN (zd9 (inF xs) true)))]):=by
 refine AC.go (rs:=[.cell 4 27]) zaD mixed Tryz.func143 rfl rfl rfl (by kernel_rfl) fun hl=>?_
 simp -dsimp only [↓gp,gq,simprocAttr,gT]
 refine zab (ze9 true xs hx) ?_
 simp -dsimp only [↓gp,gq,simprocAttr,gT]
noncomputable def zjB (n:Int) (xs:List Int) (s:Nat):Bool:=zaL n xs && (zcA n s && !zag xs s)
noncomputable def zka (n:Int) (xs:List Int):List Nat:=zd9 (zjB n xs) false
theorem zBE {n:Int} {xs:List Int} {s:Nat} (h:zjB n xs s = true):s < 64:=by
 unfold zjB at h
 simp only [Bool.and_eq_true] at h
 have:=zeH h.2.1
 omega
theorem zDL (n:Int) (xs:List Int):inF (ofN ((List.range 64).filter (zjB n xs))) = zjB n xs:=by
 funext s
 rw [zlT]
 refine Bool.eq_iff_iff.2 ?_
 rw [decide_eq_true_iff,List.mem_filter,List.mem_range]
 exact ⟨fun h=>h.2,fun h=>⟨zBE h,h⟩⟩
theorem ztG {n:Int} {xs:List Int} (h:zaL n xs = false) (s:Nat):zjB n xs s = false:=by unfold zjB;rw [h];rfl
theorem zGO {n:Int} {xs:List Int} (h:zaL n xs = false):zka n xs = []:=by
 unfold zka zd9 zbb zaQ
 have:zjB n xs = fun _=>false:=funext (ztG h)
 rw [this];simp
theorem zhX (n:Int) (xs:List Int):(zka n xs).length ≤ 448:=zDK _ _
theorem zdX (n:Int) (xs:List Int):AC Tryz.prog 60 [.ag [int n,zax xs]] (.fr 3 1 (iL (ofN (zka n xs)))):=by
 refine AC.go (rs:=[.tmp 2]) zaD mixed Tryz.func60 rfl rfl rfl (by kernel_rfl) fun hl=>?_
 simp -dsimp only [↓gp,gq,simprocAttr,gT]
 refine zah (fun (za:Nat × Nat) s=>match za with | (t,v)=>s.sl 1 = .ref 1 1 0∧s.rw 1 = ⟨1,.box 27 [int n,zax xs]⟩∧s.sl 3 = .own 5 v∧s.rw 5 = ⟨v,.sli 3 1 false (iL (ofN ((List.range t).filter (zjB n xs))))⟩∧s.sl 4 = int t∧(t ≤ 64)) (fun (t,v)=>64 - t) ((0,1)) (by refine ⟨?_,?_,?_,?_,?_,by simp⟩ <;> (first | (simp -dsimp only [gr,simprocAttr];first | done | rfl | (simp;done)) | assumption | rfl)) ?_
 intro (t,v) sa ⟨h1a,r1a,h3a,r5a,h4a,hIa⟩
 have hfl:((List.range t).filter (zjB n xs)).length ≤ 64:=by
  have:=List.length_filter_le (zjB n xs) (List.range t)
  rw [List.length_range] at this
  omega
 have hend:(t = 64 ∨ zaL n xs = false)→inF (ofN ((List.range t).filter (zjB n xs))) = zjB n xs:=fun h=>by
  rcases h with rfl | h
  ·exact zDL n xs
  ·funext i
   rw [zlT,ztG h]
   exact decide_eq_false fun hm=>by rw [List.mem_filter,ztG h] at hm;cases hm.2
 have hext:(t = 64 ∨ zaL n xs = false)→AC Tryz.prog 122 [zax (ofN ((List.range t).filter (zjB n xs))),bool false] (.fr 3 1 (iL (ofN (zka n xs)))):=fun h=>by
  have:=ze9 false _ (zBx (l:=(List.range t).filter (zjB n xs)) fun i hi=>zBE (List.mem_filter.1 hi).2)
  rwa [hend h] at this
 simp -dsimp only [↓gp,gq,simprocAttr,gT,h1a,r1a,h3a,r5a,h4a]
 refine ⟨fun h=>zab (zaE n xs) ?_,fun h=>zab (hext (.inl (by omega))) ?_⟩
 ·simp -dsimp only [↓gp,gq,simprocAttr,gT,h1a,r1a,h3a,r5a,h4a]
  refine ⟨fun hc=>zab (ziN _ _) ?_,fun hc=>zab (hext (.inr hc)) ?_⟩
  ·have hx:=zb4 hc
   have h:t < 64:=by omega
   have hms:zjB n xs t = (zcA n t && !zag xs t):=by unfold zjB;rw [hc];rfl
   have hyes:zjB n xs t = true→ofN ((List.range (t + 1)).filter (zjB n xs)) = ofN ((List.range t).filter (zjB n xs)) ++ [(t:Int)]:=fun h=>by
    rw [List.range_succ,List.filter_append,zaS]
    simp [h,ofN]
   have hno:zjB n xs t = false→ofN ((List.range (t + 1)).filter (zjB n xs)) = ofN ((List.range t).filter (zjB n xs)):=fun h=>by
    rw [List.range_succ,List.filter_append,zaS]
    simp [h,ofN]
   simp -dsimp only [↓gp,gq,simprocAttr,gT,h1a,r1a,h3a,r5a,h4a]
   refine ⟨fun hs=>zab (zdd n xs t hx h) ?_,fun hs=>?_⟩
   ·simp -dsimp only [↓gp,gq,simprocAttr,gT,h1a,r1a,h3a,r5a,h4a]
    refine ⟨fun hf=>?_,fun hf=>?_⟩
    ·have e:=hyes (by rw [hms,hs,hf];rfl)
     refine ⟨by rw [zad];omega,zac ((t + 1,v + 1)) (by refine ⟨?_,?_,?_,?_,?_,by dsimp only;omega⟩ <;> (first | (simp -dsimp only [gr,simprocAttr,h1a,r1a,h3a,r5a,h4a,zaa h (by omega),e];first | done | rfl | (simp;done)) | assumption | rfl)) (by first | omega | (simp only;omega) | (dsimp only;omega) | (show _ < _;simp;omega))⟩
    ·have e:=hno (by rw [hms,hf];simp)
     exact zac ((t + 1,v)) (by refine ⟨?_,?_,?_,?_,?_,by dsimp only;omega⟩ <;> (first | (simp -dsimp only [gr,simprocAttr,h1a,r1a,h3a,r5a,h4a,zaa h (by omega),e];first | done | rfl | (simp;done)) | assumption | rfl)) (by first | omega | (simp only;omega) | (dsimp only;omega) | (show _ < _;simp;omega))
   ·have e:=hno (by rw [hms,hs];rfl)
    exact zac ((t + 1,v)) (by refine ⟨?_,?_,?_,?_,?_,by dsimp only;omega⟩ <;> (first | (simp -dsimp only [gr,simprocAttr,h1a,r1a,h3a,r5a,h4a,zaa h (by omega),e];first | done | rfl | (simp;done)) | assumption | rfl)) (by first | omega | (simp only;omega) | (dsimp only;omega) | (show _ < _;simp;omega))
  ·simp -dsimp only [↓gp,gq,simprocAttr,gT,h1a,r1a,h3a,r5a,h4a]
 ·simp -dsimp only [↓gp,gq,simprocAttr,gT,h1a,r1a,h3a,r5a,h4a]
theorem zhY (G t:Nat) (hG:G < 18446744073709551616) (ht:t < 64):AC Tryz.prog 170 [int t,.eref false [u64 G] 0] (.im (bool (!G.testBit t))):=by
 refine AC.go (rs:=[.tmp 3]) zaD mixed Tryz.func170 rfl rfl rfl (by kernel_rfl) fun hl=>?_
 simp -dsimp only [↓gp,gq,simprocAttr,gT]
 refine zab (zbu G t hG ht) ?_
 simp -dsimp only [↓gp,gq,simprocAttr,gT]
theorem zjC (n G:Nat) (hn:n ≤ 6) (hG:G < 18446744073709551616):AC Tryz.prog 119 [int n,u64 G] (.fr 3 1 (iL (ofN (zd9 (fun s=>decide (s < 2 ^ n) && !G.testBit s) false)))):=by
 refine AC.go (rs:=[.tmp 4]) zaD mixed Tryz.func119 rfl rfl rfl (by kernel_rfl) fun hl=>?_
 have h64:=zcx hn
 simp -dsimp only [↓gp,gq,simprocAttr,gT]
 refine zab (zdI n hn _ [.eref false [u64 G] 0] (fun s=>!G.testBit s) (fun rw=>rfl) fun s hs=>zhY G s hG (by omega)) ?_
 simp -dsimp only [↓gp,gq,simprocAttr,gT]
 refine zab (zjx _ (zsj _ hn)) ?_
 have e:(zaB (fun s=>!G.testBit s) (2 ^ n)).testBit = fun s=>decide (s < 2 ^ n) && !G.testBit s:=funext fun s=>zel _ _ _
 rw [e]
 simp -dsimp only [↓gp,gq,simprocAttr,gT]
theorem zdY (n:Int) (xs:List Int):AC Tryz.prog 58 [.ag [int n,zax xs]] (.fr 3 1 (iL (ofN (zka n xs)))):=by
 refine AC.go (rs:=[.tmp 2]) zaD mixed Tryz.func58 rfl rfl rfl (by kernel_rfl) fun hl=>?_
 simp -dsimp only [↓gp,gq,simprocAttr,gT]
 refine zab (zaq n xs) ?_
 simp -dsimp only [↓gp,gq,simprocAttr,gT]
 refine ⟨fun hc=>?_,fun hc=>?_⟩
 ·rw [zGO (by simpa using hc)];rfl
 ·have hc:zaL n xs = true:=by simpa using hc
  obtain ⟨h1,h6,_⟩:=zaP.1 hc
  have hx:=zb4 hc
  obtain ⟨m,rfl⟩:∃ m:Nat,n = m:=⟨n.toNat,by omega⟩
  have h64:=zcx (m:=m) (by omega)
  refine ⟨by kernel_rfl,zab (zaW _ xs hx) ?_⟩
  simp -dsimp only [↓gp,gq,simprocAttr,gT]
  have hm:=zbk (zag xs) 64
  refine zab (zjC m _ (by omega) (by omega)) ?_
  have e:(fun s=>decide (s < 2 ^ m) && !(zaB (zag xs) 64).testBit s) = zjB m xs:=funext fun s=>by
   unfold zjB
   rw [hc,zel,Bool.true_and]
   unfold zcA
   by_cases hs:s < 2 ^ m
   ·have h2:s < 64:=by omega
    have h3:decide (0 ≤ (m:Int)∧(m:Int) ≤ 6∧0 ≤ (s:Int)∧(s:Int) < 2 ^ (m:Int).toNat) = true:=decide_eq_true ⟨by omega,by omega,by omega,by rw [Int.toNat_natCast];exact_mod_cast hs⟩
    rw [h3];simp [hs,h2]
   ·have h3:decide (0 ≤ (m:Int)∧(m:Int) ≤ 6∧0 ≤ (s:Int)∧(s:Int) < 2 ^ (m:Int).toNat) = false:=decide_eq_false fun h=>hs (by have:=h.2.2.2;rw [Int.toNat_natCast] at this;exact_mod_cast this)
    rw [h3];simp [hs]
  rw [e]
  simp -dsimp only [↓gp,gq,simprocAttr,gT]
  rfl
noncomputable def gmO (n:Int) (xs:List Int):Int:=if zka n xs = [] then -1 else (zat ((zka n xs).getD ((zka n xs).length - 1) 0):Int)
noncomputable def zDz (n:Int) (xs:List Int):Bool:=zaL n xs && decide (gmO n xs ≤ 2)
theorem zBo {n:Int} {xs:List Int} {i:Nat} (h:i < (zka n xs).length):(zka n xs).getD i 0 < 64:=(zhW.1 (zaj 0 h)).1.1
theorem zfi (n:Int) (xs:List Int):AC Tryz.prog 135 [.ag [int n,zax xs]] (.im (int (gmO n xs))):=by
 refine AC.go (rs:=[.tmp 2]) zaD mixed Tryz.func135 rfl rfl rfl (by kernel_rfl) fun hl=>?_
 simp -dsimp only [↓gp,gq,simprocAttr,gT]
 refine zab (zdX n xs) ?_
 unfold gmO
 have h64:=fun i=>zBo (n:=n) (xs:=xs) (i:=i)
 have hml:=zhX n xs
 generalize zka n xs = L at *
 simp -dsimp only [↓gp,gq,simprocAttr,gT,zad]
 refine ⟨fun h0=>?_,fun h0=>?_⟩
 ·rw [if_pos (by cases L with
   | nil=>rfl
   | cons a l=>simp at h0;omega)]
 ·have hp:0 < L.length:=by cases L with
   | nil=>simp at h0
   | cons a l=>simp
  have hk:L.length - 1 < L.length:=by omega
  have h64:=h64 _ hk
  have hw:IntKind.i64.wrap ((L.length:Int) - 1) = ((L.length - 1:Nat):Int):=by rw [zai (by omega) (by omega)];omega
  have hge:(ofN L).getD (L.length - 1) 0 = ((L.getD (L.length - 1) 0:Nat):Int):=zaG hk
  rw [if_neg (fun e=>by rw [e] at hp;simp at hp)]
  rw [hw]
  refine ⟨by omega,by omega,by omega,?_⟩
  rw [Int.toNat_natCast,hge]
  refine zab (zaM _ (by omega)) ?_
  simp -dsimp only [↓gp,gq,simprocAttr,gT,hw]
theorem zpi (n:Int) (xs:List Int):AC Tryz.prog 76 [.ag [int n,zax xs]] (.im (bool (zDz n xs))):=by
 refine AC.go (rs:=[.tmp 2]) zaD mixed Tryz.func76 rfl rfl rfl (by kernel_rfl) fun hl=>?_
 simp -dsimp only [↓gp,gq,simprocAttr,gT]
 refine zab (zaE n xs) ?_
 simp -dsimp only [↓gp,gq,simprocAttr,gT]
 unfold zDz
 refine ⟨fun h=>zab (zfi n xs) ?_,fun h=>?_⟩
 ·rw [h];simp -dsimp only [↓gp,gq,simprocAttr,gT]
 ·rw [h];rfl
theorem zdZ {n:Int} {xs:List Int} (h:zaL n xs = true):xs.length ≤ 64:=by
 have hn:=zor (zaP.1 h)
 have hx:=zb4 h
 have h2:(xs.map Int.toNat).Nodup:=by
  refine List.Pairwise.map _ (fun a b=>?_) (List.Pairwise.imp_of_mem (S:=fun a b=>0 ≤ a∧0 ≤ b∧a ≠ b) (fun ha hb hab=>⟨(hx _ ha).1,(hx _ hb).1,hab⟩) hn)
  intro ⟨q1,q2,q3⟩ e
  omega
 refine Classical.byContradiction fun hc=>?_
 have:=(ztp (m:=List.range 64) h2 (fun x hx'=>?_) (by simp;omega)).length_eq
 ·simp at this;omega
 ·obtain ⟨y,hy,rfl⟩:=List.mem_map.1 hx'
  have:=hx y hy
  exact List.mem_range.2 (by omega)
theorem zFG {m:Nat} (h1:1 ≤ m) (hm:m ≤ 6) {f:Nat→Bool} (hf:∀ s,s < 64→f s = true→s < 2 ^ m):zaL (m:Int) (ofN (zd9 f true)) = true:=by
 refine zos ⟨(by omega:(1:Int) ≤ (m:Int)),(by omega:(m:Int) ≤ 6),fun k hk2=>?_⟩
 rw [zad] at hk2
 have hpw:=zBB f true
 have hmem:=fun i (hi:i < (zd9 f true).length)=>zhW.1 (zaj 0 hi)
 generalize zd9 f true = ys at *
 have hbef:∀ i j,i < j→j < ys.length→zsJ (ys.getD i 0) (ys.getD j 0):=fun i j hij hj=>by
  have:=List.pairwise_iff_getElem.1 hpw i j (by omega) hj hij
  have a:ys.getD i 0 = ys[i]'(by omega):=by simp [List.getD,show i < ys.length by omega]
  have b:ys.getD j 0 = ys[j]:=by simp [List.getD,hj]
  rw [a,b];exact this
 refine ⟨?_,fun h0=>?_,fun i hi=>?_⟩
 ·have h1:=hmem k hk2
  have h2:=hf _ h1.1.1 h1.1.2
  rw [zaG hk2]
  unfold zcA
  rw [decide_eq_true_iff]
  refine ⟨by omega,by omega,by omega,?_⟩
  rw [zgI];exact_mod_cast h2
 ·rw [zaG hk2,zaG (by omega)]
  have hb:=hbef (k - 1) k (by omega) hk2
  have:=(hmem k hk2).1.1
  have:=(hmem (k - 1) (by omega)).1.1
  unfold zmQ
  unfold zsJ at hb
  rw [zc3 (by omega),zc3 (by omega)]
  simp only [Bool.and_eq_true,decide_eq_true_iff]
  refine ⟨by omega,by omega,?_⟩
  split
  ·rw [decide_eq_true_iff];omega
  ·rw [decide_eq_true_iff];omega
 ·have hlti:=(hmem i (by omega)).1.1
  have hltk:=(hmem k hk2).1
  rw [zaG hk2,zaG (by omega),zbc (by omega) (by omega)]
  intro e
  have:=zdb.1 (hmem i (by omega)).2 (ys.getD k 0) hltk.1 hltk.2 (by omega)
  have hb:=hbef i k hi hk2
  rw [this] at hb
  exact zeI hb
theorem zsr (xs:List Int) (t:Nat):inF xs t = decide ((t:Int) ∈ xs):=rfl
def zl5 (xs:List Int) (s:Nat):List Int:=(xs.filter fun x=>zfE .i64 x s == (s:Int)).map fun x=>x - s
theorem zBJ {xs:List Int} (hx:okS xs) {s:Nat} (hs:s < 64) (v:Nat):(v:Int) ∈ zl5 xs s ↔ ∃ x ∈ xs,x.toNat &&& s = s∧v = x.toNat - s:=by
 have key:∀ x ∈ xs,zfE .i64 x (s:Int) = ((x.toNat &&& s:Nat):Int):=fun x h=>by
  have:=hx x h
  rw [← zbc (by omega) (by omega)]
  congr 1;omega
 unfold zl5
 rw [List.mem_map]
 refine ⟨fun ⟨x,h1,e⟩=>?_,fun ⟨x,h1,h2,e⟩=>?_⟩
 ·obtain ⟨a,b⟩:=List.mem_filter.1 h1
  rw [beq_iff_eq,key x a] at b
  exact ⟨x,a,by omega,by have:=hx x a;omega⟩
 ·refine ⟨x,List.mem_filter.2 ⟨h1,by rw [beq_iff_eq,key x h1,h2]⟩,?_⟩
  have:=hx x h1
  have:s ≤ x.toNat:=by rw [← h2];exact Nat.and_le_left
  omega
theorem zBK {m:Nat} {xs:List Int} (h:zaL (m:Int) xs = true) {s:Nat} (hs:s < 64):zaL (m:Int) (ofN (zd9 (inF (zl5 xs s)) true)) = true:=by
 obtain ⟨h1,h6,hk⟩:=zaP.1 h
 refine zFG (by omega) (by omega) fun t ht hf=>?_
 rw [zsr,decide_eq_true_iff] at hf
 obtain ⟨x,hx,_,rfl⟩:=(zBJ (zb4 h) hs t).1 hf
 obtain ⟨i,hi,rfl⟩:=zaR 0 hx
 have:=(hk i hi).1
 unfold zcA at this
 rw [decide_eq_true_iff,zgI] at this
 omega
theorem zBL {m:Nat} {xs:List Int} (h:zaL (m:Int) xs = true) {s:Nat} (hs:s < 64) (t:Nat):zbh m (ofN (zd9 (inF (zl5 xs s)) true)) t = zbx (zag xs) s t:=by
 unfold zbh
 rw [zBK h hs,Bool.true_and,zsp]
 exact zxN (fun x hx=>by have:=zb4 h x hx;omega) hs (fun v=>zBJ (zb4 h) hs v) t
theorem zBM {P:Program} {s:St} {K:St→Prop} {f:FuncId} {args raw:List PV} {Ka:RV→Prop} {d e e2:Nat} {us:Dm s} {u:Dm K} {M:Mat} (h:AC P f args (.tb e e2 (M.map iL))) (hd:∀ i,i < M.length→(s.rw (sid d i)).ver = 0)
 (hk:∀ S:St,TabI S.rw d ((s.rw d).ver + 1) e e2 (List.range M.length) M→S.sl d = .own d ((s.rw d).ver + 1)→(∀ t,t ≠ d→S.sl t = s.sl t)→(∀ j,(j % 1000 == d % 1000) = false→S.rw j = s.rw j)→K S):ziS P f args Ka (zsO P f args raw (some d) (kk s us) (kk K u)) :=
 zCK _ h (Wk.refl _) (hk _ ⟨by
  have:=zrv (s:=s) d e e2 (M.map iL) (fun i hi=>hd i (by simpa using hi))
  rwa [List.length_map] at this,List.nodup_range⟩ (zfr d e e2 _) (fun t ht=>zdy d e e2 t _ ht) (fun j hj=>zfs d e e2 j _ hj))
theorem zom {w w':Nat→Bool} {m:Nat} (hm:m ≤ 6) (h:∀ s,s < 64→(decide (s < 2 ^ m) && w s) = w' s):zaB w (2 ^ m) = zaB w' 64 :=
 zes w' (zsj w hm) fun s hs=>by rw [zel,h s hs]
theorem zl4 (G s t:Nat) (hG:G < 18446744073709551616) (hs:s < 64) (ht:t < 64):AC Tryz.prog 191 [int t,.eref false [int s] 0,.eref false [u64 G] 0] (.im (bool (zbx G.testBit s t))):=by
 refine AC.go (rs:=[.tmp 4]) zaD mixed Tryz.func191 rfl rfl rfl (by kernel_rfl) fun hl=>?_
 have e1:zfE .i64 (t:Int) (s:Int) = ((t &&& s:Nat):Int):=zbc (by omega) (by omega)
 have e2:ior .i64 (t:Int) (s:Int) = ((t ||| s:Nat):Int):=zlE (by omega) (by omega)
 have h3:t ||| s < 64:=Nat.or_lt_two_pow (n:=6) ht hs
 simp -dsimp only [↓gp,gq,simprocAttr,gT,e1,e2]
 unfold zbx
 refine ⟨fun h=>zab (zbu G _ hG h3) ?_,fun h=>?_⟩
 ·have h:t &&& s = 0:=by simpa using h
  rw [h]
  simp -dsimp only [↓gp,gq,simprocAttr,gT]
 ·have h:(t &&& s == 0) = false:=by rw [beq_eq_false_iff_ne];intro e;simp [e] at h
  rw [h];rfl
theorem zdr (f:Nat→Bool) (s:Nat) (hs:s < 64):AC Tryz.prog 155 [u64 (zaB f 64:Nat),int s] (.im (u64 (zaB (zbx f s) 64:Nat))):=by
 refine AC.go (rs:=[.tmp 4]) zaD mixed Tryz.func155 rfl rfl rfl (by kernel_rfl) fun hl=>?_
 have hlt:=zbk f 64
 simp -dsimp only [↓gp,gq,simprocAttr,gT]
 refine zab (zdI 6 (by omega) _ [.eref false [int s] 0,.eref false [u64 (zaB f 64:Nat)] 0] (zbx (zaB f 64).testBit s) (fun rw=>rfl) fun t ht=>zl4 _ s t (by omega) hs (by omega)) ?_
 rw [zom (w':=zbx f s) (by omega) fun t ht=>by rw [decide_eq_true (show t < 2 ^ 6 by omega),Bool.true_and];exact ztI (fun u hu=>za6 f hu) hs ht]
 simp -dsimp only [↓gp,gq,simprocAttr,gT]
theorem zds (n:Int) (xs:List Int) (w:Nat) (hs:w < 64) (hx:okS xs) (hlen:xs.length ≤ 1000):AC Tryz.prog 88 [.ag [int n,zax xs],int w] (.ag [.im (int n),.fr 3 1 (iL (ofN (zd9 (inF (zl5 xs w)) true)))]):=by
 refine AC.go (rs:=[.cell 4 27]) zaD mixed Tryz.func88 rfl rfl rfl (by kernel_rfl) fun hl=>?_
 simp only [zaN,za4,and_true,zbZ,zdx,zcE,true_and] at hl
 simp -dsimp only [↓gp,gq,simprocAttr,gT]
 have hlk:zl5 xs w = zl5 (xs.take xs.length) w:=by rw [List.take_length]
 refine zah (fun (za:Nat × Nat) s=>match za with | (k,v)=>s.sl 1 = int w∧s.sl 2 = .ref 2 1 0∧s.rw 2 = ⟨1,.box 27 [int n,zax xs]⟩∧s.sl 4 = .ref 4 1 0∧s.rw 4 = ⟨1,.box 27 [int 0,.v (.slice none 0 0)]⟩∧s.sl 5 = .own 7 v∧s.rw 7 = ⟨v,.sli 3 1 false (iL (zl5 (xs.take k) w))⟩∧s.sl 6 = int k∧(k ≤ xs.length)) (fun (k,v)=>xs.length - k) ((0,1)) (by refine ⟨?_,?_,?_,?_,?_,?_,?_,?_,by simp⟩ <;> (first | (simp -dsimp only [gr,simprocAttr];first | done | rfl | (simp;done)) | assumption | rfl)) ?_
 intro (k,v) sa ⟨h1a,h2a,r2a,h4a,r4a,h5a,r7a,h6a,hIa⟩
 have hll:(zl5 (xs.take k) w).length ≤ 1000:=by
  unfold zl5
  rw [List.length_map]
  have:=List.length_filter_le (fun x=>zfE .i64 x (w:Int) == (w:Int)) (xs.take k)
  rw [List.length_take] at this
  omega
 simp -dsimp only [↓gp,gq,simprocAttr,gT,h1a,h2a,r2a,h4a,r4a,h5a,r7a,h6a]
 refine ⟨fun h=>⟨h,h,?_⟩,fun h=>?_⟩
 ·have hxk:=zsh hx h
  have hwx:IntKind.i64.wrap (xs.getD k 0 - (w:Int)) = xs.getD k 0 - (w:Int):=zai (by omega) (by omega)
  refine ⟨fun hy=>?_,fun hy=>?_⟩
  ·have e:zl5 (xs.take (k + 1)) w = zl5 (xs.take k) w ++ [xs.getD k 0 - (w:Int)]:=by
    unfold zl5
    rw [zau 0 h,List.filter_append,List.map_append,List.filter_cons,if_pos hy];rfl
   exact ⟨h,h,by omega,zac ((k + 1,v + 1)) (by refine ⟨?_,?_,?_,?_,?_,?_,?_,?_,by dsimp only;omega⟩ <;> (first | (simp -dsimp only [gr,simprocAttr,h1a,h2a,r2a,h4a,r4a,h5a,r7a,h6a,zaa h (by omega),hwx,e];first | done | rfl | (simp;done)) | assumption | rfl)) (by first | omega | (simp only;omega) | (dsimp only;omega) | (show _ < _;simp;omega))⟩
  ·have e:zl5 (xs.take (k + 1)) w = zl5 (xs.take k) w:=by
    unfold zl5
    rw [zau 0 h,List.filter_append,List.map_append,List.filter_cons,if_neg (by rw [hy];decide)];simp
   exact zac ((k + 1,v)) (by refine ⟨?_,?_,?_,?_,?_,?_,?_,?_,by dsimp only;omega⟩ <;> (first | (simp -dsimp only [gr,simprocAttr,h1a,h2a,r2a,h4a,r4a,h5a,r7a,h6a,zaa h (by omega),e];first | done | rfl | (simp;done)) | assumption | rfl)) (by first | omega | (simp only;omega) | (dsimp only;omega) | (show _ < _;simp;omega))
 ·have:k = xs.length:=by omega
  subst this
  rw [hlk]
  refine zab (zhO n _ ?_) ?_
  ·intro x hx'
   unfold zl5 at hx'
   obtain ⟨y,hy,rfl⟩:=List.mem_map.1 hx'
   obtain ⟨a,b⟩:=List.mem_filter.1 hy
   rw [List.take_length] at a
   have:=hx y a
   rw [beq_iff_eq] at b
   have h2:zfE .i64 y (w:Int) = ((y.toNat &&& w:Nat):Int):=by
    rw [← zbc (by omega) (by omega)];congr 1;omega
   have h3:y.toNat &&& w ≤ y.toNat:=Nat.and_le_left
   omega
  ·simp -dsimp only [↓gp,gq,simprocAttr,gT,h1a,h2a,r2a,h4a,r4a,h5a,r7a,h6a]
def zcL (h:List Int) (s k:Nat):List Nat:=((List.range k).filter fun j=>h.getD j 0 != 0).map (s + ·)
theorem zol (h:List Int) (s k:Nat):zcL h s (k + 1) = if (h.getD k 0 != 0) = true then zcL h s k ++ [s + k] else zcL h s k:=by
 unfold zcL
 rw [List.range_succ,List.filter_append]
 by_cases hz:(h.getD k 0 != 0) = true
 ·have e:List.filter (fun j=>h.getD j 0 != 0) [k] = [k]:=by
   show (match h.getD k 0 != 0 with | true=>[k] | false=>[]) = [k]
   rw [hz]
  rw [if_pos hz,e,List.map_append];rfl
 ·have e:List.filter (fun j=>h.getD j 0 != 0) [k] = []:=by
   show (match h.getD k 0 != 0 with | true=>[k] | false=>[]) = []
   rw [show (h.getD k 0 != 0) = false by simpa using hz]
  rw [if_neg hz,e,List.append_nil]
def zbU (f:Nat→Bool) (p:Int):Nat→List Nat
 | 0=>[]
 | i + 1=>zbU f p i ++ zcL (zdj (zbx f ((zbb f).getD i 0)) p) (zat ((zbb f).getD i 0)) (zdj (zbx f ((zbb f).getD i 0)) p).length
def zsq:List Nat→Int | []=>-1 | a :: l=>((l.foldl min a:Nat):Int)
theorem zBI (l:List Nat) (n:Nat):zsq (l ++ [n]) = if zsq l < 0 ∨ (n:Int) < zsq l then (n:Int) else zsq l:=by
 cases l with
 | nil=>rfl
 | cons a l =>
   show (((l ++ [n]).foldl min a:Nat):Int) = ite (((l.foldl min a:Nat):Int) < 0 ∨ (n:Int) < ((l.foldl min a:Nat):Int)) _ ((l.foldl min a:Nat):Int)
   rw [List.foldl_append]
   show ((min (l.foldl min a) n:Nat):Int) = _
   split <;> omega
theorem zl1 {h:List Int} {s k x:Nat}:x ∈ zcL h s k ↔ ∃ j,j < k∧h.getD j 0 ≠ 0∧x = s + j:=by
 unfold zcL
 rw [List.mem_map]
 constructor
 ·rintro ⟨j,hj,rfl⟩
  obtain ⟨a,b⟩:=List.mem_filter.1 hj
  exact ⟨j,List.mem_range.1 a,by simpa using b,rfl⟩
 ·rintro ⟨j,a,b,rfl⟩
  exact ⟨j,List.mem_filter.2 ⟨List.mem_range.2 a,by simpa using b⟩,rfl⟩
theorem zl2 {f:Nat→Bool} {p:Int} {x:Nat}:∀ {i:Nat},x ∈ zbU f p i ↔ ∃ t,t < i∧x ∈ zcL (zdj (zbx f ((zbb f).getD t 0)) p) (zat ((zbb f).getD t 0)) (zdj (zbx f ((zbb f).getD t 0)) p).length
 | 0=>by simp [zbU]
 | i + 1=>by
   rw [zbU,List.mem_append,zl2]
   constructor
   ·rintro (⟨t,a,b⟩ | h)
    ·exact ⟨t,by omega,b⟩
    ·exact ⟨i,by omega,h⟩
   ·rintro ⟨t,a,b⟩
    by_cases e:t = i
    ·subst e;exact .inr b
    ·exact .inl ⟨t,by omega,b⟩
theorem zDQ {h:List Int} {s k:Nat} (hs:s < 64) (hk:k ≤ 7):∀ x ∈ zcL h (zat s) k,x ≤ 100:=fun x hx=>by
 obtain ⟨j,a,_,rfl⟩:=zl1.1 hx
 have:=zb3 hs
 omega
theorem zGT {f:Nat→Bool} {p:Int} {i:Nat} (hi:i ≤ (zbb f).length):∀ x ∈ zbU f p i,x ≤ 100:=fun x hx=>by
 obtain ⟨t,ht,h⟩:=zl2.1 hx
 have hs:=(zaU.1 (zaj 0 (show t < (zbb f).length by omega))).1
 exact zDQ hs (by rw [zaY];exact zbj _) x h
def zmH (f:Nat→Bool) (p:Int):List Nat:=zbU f p (zbb f).length
noncomputable def zl3 (n:Int) (xs:List Int) (p:Int):Int:=if zaL n xs = true∧isP p = true then zsq (zmH (zag xs) p) else -1
theorem zDR {m:Nat} {xs:List Int} {p:Int} (h:zaL (m:Int) xs = true) {s:Nat} (hs:s < 64) (hp:isP p = true):zJ0 (zbh m (ofN (zd9 (inF (zl5 xs s)) true))) p = zdj (zbx (zag xs) s) p:=by
 unfold zJ0
 rw [if_pos hp]
 exact congrArg (fun f=>zdj f p) (funext fun t=>zBL h hs t)
theorem zgA (n:Int) (xs:List Int) (p:Int):AC Tryz.prog 32 [.ag [int n,zax xs],int p] (.im (int (zl3 n xs p))):=by
 refine AC.go (rs:=[.tmp 4]) zaD mixed Tryz.func32 rfl rfl rfl (by kernel_rfl) fun hl=>?_
 simp -dsimp only [↓gp,gq,simprocAttr,gT]
 refine zab (zcf n xs) ?_
 have hLl:=zcJ (zbh n xs)
 have hno:¬ zaL n xs = true→zbb (zbh n xs) = []:=fun h=>by
  have h:zaL n xs = false:=by simpa using h
  refine List.eq_nil_iff_forall_not_mem.2 fun s hs=>?_
  have:=(zaU.1 hs).2
  unfold zbh at this
  rw [h] at this;cases this
 have hyes:zaL n xs = true→zbh n xs = zag xs:=fun h=>by funext s;unfold zbh;rw [h,Bool.true_and]
 have hLm:=fun k (hk:k < (zbb (zbh n xs)).length)=>zaU.1 (zaj 0 hk)
 have hres:(isP p = true∧zl3 n xs p = zsq (zbU (zag xs) p (zbb (zbh n xs)).length)) ∨ zl3 n xs p = -1:=by
  by_cases hc:zaL n xs = true∧isP p = true
  ·refine .inl ⟨hc.2,?_⟩
   rw [zl3,if_pos hc,hyes hc.1];rfl
  ·exact .inr (if_neg hc)
 have hres2:isP p = false→zl3 n xs p = -1:=fun h=>if_neg fun hc=>by rw [hc.2] at h;cases h
 have hres3:¬ zaL n xs = true→zl3 n xs p = -1:=fun h=>if_neg fun hc=>h hc.1
 have hin:∀ k,k < (zbb (zbh n xs)).length→zaL n xs = true:=fun k hk=>Classical.byContradiction fun h=>by rw [hno h] at hk;simp at hk
 have hcl:zaL n xs = true→∀ i,zbU (zag xs) p (i + 1) = zbU (zag xs) p i ++ zcL (zdj (zbx (zag xs) ((zbb (zbh n xs)).getD i 0)) p) (zat ((zbb (zbh n xs)).getD i 0)) (zdj (zbx (zag xs) ((zbb (zbh n xs)).getD i 0)) p).length:=fun h i=>by
  have:zbb (zag xs) = zbb (zbh n xs):=by rw [hyes h]
  rw [← this];rfl
 have hbd:zaL n xs = true→∀ i,i ≤ (zbb (zbh n xs)).length→∀ x ∈ zbU (zag xs) p i,x ≤ 100:=fun h i hi=>by
  have:zbb (zag xs) = zbb (zbh n xs):=by rw [hyes h]
  exact zGT (by rw [this];exact hi)
 generalize hL:zbb (zbh n xs) = L at *
 have hoL:=zad L
 have hm1:int (-1) = int (zsq (zbU (zag xs) p 0)):=rfl
 simp -dsimp only [↓gp,gq,simprocAttr,gT,zad]
 refine zah (fun (i:Nat) s=>s.sl 1 = int p∧s.sl 2 = .ref 2 1 0∧s.rw 2 = ⟨1,.box 27 [int n,zax xs]⟩∧s.sl 5 = int (zsq (zbU (zag xs) p i))∧s.sl 6 = .own 12 1∧s.rw 12 = ⟨1,.sli 3 1 false (iL (ofN L))⟩∧s.sl 7 = int i∧(i ≤ L.length∧(i = 0 ∨ isP p = true))) (fun i=>L.length - i) (0) (by refine ⟨?_,?_,?_,?_,?_,?_,?_,⟨Nat.zero_le _,.inl rfl⟩⟩ <;> (first | (simp -dsimp only [gr,simprocAttr,hm1];first | done | rfl | (simp;done)) | assumption | rfl)) ?_
 intro i sa ⟨h1a,h2a,r2a,h5a,h6a,r12a,h7a,hIa⟩
 obtain ⟨hi,hpi⟩:=hIa
 simp -dsimp only [↓gp,gq,simprocAttr,gT,h1a,h2a,r2a,h5a,h6a,r12a,h7a,zad]
 refine ⟨fun hlt=>zab (zcs p) ?_,fun hlt=>?_⟩
 ·simp -dsimp only [↓gp,gq,simprocAttr,gT,h1a,h2a,r2a,h5a,h6a,r12a,h7a,zad]
  have hlt:i < L.length:=by omega
  have hcx:=hin i hlt
  obtain ⟨h1,h6,_⟩:=zaP.1 hcx
  obtain ⟨m,rfl⟩:∃ m:Nat,n = m:=⟨n.toNat,by omega⟩
  refine ⟨fun hp=>?_,fun hp=>?_⟩
  ·have hs64:=(hLm i hlt).1
   have hg:=zaG hlt
   have hhol:=zDR (p:=p) hcx hs64 hp
   have hcs:=hcl hcx i
   have hb0:=hbd hcx i (by omega)
   have hdl:=zbj (zbx (zag xs) (L.getD i 0))
   have hhl:=zaY (zbx (zag xs) (L.getD i 0)) p
   generalize hs0:L.getD i 0 = s0 at *
   have hpl:=zb3 hs64
   simp -dsimp only [↓gp,gq,simprocAttr,gT,h1a,h2a,r2a,h5a,h6a,r12a,h7a,zad,hg]
   refine ⟨by kernel_rfl,hlt,hlt,zab (zds _ xs s0 hs64 (zb4 hcx) (by have:=zdZ hcx;omega)) ?_⟩
   simp -dsimp only [↓gp,gq,simprocAttr,gT,h1a,h2a,r2a,h5a,h6a,r12a,h7a,zad,hg]
   refine zab (zfM _ _ p) ?_
   rw [hhol]
   generalize zdj (zbx (zag xs) s0) p = hs at *
   simp -dsimp only [↓gp,gq,simprocAttr,gT,h1a,h2a,r2a,h5a,h6a,r12a,h7a,zad,hg]
   have hz0:zbU (zag xs) p i = zbU (zag xs) p i ++ zcL hs (zat s0) 0:=(List.append_nil _).symm
   refine ⟨by kernel_rfl,?_⟩
   refine zah (fun (k:Nat) s=>s.sl 1 = int p∧s.sl 2 = .ref 2 1 0∧s.rw 2 = ⟨1,.box 27 [int (m:Nat),zax xs]⟩∧s.sl 5 = int (zsq (zbU (zag xs) p i ++ zcL hs (zat s0) k))∧s.sl 6 = .own 12 1∧s.rw 12 = ⟨1,.sli 3 1 false (iL (ofN L))⟩∧s.sl 7 = int i∧s.sl 8 = .own 30 ((sa.rw 30).ver + 1)∧s.rw 30 = ⟨(sa.rw 30).ver + 1,.sli 3 1 false (iL hs)⟩∧s.sl 9 = int k∧(k ≤ hs.length)) (fun k=>hs.length - k) (0) (by refine ⟨?_,?_,?_,?_,?_,?_,?_,?_,?_,?_,Nat.zero_le _⟩ <;> (first | (simp -dsimp only [gr,simprocAttr,h1a,h2a,r2a,h5a,h6a,r12a,h7a,← hz0];first | done | rfl | (simp;done)) | assumption | rfl)) ?_
   intro k sb ⟨h1b,h2b,r2b,h5b,h6b,r12b,h7b,h8b,r30b,h9b,hIb⟩
   simp -dsimp only [↓gp,gq,simprocAttr,gT,h1b,h2b,r2b,h5b,h6b,r12b,h7b,h8b,r30b,h9b,zad,hg]
   refine ⟨fun hk=>⟨hlt,hlt,zab (zaM s0 (by omega)) ?_⟩,fun hk=>?_⟩
   ·have hw:IntKind.i64.wrap ((zat s0:Int) + (k:Int)) = ((zat s0 + k:Nat):Int):=by rw [zai (by omega) (by omega)];omega
    have hks:=zol hs (zat s0) k
    have hsn:zsq (zbU (zag xs) p i ++ zcL hs (zat s0) (k + 1)) = if (hs.getD k 0 != 0) = true then (if zsq (zbU (zag xs) p i ++ zcL hs (zat s0) k) < 0 ∨ ((zat s0 + k:Nat):Int) < zsq (zbU (zag xs) p i ++ zcL hs (zat s0) k) then ((zat s0 + k:Nat):Int) else zsq (zbU (zag xs) p i ++ zcL hs (zat s0) k)) else zsq (zbU (zag xs) p i ++ zcL hs (zat s0) k):=by
     rw [hks]
     split
     ·rw [← List.append_assoc,zBI]
     ·rfl
    simp -dsimp only [↓gp,gq,simprocAttr,gT,h1b,h2b,r2b,h5b,h6b,r12b,h7b,h8b,r30b,h9b,zad,hg,hw]
    generalize zsq (zbU (zag xs) p i ++ zcL hs (zat s0) k) = A at *
    refine ⟨hk,hk,fun hz=>⟨fun ha=>⟨fun hb=>?_,fun hb=>?_⟩,fun ha=>?_⟩,fun hz=>?_⟩
    ·rw [if_pos hz,if_pos (.inr hb)] at hsn
     exact zac (k + 1) (by refine ⟨?_,?_,?_,?_,?_,?_,?_,?_,?_,?_,by omega⟩ <;> (first | (simp -dsimp only [gr,simprocAttr,h1b,h2b,r2b,h5b,h6b,r12b,h7b,h8b,r30b,h9b,hsn,zaa (show k < 8 by omega) (by omega)];first | done | rfl | (simp;done)) | assumption | rfl)) (by first | omega | (simp only;omega) | (dsimp only;omega) | (show _ < _;simp;omega))
    ·rw [if_pos hz,if_neg (fun h=>h.elim ha hb)] at hsn
     exact zac (k + 1) (by refine ⟨?_,?_,?_,?_,?_,?_,?_,?_,?_,?_,by omega⟩ <;> (first | (simp -dsimp only [gr,simprocAttr,h1b,h2b,r2b,h5b,h6b,r12b,h7b,h8b,r30b,h9b,hsn,zaa (show k < 8 by omega) (by omega)];first | done | rfl | (simp;done)) | assumption | rfl)) (by first | omega | (simp only;omega) | (dsimp only;omega) | (show _ < _;simp;omega))
    ·rw [if_pos hz,if_pos (.inl ha)] at hsn
     exact zac (k + 1) (by refine ⟨?_,?_,?_,?_,?_,?_,?_,?_,?_,?_,by omega⟩ <;> (first | (simp -dsimp only [gr,simprocAttr,h1b,h2b,r2b,h5b,h6b,r12b,h7b,h8b,r30b,h9b,hsn,zaa (show k < 8 by omega) (by omega)];first | done | rfl | (simp;done)) | assumption | rfl)) (by first | omega | (simp only;omega) | (dsimp only;omega) | (show _ < _;simp;omega))
    ·rw [if_neg (by rw [hz];decide)] at hsn
     exact zac (k + 1) (by refine ⟨?_,?_,?_,?_,?_,?_,?_,?_,?_,?_,by omega⟩ <;> (first | (simp -dsimp only [gr,simprocAttr,h1b,h2b,r2b,h5b,h6b,r12b,h7b,h8b,r30b,h9b,hsn,zaa (show k < 8 by omega) (by omega)];first | done | rfl | (simp;done)) | assumption | rfl)) (by first | omega | (simp only;omega) | (dsimp only;omega) | (show _ < _;simp;omega))
   ·have hke:k = hs.length:=by omega
    subst hke
    rw [← hcs] at h5b
    exact zac (i + 1) (by refine ⟨?_,?_,?_,?_,?_,?_,?_,⟨by omega,.inr hp⟩⟩ <;> (first | (simp -dsimp only [gr,simprocAttr,h1a,h2a,r2a,h5a,h6a,r12a,h7a,h1b,h2b,r2b,h5b,h6b,r12b,h7b,h8b,r30b,h9b,zaa hlt (by omega)];first | done | rfl | (simp;done)) | assumption | rfl)) (by first | omega | (simp only;omega) | (dsimp only;omega) | (show _ < _;simp;omega))
  ·rw [hres2 hp]
   rcases hpi with rfl | h
   ·rfl
   ·rw [h] at hp;cases hp
 ·have hil:i = L.length:=by omega
  rcases hres with ⟨_,h⟩ | h
  ·rw [h,hil]
  ·rw [h]
   by_cases hc:zaL n xs = true
   ·rcases hpi with rfl | hp
    ·rfl
    ·have hd:zl3 n xs p = zsq (zmH (zag xs) p):=if_pos ⟨hc,hp⟩
     rw [hd] at h
     have:zmH (zag xs) p = zbU (zag xs) p i:=by
      unfold zmH
      have:zbb (zag xs) = L:=by rw [← hL,hyes hc]
      rw [this,hil]
     rw [← this,h]
   ·have:L = []:=hno hc
    rw [hil,this];rfl
def zkb (b:Int) (l:List Nat):Int:=l.foldl (fun (b:Int) (x:Nat)=>min b (x:Int)) b
theorem zBG (b:Int) (l:List Nat) (n:Nat):zkb b (l ++ [n]) = min (zkb b l) (n:Int):=by unfold zkb;rw [List.foldl_append];rfl
theorem zGQ {b:Int} (hb:-1 ≤ b∧b ≤ 100):∀ l:List Nat,-1 ≤ zkb b l∧zkb b l ≤ 100:=fun l=>by
 induction l generalizing b with
 | nil=>exact hb
 | cons x l ih=>exact ih (b:=min b (x:Int)) ⟨by omega,by omega⟩
theorem zGR {b:Int}:∀ l:List Nat,zkb b l ≤ b∧∀ x ∈ l,zkb b l ≤ (x:Int):=fun l=>by
 induction l generalizing b with
 | nil=>exact ⟨Int.le_refl _,fun x hx=>by simp at hx⟩
 | cons y l ih =>
   obtain ⟨h1,h2⟩:=ih (b:=min b (y:Int))
   have e:zkb b (y :: l) = zkb (min b (y:Int)) l:=rfl
   rw [e]
   refine ⟨by omega,fun x hx=>?_⟩
   rcases List.mem_cons.1 hx with rfl | hx
   ·omega
   ·exact h2 x hx
theorem zDP {b:Int}:∀ l:List Nat,zkb b l = b ∨ ∃ x ∈ l,zkb b l = (x:Int):=fun l=>by
 induction l generalizing b with
 | nil=>exact .inl rfl
 | cons y l ih =>
   have e:zkb b (y :: l) = zkb (min b (y:Int)) l:=rfl
   rw [e]
   rcases ih (b:=min b (y:Int)) with h | ⟨x,hx,h⟩
   ·by_cases hy:b ≤ (y:Int)
    ·exact .inl (by omega)
    ·exact .inr ⟨y,by simp,by omega⟩
   ·exact .inr ⟨x,by simp [hx],h⟩
def zFF (f:Nat→Bool) (p:Int):Int:=zkb ((za8 f:Int) - 1) (zmH f p)
theorem zgz (f:Nat→Bool) (p:Int) (hp:isP p = true):AC Tryz.prog 99 [u64 (zaB f 64:Nat),int p] (.im (int (zFF f p))):=by
 refine AC.go (rs:=[.tmp 4]) zaD mixed Tryz.func99 rfl rfl rfl (by kernel_rfl) fun hl=>?_
 simp -dsimp only [↓gp,gq,simprocAttr,gT]
 refine zab (zc4 f) ?_
 simp -dsimp only [↓gp,gq,simprocAttr,gT]
 have hmd:=zbk f 64
 have eord:zbb (zaB f 64).testBit = zbb f:=zf4 fun s hs=>za6 _ hs
 have hSI:=zeN (zaB f 64) (by omega)
 rw [eord] at hSI
 refine zab hSI ?_
 have hLl:=zcJ f
 have hLm:=fun k (hk:k < (zbb f).length)=>zaU.1 (zaj 0 hk)
 have hres:zFF f p = zkb ((za8 f:Int) - 1) (zbU f p (zbb f).length):=rfl
 have hcl:∀ i,zbU f p (i + 1) = zbU f p i ++ zcL (zdj (zbx f ((zbb f).getD i 0)) p) (zat ((zbb f).getD i 0)) (zdj (zbx f ((zbb f).getD i 0)) p).length:=fun i=>rfl
 generalize hL:zbb f = L at *
 have hoL:=zad L
 have hdm:=zbj f
 have hm0:int ((za8 f:Int) - 1) = int (zkb ((za8 f:Int) - 1) (zbU f p 0)):=rfl
 simp -dsimp only [↓gp,gq,simprocAttr,gT,zad]
 refine zah (fun (i:Nat) s=>s.sl 0 = u64 (zaB f 64:Nat)∧s.sl 1 = int p∧s.sl 5 = int (zkb ((za8 f:Int) - 1) (zbU f p i))∧s.sl 13 = .own 13 1∧s.rw 13 = ⟨1,.sli 3 1 false (iL (ofN L))⟩∧s.sl 14 = int L.length∧s.sl 15 = int i∧(i ≤ L.length)) (fun i=>L.length - i) (0) (by refine ⟨?_,?_,?_,?_,?_,?_,?_,Nat.zero_le _⟩ <;> (first | (simp -dsimp only [gr,simprocAttr,hm0];first | done | rfl | (simp;done)) | assumption | rfl)) ?_
 intro i sa ⟨h0a,h1a,h5a,h13a,r13a,h14a,h15a,hIa⟩
 simp -dsimp only [↓gp,gq,simprocAttr,gT,h0a,h1a,h5a,h13a,r13a,h14a,h15a,zad]
 refine ⟨fun hlt=>?_,fun hlt=>?_⟩
 ·have hlt:i < L.length:=by omega
  have hs64:=(hLm i hlt).1
  have hg:=zaG hlt
  have hcs:=hcl i
  have hdl:=zbj (zbx f (L.getD i 0))
  have hhl:=zaY (zbx f (L.getD i 0)) p
  generalize hs0:L.getD i 0 = s0 at *
  have hpl:=zb3 hs64
  have hzz:=zc3 hs64
  simp -dsimp only [↓gp,gq,simprocAttr,gT,h0a,h1a,h5a,h13a,r13a,h14a,h15a,zad,hg]
  refine ⟨hlt,hlt,zab (zdr _ s0 hs64) ?_⟩
  simp -dsimp only [↓gp,gq,simprocAttr,gT,h0a,h1a,h5a,h13a,r13a,h14a,h15a,zad,hg]
  refine zab (zgv _ p hp) ?_
  generalize zdj (zbx f s0) p = hs at *
  simp -dsimp only [↓gp,gq,simprocAttr,gT,h0a,h1a,h5a,h13a,r13a,h14a,h15a,zad,hg]
  have hz0:zbU f p i = zbU f p i ++ zcL hs (zat s0) 0:=(List.append_nil _).symm
  refine zah (fun (k:Nat) s=>s.sl 0 = u64 (zaB f 64:Nat)∧s.sl 1 = int p∧s.sl 5 = int (zkb ((za8 f:Int) - 1) (zbU f p i ++ zcL hs (zat s0) k))∧s.sl 7 = int s0∧s.sl 13 = .own 13 1∧s.rw 13 = ⟨1,.sli 3 1 false (iL (ofN L))⟩∧s.sl 14 = int L.length∧s.sl 15 = int i∧s.sl 23 = .own 23 ((sa.rw 23).ver + 1)∧s.rw 23 = ⟨(sa.rw 23).ver + 1,.sli 3 1 false (iL hs)⟩∧s.sl 24 = int hs.length∧s.sl 25 = int k∧(k ≤ hs.length)) (fun k=>hs.length - k) (0) (by refine ⟨?_,?_,?_,?_,?_,?_,?_,?_,?_,?_,?_,?_,Nat.zero_le _⟩ <;> (first | (simp -dsimp only [gr,simprocAttr,h0a,h1a,h5a,h13a,r13a,h14a,h15a,← hz0];first | done | rfl | (simp;done)) | assumption | rfl)) ?_
  intro k sb ⟨h0b,h1b,h5b,h7b,h13b,r13b,h14b,h15b,h23b,r23b,h24b,h25b,hIb⟩
  simp -dsimp only [↓gp,gq,simprocAttr,gT,h0b,h1b,h5b,h7b,h13b,r13b,h14b,h15b,h23b,r23b,h24b,h25b,zad,hg]
  have hks:=zol hs (zat s0) k
  have hbd:=zGQ (b:=(za8 f:Int) - 1) (by omega) (zbU f p i ++ zcL hs (zat s0) k)
  have hsn:zkb ((za8 f:Int) - 1) (zbU f p i ++ zcL hs (zat s0) (k + 1)) = if (hs.getD k 0 != 0) = true then min (zkb ((za8 f:Int) - 1) (zbU f p i ++ zcL hs (zat s0) k)) ((zat s0 + k:Nat):Int) else zkb ((za8 f:Int) - 1) (zbU f p i ++ zcL hs (zat s0) k):=by
   rw [hks]
   split
   ·rw [← List.append_assoc,zBG]
   ·rfl
  refine ⟨fun hk=>⟨hk,hk,fun hz=>zab (zaA _) ?_,fun hz=>?_⟩,fun hk=>?_⟩
  ·have hw:IntKind.i64.wrap ((zat s0:Int) + (k:Int)) = ((zat s0 + k:Nat):Int):=by rw [zai (by omega) (by omega)];omega
   rw [if_pos hz] at hsn
   simp -dsimp only [↓gp,gq,simprocAttr,gT,h0b,h1b,h5b,h7b,h13b,r13b,h14b,h15b,h23b,r23b,h24b,h25b,zad,hg,hzz,hw]
   have em:(if ((zat s0 + k:Nat):Int) < zkb ((za8 f:Int) - 1) (zbU f p i ++ zcL hs (zat s0) k) then ((zat s0 + k:Nat):Int) else zkb ((za8 f:Int) - 1) (zbU f p i ++ zcL hs (zat s0) k)) = min (zkb ((za8 f:Int) - 1) (zbU f p i ++ zcL hs (zat s0) k)) ((zat s0 + k:Nat):Int):=by split <;> omega
   rw [← em] at hsn
   exact zac (k + 1) (by refine ⟨?_,?_,?_,?_,?_,?_,?_,?_,?_,?_,?_,?_,by omega⟩ <;> (first | (simp -dsimp only [gr,simprocAttr,h0b,h1b,h5b,h7b,h13b,r13b,h14b,h15b,h23b,r23b,h24b,h25b,hsn,zaa (show k < 8 by omega) (by omega)];first | done | rfl | (simp;done)) | assumption | rfl)) (by first | omega | (simp only;omega) | (dsimp only;omega) | (show _ < _;simp;omega))
  ·rw [if_neg (by rw [hz];decide)] at hsn
   exact zac (k + 1) (by refine ⟨?_,?_,?_,?_,?_,?_,?_,?_,?_,?_,?_,?_,by omega⟩ <;> (first | (simp -dsimp only [gr,simprocAttr,h0b,h1b,h5b,h7b,h13b,r13b,h14b,h15b,h23b,r23b,h24b,h25b,hsn,zaa (show k < 8 by omega) (by omega)];first | done | rfl | (simp;done)) | assumption | rfl)) (by first | omega | (simp only;omega) | (dsimp only;omega) | (show _ < _;simp;omega))
  ·have hke:k = hs.length:=by omega
   subst hke
   rw [← hcs] at h5b
   exact zac (i + 1) (by refine ⟨?_,?_,?_,?_,?_,?_,?_,by omega⟩ <;> (first | (simp -dsimp only [gr,simprocAttr,h0a,h1a,h5a,h13a,r13a,h14a,h15a,h0b,h1b,h5b,h7b,h13b,r13b,h14b,h15b,h23b,r23b,h24b,h25b,zaa hlt (by omega)];first | done | rfl | (simp;done)) | assumption | rfl)) (by first | omega | (simp only;omega) | (dsimp only;omega) | (show _ < _;simp;omega))
 ·have hil:i = L.length:=by omega
  rw [hres,hil]
theorem zBH (a:Nat) (l:List Nat):(∀ x ∈ a :: l,l.foldl min a ≤ x)∧l.foldl min a ∈ a :: l:=by
 induction l generalizing a with
 | nil=>exact ⟨fun x hx=>by rw [List.mem_singleton.1 hx];exact Nat.le_refl _,by simp⟩
 | cons y l ih =>
   obtain ⟨h1,h2⟩:=ih (min a y)
   have e:(y :: l).foldl min a = l.foldl min (min a y):=rfl
   rw [e]
   refine ⟨fun x hx=>?_,?_⟩
   ·have h0:=h1 (min a y) (by simp)
    rcases List.mem_cons.1 hx with rfl | hx
    ·omega
    ·rcases List.mem_cons.1 hx with rfl | hx
     ·omega
     ·exact h1 x (by simp [hx])
   ·rcases List.mem_cons.1 h2 with h | h
    ·rw [h]
     rcases Nat.le_total a y with q | q
     ·rw [Nat.min_eq_left q];simp
     ·rw [Nat.min_eq_right q];simp
    ·simp [h]
section
variable {f:Nat→Bool} {m q:Nat} [NeZero q]
theorem zwz (hp:isP (q:Int) = true) (hf:ztN f) (hm:m ≤ 6) (hs:∀ t,t < 64→f t = true→t < 2 ^ m) {x:Nat}:x ∈ zmH f q ↔ ∃ F k,F < 2 ^ m∧f F = true∧¬ Ac q (zbx f F) k∧zat F + k = x:=by
 have h64:=zcx hm
 have hz:∀ F k,(zdj (zbx f F) q).getD k 0 ≠ 0 ↔ ¬ Ac q (zbx f F) k:=fun F k=>by
  rw [zGX,Ne,(ztL (p:=q) hp (zon hf F) k).2]
 unfold zmH
 rw [zl2]
 constructor
 ·rintro ⟨t,ht,h⟩
  obtain ⟨j,a,b,rfl⟩:=zl1.1 h
  obtain ⟨h1,h2⟩:=zaU.1 (zaj 0 ht)
  exact ⟨_,j,hs _ h1 h2,h2,(hz _ _).1 b,rfl⟩
 ·rintro ⟨F,k,a,b,c,rfl⟩
  obtain ⟨t,ht,e⟩:=zaR 0 (zaU.2 ⟨Nat.lt_of_lt_of_le a h64,b⟩)
  refine ⟨t,ht,?_⟩
  rw [e]
  refine zl1.2 ⟨k,Nat.lt_of_not_le fun hle=>c (zKb (by rw [zaY] at hle;exact hle)),(hz _ _).2 c,rfl⟩
theorem zGS (hp:isP (q:Int) = true) (hf:ztN f) (h0:f 0 = true) (hm:m ≤ 6) (hs:∀ t,t < 64→f t = true→t < 2 ^ m):∃ d:Nat,zJ3 q f m d∧zsq (zmH f q) = d∧zFF f q = d∧(d:Int) ≤ (za8 f:Int) - 1:=by
 have h64:=zcx hm
 have hdp:0 < za8 f:=by
  have:=zeP 64 0 (by decide) h0
  unfold za8;omega
 obtain ⟨T,hT64,hfT,hTd⟩:=zlV (f:=f) 64 hdp
 have hTd:zat T + 1 = za8 f:=hTd
 have htop:∀ s,s < 64→f s = true→zat s ≤ zat T:=fun s h1 h2=>by
  have:=zeP 64 s h1 h2
  have hd:za8 f = zjg f 64:=rfl
  omega
 have hTm:zat T ∈ zmH f q:=(zwz hp hf hm hs).2 ⟨T,0,hs T hT64 hfT,hfT,zBN hp hf hT64 hfT (zGV hT64 htop),rfl⟩
 cases hc:zmH f q with
 | nil=>rw [hc] at hTm;simp at hTm
 | cons a l =>
   obtain ⟨h1,h2⟩:=zBH a l
   have hci:=fun x=>zwz (x:=x) hp hf hm hs
   rw [hc] at hTm hci
   refine ⟨l.foldl min a,⟨?_,ztJ hf fun F hF hfF k hk=>?_⟩,rfl,?_,?_⟩
   ·exact (hci _).1 h2
   ·refine Classical.byContradiction fun hac=>?_
    have:=h1 _ ((hci _).2 ⟨F,k,hF,hfF,hac,rfl⟩)
    omega
   ·unfold zFF
    rw [hc]
    have e:(za8 f:Int) - 1 = ((zat T:Nat):Int):=by omega
    rw [e]
    obtain ⟨g1,g2⟩:=zGR (b:=((zat T:Nat):Int)) (a :: l)
    have g3:=g2 _ h2
    rcases zDP (b:=((zat T:Nat):Int)) (a :: l) with g | ⟨x,hx,g⟩
    ·have:=h1 _ hTm;omega
    ·have:=h1 x hx;omega
   ·have:=h1 _ hTm;omega
end
theorem zfa (n k:Nat) (hn:n ≤ 57) (hk:k ≤ n):AC Tryz.prog 187 [int n,int k] (.im (int (bin n k:Nat))):=by
 refine AC.go (rs:=[.tmp 4]) zaD mixed Tryz.func187 rfl rfl rfl (by kernel_rfl) fun hl=>?_
 have h1:decide ((k:Int) < 0) = false:=decide_eq_false (by omega)
 simp -dsimp only [↓gp,gq,simprocAttr,gT,h1]
 refine ⟨fun h=>by omega,fun _=>?_⟩
 refine zah (fun (i:Nat) s=>s.sl 0 = int n∧s.sl 1 = int k∧s.sl 5 = int (bin n i:Nat)∧s.sl 6 = int i∧(i ≤ k)) (fun i=>k - i) (0) (by refine ⟨?_,?_,?_,?_,by omega⟩ <;> (first | (simp -dsimp only [gr,simprocAttr,zdp];first | done | rfl | (simp;done)) | assumption | rfl)) ?_
 intro i sa ⟨h0a,h1a,h5a,h6a,hIa⟩
 simp -dsimp only [↓gp,gq,simprocAttr,gT,h0a,h1a,h5a,h6a]
 refine ⟨fun h=>?_,fun h=>?_⟩
 ·rw [zaa h (by omega)]
  refine ⟨by omega,?_⟩
  exact zac (i + 1) (by refine ⟨?_,?_,?_,?_,by omega⟩ <;> (first | (simp -dsimp only [gr,simprocAttr,h0a,h1a,h5a,h6a,zaa h (by omega),zFo (i:=i) hn (by omega),zFp (i:=i) hn (by omega),zFq (i:=i) hn];first | done | rfl | (simp;done)) | assumption | rfl)) (by first | omega | (simp only;omega) | (dsimp only;omega) | (show _ < _;simp;omega))
 ·have:i = k:=by omega
  subst this;rfl
def zcK (n k:Int):Int:=if 0 ≤ n∧0 ≤ k∧k ≤ n then (bin n.toNat k.toNat:Nat) else 0
theorem zpu (n k:Int) (hn:n ≤ 57):AC Tryz.prog 84 [int n,int k] (.im (int (zcK n k))):=by
 refine AC.go (rs:=[.tmp 4]) zaD mixed Tryz.func84 rfl rfl rfl (by kernel_rfl) fun hl=>?_
 simp -dsimp only [↓gp,gq,simprocAttr,gT]
 refine zab (zbY _ _ _) ?_
 simp -dsimp only [↓gp,gq,simprocAttr,gT]
 refine ⟨fun h=>zab (zbY _ _ _) ?_,fun h=>?_⟩
 ·simp -dsimp only [↓gp,gq,simprocAttr,gT]
  refine ⟨fun h2=>?_,fun h2=>?_⟩
  ·unfold zcK
   rw [if_neg (by simp at h2;omega)]
  ·have h1:0 ≤ n:=by simp at h;omega
   have h3:0 ≤ k∧k ≤ n:=by simp at h2;omega
   obtain ⟨n,rfl⟩:=Int.eq_ofNat_of_zero_le h1
   obtain ⟨k,rfl⟩:=Int.eq_ofNat_of_zero_le h3.1
   have hn:n ≤ 57:=by omega
   have hk:k ≤ n:=by omega
   refine zah (fun (i:Nat) s=>s.sl 0 = int n∧s.sl 1 = int k∧s.sl 5 = int (bin n i:Nat)∧s.sl 6 = int i∧(i ≤ k)) (fun i=>k - i) (0) (by refine ⟨?_,?_,?_,?_,by omega⟩ <;> (first | (simp -dsimp only [gr,simprocAttr,zdp];first | done | rfl | (simp;done)) | assumption | rfl)) ?_
   intro i sa ⟨h0a,h1a,h5a,h6a,hIa⟩
   simp -dsimp only [↓gp,gq,simprocAttr,gT,h0a,h1a,h5a,h6a]
   refine ⟨fun h=>?_,fun h=>?_⟩
   ·rw [zaa h (by omega)]
    refine ⟨by omega,?_⟩
    exact zac (i + 1) (by refine ⟨?_,?_,?_,?_,by omega⟩ <;> (first | (simp -dsimp only [gr,simprocAttr,h0a,h1a,h5a,h6a,zaa h (by omega),zFo (i:=i) hn (by omega),zFp (i:=i) hn (by omega),zFq (i:=i) hn];first | done | rfl | (simp;done)) | assumption | rfl)) (by first | omega | (simp only;omega) | (dsimp only;omega) | (show _ < _;simp;omega))
   ·have:i = k:=by omega
    subst this
    unfold zcK
    rw [if_pos ⟨by omega,by omega,by omega⟩]
    simp
 ·unfold zcK
  rw [if_neg (by simp at h;omega)]
theorem zpv (n k:Int) (hn:n ≤ 57):AC Tryz.prog 151 [int n,int k] (.im (int (zcK n k))):=by
 refine AC.go (rs:=[.tmp 4]) zaD mixed Tryz.func151 rfl rfl rfl (by kernel_rfl) fun hl=>?_
 simp -dsimp only [↓gp,gq,simprocAttr,gT]
 refine ⟨fun h1=>⟨fun _=>⟨fun h2=>⟨fun h3=>by unfold zcK;rw [if_neg (by omega)],fun h3=>?_⟩,fun h2=>by unfold zcK;rw [if_neg (by omega)]⟩,fun h=>by omega⟩,fun h1=>by unfold zcK;rw [if_neg (by omega)]⟩
 obtain ⟨n,rfl⟩:=Int.eq_ofNat_of_zero_le (show 0 ≤ n by omega)
 obtain ⟨k,rfl⟩:=Int.eq_ofNat_of_zero_le (show 0 ≤ k by omega)
 have hw:IntKind.i64.wrap ((n:Int) - (k:Int)) = ((n - k:Nat):Int):=by rw [zai (by omega) (by omega)];omega
 have e:zcK n k = (bin n k:Nat):=by unfold zcK;rw [if_pos ⟨by omega,by omega,by omega⟩];simp
 rw [hw,e]
 refine ⟨fun _=>zab (zfa n (n - k) (by omega) (by omega)) ?_,fun _=>zab (zfa n k (by omega) (by omega)) ?_⟩
 ·simp -dsimp only [↓gp,gq,simprocAttr,gT]
  rw [zGu n k (by omega)]
 ·simp -dsimp only [↓gp,gq,simprocAttr,gT]
noncomputable def lnC (xs:List Int) (q:Nat):Int:=((zaQ (zag xs) q 64).length:Int)
theorem zxQ (xs:List Int) (q:Nat):0 ≤ lnC xs q∧lnC xs q ≤ 64:=by
 have:=zbA (zag xs) q (Nat.le_refl 64)
 unfold lnC;omega
theorem zji (b:Bool):AC Tryz.prog 182 [bool b] (.im (int (if b = true then 1 else 0))):=by
 refine AC.go (rs:=[.tmp 2]) zaD mixed Tryz.func182 rfl rfl rfl (by kernel_rfl) fun hl=>?_
 simp -dsimp only [↓gp,gq,simprocAttr,gT]
 exact ⟨fun h=>by rw [if_pos h],fun h=>by rw [if_neg (by rw [h];decide)]⟩
theorem zHd {p:Int} (h:isP p = true):∃ q:Nat,p = q∧q ≠ 0:=by
 unfold isP at h
 simp only [Bool.or_eq_true,beq_iff_eq] at h
 rcases h with (rfl | rfl) | rfl
 ·exact ⟨2,rfl,by decide⟩
 ·exact ⟨3,rfl,by decide⟩
 ·exact ⟨5,rfl,by decide⟩
theorem zke {n:Int} {xs:List Int} (h:zjf n xs = true):∃ m:Nat,n = m∧1 ≤ m∧m ≤ 6∧ztN (zag xs)∧zag xs 0 = true∧∀ s,s < 64→zag xs s = true→s < 2 ^ m:=by
 obtain ⟨hcx,hpos⟩:=zbz.1 h
 obtain ⟨h1,h6,h3⟩:=zaP.1 hcx
 obtain ⟨m,rfl⟩:∃ m:Nat,n = m:=⟨n.toNat,by omega⟩
 refine ⟨m,rfl,by omega,by omega,fun s t hs ht=>ziD hs ht,?_,fun s hs hf=>?_⟩
 ·cases xs with
  | nil=>simp at hpos
  | cons x l=>exact zcg.2 ⟨x,by simp,by simp⟩
 ·obtain ⟨x,hx,e⟩:=zcg.1 hf
  obtain ⟨i,hi,rfl⟩:=zaR 0 hx
  obtain ⟨m2,t,e1,e2,h2,h3⟩:=zyb (h3 i hi).1
  have:m = m2:=by omega
  subst this
  rw [e2,Int.toNat_natCast] at e
  have:=Nat.and_le_left (n:=t) (m:=s)
  omega
def zKJ (f:Nat→Bool) (p:Int):Bool:=decide (zaB f 64 ≠ 0) && decide (zFF f p = (za8 f:Int) - 1)
theorem zh0 (f:Nat→Bool) (p:Int) (hp:isP p = true):AC Tryz.prog 130 [u64 (zaB f 64:Nat),int p] (.im (bool (zKJ f p))):=by
 refine AC.go (rs:=[.tmp 4]) zaD mixed Tryz.func130 rfl rfl rfl (by kernel_rfl) fun hl=>?_
 simp -dsimp only [↓gp,gq,simprocAttr,gT]
 unfold zKJ
 refine ⟨fun h=>zab (zgz f p hp) ?_,fun h=>?_⟩
 ·simp -dsimp only [↓gp,gq,simprocAttr,gT]
  refine zab (zc4 f) ?_
  simp -dsimp only [↓gp,gq,simprocAttr,gT]
  have h:zaB f 64 ≠ 0:=fun e=>by rw [e] at h;cases h
  rw [decide_eq_true h]
  rfl
 ·have h:zaB f 64 = 0:=by
   have:((zaB f 64:Nat):Int) = 0:=by simpa using h
   omega
  rw [h];rfl
theorem zmG (n:Int) (xs:List Int) (p:Int):AC Tryz.prog 42 [.ag [int n,zax xs],int p] (.im (int (if zjf n xs = true∧isP p = true then zFF (zag xs) p else -1))):=by
 refine AC.go (rs:=[.tmp 4]) zaD mixed Tryz.func42 rfl rfl rfl (by kernel_rfl) fun hl=>?_
 simp -dsimp only [↓gp,gq,simprocAttr,gT]
 refine zab (zaq n xs) ?_
 simp -dsimp only [↓gp,gq,simprocAttr,gT]
 refine ⟨fun hc=>⟨fun h0=>zab (zbR p) ?_,fun h0=>?_⟩,fun hc=>?_⟩
 ·have hcx:zaL n xs = true:=by simpa using hc
  have hh:zjf n xs = true:=zbz.2 ⟨hcx,by simp at h0;exact List.length_pos_iff.2 h0⟩
  simp -dsimp only [↓gp,gq,simprocAttr,gT]
  refine ⟨fun hp=>?_,fun hp=>?_⟩
  ·rw [if_neg (fun h=>by rw [h.2] at hp;cases hp)]
  ·have hp:isP p = true:=by simpa using hp
   refine zab (zaW n xs (zb4 hcx)) ?_
   simp -dsimp only [↓gp,gq,simprocAttr,gT]
   refine zab (zgz _ p hp) ?_
   rw [if_pos ⟨hh,hp⟩]
   simp -dsimp only [↓gp,gq,simprocAttr,gT]
 ·rw [if_neg (fun h=>by have:=(zbz.1 h.1).2;simp at h0;simp [h0] at this)]
 ·rw [if_neg (fun h=>by have:=(zbz.1 h.1).1;rw [this] at hc;cases hc)]
noncomputable def cmO (n:Int) (xs:List Int) (p:Int):Bool:=zaL n xs && (isP p && zKJ (zag xs) p)
theorem zfk (n:Int) (xs:List Int) (p:Int):AC Tryz.prog 67 [.ag [int n,zax xs],int p] (.im (bool (cmO n xs p))):=by
 refine AC.go (rs:=[.tmp 4]) zaD mixed Tryz.func67 rfl rfl rfl (by kernel_rfl) fun hl=>?_
 simp -dsimp only [↓gp,gq,simprocAttr,gT]
 refine zab (zaq n xs) ?_
 simp -dsimp only [↓gp,gq,simprocAttr,gT]
 unfold cmO
 refine ⟨fun hc=>zab (zbR p) ?_,fun hc=>?_⟩
 ·simp -dsimp only [↓gp,gq,simprocAttr,gT]
  rw [hc]
  refine ⟨fun hp=>?_,fun hp=>?_⟩
  ·refine zab (zaW n xs (zb4 hc)) ?_
   simp -dsimp only [↓gp,gq,simprocAttr,gT]
   refine zab (zh0 _ p hp) ?_
   rw [hp]
   simp -dsimp only [↓gp,gq,simprocAttr,gT]
  ·rw [hp];rfl
 ·rw [hc];rfl
theorem zGP (n:Int) (xs:List Int):-2 ≤ zdi n xs∧zdi n xs ≤ 100000000:=by
 unfold zdi
 split
 ·rename_i h
  obtain ⟨hcx,hpos⟩:=zbz.1 h
  have:=zb4 hcx _ (zaj 0 (show xs.length - 1 < xs.length by omega))
  have:=zb3 (s:=(xs.getD (xs.length - 1) 0).toNat) (by omega)
  omega
 ·omega
theorem zDN {n:Int} {xs:List Int} (h:zaL n xs = true):∀ x ∈ xs,zat x.toNat ≤ zat (xs.getD (xs.length - 1) 0).toNat:=fun x hx=>by
 obtain ⟨_,_,h3⟩:=zaP.1 h
 have hok:=zb4 h
 have hle:∀ j,j < xs.length→∀ i,i ≤ j→zat (xs.getD i 0).toNat ≤ zat (xs.getD j 0).toNat:=by
  intro j
  induction j with
  | zero=>intro _ i hi;rw [show i = 0 by omega];exact Nat.le_refl _
  | succ j ih =>
    intro hj i hi
    have h1:=(h3 (j + 1) hj).2.1 (by omega)
    rw [Nat.add_sub_cancel] at h1
    have q1:=hok _ (zaj 0 hj)
    have q2:=hok _ (zaj 0 (show j < xs.length by omega))
    unfold zmQ at h1
    rw [zc1 q1,zc1 q2] at h1
    simp only [Bool.and_eq_true,decide_eq_true_eq] at h1
    have hs:zat (xs.getD j 0).toNat ≤ zat (xs.getD (j + 1) 0).toNat:=by
     have h2:=h1.2.2
     split at h2
     ·omega
     ·have:=of_decide_eq_true h2;omega
    by_cases e:i = j + 1
    ·rw [e];exact Nat.le_refl _
    ·exact Nat.le_trans (ih (by omega) i (by omega)) hs
 obtain ⟨i,hi,rfl⟩:=zaR 0 hx
 exact hle (xs.length - 1) (by omega) i (by omega)
theorem zlZ {n:Int} {xs:List Int} (h:zjf n xs = true):zdi n xs + 1 = (za8 (zag xs):Int) - 1:=by
 obtain ⟨hcx,hpos⟩:=zbz.1 h
 have hok:=zb4 hcx
 have e:zdi n xs = (zat (xs.getD (xs.length - 1) 0).toNat:Int) - 1:=if_pos h
 have hl:=zaj 0 (show xs.length - 1 < xs.length by omega)
 have hlast:=hok _ hl
 have hf:zag xs (xs.getD (xs.length - 1) 0).toNat = true:=zcg.2 ⟨_,hl,Nat.and_self _⟩
 have h1:=zeP 64 _ (by omega) hf
 have hdn:za8 (zag xs) = zjg (zag xs) 64:=rfl
 obtain ⟨T,a,b,c⟩:=zlV (f:=zag xs) 64 (by omega)
 obtain ⟨x,hx,hxT⟩:=zcg.1 b
 have h2:=zDN hcx x hx
 have h3:=zDT (s:=x.toNat) (t:=T) (by have:=hok x hx;omega) hxT
 omega
theorem zl0 {n:Int} {xs:List Int} (h:zaL n xs = true) (h2:¬ zjf n xs = true):xs = []:=by
 cases xs with
 | nil=>rfl
 | cons a l=>exact absurd (zbz.2 ⟨h,by simp⟩) h2
theorem ztH {n:Int} {xs:List Int} {p:Int} (h:zjf n xs = true) (hp:isP p = true):∃ (m q d:Nat) (_:NeZero q),n = m∧p = q∧1 ≤ m∧m ≤ 6∧zJ3 q (zag xs) m d∧zl3 n xs p = d∧zFF (zag xs) p = d∧(d:Int) ≤ (za8 (zag xs):Int) - 1:=by
 obtain ⟨m,rfl,h1,h6,hd,h0,hs⟩:=zke h
 obtain ⟨q,rfl,hq⟩:=zHd hp
 haveI:NeZero q:=⟨hq⟩
 obtain ⟨d,a,b,c,e⟩:=zGS (m:=m) hp hd h0 h6 hs
 exact ⟨m,q,d,inferInstance,rfl,rfl,h1,h6,a,by rw [zl3,if_pos ⟨(zbz.1 h).1,hp⟩];exact b,c,e⟩
theorem zDO {xs:List Int} (h:zag xs 0 = true):zaB (zag xs) 64 ≠ 0:=fun e=>by
 have:=za6 (zag xs) (s:=0) (by decide)
 rw [e,h,Nat.zero_testBit] at this;cases this
theorem zLb (n:Int) (xs:List Int) (p:Int):(decide (0 ≤ zl3 n xs p) && decide (zl3 n xs p = zdi n xs + 1)) = cmO n xs p:=by
 unfold cmO
 by_cases hp:isP p = true
 ·by_cases h:zjf n xs = true
  ·obtain ⟨m,q,d,_,rfl,rfl,h1,h6,hd,e1,e2,e3⟩:=ztH h hp
   have h0:=(zke h).choose_spec.2.2.2.2.1
   unfold zKJ
   rw [(zbz.1 h).1,hp,e1,e2,zlZ h,decide_eq_true (zDO h0),decide_eq_true (by omega)]
   rfl
  ·cases hc:zaL n xs with
   | false =>
     have:zl3 n xs p = -1:=if_neg fun h=>by rw [h.1] at hc;cases hc
     rw [this];rfl
   | true =>
     have hx:=zl0 hc h
     subst hx
     have e1:zl3 n [] p = -1:=by rw [zl3,if_pos ⟨hc,hp⟩];rfl
     rw [e1,hp];rfl
 ·have:zl3 n xs p = -1:=if_neg fun h=>hp h.2
  rw [this,show isP p = false by simpa using hp];simp
theorem zfl (n:Int) (xs:List Int) (p:Int):AC Tryz.prog 75 [.ag [int n,zax xs],int p] (.im (bool (cmO n xs p))):=by
 refine AC.go (rs:=[.tmp 4]) zaD mixed Tryz.func75 rfl rfl rfl (by kernel_rfl) fun hl=>?_
 simp -dsimp only [↓gp,gq,simprocAttr,gT]
 refine zab (zgA n xs p) ?_
 simp -dsimp only [↓gp,gq,simprocAttr,gT]
 rw [← zLb]
 have hb:=zGP n xs
 have hw:IntKind.i64.wrap (zdi n xs + 1) = zdi n xs + 1:=zai (by omega) (by omega)
 refine ⟨fun h=>zab (zbH n xs) ?_,fun h=>?_⟩
 ·simp -dsimp only [↓gp,gq,simprocAttr,gT,hw]
  rw [decide_eq_true h]
  rfl
 ·rw [decide_eq_false h];rfl
end Go.Proofs.YtkledeboboplmaaGreatDoor

/- DERIVED by an AI agent. -/
import Derived.Test.YtpnknaaehcljoaaQ4
import Derived.Test.YtpnknaaehcljoaaQ1
import Derived.Test.YtpnknaaehcljoaaP1
import Derived.Test.YtpnknaaehcljoaaA13
import Derived.Test.YtpnknaaehcljoaaQ3
import Derived.Test.YtpnknaaehcljoaaQ2
namespace Go.Proofs.Ytpnknaaehcljoaa
open Go.Abs
open Nat (reduceEqDiff reduceMod reduceAdd reduceLT reduceLeDiff reduceSub reduceMul)
set_option linter.unusedSimpArgs false
set_option linter.unusedVariables false
def zig (b:Int) (l:List Nat):Int:=l.foldl (fun (b:Int) (x:Nat)=>min b (x:Int)) b
theorem zv0 (b:Int) (l:List Nat) (n:Nat):zig b (l ++ [n]) = min (zig b l) (n:Int):=by unfold zig;rw [List.foldl_append];rfl
theorem zCA {b:Int} (hb:-1 ≤ b∧b ≤ 100):∀ l:List Nat,-1 ≤ zig b l∧zig b l ≤ 100:=fun l=>by
 induction l generalizing b with
 | nil=>exact hb
 | cons x l ih=>exact ih (b:=min b (x:Int)) ⟨by omega,by omega⟩
theorem zCB {b:Int}:∀ l:List Nat,zig b l ≤ b∧∀ x ∈ l,zig b l ≤ (x:Int):=fun l=>by
 induction l generalizing b with
 | nil=>exact ⟨Int.le_refl _,fun x hx=>by simp at hx⟩
 | cons y l ih =>
   obtain ⟨h1,h2⟩:=ih (b:=min b (y:Int))
   have e:zig b (y :: l) = zig (min b (y:Int)) l:=rfl
   rw [e]
   refine ⟨by omega,fun x hx=>?_⟩
   rcases List.mem_cons.1 hx with rfl | hx
   ·omega
   ·exact h2 x hx
theorem zzR {b:Int}:∀ l:List Nat,zig b l = b ∨ ∃ x ∈ l,zig b l = (x:Int):=fun l=>by
 induction l generalizing b with
 | nil=>exact .inl rfl
 | cons y l ih =>
   have e:zig b (y :: l) = zig (min b (y:Int)) l:=rfl
   rw [e]
   rcases ih (b:=min b (y:Int)) with h | ⟨x,hx,h⟩
   ·by_cases hy:b ≤ (y:Int)
    ·exact .inl (by omega)
    ·exact .inr ⟨y,by simp,by omega⟩
   ·exact .inr ⟨x,by simp [hx],h⟩
def zzK (f:Nat→Bool) (p:Int):Int:=zig ((zaV f:Int) - 1) (zkN f p)
theorem zfn (f:Nat→Bool) (p:Int) (hp:isP p = true):AC Try.prog 124 [u64 (zaE f 64:Nat),int p] (.im (int (zzK f p))):=by
 refine AC.go (rs:=[.tmp 4]) zbe zax Try.func124 rfl rfl rfl (by kernel_rfl) fun hl=>?_
 simp (maxSteps:=5000000) -dsimp only [↓gp,gq,reduceCtorEq,reduceEqDiff,reduceLT,reduceLeDiff,reduceAdd,reduceMul,reduceSub,Nat.reduceBEq,Int.reduceToNat,Int.reduceLE,Int.reduceLT,Int.reduceNeg,reduceMod,zac,zad,zab,zaa,gT,TK.isInt,TK.agg,Array.toList]
 refine zaf (zcb f) ?_
 simp (maxSteps:=5000000) -dsimp only [↓gp,gq,reduceCtorEq,reduceEqDiff,reduceLT,reduceLeDiff,reduceAdd,reduceMul,reduceSub,Nat.reduceBEq,Int.reduceToNat,Int.reduceLE,Int.reduceLT,Int.reduceNeg,reduceMod,zac,zad,zab,zaa,gT,TK.isInt,TK.agg,Array.toList]
 have hmd:=zbu f 64
 have eord:zbL (zaE f 64).testBit = zbL f:=ze7 fun s hs=>za3 _ hs
 have hSI:=zf6 (zaE f 64) (by omega)
 rw [eord] at hSI
 refine zaf hSI ?_
 have hLl:=zdF f
 have hLm:=fun k (hk:k < (zbL f).length)=>zbF.1 (zat 0 hk)
 have hres:zzK f p = zig ((zaV f:Int) - 1) (zbS f p (zbL f).length):=rfl
 have hcl:∀ i,zbS f p (i + 1) = zbS f p i ++ zcv (zcT (zay f ((zbL f).getD i 0)) p) (zap ((zbL f).getD i 0)) (zcT (zay f ((zbL f).getD i 0)) p).length:=fun i=>rfl
 generalize hL:zbL f = L at *
 have hoL:=zah L
 have hdm:=zcg f
 have hm0:int ((zaV f:Int) - 1) = int (zig ((zaV f:Int) - 1) (zbS f p 0)):=rfl
 simp (maxSteps:=5000000) -dsimp only [↓gp,gq,reduceCtorEq,reduceEqDiff,reduceLT,reduceLeDiff,reduceAdd,reduceMul,reduceSub,Nat.reduceBEq,Int.reduceToNat,Int.reduceLE,Int.reduceLT,Int.reduceNeg,reduceMod,zac,zad,zab,zaa,gT,TK.isInt,TK.agg,Array.toList,zah]
 refine zao (fun (i:Nat) s=>s.sl 0 = u64 (zaE f 64:Nat)∧s.sl 1 = int p∧s.sl 5 = int (zig ((zaV f:Int) - 1) (zbS f p i))∧s.sl 13 = .own 13 1∧s.rw 13 = ⟨1,.sli 3 1 false (iL (ofN L))⟩∧s.sl 14 = int L.length∧s.sl 15 = int i∧(i ≤ L.length)) (fun i=>L.length - i) (0) (by refine ⟨?_,?_,?_,?_,?_,?_,?_,Nat.zero_le _⟩ <;> (first | (simp (maxSteps:=5000000) -dsimp only [gr,reduceEqDiff,reduceLT,reduceAdd,reduceMod,Nat.reduceBEq,zaa,zac,zad,zab,hm0];first | done | rfl | (simp;done)) | assumption | rfl)) ?_
 intro i sa ⟨h0a,h1a,h5a,h13a,r13a,h14a,h15a,hIa⟩
 simp (maxSteps:=5000000) -dsimp only [↓gp,gq,reduceCtorEq,reduceEqDiff,reduceLT,reduceLeDiff,reduceAdd,reduceMul,reduceSub,Nat.reduceBEq,Int.reduceToNat,Int.reduceLE,Int.reduceLT,Int.reduceNeg,reduceMod,zac,zad,zab,zaa,gT,TK.isInt,TK.agg,Array.toList,h0a,h1a,h5a,h13a,r13a,h14a,h15a,zah]
 refine ⟨fun hlt=>?_,fun hlt=>?_⟩
 ·have hlt:i < L.length:=by omega
  have hs64:=(hLm i hlt).1
  have hg:=zaL hlt
  have hcs:=hcl i
  have hdl:=zcg (zay f (L.getD i 0))
  have hhl:=zaM (zay f (L.getD i 0)) p
  generalize hs0:L.getD i 0 = s0 at *
  have hpl:=zbT hs64
  have hzz:=zce hs64
  simp (maxSteps:=5000000) -dsimp only [↓gp,gq,reduceCtorEq,reduceEqDiff,reduceLT,reduceLeDiff,reduceAdd,reduceMul,reduceSub,Nat.reduceBEq,Int.reduceToNat,Int.reduceLE,Int.reduceLT,Int.reduceNeg,reduceMod,zac,zad,zab,zaa,gT,TK.isInt,TK.agg,Array.toList,h0a,h1a,h5a,h13a,r13a,h14a,h15a,zah,hg]
  refine ⟨hlt,hlt,zaf (zd2 _ s0 hs64) ?_⟩
  simp (maxSteps:=5000000) -dsimp only [↓gp,gq,reduceCtorEq,reduceEqDiff,reduceLT,reduceLeDiff,reduceAdd,reduceMul,reduceSub,Nat.reduceBEq,Int.reduceToNat,Int.reduceLE,Int.reduceLT,Int.reduceNeg,reduceMod,zac,zad,zab,zaa,gT,TK.isInt,TK.agg,Array.toList,h0a,h1a,h5a,h13a,r13a,h14a,h15a,zah,hg]
  refine zaf (zfD _ p hp) ?_
  generalize zcT (zay f s0) p = hs at *
  simp (maxSteps:=5000000) -dsimp only [↓gp,gq,reduceCtorEq,reduceEqDiff,reduceLT,reduceLeDiff,reduceAdd,reduceMul,reduceSub,Nat.reduceBEq,Int.reduceToNat,Int.reduceLE,Int.reduceLT,Int.reduceNeg,reduceMod,zac,zad,zab,zaa,gT,TK.isInt,TK.agg,Array.toList,h0a,h1a,h5a,h13a,r13a,h14a,h15a,zah,hg]
  have hz0:zbS f p i = zbS f p i ++ zcv hs (zap s0) 0:=(List.append_nil _).symm
  refine zao (fun (k:Nat) s=>s.sl 0 = u64 (zaE f 64:Nat)∧s.sl 1 = int p∧s.sl 5 = int (zig ((zaV f:Int) - 1) (zbS f p i ++ zcv hs (zap s0) k))∧s.sl 7 = int s0∧s.sl 13 = .own 13 1∧s.rw 13 = ⟨1,.sli 3 1 false (iL (ofN L))⟩∧s.sl 14 = int L.length∧s.sl 15 = int i∧s.sl 23 = .own 23 ((sa.rw 23).ver + 1)∧s.rw 23 = ⟨(sa.rw 23).ver + 1,.sli 3 1 false (iL hs)⟩∧s.sl 24 = int hs.length∧s.sl 25 = int k∧(k ≤ hs.length)) (fun k=>hs.length - k) (0) (by refine ⟨?_,?_,?_,?_,?_,?_,?_,?_,?_,?_,?_,?_,Nat.zero_le _⟩ <;> (first | (simp (maxSteps:=5000000) -dsimp only [gr,reduceEqDiff,reduceLT,reduceAdd,reduceMod,Nat.reduceBEq,zaa,zac,zad,zab,h0a,h1a,h5a,h13a,r13a,h14a,h15a,← hz0];first | done | rfl | (simp;done)) | assumption | rfl)) ?_
  intro k sb ⟨h0b,h1b,h5b,h7b,h13b,r13b,h14b,h15b,h23b,r23b,h24b,h25b,hIb⟩
  simp (maxSteps:=5000000) -dsimp only [↓gp,gq,reduceCtorEq,reduceEqDiff,reduceLT,reduceLeDiff,reduceAdd,reduceMul,reduceSub,Nat.reduceBEq,Int.reduceToNat,Int.reduceLE,Int.reduceLT,Int.reduceNeg,reduceMod,zac,zad,zab,zaa,gT,TK.isInt,TK.agg,Array.toList,h0b,h1b,h5b,h7b,h13b,r13b,h14b,h15b,h23b,r23b,h24b,h25b,zah,hg]
  have hks:=zk4 hs (zap s0) k
  have hbd:=zCA (b:=(zaV f:Int) - 1) (by omega) (zbS f p i ++ zcv hs (zap s0) k)
  have hsn:zig ((zaV f:Int) - 1) (zbS f p i ++ zcv hs (zap s0) (k + 1)) = if (hs.getD k 0 != 0) = true then min (zig ((zaV f:Int) - 1) (zbS f p i ++ zcv hs (zap s0) k)) ((zap s0 + k:Nat):Int) else zig ((zaV f:Int) - 1) (zbS f p i ++ zcv hs (zap s0) k):=by
   rw [hks]
   split
   ·rw [← List.append_assoc,zv0]
   ·rfl
  refine ⟨fun hk=>⟨hk,hk,fun hz=>zaf (zaG _) ?_,fun hz=>?_⟩,fun hk=>?_⟩
  ·have hw:IntKind.i64.wrap ((zap s0:Int) + (k:Int)) = ((zap s0 + k:Nat):Int):=by rw [zaq (by omega) (by omega)];omega
   rw [if_pos hz] at hsn
   simp (maxSteps:=5000000) -dsimp only [↓gp,gq,reduceCtorEq,reduceEqDiff,reduceLT,reduceLeDiff,reduceAdd,reduceMul,reduceSub,Nat.reduceBEq,Int.reduceToNat,Int.reduceLE,Int.reduceLT,Int.reduceNeg,reduceMod,zac,zad,zab,zaa,gT,TK.isInt,TK.agg,Array.toList,h0b,h1b,h5b,h7b,h13b,r13b,h14b,h15b,h23b,r23b,h24b,h25b,zah,hg,hzz,hw]
   have em:(if ((zap s0 + k:Nat):Int) < zig ((zaV f:Int) - 1) (zbS f p i ++ zcv hs (zap s0) k) then ((zap s0 + k:Nat):Int) else zig ((zaV f:Int) - 1) (zbS f p i ++ zcv hs (zap s0) k)) = min (zig ((zaV f:Int) - 1) (zbS f p i ++ zcv hs (zap s0) k)) ((zap s0 + k:Nat):Int):=by split <;> omega
   rw [← em] at hsn
   exact zag (k + 1) (by refine ⟨?_,?_,?_,?_,?_,?_,?_,?_,?_,?_,?_,?_,by omega⟩ <;> (first | (simp (maxSteps:=5000000) -dsimp only [gr,reduceEqDiff,reduceLT,reduceAdd,reduceMod,Nat.reduceBEq,zaa,zac,zad,zab,h0b,h1b,h5b,h7b,h13b,r13b,h14b,h15b,h23b,r23b,h24b,h25b,hsn,zae (show k < 8 by omega) (by omega)];first | done | rfl | (simp;done)) | assumption | rfl)) (by first | omega | (simp only;omega) | (dsimp only;omega) | (show _ < _;simp;omega))
  ·rw [if_neg (by rw [hz];decide)] at hsn
   exact zag (k + 1) (by refine ⟨?_,?_,?_,?_,?_,?_,?_,?_,?_,?_,?_,?_,by omega⟩ <;> (first | (simp (maxSteps:=5000000) -dsimp only [gr,reduceEqDiff,reduceLT,reduceAdd,reduceMod,Nat.reduceBEq,zaa,zac,zad,zab,h0b,h1b,h5b,h7b,h13b,r13b,h14b,h15b,h23b,r23b,h24b,h25b,hsn,zae (show k < 8 by omega) (by omega)];first | done | rfl | (simp;done)) | assumption | rfl)) (by first | omega | (simp only;omega) | (dsimp only;omega) | (show _ < _;simp;omega))
  ·have hke:k = hs.length:=by omega
   subst hke
   rw [← hcs] at h5b
   exact zag (i + 1) (by refine ⟨?_,?_,?_,?_,?_,?_,?_,by omega⟩ <;> (first | (simp (maxSteps:=5000000) -dsimp only [gr,reduceEqDiff,reduceLT,reduceAdd,reduceMod,Nat.reduceBEq,zaa,zac,zad,zab,h0a,h1a,h5a,h13a,r13a,h14a,h15a,h0b,h1b,h5b,h7b,h13b,r13b,h14b,h15b,h23b,r23b,h24b,h25b,zae hlt (by omega)];first | done | rfl | (simp;done)) | assumption | rfl)) (by first | omega | (simp only;omega) | (dsimp only;omega) | (show _ < _;simp;omega))
 ·have hil:i = L.length:=by omega
  rw [hres,hil]
theorem zv1 (a:Nat) (l:List Nat):(∀ x ∈ a :: l,l.foldl min a ≤ x)∧l.foldl min a ∈ a :: l:=by
 induction l generalizing a with
 | nil=>exact ⟨fun x hx=>by rw [List.mem_singleton.1 hx];exact Nat.le_refl _,by simp⟩
 | cons y l ih =>
   obtain ⟨h1,h2⟩:=ih (min a y)
   have e:(y :: l).foldl min a = l.foldl min (min a y):=rfl
   rw [e]
   refine ⟨fun x hx=>?_,?_⟩
   ·have h0:=h1 (min a y) (by simp)
    rcases List.mem_cons.1 hx with rfl | hx
    ·omega
    ·rcases List.mem_cons.1 hx with rfl | hx
     ·omega
     ·exact h1 x (by simp [hx])
   ·rcases List.mem_cons.1 h2 with h | h
    ·rw [h]
     rcases Nat.le_total a y with q | q
     ·rw [Nat.min_eq_left q];simp
     ·rw [Nat.min_eq_right q];simp
    ·simp [h]
section
variable {f:Nat→Bool} {m q:Nat} [NeZero q]
theorem zr1 (hp:isP (q:Int) = true) (hf:zej f) (hm:m ≤ 6) (hs:∀ t,t < 64→f t = true→t < 2 ^ m) {x:Nat}:x ∈ zkN f q ↔ ∃ F k,F < 2 ^ m∧f F = true∧¬ Ac q (zay f F) k∧zap F + k = x:=by
 have h64:=zaz hm
 have hz:∀ F k,(zcT (zay f F) q).getD k 0 ≠ 0 ↔ ¬ Ac q (zay f F) k:=fun F k=>by
  rw [znn,Ne,(zkw (p:=q) hp (zde hf F) k).2]
 unfold zkN
 rw [ziR]
 constructor
 ·rintro ⟨t,ht,h⟩
  obtain ⟨j,a,b,rfl⟩:=ziQ.1 h
  obtain ⟨h1,h2⟩:=zbF.1 (zat 0 ht)
  exact ⟨_,j,hs _ h1 h2,h2,(hz _ _).1 b,rfl⟩
 ·rintro ⟨F,k,a,b,c,rfl⟩
  obtain ⟨t,ht,e⟩:=zbq 0 (zbF.2 ⟨Nat.lt_of_lt_of_le a h64,b⟩)
  refine ⟨t,ht,?_⟩
  rw [e]
  refine ziQ.2 ⟨k,Nat.lt_of_not_le fun hle=>c (zCk (by rw [zaM] at hle;exact hle)),(hz _ _).2 c,rfl⟩
theorem zmA (hp:isP (q:Int) = true) (hf:zej f) (h0:f 0 = true) (hm:m ≤ 6) (hs:∀ t,t < 64→f t = true→t < 2 ^ m):∃ d:Nat,zhp q f m d∧znT (zkN f q) = d∧zzK f q = d∧(d:Int) ≤ (zaV f:Int) - 1:=by
 have h64:=zaz hm
 have hdp:0 < zaV f:=by
  have:=zfP 64 0 (by decide) h0
  unfold zaV;omega
 obtain ⟨T,hT64,hfT,hTd⟩:=zfQ (f:=f) 64 hdp
 have hTd:zap T + 1 = zaV f:=hTd
 have htop:∀ s,s < 64→f s = true→zap s ≤ zap T:=fun s h1 h2=>by
  have:=zfP 64 s h1 h2
  have hd:zaV f = zgX f 64:=rfl
  omega
 have hTm:zap T ∈ zkN f q:=(zr1 hp hf hm hs).2 ⟨T,0,hs T hT64 hfT,hfT,zqq hp hf hT64 hfT (zDo hT64 htop),rfl⟩
 cases hc:zkN f q with
 | nil=>rw [hc] at hTm;simp at hTm
 | cons a l =>
   obtain ⟨h1,h2⟩:=zv1 a l
   have hci:=fun x=>zr1 (x:=x) hp hf hm hs
   rw [hc] at hTm hci
   refine ⟨l.foldl min a,⟨?_,zrK hf fun F hF hfF k hk=>?_⟩,rfl,?_,?_⟩
   ·exact (hci _).1 h2
   ·refine Classical.byContradiction fun hac=>?_
    have:=h1 _ ((hci _).2 ⟨F,k,hF,hfF,hac,rfl⟩)
    omega
   ·unfold zzK
    rw [hc]
    have e:(zaV f:Int) - 1 = ((zap T:Nat):Int):=by omega
    rw [e]
    obtain ⟨g1,g2⟩:=zCB (b:=((zap T:Nat):Int)) (a :: l)
    have g3:=g2 _ h2
    rcases zzR (b:=((zap T:Nat):Int)) (a :: l) with g | ⟨x,hx,g⟩
    ·have:=h1 _ hTm;omega
    ·have:=h1 x hx;omega
   ·have:=h1 _ hTm;omega
end
theorem zAT (x:Int):0 ≤ zcZ .i64 x 255∧zcZ .i64 x 255 < 256:=by
 have h2:(BitVec.ofInt 64 (255:Int)).toNat = 255:=by decide
 have e:zcZ .i64 x 255 = IntKind.i64.wrap (((BitVec.ofInt 64 x &&& BitVec.ofInt 64 255).toNat:Nat):Int):=rfl
 have:(BitVec.ofInt 64 x &&& BitVec.ofInt 64 255).toNat ≤ 255:=by
  rw [BitVec.toNat_and,h2];exact Nat.and_le_right
 rw [e,zaq (by omega) (by omega)]
 omega
abbrev TC:TypeId:=115
def zGo (P:Int→Prop) (rv:RV):Prop:=∃ x,rv = .im (int x)∧P x
def crH (h:Int):Int:=IntKind.i64.wrap (IntKind.i64.wrap (h * 6364136223846793005) + 1442695040888963407)
def zGp (rv:RV):Prop:=∃ b,rv = .im (bool b)
theorem zqD (bs:List Int):zzw Try.prog 78 TC bs:=by
 refine AG.go (rs:=[.tmp 2]) zbe zax Try.func78 rfl rfl rfl (by kernel_rfl) fun hl _ s hs hR=>?_
 simp only [za6,zbt,and_true] at hl
 have hbl:bs.length ≤ 9223372036854775807:=by
  have:=hl.1
  simpa [kL] using this
 simp (maxSteps:=5000000) -dsimp only [↓gp,gq,reduceCtorEq,reduceEqDiff,reduceLT,reduceLeDiff,reduceAdd,reduceMul,reduceSub,Nat.reduceBEq,Int.reduceToNat,Int.reduceLE,Int.reduceLT,Int.reduceNeg,reduceMod,zac,zad,zab,zaa,gT,TK.isInt,TK.agg,Array.toList,hs,hR,zk0]
 refine zao (fun (za:Nat × Int) s=>match za with | (i,h)=>s.sl 0 = .sl false 1 (kL .u8 bs)∧s.sl 3 = int h∧s.sl 4 = int i∧(i ≤ bs.length)) (fun (i,h)=>bs.length - i) ((0,IntKind.i64.wrap (26583 + (bs.length:Int)))) (by refine ⟨?_,?_,?_,by simp⟩ <;> (first | (simp (maxSteps:=5000000) -dsimp only [gr,reduceEqDiff,reduceLT,reduceAdd,reduceMod,Nat.reduceBEq,zaa,zac,zad,zab,hs];first | done | rfl | (simp;done)) | assumption | rfl)) ?_
 intro (i,h) sa ⟨h0a,h3a,h4a,hIa⟩
 simp (maxSteps:=5000000) -dsimp only [↓gp,gq,reduceCtorEq,reduceEqDiff,reduceLT,reduceLeDiff,reduceAdd,reduceMul,reduceSub,Nat.reduceBEq,Int.reduceToNat,Int.reduceLE,Int.reduceLT,Int.reduceNeg,reduceMod,zac,zad,zab,zaa,gT,TK.isInt,TK.agg,Array.toList,h0a,h3a,h4a]
 have hw:∀ hk:i < bs.length,IntKind.i64.wrap ((i:Int) + 1) = ((i + 1:Nat):Int):=fun hk=>zae hk hbl
 refine ⟨fun hk=>⟨fun h4=>⟨hk,hk,?_⟩,fun h4=>?_⟩,fun hk=>?_⟩
 ·exact zag ((i + 1,zcZ .i64 (IntKind.i64.wrap (IntKind.i64.wrap (IntKind.i64.wrap (h * 131) + IntKind.i64.wrap (bs.getD i 0)) + 7)) 1073741823)) (by refine ⟨?_,?_,?_,by dsimp only;omega⟩ <;> (first | (simp (maxSteps:=5000000) -dsimp only [gr,reduceEqDiff,reduceLT,reduceAdd,reduceMod,Nat.reduceBEq,zaa,zac,zad,zab,h0a,h3a,h4a,hw hk];first | done | rfl | (simp;done)) | assumption | rfl)) (by first | omega | (simp only;omega) | (dsimp only;omega) | (show _ < _;simp;omega))
 ·exact ⟨31,_,h,rfl,by simp (maxSteps:=5000000) -dsimp only [gr,reduceEqDiff,reduceLT,reduceAdd,reduceMod,Nat.reduceBEq,zaa,zac,zad,zab];rfl⟩
 ·exact ⟨31,_,h,rfl,by simp (maxSteps:=5000000) -dsimp only [gr,reduceEqDiff,reduceLT,reduceAdd,reduceMod,Nat.reduceBEq,zaa,zac,zad,zab];rfl⟩
def byF (bs:List Int) (i:Nat) (h:Int):Int :=
 if i < bs.length then zcZ .i64 (IntKind.i64.wrap (zcZ .i64 (zC2 .i64 (zrj .i64 (crH h) 33) (zrj .i64 (crH h) 45)) 255 + IntKind.i64.wrap (bs.getD i 0))) 255
 else zcZ .i64 (zC2 .i64 (zrj .i64 (crH h) 33) (zrj .i64 (crH h) 45)) 255
def nxI (bs:List Int) (i:Nat):Nat:=if i < bs.length then i + 1 else i
theorem zhX (bs:List Int) (i:Nat) (h:Int):0 ≤ byF bs i h∧byF bs i h < 256:=by
 unfold byF
 split <;> exact zAT _
set_option maxRecDepth 100000 in
theorem znv (bs:List Int) (hbs:bs.length ≤ 9223372036854775806):znz Try.prog 158 TC bs [] fun i h=>(.int .i64 (byF bs i h),nxI bs i,crH h):=by
 intro i h
 refine AG.go (rs:=[.tmp 2]) zbe zax Try.func158 rfl rfl rfl (by kernel_rfl) fun hl _ s hs hR=>?_
 have e0:s.rw 1000000 = ⟨1,.box TC [.sl false 1 (kL .u8 bs),int i,int h]⟩:=by rw [hR];rfl
 have e1:s.rw 1000500 = ⟨0,.dead⟩:=by rw [hR];rfl
 simp (maxSteps:=5000000) -dsimp only [↓gp,gq,reduceCtorEq,reduceEqDiff,reduceLT,reduceLeDiff,reduceAdd,reduceMul,reduceSub,Nat.reduceBEq,Int.reduceToNat,Int.reduceLE,Int.reduceLT,Int.reduceNeg,reduceMod,zac,zad,zab,zaa,gT,TK.isInt,TK.agg,Array.toList,hs,e0]
 refine ⟨by kernel_rfl,by kernel_rfl,fun hi=>⟨by kernel_rfl,hi,hi,?_⟩,fun hi=>?_⟩
 ·have hw:IntKind.i64.wrap ((i:Int) + 1) = ((i + 1:Nat):Int):=zae hi (by omega)
  rw [hw]
  refine ⟨by simp only [byF,if_pos hi];rfl,?_,by simp (maxSteps:=5000000) -dsimp only [gr,reduceEqDiff,reduceLT,reduceAdd,reduceMod,Nat.reduceBEq,zaa,zac,zad,zab,e1]⟩
  simp (maxSteps:=5000000) -dsimp only [gr,reduceEqDiff,reduceLT,reduceAdd,reduceMod,Nat.reduceBEq,zaa,zac,zad,zab,e0]
  simp only [nxI,if_pos hi]
  rfl
 ·refine ⟨by simp only [byF,if_neg hi];rfl,?_,by simp (maxSteps:=5000000) -dsimp only [gr,reduceEqDiff,reduceLT,reduceAdd,reduceMod,Nat.reduceBEq,zaa,zac,zad,zab,e1]⟩
  simp (maxSteps:=5000000) -dsimp only [gr,reduceEqDiff,reduceLT,reduceAdd,reduceMod,Nat.reduceBEq,zaa,zac,zad,zab,e0]
  simp only [nxI,if_neg hi]
  rfl
def zD5 (n x:Int):Prop:=0 ≤ x∧(x < n ∨ (n ≤ 0∧x = 0))
theorem zzu {n x:Int} (hn:0 < n) (hx:0 ≤ x):zD5 n (x.tmod n):=by
 rw [zdN hx]
 exact ⟨Int.emod_nonneg _ (by omega),.inl (Int.emod_lt_of_pos _ hn)⟩
theorem zhs {n:Nat} {x:Int} (hn:0 < n) (hx:zD5 n x):∃ m:Nat,x = m∧m < n:=by
 obtain ⟨h1,h2 | ⟨h2,h3⟩⟩:=hx
 ·exact ⟨x.toNat,by omega,by omega⟩
 ·omega
def beF (bs:List Int) (n:Int) (i:Nat) (h:Int):Value × Nat × Int :=
 if n ≤ 0 then (.int .i64 0,i,h)
 else if n ≤ 256 then (.int .i64 ((byF bs i h).tmod n),nxI bs i,crH h)
 else (.int .i64 ((byF bs i h * 16777216 + byF bs (nxI bs i) (crH h) * 65536 + byF bs (nxI bs (nxI bs i)) (crH (crH h)) * 256 + byF bs (nxI bs (nxI bs (nxI bs i))) (crH (crH (crH h)))).tmod n),nxI bs (nxI bs (nxI bs (nxI bs i))),crH (crH (crH (crH h))))
theorem zzv (bs:List Int) (n:Int) (i:Nat) (h:Int):zGo (zD5 n) (.im (.v (beF bs n i h).1)):=by
 unfold beF
 have b1:=zhX bs i h
 have b2:=zhX bs (nxI bs i) (crH h)
 have b3:=zhX bs (nxI bs (nxI bs i)) (crH (crH h))
 have b4:=zhX bs (nxI bs (nxI bs (nxI bs i))) (crH (crH (crH h)))
 split
 ·rename_i h0
  exact ⟨0,rfl,Int.le_refl _,.inr ⟨h0,rfl⟩⟩
 ·split
  ·exact ⟨_,rfl,zzu (by omega) (by omega)⟩
  ·exact ⟨_,rfl,zzu (by omega) (by omega)⟩
theorem zqE (bs:List Int) (n:Int) (i:Nat) (h:Int):∃ (x:Int) (j:Nat) (g:Int),beF bs n i h = (.int .i64 x,j,g)∧zD5 n x:=by
 obtain ⟨x,hx,hq⟩:=zzv bs n i h
 injection hx with hx
 injection hx with hx
 exact ⟨x,(beF bs n i h).2.1,(beF bs n i h).2.2,by rw [← hx],hq⟩
theorem zkB (n:Int):zb3 [int n]:=fun p hp=>by rw [List.mem_singleton.1 hp];rfl
set_option maxRecDepth 100000 in
theorem zct (bs:List Int) (hbs:bs.length ≤ 9223372036854775806) (n:Int) (hn:n ≤ 1000000):znz Try.prog 112 TC bs [int n] (beF bs n):=by
 intro i h
 refine AG.go (rs:=[.tmp 4]) zbe zax Try.func112 rfl rfl rfl (by kernel_rfl) fun hl _ s hs hR=>?_
 have e0:s.rw 1000000 = ⟨1,.box TC [.sl false 1 (kL .u8 bs),int i,int h]⟩:=by rw [hR];rfl
 have e1:s.rw 1000500 = ⟨0,.dead⟩:=by rw [hR];rfl
 have hc:=znv bs hbs
 have hp:zb3 []:=fun _ h=>absurd h (by simp)
 have b1:=zhX bs i h
 have b2:=zhX bs (nxI bs i) (crH h)
 have b3:=zhX bs (nxI bs (nxI bs i)) (crH (crH h))
 have b4:=zhX bs (nxI bs (nxI bs (nxI bs i))) (crH (crH (crH h)))
 simp (maxSteps:=5000000) -dsimp only [↓gp,gq,reduceCtorEq,reduceEqDiff,reduceLT,reduceLeDiff,reduceAdd,reduceMul,reduceSub,Nat.reduceBEq,Int.reduceToNat,Int.reduceLE,Int.reduceLT,Int.reduceNeg,reduceMod,zac,zad,zab,zaa,gT,TK.isInt,TK.agg,Array.toList,hs,e0]
 refine ⟨fun h0=>?_,fun h0=>⟨fun h1=>?_,fun h1=>?_⟩⟩
 ·unfold beF;rw [if_pos h0]
  exact ⟨rfl,by simp (maxSteps:=5000000) -dsimp only [gr,reduceEqDiff,reduceLT,reduceAdd,reduceMod,Nat.reduceBEq,zaa,zac,zad,zab,e0] <;> rfl,by simp (maxSteps:=5000000) -dsimp only [gr,reduceEqDiff,reduceLT,reduceAdd,reduceMod,Nat.reduceBEq,zaa,zac,zad,zab,e1]⟩
 ·refine zek hc hp (i:=i) (h:=h) (by simp (maxSteps:=5000000) -dsimp only [gr,reduceEqDiff,reduceLT,reduceAdd,reduceMod,Nat.reduceBEq,zaa,zac,zad,zab,e0] <;> rfl) rfl ?_
  simp (maxSteps:=5000000) -dsimp only [↓gp,gq,reduceCtorEq,reduceEqDiff,reduceLT,reduceLeDiff,reduceAdd,reduceMul,reduceSub,Nat.reduceBEq,Int.reduceToNat,Int.reduceLE,Int.reduceLT,Int.reduceNeg,reduceMod,zac,zad,zab,zaa,gT,TK.isInt,TK.agg,Array.toList,hs,e0]
  unfold beF;rw [if_neg h0,if_pos h1]
  exact ⟨by omega,rfl,by simp (maxSteps:=5000000) -dsimp only [gr,reduceEqDiff,reduceLT,reduceAdd,reduceMod,Nat.reduceBEq,zaa,zac,zad,zab,e0] <;> rfl,by simp (maxSteps:=5000000) -dsimp only [gr,reduceEqDiff,reduceLT,reduceAdd,reduceMod,Nat.reduceBEq,zaa,zac,zad,zab,e1]⟩
 ·refine zek hc hp (i:=i) (h:=h) (by simp (maxSteps:=5000000) -dsimp only [gr,reduceEqDiff,reduceLT,reduceAdd,reduceMod,Nat.reduceBEq,zaa,zac,zad,zab,e0] <;> rfl) rfl ?_
  simp (maxSteps:=5000000) -dsimp only [↓gp,gq,reduceCtorEq,reduceEqDiff,reduceLT,reduceLeDiff,reduceAdd,reduceMul,reduceSub,Nat.reduceBEq,Int.reduceToNat,Int.reduceLE,Int.reduceLT,Int.reduceNeg,reduceMod,zac,zad,zab,zaa,gT,TK.isInt,TK.agg,Array.toList,hs,e0]
  refine zek hc hp (i:=nxI bs i) (h:=crH h) (by simp (maxSteps:=5000000) -dsimp only [gr,reduceEqDiff,reduceLT,reduceAdd,reduceMod,Nat.reduceBEq,zaa,zac,zad,zab,e0] <;> rfl) rfl ?_
  simp (maxSteps:=5000000) -dsimp only [↓gp,gq,reduceCtorEq,reduceEqDiff,reduceLT,reduceLeDiff,reduceAdd,reduceMul,reduceSub,Nat.reduceBEq,Int.reduceToNat,Int.reduceLE,Int.reduceLT,Int.reduceNeg,reduceMod,zac,zad,zab,zaa,gT,TK.isInt,TK.agg,Array.toList,hs,e0]
  refine zek hc hp (i:=nxI bs (nxI bs i)) (h:=crH (crH h)) (by simp (maxSteps:=5000000) -dsimp only [gr,reduceEqDiff,reduceLT,reduceAdd,reduceMod,Nat.reduceBEq,zaa,zac,zad,zab,e0] <;> rfl) rfl ?_
  simp (maxSteps:=5000000) -dsimp only [↓gp,gq,reduceCtorEq,reduceEqDiff,reduceLT,reduceLeDiff,reduceAdd,reduceMul,reduceSub,Nat.reduceBEq,Int.reduceToNat,Int.reduceLE,Int.reduceLT,Int.reduceNeg,reduceMod,zac,zad,zab,zaa,gT,TK.isInt,TK.agg,Array.toList,hs,e0]
  refine zek hc hp (i:=nxI bs (nxI bs (nxI bs i))) (h:=crH (crH (crH h))) (by simp (maxSteps:=5000000) -dsimp only [gr,reduceEqDiff,reduceLT,reduceAdd,reduceMod,Nat.reduceBEq,zaa,zac,zad,zab,e0] <;> rfl) rfl ?_
  generalize hx:byF bs i h = x at *
  generalize hy:byF bs (nxI bs i) (crH h) = y at *
  generalize hz:byF bs (nxI bs (nxI bs i)) (crH (crH h)) = z at *
  generalize hw:byF bs (nxI bs (nxI bs (nxI bs i))) (crH (crH (crH h))) = w at *
  have w1:IntKind.i64.wrap (x * 16777216) = x * 16777216:=zaq (by omega) (by omega)
  have w2:IntKind.i64.wrap (y * 65536) = y * 65536:=zaq (by omega) (by omega)
  have w3:IntKind.i64.wrap (x * 16777216 + y * 65536) = x * 16777216 + y * 65536:=zaq (by omega) (by omega)
  have w4:IntKind.i64.wrap (z * 256) = z * 256:=zaq (by omega) (by omega)
  have w5:IntKind.i64.wrap (x * 16777216 + y * 65536 + z * 256) = x * 16777216 + y * 65536 + z * 256:=zaq (by omega) (by omega)
  have w6:IntKind.i64.wrap (x * 16777216 + y * 65536 + z * 256 + w) = x * 16777216 + y * 65536 + z * 256 + w:=zaq (by omega) (by omega)
  simp (maxSteps:=5000000) -dsimp only [↓gp,gq,reduceCtorEq,reduceEqDiff,reduceLT,reduceLeDiff,reduceAdd,reduceMul,reduceSub,Nat.reduceBEq,Int.reduceToNat,Int.reduceLE,Int.reduceLT,Int.reduceNeg,reduceMod,zac,zad,zab,zaa,gT,TK.isInt,TK.agg,Array.toList,hs,e0,w1,w2,w3,w4,w5,w6]
  unfold beF;rw [if_neg h0,if_neg h1,hx,hy,hz,hw]
  exact ⟨by omega,rfl,by simp (maxSteps:=5000000) -dsimp only [gr,reduceEqDiff,reduceLT,reduceAdd,reduceMod,Nat.reduceBEq,zaa,zac,zad,zab,e0] <;> rfl,by simp (maxSteps:=5000000) -dsimp only [gr,reduceEqDiff,reduceLT,reduceAdd,reduceMod,Nat.reduceBEq,zaa,zac,zad,zab,e1]⟩
theorem zbd (bs:List Int) (hbs:bs.length ≤ 9223372036854775806) (n:Int) (hn:n ≤ 1000000):zvV Try.prog 112 TC bs ⟨0,.dead⟩ [int n] (zGo (zD5 n)) :=
 (zct bs hbs n hn).toCur fun i h=>zzv bs n i h
def onF (bs:List Int) (n:Int) (i:Nat) (h:Int):Value × Nat × Int:=((match (beF bs n i h).1 with | .int _ x=>.bool (x == 0) | _=>.bool false),(beF bs n i h).2)
theorem zkZ (bs:List Int) (hbs:bs.length ≤ 9223372036854775806) (n:Int) (hn:n ≤ 1000000):znz Try.prog 87 TC bs [int n] (onF bs n):=by
 intro i h
 refine AG.go (rs:=[.tmp 4]) zbe zax Try.func87 rfl rfl rfl (by kernel_rfl) fun hl _ s hs hR=>?_
 have e0:s.rw 1000000 = ⟨1,.box TC [.sl false 1 (kL .u8 bs),int i,int h]⟩:=by rw [hR];rfl
 have e1:s.rw 1000500 = ⟨0,.dead⟩:=by rw [hR];rfl
 simp (maxSteps:=5000000) -dsimp only [↓gp,gq,reduceCtorEq,reduceEqDiff,reduceLT,reduceLeDiff,reduceAdd,reduceMul,reduceSub,Nat.reduceBEq,Int.reduceToNat,Int.reduceLE,Int.reduceLT,Int.reduceNeg,reduceMod,zac,zad,zab,zaa,gT,TK.isInt,TK.agg,Array.toList,hs,e0]
 refine zek (zct bs hbs n hn) (zkB n) (i:=i) (h:=h) (by simp (maxSteps:=5000000) -dsimp only [gr,reduceEqDiff,reduceLT,reduceAdd,reduceMod,Nat.reduceBEq,zaa,zac,zad,zab,e0] <;> rfl) rfl ?_
 unfold onF
 obtain ⟨y,j3,g3,hr,hy⟩:=zqE bs n i h
 rw [hr]
 simp (maxSteps:=5000000) -dsimp only [↓gp,gq,reduceCtorEq,reduceEqDiff,reduceLT,reduceLeDiff,reduceAdd,reduceMul,reduceSub,Nat.reduceBEq,Int.reduceToNat,Int.reduceLE,Int.reduceLT,Int.reduceNeg,reduceMod,zac,zad,zab,zaa,gT,TK.isInt,TK.agg,Array.toList,hs,e0]
 exact ⟨rfl,by simp (maxSteps:=5000000) -dsimp only [gr,reduceEqDiff,reduceLT,reduceAdd,reduceMod,Nat.reduceBEq,zaa,zac,zad,zab,e0] <;> rfl,by simp (maxSteps:=5000000) -dsimp only [gr,reduceEqDiff,reduceLT,reduceAdd,reduceMod,Nat.reduceBEq,zaa,zac,zad,zab,e1]⟩
theorem zFJ (bs:List Int) (n:Int) (i:Nat) (h:Int):∃ (x:Bool) (j:Nat) (g:Int),onF bs n i h = (.bool x,j,g):=by
 obtain ⟨y,j3,g3,hr,hy⟩:=zqE bs n i h
 unfold onF
 rw [hr]
 exact ⟨_,_,_,rfl⟩
theorem znw (bs:List Int) (hbs:bs.length ≤ 9223372036854775806) (n:Int) (hn:n ≤ 1000000):zvV Try.prog 87 TC bs ⟨0,.dead⟩ [int n] zGp :=
 (zkZ bs hbs n hn).toCur fun i h=>by obtain ⟨x,j,g,e⟩:=zFJ bs n i h;rw [e];exact ⟨x,rfl⟩
def piF (bs:List Int) (l:List Int) (i:Nat) (h:Int):Value × Nat × Int:=((match (beF bs l.length i h).1 with | .int _ x=>.int .i64 (l.getD x.toNat 0) | _=>.int .i64 0),(beF bs l.length i h).2)
theorem zCp (bs:List Int) {l:List Int} (hl:0 < l.length) (i:Nat) (h:Int):∃ (x:Int) (j:Nat) (g:Int),piF bs l i h = (.int .i64 x,j,g)∧x ∈ l:=by
 obtain ⟨y,j3,g3,hr,hy⟩:=zqE bs l.length i h
 obtain ⟨m,rfl,hm⟩:=zhs hl hy
 unfold piF
 rw [hr]
 exact ⟨_,_,_,rfl,zat 0 hm⟩
theorem zd0 (bs:List Int) (hbs:bs.length ≤ 9223372036854775806) (l:List Int) (hl0:0 < l.length) (hl1:l.length ≤ 1000000):zvK Try.prog 93 TC bs 3 (iL l) (piF bs l):=by
 intro i h
 refine AG.go (rs:=[.tmp 4]) zbe zax Try.func93 rfl rfl rfl (by kernel_rfl) fun hl _ s hs hR=>?_
 have e0:s.rw 1000000 = ⟨1,.box TC [.sl false 1 (kL .u8 bs),int i,int h]⟩:=by rw [hR];rfl
 have e1:s.rw 1000500 = ⟨1,.sli 3 1 false (iL l)⟩:=by rw [hR];rfl
 simp (maxSteps:=5000000) -dsimp only [↓gp,gq,reduceCtorEq,reduceEqDiff,reduceLT,reduceLeDiff,reduceAdd,reduceMul,reduceSub,Nat.reduceBEq,Int.reduceToNat,Int.reduceLE,Int.reduceLT,Int.reduceNeg,reduceMod,zac,zad,zab,zaa,gT,TK.isInt,TK.agg,Array.toList,hs,e0,e1]
 refine zek (zct bs hbs l.length (by omega)) (zkB _) (i:=i) (h:=h) (by simp (maxSteps:=5000000) -dsimp only [gr,reduceEqDiff,reduceLT,reduceAdd,reduceMod,Nat.reduceBEq,zaa,zac,zad,zab,e0] <;> rfl) rfl ?_
 unfold piF
 obtain ⟨y,j3,g3,hr,hy⟩:=zqE bs l.length i h
 obtain ⟨m,rfl,hm⟩:=zhs hl0 hy
 rw [hr]
 simp (maxSteps:=5000000) -dsimp only [↓gp,gq,reduceCtorEq,reduceEqDiff,reduceLT,reduceLeDiff,reduceAdd,reduceMul,reduceSub,Nat.reduceBEq,Int.reduceToNat,Int.reduceLE,Int.reduceLT,Int.reduceNeg,reduceMod,zac,zad,zab,zaa,gT,TK.isInt,TK.agg,Array.toList,hs,e0,e1]
 exact ⟨by omega,hm,rfl,by simp (maxSteps:=5000000) -dsimp only [gr,reduceEqDiff,reduceLT,reduceAdd,reduceMod,Nat.reduceBEq,zaa,zac,zad,zab,e0] <;> rfl,by simp (maxSteps:=5000000) -dsimp only [gr,reduceEqDiff,reduceLT,reduceAdd,reduceMod,Nat.reduceBEq,zaa,zac,zad,zab,e1] <;> rfl⟩
theorem zc1 (bs:List Int) (hbs:bs.length ≤ 9223372036854775806) (l:List Int) (hl0:0 < l.length) (hl1:l.length ≤ 1000000):zvV Try.prog 93 TC bs ⟨1,.sli 3 1 false (iL l)⟩ [.own 1000500 1] (zGo fun x=>x ∈ l) :=
 (zd0 bs hbs l hl0 hl1).toCur fun i h=>by obtain ⟨x,j,g,e,hx⟩:=zCp bs hl0 i h;rw [e];exact ⟨x,rfl,hx⟩
theorem znx (bs:List Int) (hbs:bs.length ≤ 9223372036854775806) (l:List ByteArray) (hl0:0 < l.length) (hl1:l.length ≤ 1000000):zvV Try.prog 204 TC bs ⟨1,.sli 9 1 false (sL l)⟩ [.own 1000500 1] (fun rv=>∃ x,rv = .im (str x)∧x ∈ l):=by
 intro i h
 refine AG.go (rs:=[.tmp 4]) zbe zax Try.func204 rfl rfl rfl (by kernel_rfl) fun hl _ s hs hR=>?_
 have e0:s.rw 1000000 = ⟨1,.box TC [.sl false 1 (kL .u8 bs),int i,int h]⟩:=by rw [hR];rfl
 have e1:s.rw 1000500 = ⟨1,.sli 9 1 false (sL l)⟩:=by rw [hR];rfl
 have hsl:(sL l).length = l.length:=by simp [sL]
 simp (maxSteps:=5000000) -dsimp only [↓gp,gq,reduceCtorEq,reduceEqDiff,reduceLT,reduceLeDiff,reduceAdd,reduceMul,reduceSub,Nat.reduceBEq,Int.reduceToNat,Int.reduceLE,Int.reduceLT,Int.reduceNeg,reduceMod,zac,zad,zab,zaa,gT,TK.isInt,TK.agg,Array.toList,hs,e0,e1,hsl]
 refine za9 (zbd bs hbs l.length (by omega)) .none (by simp (maxSteps:=5000000) -dsimp only [gr,reduceEqDiff,reduceLT,reduceAdd,reduceMod,Nat.reduceBEq,zaa,zac,zad,zab,e0,e1,hsl] <;> rfl) (GvL.one (zcz (by simp (maxSteps:=5000000) -dsimp only [gr,reduceEqDiff,reduceLT,reduceAdd,reduceMod,Nat.reduceBEq,zaa,zac,zad,zab,e0,e1,hsl] <;> rfl)) (by repeat (first | exact GvL.nil | refine GvL.one (GvA.v _) ?_ | refine GvL.one (GvA.sl _ _ _) ?_))) rfl (fun _ h=>by cases h) fun rv i1 g1 ⟨x,hrv,hx⟩=>?_
 subst hrv
 obtain ⟨m,rfl,hm⟩:=zhs hl0 hx
 simp (maxSteps:=5000000) -dsimp only [↓gp,gq,reduceCtorEq,reduceEqDiff,reduceLT,reduceLeDiff,reduceAdd,reduceMul,reduceSub,Nat.reduceBEq,Int.reduceToNat,Int.reduceLE,Int.reduceLT,Int.reduceNeg,reduceMod,zac,zad,zab,zaa,gT,TK.isInt,TK.agg,Array.toList,hs,e0,e1,hsl]
 refine ⟨by omega,hm,?_⟩
 exact ⟨_,i1,g1,[],⟨_,rfl,zat _ hm⟩,.one (.lf (.im _)),List.nodup_nil,by simp (maxSteps:=5000000) -dsimp only [gr,reduceEqDiff,reduceLT,reduceAdd,reduceMod,Nat.reduceBEq,zaa,zac,zad,zab,e0] <;> rfl,by simp (maxSteps:=5000000) -dsimp only [gr,reduceEqDiff,reduceLT,reduceAdd,reduceMod,Nat.reduceBEq,zaa,zac,zad,zab,e1] <;> rfl⟩
theorem zvG (bs:List Int):AC Try.prog 12 [.sl false 1 (kL .u8 bs)] (.im (bool (decide (1048576 < (bs.length:Int))))):=by
 refine AC.go (rs:=[.tmp 2]) zbe zax Try.func12 rfl rfl rfl (by kernel_rfl) fun hl=>?_
 simp (maxSteps:=5000000) -dsimp only [↓gp,gq,reduceCtorEq,reduceEqDiff,reduceLT,reduceLeDiff,reduceAdd,reduceMul,reduceSub,Nat.reduceBEq,Int.reduceToNat,Int.reduceLE,Int.reduceLT,Int.reduceNeg,reduceMod,zac,zad,zab,zaa,gT,TK.isInt,TK.agg,Array.toList]
theorem zcc (a:Int) (l:List Int):decide (a = a∧l = l) = true:=by simp
def kcx (P:Int→List Int→Prop) (rv:RV):Prop:=∃ n xs,rv = .ag [.im (int n),.fr 3 1 (iL xs)]∧P n xs
def cxQ (n:Int) (xs:List Int):Prop:=0 ≤ n∧n ≤ 7∧xs.length ≤ 449
theorem zrT {n:Nat} (hn:n ≤ 6) (f:Nat→Bool) (g:Bool):kcx cxQ (.ag [.im (int n),.fr 3 1 (iL (ofN (zhS f g)))]) :=
 ⟨_,_,rfl,by omega,by omega,by rw [zah];exact Nat.le_succ_of_le (zAB f g)⟩
theorem zDM {a b:Int} (ha:0 ≤ a∧a < 64) (hb:0 ≤ b∧b < 64):0 ≤ zcZ .i64 a b∧zcZ .i64 a b < 64:=zyA ha hb
theorem znE {L:List Int} {x:Int} (h:okS L) (hx:0 ≤ x∧x < 64):okS (L ++ [x]):=fun y hy=>by
 rw [List.mem_append,List.mem_singleton] at hy
 exact hy.elim (h y) (fun e=>e ▸ hx)
theorem zCq {n:Nat} (hn:n ≤ 6) {x:Int} (h:zD5 ((2 ^ n:Nat):Int) x):0 ≤ x∧x < 64:=by
 have h64:=zaz hn
 have hp:0 < 2 ^ n:=Nat.pow_pos (by omega)
 obtain ⟨m,rfl,hm⟩:=zhs hp h
 omega
theorem znF (bs:List Int) (hbs:bs.length ≤ 9223372036854775806) (n:Nat) (hn1:1 ≤ n) (hn:n ≤ 6):zvV Try.prog 188 TC bs ⟨0,.dead⟩ [int n] (kcx cxQ):=by
 intro i h
 refine AG.go (rs:=[.cell 4 27]) zbe zax Try.func188 rfl rfl rfl (by kernel_rfl) fun hl _ s hs hR=>?_
 have e0:s.rw 1000000 = ⟨1,.box TC [.sl false 1 (kL .u8 bs),int i,int h]⟩:=by rw [hR];rfl
 have e1:s.rw 1000500 = ⟨0,.dead⟩:=by rw [hR];rfl
 have elo:∀ k,k < 1000000→s.rw k = ⟨0,.dead⟩:=fun k hk=>by rw [hR];exact zny hk
 simp (maxSteps:=5000000) -dsimp only [↓gp,gq,reduceCtorEq,reduceEqDiff,reduceLT,reduceLeDiff,reduceAdd,reduceMul,reduceSub,Nat.reduceBEq,Int.reduceToNat,Int.reduceLE,Int.reduceLT,Int.reduceNeg,reduceMod,zac,zad,zab,zaa,gT,TK.isInt,TK.agg,Array.toList,hs,e0,elo]
 refine za9 (zc1 bs hbs [0,1,2,3,4,4,5,6] (by decide) (by decide)) (.some (j:=11) (by simp (maxSteps:=5000000) -dsimp only [gr,reduceEqDiff,reduceLT,reduceAdd,reduceMod,Nat.reduceBEq,zaa,zac,zad,zab,elo] <;> rfl) (zcJ _)) (by simp (maxSteps:=5000000) -dsimp only [gr,reduceEqDiff,reduceLT,reduceAdd,reduceMod,Nat.reduceBEq,zaa,zac,zad,zab,e0] <;> rfl) (.one (zcz (by simp (maxSteps:=5000000) -dsimp only [gr,reduceEqDiff,reduceLT,reduceAdd,reduceMod,Nat.reduceBEq,zaa,zac,zad,zab,e0] <;> rfl)) (.one (zkD (by simp (maxSteps:=5000000) -dsimp only [gr,reduceEqDiff,reduceLT,reduceAdd,reduceMod,Nat.reduceBEq,zaa,zac,zad,zab,elo])) .nil)) rfl (fun j hj=>by cases hj;exact ⟨rfl,rfl⟩) fun rv i1 g1 ⟨cnt,hrv,hc⟩=>?_
 subst hrv
 simp (maxSteps:=5000000) -dsimp only [↓gp,gq,reduceCtorEq,reduceEqDiff,reduceLT,reduceLeDiff,reduceAdd,reduceMul,reduceSub,Nat.reduceBEq,Int.reduceToNat,Int.reduceLE,Int.reduceLT,Int.reduceNeg,reduceMod,zac,zad,zab,zaa,gT,TK.isInt,TK.agg,Array.toList,hs,e0,elo]
 have hcn:0 ≤ cnt∧cnt ≤ 6:=by
  have hc:cnt ∈ [0,1,2,3,4,4,5,6]:=hc
  simp at hc;omega
 have h64:=zaz hn
 have hsh:znN .i64 1 (n:Int) = ((2 ^ n:Nat):Int):=zbB (by omega)
 have hun:IntKind.u64.wrap (n:Int) = (n:Int):=zbG (by omega)
 refine zao (fun (za:Nat × Nat × Nat × Int × List Int) s=>match za with | (k,v,j,g,L)=>s.sl 0 = .ref 1000000 1 0∧s.rw 1000000 = ⟨1,.box TC [.sl false 1 (kL .u8 bs),int j,int g]⟩∧s.rw 1000500 = ⟨0,.dead⟩∧s.sl 1 = int n∧s.sl 4 = .ref 4 1 0∧s.rw 4 = ⟨1,.box 27 [int 0,.v (.slice none 0 0)]⟩∧s.sl 5 = .own 9 v∧s.rw 9 = ⟨v,.sli 3 1 false (iL L)⟩∧s.sl 6 = int cnt∧s.sl 7 = int k∧(k ≤ 6∧L.length = k∧okS L)) (fun (k,v,j,g,L)=>6 - k) ((0,1,i1,g1,[])) (by refine ⟨?_,?_,?_,?_,?_,?_,?_,?_,?_,?_,⟨by decide,rfl,fun x hx=>absurd hx (by simp)⟩⟩ <;> (first | (simp (maxSteps:=5000000) -dsimp only [gr,reduceEqDiff,reduceLT,reduceAdd,reduceMod,Nat.reduceBEq,zaa,zac,zad,zab,hs,e0,e1,elo];first | done | rfl | (simp;done)) | assumption | rfl)) ?_
 intro (k,v,j,g,L) sa ⟨h0a,r1000000a,r1000500a,h1a,h4a,r4a,h5a,r9a,h6a,h7a,hIa⟩
 obtain ⟨hk,hL,hok⟩:=hIa
 simp (maxSteps:=5000000) -dsimp only [↓gp,gq,reduceCtorEq,reduceEqDiff,reduceLT,reduceLeDiff,reduceAdd,reduceMul,reduceSub,Nat.reduceBEq,Int.reduceToNat,Int.reduceLE,Int.reduceLT,Int.reduceNeg,reduceMod,zac,zad,zab,zaa,gT,TK.isInt,TK.agg,Array.toList,h0a,r1000000a,r1000500a,h1a,h4a,r4a,h5a,r9a,h6a,h7a,hsh,hun]
 refine ⟨fun hlt=>?_,fun hlt=>?_⟩
 ·refine za9 (zbd bs hbs ((2 ^ n:Nat):Int) (by omega)) .none (by simp (maxSteps:=5000000) -dsimp only [gr,reduceEqDiff,reduceLT,reduceAdd,reduceMod,Nat.reduceBEq,zaa,zac,zad,zab,h0a,r1000000a,r1000500a,h1a,h4a,r4a,h5a,r9a,h6a,h7a] <;> rfl) (GvL.one (zcz (by simp (maxSteps:=5000000) -dsimp only [gr,reduceEqDiff,reduceLT,reduceAdd,reduceMod,Nat.reduceBEq,zaa,zac,zad,zab,h0a,r1000000a,r1000500a,h1a,h4a,r4a,h5a,r9a,h6a,h7a] <;> rfl)) (by repeat (first | exact GvL.nil | refine GvL.one (GvA.v _) ?_ | refine GvL.one (GvA.sl _ _ _) ?_))) rfl (fun _ h=>by cases h) fun rv i2 g2 ⟨x,hrv,hx⟩=>?_
  subst hrv
  have hx6:=zCq hn hx
  simp (maxSteps:=5000000) -dsimp only [↓gp,gq,reduceCtorEq,reduceEqDiff,reduceLT,reduceLeDiff,reduceAdd,reduceMul,reduceSub,Nat.reduceBEq,Int.reduceToNat,Int.reduceLE,Int.reduceLT,Int.reduceNeg,reduceMod,zac,zad,zab,zaa,gT,TK.isInt,TK.agg,Array.toList,h0a,r1000000a,r1000500a,h1a,h4a,r4a,h5a,r9a,h6a,h7a,hsh,hun]
  refine za9 (znw bs hbs 2 (by decide)) .none (by simp (maxSteps:=5000000) -dsimp only [gr,reduceEqDiff,reduceLT,reduceAdd,reduceMod,Nat.reduceBEq,zaa,zac,zad,zab,h0a,r1000000a,r1000500a,h1a,h4a,r4a,h5a,r9a,h6a,h7a] <;> rfl) (GvL.one (zcz (by simp (maxSteps:=5000000) -dsimp only [gr,reduceEqDiff,reduceLT,reduceAdd,reduceMod,Nat.reduceBEq,zaa,zac,zad,zab,h0a,r1000000a,r1000500a,h1a,h4a,r4a,h5a,r9a,h6a,h7a] <;> rfl)) (by repeat (first | exact GvL.nil | refine GvL.one (GvA.v _) ?_ | refine GvL.one (GvA.sl _ _ _) ?_))) rfl (fun _ h=>by cases h) fun rv i3 g3 ⟨b,hrv⟩=>?_
  subst hrv
  simp (maxSteps:=5000000) -dsimp only [↓gp,gq,reduceCtorEq,reduceEqDiff,reduceLT,reduceLeDiff,reduceAdd,reduceMul,reduceSub,Nat.reduceBEq,Int.reduceToNat,Int.reduceLE,Int.reduceLT,Int.reduceNeg,reduceMod,zac,zad,zab,zaa,gT,TK.isInt,TK.agg,Array.toList,h0a,r1000000a,r1000500a,h1a,h4a,r4a,h5a,r9a,h6a,h7a,hsh,hun]
  refine ⟨fun hb=>?_,fun hb=>?_⟩
  ·refine za9 (zbd bs hbs ((2 ^ n:Nat):Int) (by omega)) .none (by simp (maxSteps:=5000000) -dsimp only [gr,reduceEqDiff,reduceLT,reduceAdd,reduceMod,Nat.reduceBEq,zaa,zac,zad,zab,h0a,r1000000a,r1000500a,h1a,h4a,r4a,h5a,r9a,h6a,h7a] <;> rfl) (GvL.one (zcz (by simp (maxSteps:=5000000) -dsimp only [gr,reduceEqDiff,reduceLT,reduceAdd,reduceMod,Nat.reduceBEq,zaa,zac,zad,zab,h0a,r1000000a,r1000500a,h1a,h4a,r4a,h5a,r9a,h6a,h7a] <;> rfl)) (by repeat (first | exact GvL.nil | refine GvL.one (GvA.v _) ?_ | refine GvL.one (GvA.sl _ _ _) ?_))) rfl (fun _ h=>by cases h) fun rv i4 g4 ⟨y,hrv,hy⟩=>?_
   subst hrv
   have hy6:=zCq hn hy
   simp (maxSteps:=5000000) -dsimp only [↓gp,gq,reduceCtorEq,reduceEqDiff,reduceLT,reduceLeDiff,reduceAdd,reduceMul,reduceSub,Nat.reduceBEq,Int.reduceToNat,Int.reduceLE,Int.reduceLT,Int.reduceNeg,reduceMod,zac,zad,zab,zaa,gT,TK.isInt,TK.agg,Array.toList,h0a,r1000000a,r1000500a,h1a,h4a,r4a,h5a,r9a,h6a,h7a,hsh,hun]
   refine ⟨by omega,?_⟩
   exact zag ((k + 1,v + 1,i4,g4,L ++ [zcZ .i64 x y])) (by refine ⟨?_,?_,?_,?_,?_,?_,?_,?_,?_,?_,⟨by dsimp only;omega,by simp [hL],znE hok (zDM hx6 hy6)⟩⟩ <;> (first | (simp (maxSteps:=5000000) -dsimp only [gr,reduceEqDiff,reduceLT,reduceAdd,reduceMod,Nat.reduceBEq,zaa,zac,zad,zab,h0a,r1000000a,r1000500a,h1a,h4a,r4a,h5a,r9a,h6a,h7a,zae (show k < 6 by omega) (by omega)];first | done | rfl | (simp;done)) | assumption | rfl)) (by first | omega | (simp only;omega) | (dsimp only;omega) | (show _ < _;simp;omega))
  ·refine ⟨by omega,?_⟩
   exact zag ((k + 1,v + 1,i3,g3,L ++ [x])) (by refine ⟨?_,?_,?_,?_,?_,?_,?_,?_,?_,?_,⟨by dsimp only;omega,by simp [hL],znE hok hx6⟩⟩ <;> (first | (simp (maxSteps:=5000000) -dsimp only [gr,reduceEqDiff,reduceLT,reduceAdd,reduceMod,Nat.reduceBEq,zaa,zac,zad,zab,h0a,r1000000a,r1000500a,h1a,h4a,r4a,h5a,r9a,h6a,h7a,zae (show k < 6 by omega) (by omega)];first | done | rfl | (simp;done)) | assumption | rfl)) (by first | omega | (simp only;omega) | (dsimp only;omega) | (show _ < _;simp;omega))
 ·refine zaf (zcs n L hok) ?_
  simp (maxSteps:=5000000) -dsimp only [↓gp,gq,reduceCtorEq,reduceEqDiff,reduceLT,reduceLeDiff,reduceAdd,reduceMul,reduceSub,Nat.reduceBEq,Int.reduceToNat,Int.reduceLE,Int.reduceLT,Int.reduceNeg,reduceMod,zac,zad,zab,zaa,gT,TK.isInt,TK.agg,Array.toList,h0a,r1000000a,r1000500a,h1a,h4a,r4a,h5a,r9a,h6a,h7a]
  exact ⟨_,j,g,_,zrT hn _ _,.one (.ag (.cons (.im _) (.cons (.fr (by simp (maxSteps:=5000000) -dsimp only [gr,reduceEqDiff,reduceLT,reduceAdd,reduceMod,Nat.reduceBEq,zaa,zac,zad,zab,h0a,r1000000a,r1000500a,h1a,h4a,r4a,h5a,r9a,h6a,h7a] <;> rfl) (by decide)) .nil))),by simp,by simp (maxSteps:=5000000) -dsimp only [gr,reduceEqDiff,reduceLT,reduceAdd,reduceMod,Nat.reduceBEq,zaa,zac,zad,zab,h0a,r1000000a,r1000500a,h1a,h4a,r4a,h5a,r9a,h6a,h7a] <;> rfl,by simp (maxSteps:=5000000) -dsimp only [gr,reduceEqDiff,reduceLT,reduceAdd,reduceMod,Nat.reduceBEq,zaa,zac,zad,zab,h0a,r1000000a,r1000500a,h1a,h4a,r4a,h5a,r9a,h6a,h7a]⟩
def szQ (z m:Nat):List Nat:=(List.range m).filter fun s=>zap s == z
theorem zAX (z m:Nat):szQ z (m + 1) = if zap m = z then szQ z m ++ [m] else szQ z m:=by
 unfold szQ
 rw [List.range_succ,List.filter_append]
 by_cases h:zap m = z <;> simp [h]
theorem zDK (z m:Nat):(szQ z m).length ≤ m:=by
 unfold szQ
 exact Nat.le_trans (List.length_filter_le _ _) (by simp)
theorem zDL:∀ n,n < 7→∀ z,z < n + 1→0 < (szQ z (2 ^ n)).length:=by decide +kernel
theorem zFL (z m:Nat) (hm:m ≤ 64):okS (ofN (szQ z m)):=fun x hx=>by
 obtain ⟨s,hs,rfl⟩:=List.mem_map.1 hx
 have:=List.mem_range.1 (List.mem_filter.1 hs).1
 omega
theorem znD (bs:List Int) (hbs:bs.length ≤ 9223372036854775806) (n:Nat) (hn1:1 ≤ n) (hn:n ≤ 6):zvV Try.prog 205 TC bs ⟨0,.dead⟩ [int n] (kcx cxQ):=by
 intro i h
 refine AG.go (rs:=[.cell 4 27]) zbe zax Try.func205 rfl rfl rfl (by kernel_rfl) fun hl _ s hs hR=>?_
 have e0:s.rw 1000000 = ⟨1,.box TC [.sl false 1 (kL .u8 bs),int i,int h]⟩:=by rw [hR];rfl
 have e1:s.rw 1000500 = ⟨0,.dead⟩:=by rw [hR];rfl
 have elo:∀ k,k < 1000000→s.rw k = ⟨0,.dead⟩:=fun k hk=>by rw [hR];exact zny hk
 have h64:=zaz hn
 have hsh:znN .i64 1 (n:Int) = ((2 ^ n:Nat):Int):=zbB (by omega)
 have hun:IntKind.u64.wrap (n:Int) = (n:Int):=zbG (by omega)
 simp (maxSteps:=5000000) -dsimp only [↓gp,gq,reduceCtorEq,reduceEqDiff,reduceLT,reduceLeDiff,reduceAdd,reduceMul,reduceSub,Nat.reduceBEq,Int.reduceToNat,Int.reduceLE,Int.reduceLT,Int.reduceNeg,reduceMod,zac,zad,zab,zaa,gT,TK.isInt,TK.agg,Array.toList,hs,e0,elo]
 refine za9 (zbd bs hbs n (by omega)) .none (by simp (maxSteps:=5000000) -dsimp only [gr,reduceEqDiff,reduceLT,reduceAdd,reduceMod,Nat.reduceBEq,zaa,zac,zad,zab,e0,elo] <;> rfl) (GvL.one (zcz (by simp (maxSteps:=5000000) -dsimp only [gr,reduceEqDiff,reduceLT,reduceAdd,reduceMod,Nat.reduceBEq,zaa,zac,zad,zab,e0,elo] <;> rfl)) (by repeat (first | exact GvL.nil | refine GvL.one (GvA.v _) ?_ | refine GvL.one (GvA.sl _ _ _) ?_))) rfl (fun _ h=>by cases h) fun rv i1 g1 ⟨x,hrv,hx⟩=>?_
 subst hrv
 obtain ⟨z0,rfl,hz0⟩:=zhs hn1 hx
 have hw1:IntKind.i64.wrap (1 + (z0:Int)) = ((z0 + 1:Nat):Int):=by rw [zaq (by omega) (by omega)];omega
 generalize hz:z0 + 1 = z at *
 simp (maxSteps:=5000000) -dsimp only [↓gp,gq,reduceCtorEq,reduceEqDiff,reduceLT,reduceLeDiff,reduceAdd,reduceMul,reduceSub,Nat.reduceBEq,Int.reduceToNat,Int.reduceLE,Int.reduceLT,Int.reduceNeg,reduceMod,zac,zad,zab,zaa,gT,TK.isInt,TK.agg,Array.toList,hs,e0,elo,hw1]
 refine zao (fun (za:Nat × Nat) s=>match za with | (m,v)=>s.sl 0 = .ref 1000000 1 0∧s.rw 1000000 = ⟨1,.box TC [.sl false 1 (kL .u8 bs),int i1,int g1]⟩∧s.rw 1000500 = ⟨0,.dead⟩∧s.sl 1 = int n∧s.sl 4 = .ref 4 1 0∧s.rw 4 = ⟨1,.box 27 [int 0,.v (.slice none 0 0)]⟩∧s.sl 5 = int z∧s.sl 6 = .own 15 v∧s.rw 15 = ⟨v,.sli 3 1 false (iL (ofN (szQ z m)))⟩∧s.rw 31 = ⟨0,.dead⟩∧s.sl 7 = int m∧(m ≤ 2 ^ n)) (fun (m,v)=>2 ^ n - m) ((0,1)) (by refine ⟨?_,?_,?_,?_,?_,?_,?_,?_,?_,?_,?_,Nat.zero_le _⟩ <;> (first | (simp (maxSteps:=5000000) -dsimp only [gr,reduceEqDiff,reduceLT,reduceAdd,reduceMod,Nat.reduceBEq,zaa,zac,zad,zab,hs,e0,e1,elo];first | done | rfl | (simp;done)) | assumption | rfl)) ?_
 intro (m,v) sa ⟨h0a,r1000000a,r1000500a,h1a,h4a,r4a,h5a,h6a,r15a,r31a,h7a,hIa⟩
 simp (maxSteps:=5000000) -dsimp only [↓gp,gq,reduceCtorEq,reduceEqDiff,reduceLT,reduceLeDiff,reduceAdd,reduceMul,reduceSub,Nat.reduceBEq,Int.reduceToNat,Int.reduceLE,Int.reduceLT,Int.reduceNeg,reduceMod,zac,zad,zab,zaa,gT,TK.isInt,TK.agg,Array.toList,h0a,r1000000a,r1000500a,h1a,h4a,r4a,h5a,h6a,r15a,r31a,h7a,hsh,hun]
 have hzl:=zDK z m
 refine ⟨fun hlt=>zaf (zaK m (by omega)) ?_,fun hlt=>?_⟩
 ·simp (maxSteps:=5000000) -dsimp only [↓gp,gq,reduceCtorEq,reduceEqDiff,reduceLT,reduceLeDiff,reduceAdd,reduceMul,reduceSub,Nat.reduceBEq,Int.reduceToNat,Int.reduceLE,Int.reduceLT,Int.reduceNeg,reduceMod,zac,zad,zab,zaa,gT,TK.isInt,TK.agg,Array.toList,h0a,r1000000a,r1000500a,h1a,h4a,r4a,h5a,h6a,r15a,r31a,h7a,hsh,hun]
  have hsu:=zAX z m
  refine ⟨fun he=>?_,fun he=>?_⟩
  ·have he:zap m = z:=by
    have:((zap m:Nat):Int) = z:=by simpa using he
    omega
   rw [if_pos he] at hsu
   simp (maxSteps:=5000000) -dsimp only [↓gp,gq,reduceCtorEq,reduceEqDiff,reduceLT,reduceLeDiff,reduceAdd,reduceMul,reduceSub,Nat.reduceBEq,Int.reduceToNat,Int.reduceLE,Int.reduceLT,Int.reduceNeg,reduceMod,zac,zad,zab,zaa,gT,TK.isInt,TK.agg,Array.toList,h0a,r1000000a,r1000500a,h1a,h4a,r4a,h5a,h6a,r15a,r31a,h7a,hsh,hun,zah]
   refine ⟨by omega,?_⟩
   exact zag ((m + 1,v + 1)) (by refine ⟨?_,?_,?_,?_,?_,?_,?_,?_,?_,?_,?_,by dsimp only;omega⟩ <;> (first | (simp (maxSteps:=5000000) -dsimp only [gr,reduceEqDiff,reduceLT,reduceAdd,reduceMod,Nat.reduceBEq,zaa,zac,zad,zab,h0a,r1000000a,r1000500a,h1a,h4a,r4a,h5a,h6a,r15a,r31a,h7a,hsu,zbf,zdK,zae hlt (by omega)];first | done | rfl | (simp;done)) | assumption | rfl)) (by first | omega | (simp only;omega) | (dsimp only;omega) | (show _ < _;simp;omega))
  ·have he:¬ zap m = z:=fun e=>by rw [e] at he;simp at he
   rw [if_neg he] at hsu
   exact zag ((m + 1,v)) (by refine ⟨?_,?_,?_,?_,?_,?_,?_,?_,?_,?_,?_,by dsimp only;omega⟩ <;> (first | (simp (maxSteps:=5000000) -dsimp only [gr,reduceEqDiff,reduceLT,reduceAdd,reduceMod,Nat.reduceBEq,zaa,zac,zad,zab,h0a,r1000000a,r1000500a,h1a,h4a,r4a,h5a,h6a,r15a,r31a,h7a,hsu,zae hlt (by omega)];first | done | rfl | (simp;done)) | assumption | rfl)) (by first | omega | (simp only;omega) | (dsimp only;omega) | (show _ < _;simp;omega))
 ·have hm:m = 2 ^ n:=by omega
  subst hm
  have hpos:=zDL n (by omega) z (by omega)
  have hAok:=zFL z (2 ^ n) h64
  generalize hA:szQ z (2 ^ n) = A at *
  have hAl:(ofN A).length = A.length:=zah A
  refine za9 (zbd bs hbs 7 (by decide)) .none (by simp (maxSteps:=5000000) -dsimp only [gr,reduceEqDiff,reduceLT,reduceAdd,reduceMod,Nat.reduceBEq,zaa,zac,zad,zab,h0a,r1000000a,r1000500a,h1a,h4a,r4a,h5a,h6a,r15a,r31a,h7a] <;> rfl) (GvL.one (zcz (by simp (maxSteps:=5000000) -dsimp only [gr,reduceEqDiff,reduceLT,reduceAdd,reduceMod,Nat.reduceBEq,zaa,zac,zad,zab,h0a,r1000000a,r1000500a,h1a,h4a,r4a,h5a,h6a,r15a,r31a,h7a] <;> rfl)) (by repeat (first | exact GvL.nil | refine GvL.one (GvA.v _) ?_ | refine GvL.one (GvA.sl _ _ _) ?_))) rfl (fun _ h=>by cases h) fun rv i2 g2 ⟨x,hrv,hx⟩=>?_
  subst hrv
  have hx7:0 ≤ x∧x < 7:=by obtain ⟨a,b⟩:=hx;omega
  have hw2:IntKind.i64.wrap (1 + x) = 1 + x:=zaq (by omega) (by omega)
  simp (maxSteps:=5000000) -dsimp only [↓gp,gq,reduceCtorEq,reduceEqDiff,reduceLT,reduceLeDiff,reduceAdd,reduceMul,reduceSub,Nat.reduceBEq,Int.reduceToNat,Int.reduceLE,Int.reduceLT,Int.reduceNeg,reduceMod,zac,zad,zab,zaa,gT,TK.isInt,TK.agg,Array.toList,h0a,r1000000a,r1000500a,h1a,h4a,r4a,h5a,h6a,r15a,r31a,h7a,hw2]
  refine zao (fun (zb:Nat × Nat × Nat × Int × List Int) s=>match zb with | (k,u,j,g,L)=>s.sl 0 = .ref 1000000 1 0∧s.rw 1000000 = ⟨1,.box TC [.sl false 1 (kL .u8 bs),int j,int g]⟩∧s.rw 1000500 = ⟨0,.dead⟩∧s.sl 1 = int n∧s.sl 4 = .ref 4 1 0∧s.rw 4 = ⟨1,.box 27 [int 0,.v (.slice none 0 0)]⟩∧s.sl 6 = .own 15 v∧s.rw 15 = ⟨v,.sli 3 1 false (iL (ofN A))⟩∧s.sl 8 = .own 31 u∧s.rw 31 = ⟨u,.sli 3 1 false (iL L)⟩∧s.sl 9 = int (1 + x)∧s.sl 10 = int k∧(k ≤ 7∧L.length = k∧okS L)) (fun (k,u,j,g,L)=>7 - k) ((0,1,i2,g2,[])) (by refine ⟨?_,?_,?_,?_,?_,?_,?_,?_,?_,?_,?_,?_,⟨by decide,rfl,fun x hx=>absurd hx (by simp)⟩⟩ <;> (first | (simp (maxSteps:=5000000) -dsimp only [gr,reduceEqDiff,reduceLT,reduceAdd,reduceMod,Nat.reduceBEq,zaa,zac,zad,zab,h0a,r1000000a,r1000500a,h1a,h4a,r4a,h5a,h6a,r15a,r31a,h7a];first | done | rfl | (simp;done)) | assumption | rfl)) ?_
  intro (k,u,j,g,L) sb ⟨h0b,r1000000b,r1000500b,h1b,h4b,r4b,h6b,r15b,h8b,r31b,h9b,h10b,hIb⟩
  obtain ⟨hk,hL,hok⟩:=hIb
  simp (maxSteps:=5000000) -dsimp only [↓gp,gq,reduceCtorEq,reduceEqDiff,reduceLT,reduceLeDiff,reduceAdd,reduceMul,reduceSub,Nat.reduceBEq,Int.reduceToNat,Int.reduceLE,Int.reduceLT,Int.reduceNeg,reduceMod,zac,zad,zab,zaa,gT,TK.isInt,TK.agg,Array.toList,h0b,r1000000b,r1000500b,h1b,h4b,r4b,h6b,r15b,h8b,r31b,h9b,h10b,hAl]
  refine ⟨fun hlt2=>?_,fun hlt2=>?_⟩
  ·refine za9 (zbd bs hbs (A.length:Int) (by omega)) .none (by simp (maxSteps:=5000000) -dsimp only [gr,reduceEqDiff,reduceLT,reduceAdd,reduceMod,Nat.reduceBEq,zaa,zac,zad,zab,h0b,r1000000b,r1000500b,h1b,h4b,r4b,h6b,r15b,h8b,r31b,h9b,h10b] <;> rfl) (GvL.one (zcz (by simp (maxSteps:=5000000) -dsimp only [gr,reduceEqDiff,reduceLT,reduceAdd,reduceMod,Nat.reduceBEq,zaa,zac,zad,zab,h0b,r1000000b,r1000500b,h1b,h4b,r4b,h6b,r15b,h8b,r31b,h9b,h10b] <;> rfl)) (by repeat (first | exact GvL.nil | refine GvL.one (GvA.v _) ?_ | refine GvL.one (GvA.sl _ _ _) ?_))) rfl (fun _ h=>by cases h) fun rv i3 g3 ⟨y,hrv,hy⟩=>?_
   subst hrv
   obtain ⟨t,rfl,ht⟩:=zhs hpos hy
   have hgt:=hAok _ (zat 0 (show t < (ofN A).length by omega))
   simp (maxSteps:=5000000) -dsimp only [↓gp,gq,reduceCtorEq,reduceEqDiff,reduceLT,reduceLeDiff,reduceAdd,reduceMul,reduceSub,Nat.reduceBEq,Int.reduceToNat,Int.reduceLE,Int.reduceLT,Int.reduceNeg,reduceMod,zac,zad,zab,zaa,gT,TK.isInt,TK.agg,Array.toList,h0b,r1000000b,r1000500b,h1b,h4b,r4b,h6b,r15b,h8b,r31b,h9b,h10b,hAl]
   refine ⟨by omega,by omega,by omega,?_⟩
   exact zag ((k + 1,u + 1,i3,g3,L ++ [(ofN A).getD t 0])) (by refine ⟨?_,?_,?_,?_,?_,?_,?_,?_,?_,?_,?_,?_,⟨by dsimp only;omega,by simp [hL],znE hok hgt⟩⟩ <;> (first | (simp (maxSteps:=5000000) -dsimp only [gr,reduceEqDiff,reduceLT,reduceAdd,reduceMod,Nat.reduceBEq,zaa,zac,zad,zab,h0b,r1000000b,r1000500b,h1b,h4b,r4b,h6b,r15b,h8b,r31b,h9b,h10b,zae (show k < 7 by omega) (by omega)];first | done | rfl | (simp;done)) | assumption | rfl)) (by first | omega | (simp only;omega) | (dsimp only;omega) | (show _ < _;simp;omega))
  ·refine zaf (zcs n L hok) ?_
   simp (maxSteps:=5000000) -dsimp only [↓gp,gq,reduceCtorEq,reduceEqDiff,reduceLT,reduceLeDiff,reduceAdd,reduceMul,reduceSub,Nat.reduceBEq,Int.reduceToNat,Int.reduceLE,Int.reduceLT,Int.reduceNeg,reduceMod,zac,zad,zab,zaa,gT,TK.isInt,TK.agg,Array.toList,h0b,r1000000b,r1000500b,h1b,h4b,r4b,h6b,r15b,h8b,r31b,h9b,h10b]
   exact ⟨_,j,g,_,zrT hn _ _,.one (.ag (.cons (.im _) (.cons (.fr (by simp (maxSteps:=5000000) -dsimp only [gr,reduceEqDiff,reduceLT,reduceAdd,reduceMod,Nat.reduceBEq,zaa,zac,zad,zab,h0b,r1000000b,r1000500b,h1b,h4b,r4b,h6b,r15b,h8b,r31b,h9b,h10b] <;> rfl) (by decide)) .nil))),by simp,by simp (maxSteps:=5000000) -dsimp only [gr,reduceEqDiff,reduceLT,reduceAdd,reduceMod,Nat.reduceBEq,zaa,zac,zad,zab,h0b,r1000000b,r1000500b,h1b,h4b,r4b,h6b,r15b,h8b,r31b,h9b,h10b] <;> rfl,by simp (maxSteps:=5000000) -dsimp only [gr,reduceEqDiff,reduceLT,reduceAdd,reduceMod,Nat.reduceBEq,zaa,zac,zad,zab,h0b,r1000000b,r1000500b,h1b,h4b,r4b,h6b,r15b,h8b,r31b,h9b,h10b]⟩
def cx6 (n:Nat) (l:List Nat):Bool:=decide (1 ≤ n) && decide (n ≤ 6) && (List.range l.length).all fun k =>
 decide (l.getD k 0 < 2 ^ n) && (decide (k = 0) || (if zrr (l.getD (k - 1) 0) = zrr (l.getD k 0) then decide (l.getD (k - 1) 0 < l.getD k 0) else decide (zrr (l.getD (k - 1) 0) < zrr (l.getD k 0)))) &&
 (List.range k).all fun i=>!(l.getD i 0 &&& l.getD k 0 == l.getD i 0)
theorem zqI {l:List Nat} {k:Nat} (h:k < l.length):(ofN l).getD k 0 = ((l.getD k 0:Nat):Int):=zaL h
theorem zFM {n:Nat} {l:List Nat} (h:cx6 n l = true):cxP n (ofN l):=by
 unfold cx6 at h
 simp only [Bool.and_eq_true,decide_eq_true_eq,List.all_eq_true,List.mem_range,Bool.or_eq_true,Bool.not_eq_true'] at h
 obtain ⟨⟨h1,h6⟩,hall⟩:=h
 refine ⟨by omega,by omega,fun k hk=>?_⟩
 rw [zah] at hk
 obtain ⟨⟨ha,hb⟩,hc⟩:=hall k hk
 have hp:=zaz h6
 have hk64:l.getD k 0 < 64:=by omega
 have at64:∀ i,i < l.length→l.getD i 0 < 64:=fun i hi=>by have:=(hall i hi).1.1;omega
 refine ⟨?_,fun h0=>?_,fun i hi=>?_⟩
 ·rw [zqI hk]
  unfold zdv
  refine decide_eq_true ⟨by omega,by omega,by omega,?_⟩
  rw [zfM]
  omega
 ·have hb:=hb.resolve_left (by omega)
  have hj64:=at64 (k - 1) (by omega)
  rw [zqI hk,zqI (show k - 1 < l.length by omega)]
  generalize l.getD (k - 1) 0 = a at *
  generalize l.getD k 0 = b at *
  have ea:zkG (a:Int) = (zrr a:Nat):=by rw [zkG,if_pos (by omega),Int.toNat_natCast,zhR hj64]
  have eb:zkG (b:Int) = (zrr b:Nat):=by rw [zkG,if_pos (by omega),Int.toNat_natCast,zhR hk64]
  unfold zkH
  rw [ea,eb,decide_eq_true (show (0:Int) ≤ a∧(a:Int) < 64 by omega),decide_eq_true (show (0:Int) ≤ b∧(b:Int) < 64 by omega)]
  simp only [Bool.true_and]
  by_cases he:zrr a = zrr b
  ·rw [if_pos he] at hb
   rw [if_pos (by omega)]
   exact decide_eq_true (by have:=of_decide_eq_true hb;omega)
  ·rw [if_neg he] at hb
   rw [if_neg (by omega)]
   exact decide_eq_true (by have:=of_decide_eq_true hb;omega)
 ·have hq:=hc i hi
  have hi64:=at64 i (by omega)
  rw [zqI hk,zqI (show i < l.length by omega),za4 (by omega) (by omega)]
  intro e
  have e:l.getD i 0 &&& l.getD k 0 = l.getD i 0:=Int.ofNat.inj e
  rw [e] at hq
  simp at hq
theorem zuE (ps:List ByteArray):zrH ps = ofN (ps.map fun p=>znO p p.size):=by
 unfold zrH ofN
 rw [List.map_map];rfl
theorem zhZ {t rest:ByteArray} {n:Nat} {ps:List ByteArray} (size:decide (2 ≤ t.size∧t.size ≤ 1000) = true) (pts:decide (1 ≤ n∧n ≤ 6) = true) (b0:byt t 0 = 48 + n) (b1:byt t 1 = 58) (tail:t.extract 2 t.size = rest)
 (rsize:decide (rest.size ≤ 1000) = true) (full:(rest.toList == (⟨#[]⟩:ByteArray).toList) = false) (parts:zhU rest 44 = ps) (plen:decide (0 < ps.length∧ps.length ≤ 1000) = true) (sets:ps.all zDf = true)
 (head:zhU t 58 = [chr n,rest]) (cx:cx6 n (ps.map fun p=>znO p p.size) = true):OkText t n rest ps :=
 ⟨of_decide_eq_true size,of_decide_eq_true pts,b0,b1,tail,of_decide_eq_true rsize,full,parts,(of_decide_eq_true plen).2,(of_decide_eq_true plen).1,fun p hp=>zAx (List.all_eq_true.1 sets p hp),head,by rw [zuE];exact zFM cx⟩
def ex2:ByteArray:=⟨#[54,58,97,99,100,44,98,99,100,44,97,98,101,44,97,99,101,44,98,100,101,44,97,98,102,44,98,99,102,44,97,100,102,44,99,101,102,44,100,101,102]⟩
def ps2:List ByteArray:=[⟨#[97,99,100]⟩,⟨#[98,99,100]⟩,⟨#[97,98,101]⟩,⟨#[97,99,101]⟩,⟨#[98,100,101]⟩,⟨#[97,98,102]⟩,⟨#[98,99,102]⟩,⟨#[97,100,102]⟩,⟨#[99,101,102]⟩,⟨#[100,101,102]⟩]
theorem zH6:OkText ex2 6 ⟨#[97,99,100,44,98,99,100,44,97,98,101,44,97,99,101,44,98,100,101,44,97,98,102,44,98,99,102,44,97,100,102,44,99,101,102,44,100,101,102]⟩ ps2:=zhZ (by kernel_rfl) (by kernel_rfl) (by kernel_rfl) (by kernel_rfl) (by kernel_rfl) (by kernel_rfl) (by kernel_rfl) (by kernel_rfl) (by kernel_rfl) (by kernel_rfl) (by kernel_rfl) (by kernel_rfl)
def ex3:ByteArray:=⟨#[53,58,97,98,44,98,99,44,99,100,44,97,101,44,100,101]⟩
def ps3:List ByteArray:=[⟨#[97,98]⟩,⟨#[98,99]⟩,⟨#[99,100]⟩,⟨#[97,101]⟩,⟨#[100,101]⟩]
theorem zH7:OkText ex3 5 ⟨#[97,98,44,98,99,44,99,100,44,97,101,44,100,101]⟩ ps3:=zhZ (by kernel_rfl) (by kernel_rfl) (by kernel_rfl) (by kernel_rfl) (by kernel_rfl) (by kernel_rfl) (by kernel_rfl) (by kernel_rfl) (by kernel_rfl) (by kernel_rfl) (by kernel_rfl) (by kernel_rfl)
def ex4:ByteArray:=⟨#[53,58,97,98,99,44,99,100,101]⟩
def ps4:List ByteArray:=[⟨#[97,98,99]⟩,⟨#[99,100,101]⟩]
theorem zH8:OkText ex4 5 ⟨#[97,98,99,44,99,100,101]⟩ ps4:=zhZ (by kernel_rfl) (by kernel_rfl) (by kernel_rfl) (by kernel_rfl) (by kernel_rfl) (by kernel_rfl) (by kernel_rfl) (by kernel_rfl) (by kernel_rfl) (by kernel_rfl) (by kernel_rfl) (by kernel_rfl)
def ex5:ByteArray:=⟨#[54,58,97,98,99,44,97,99,100,44,97,98,101,44,97,100,101,44,98,99,102,44,99,100,102,44,98,101,102,44,100,101,102]⟩
def ps5:List ByteArray:=[⟨#[97,98,99]⟩,⟨#[97,99,100]⟩,⟨#[97,98,101]⟩,⟨#[97,100,101]⟩,⟨#[98,99,102]⟩,⟨#[99,100,102]⟩,⟨#[98,101,102]⟩,⟨#[100,101,102]⟩]
theorem zH9:OkText ex5 6 ⟨#[97,98,99,44,97,99,100,44,97,98,101,44,97,100,101,44,98,99,102,44,99,100,102,44,98,101,102,44,100,101,102]⟩ ps5:=zhZ (by kernel_rfl) (by kernel_rfl) (by kernel_rfl) (by kernel_rfl) (by kernel_rfl) (by kernel_rfl) (by kernel_rfl) (by kernel_rfl) (by kernel_rfl) (by kernel_rfl) (by kernel_rfl) (by kernel_rfl)
def ex6:ByteArray:=⟨#[54,58,97,98,44,99,100,44,101,102]⟩
def ps6:List ByteArray:=[⟨#[97,98]⟩,⟨#[99,100]⟩,⟨#[101,102]⟩]
theorem zIa:OkText ex6 6 ⟨#[97,98,44,99,100,44,101,102]⟩ ps6:=zhZ (by kernel_rfl) (by kernel_rfl) (by kernel_rfl) (by kernel_rfl) (by kernel_rfl) (by kernel_rfl) (by kernel_rfl) (by kernel_rfl) (by kernel_rfl) (by kernel_rfl) (by kernel_rfl) (by kernel_rfl)
def ex7:ByteArray:=⟨#[52,58,97,98,44,98,99,44,99,100]⟩
def ps7:List ByteArray:=[⟨#[97,98]⟩,⟨#[98,99]⟩,⟨#[99,100]⟩]
theorem zIb:OkText ex7 4 ⟨#[97,98,44,98,99,44,99,100]⟩ ps7:=zhZ (by kernel_rfl) (by kernel_rfl) (by kernel_rfl) (by kernel_rfl) (by kernel_rfl) (by kernel_rfl) (by kernel_rfl) (by kernel_rfl) (by kernel_rfl) (by kernel_rfl) (by kernel_rfl) (by kernel_rfl)
def dx1:ByteArray:=⟨#[54,58,97,98,100,44,97,98,101,44,97,99,101,44,98,99,101,44,99,100,101,44,97,99,102,44,98,99,102,44,97,100,102,44,98,100,102]⟩
theorem zH4:OkText dx1 6 ⟨#[97,98,100,44,97,98,101,44,97,99,101,44,98,99,101,44,99,100,101,44,97,99,102,44,98,99,102,44,97,100,102,44,98,100,102]⟩ [⟨#[97,98,100]⟩,⟨#[97,98,101]⟩,⟨#[97,99,101]⟩,⟨#[98,99,101]⟩,⟨#[99,100,101]⟩,⟨#[97,99,102]⟩,⟨#[98,99,102]⟩,⟨#[97,100,102]⟩,⟨#[98,100,102]⟩]:=zhZ (by kernel_rfl) (by kernel_rfl) (by kernel_rfl) (by kernel_rfl) (by kernel_rfl) (by kernel_rfl) (by kernel_rfl) (by kernel_rfl) (by kernel_rfl) (by kernel_rfl) (by kernel_rfl) (by kernel_rfl)
def dx2:ByteArray:=⟨#[52,58,97,98,99,44,97,98,100]⟩
theorem zH5:OkText dx2 4 ⟨#[97,98,99,44,97,98,100]⟩ [⟨#[97,98,99]⟩,⟨#[97,98,100]⟩]:=zhZ (by kernel_rfl) (by kernel_rfl) (by kernel_rfl) (by kernel_rfl) (by kernel_rfl) (by kernel_rfl) (by kernel_rfl) (by kernel_rfl) (by kernel_rfl) (by kernel_rfl) (by kernel_rfl) (by kernel_rfl)
def dxL:List ByteArray:=[ex5,ex2,dx1,ex3,ex7,ex6,ex4,dx2]
theorem zFK {t:ByteArray} (h:t ∈ dxL):∃ n rest ps,OkText t n rest ps∧n ≤ 6∧ps.length ≤ 10:=by
 simp only [dxL,List.mem_cons,List.not_mem_nil,or_false] at h
 rcases h with rfl | rfl | rfl | rfl | rfl | rfl | rfl | rfl
 ·exact ⟨_,_,_,zH9,by decide,by decide⟩
 ·exact ⟨_,_,_,zH6,by decide,by decide⟩
 ·exact ⟨_,_,_,zH4,by decide,by decide⟩
 ·exact ⟨_,_,_,zH7,by decide,by decide⟩
 ·exact ⟨_,_,_,zIb,by decide,by decide⟩
 ·exact ⟨_,_,_,zIa,by decide,by decide⟩
 ·exact ⟨_,_,_,zH8,by decide,by decide⟩
 ·exact ⟨_,_,_,zH5,by decide,by decide⟩
theorem zzx {m:Nat} {ps:List ByteArray} (hm:m ≤ 6) (hps:ps.length ≤ 10):kcx cxQ (.ag [.im (int m),.fr 3 1 (iL (zrH ps))]) :=
 ⟨_,_,rfl,by omega,by omega,by rw [zuE,zah,List.length_map];omega⟩
theorem zfk (n:Nat) (hn1:1 ≤ n) (hn:n ≤ 6):AC Try.prog 203 [int n] (.tup [.ag [.im (int n),.fr 3 1 (iL (ofN (zhS (inF (ofN (List.range (2 ^ n - 1)))) true)))],.im (bool true)]):=by
 refine AC.go (rs:=[.cell 2 27,.tmp 3]) zbe zax Try.func203 rfl rfl rfl (by kernel_rfl) fun hl=>?_
 have h64:=zaz hn
 have hp:0 < 2 ^ n:=Nat.pow_pos (by omega)
 have hsh:znN .i64 1 (n:Int) = ((2 ^ n:Nat):Int):=zbB (by omega)
 have hun:IntKind.u64.wrap (n:Int) = (n:Int):=zbG (by omega)
 have hw:IntKind.i64.wrap (((2 ^ n:Nat):Int) - 1) = ((2 ^ n - 1:Nat):Int):=by rw [zaq (by omega) (by omega)];omega
 simp (maxSteps:=5000000) -dsimp only [↓gp,gq,reduceCtorEq,reduceEqDiff,reduceLT,reduceLeDiff,reduceAdd,reduceMul,reduceSub,Nat.reduceBEq,Int.reduceToNat,Int.reduceLE,Int.reduceLT,Int.reduceNeg,reduceMod,zac,zad,zab,zaa,gT,TK.isInt,TK.agg,Array.toList]
 refine zaf (zdg _ _ _) ?_
 have hin:(decide (1 ≤ (n:Int)) && decide ((n:Int) ≤ 6)) = true:=by rw [decide_eq_true (by omega),decide_eq_true (by omega)];rfl
 simp (maxSteps:=5000000) -dsimp only [↓gp,gq,reduceCtorEq,reduceEqDiff,reduceLT,reduceLeDiff,reduceAdd,reduceMul,reduceSub,Nat.reduceBEq,Int.reduceToNat,Int.reduceLE,Int.reduceLT,Int.reduceNeg,reduceMod,zac,zad,zab,zaa,gT,TK.isInt,TK.agg,Array.toList,hin]
 refine zao (fun (za:Nat × Nat) s=>match za with | (k,v)=>s.sl 0 = int n∧s.sl 2 = .ref 2 1 0∧s.rw 2 = ⟨1,.box 27 [int 0,.v (.slice none 0 0)]⟩∧s.sl 4 = .own 10 v∧s.rw 10 = ⟨v,.sli 3 1 false (iL (ofN (List.range k)))⟩∧s.sl 5 = int k∧(k ≤ 2 ^ n - 1)) (fun (k,v)=>2 ^ n - 1 - k) ((0,1)) (by refine ⟨?_,?_,?_,?_,?_,?_,Nat.zero_le _⟩ <;> (first | (simp (maxSteps:=5000000) -dsimp only [gr,reduceEqDiff,reduceLT,reduceAdd,reduceMod,Nat.reduceBEq,zaa,zac,zad,zab];first | done | rfl | (simp;done)) | assumption | rfl)) ?_
 intro (k,v) sa ⟨h0a,h2a,r2a,h4a,r10a,h5a,hIa⟩
 simp (maxSteps:=5000000) -dsimp only [↓gp,gq,reduceCtorEq,reduceEqDiff,reduceLT,reduceLeDiff,reduceAdd,reduceMul,reduceSub,Nat.reduceBEq,Int.reduceToNat,Int.reduceLE,Int.reduceLT,Int.reduceNeg,reduceMod,zac,zad,zab,zaa,gT,TK.isInt,TK.agg,Array.toList,h0a,h2a,r2a,h4a,r10a,h5a,hsh,hun,hw]
 refine ⟨fun h=>?_,fun h=>?_⟩
 ·simp (maxSteps:=5000000) -dsimp only [↓gp,gq,reduceCtorEq,reduceEqDiff,reduceLT,reduceLeDiff,reduceAdd,reduceMul,reduceSub,Nat.reduceBEq,Int.reduceToNat,Int.reduceLE,Int.reduceLT,Int.reduceNeg,reduceMod,zac,zad,zab,zaa,gT,TK.isInt,TK.agg,Array.toList,h0a,h2a,r2a,h4a,r10a,h5a,zah,List.length_range]
  refine ⟨by omega,?_⟩
  exact zag ((k + 1,v + 1)) (by refine ⟨?_,?_,?_,?_,?_,?_,by dsimp only;omega⟩ <;> (first | (simp (maxSteps:=5000000) -dsimp only [gr,reduceEqDiff,reduceLT,reduceAdd,reduceMod,Nat.reduceBEq,zaa,zac,zad,zab,h0a,h2a,r2a,h4a,r10a,h5a,List.range_succ,zbf,zdK,zae h (by omega)];first | done | rfl | (simp;done)) | assumption | rfl)) (by first | omega | (simp only;omega) | (dsimp only;omega) | (show _ < _;simp;omega))
 ·have hk:k = 2 ^ n - 1:=by omega
  rw [hk] at r10a ⊢
  have hok:okS (ofN (List.range (2 ^ n - 1))):=fun x hx=>by
   obtain ⟨s,hs,rfl⟩:=List.mem_map.1 hx
   have:=List.mem_range.1 hs
   omega
  refine zaf (zcs n _ hok) ?_
  simp (maxSteps:=5000000) -dsimp only [↓gp,gq,reduceCtorEq,reduceEqDiff,reduceLT,reduceLeDiff,reduceAdd,reduceMul,reduceSub,Nat.reduceBEq,Int.reduceToNat,Int.reduceLE,Int.reduceLT,Int.reduceNeg,reduceMod,zac,zad,zab,zaa,gT,TK.isInt,TK.agg,Array.toList,h0a,h2a,r2a,h4a,r10a,h5a]
theorem znB (bs:List Int) (hbs:bs.length ≤ 9223372036854775806):zvV Try.prog 189 TC bs ⟨0,.dead⟩ [] (kcx cxQ):=by
 intro i h
 refine AG.go (rs:=[.cell 2 27]) zbe zax Try.func189 rfl rfl rfl (by kernel_rfl) fun hl _ s hs hR=>?_
 have e0:s.rw 1000000 = ⟨1,.box TC [.sl false 1 (kL .u8 bs),int i,int h]⟩:=by rw [hR];rfl
 have e1:s.rw 1000500 = ⟨0,.dead⟩:=by rw [hR];rfl
 have elo:∀ k,k < 1000000→s.rw k = ⟨0,.dead⟩:=fun k hk=>by rw [hR];exact zny hk
 simp (maxSteps:=5000000) -dsimp only [↓gp,gq,reduceCtorEq,reduceEqDiff,reduceLT,reduceLeDiff,reduceAdd,reduceMul,reduceSub,Nat.reduceBEq,Int.reduceToNat,Int.reduceLE,Int.reduceLT,Int.reduceNeg,reduceMod,zac,zad,zab,zaa,gT,TK.isInt,TK.agg,Array.toList,hs,e0,elo]
 refine za9 (zc1 bs hbs [1,2,3,4,4,5,5,6] (by decide) (by decide)) (.some (j:=9) (by simp (maxSteps:=5000000) -dsimp only [gr,reduceEqDiff,reduceLT,reduceAdd,reduceMod,Nat.reduceBEq,zaa,zac,zad,zab,elo] <;> rfl) (zcJ _)) (by simp (maxSteps:=5000000) -dsimp only [gr,reduceEqDiff,reduceLT,reduceAdd,reduceMod,Nat.reduceBEq,zaa,zac,zad,zab,e0] <;> rfl) (.one (zcz (by simp (maxSteps:=5000000) -dsimp only [gr,reduceEqDiff,reduceLT,reduceAdd,reduceMod,Nat.reduceBEq,zaa,zac,zad,zab,e0] <;> rfl)) (.one (zkD (by simp (maxSteps:=5000000) -dsimp only [gr,reduceEqDiff,reduceLT,reduceAdd,reduceMod,Nat.reduceBEq,zaa,zac,zad,zab,elo])) .nil)) rfl (fun j hj=>by cases hj;exact ⟨rfl,rfl⟩) fun rv i1 g1 ⟨n0,hrv,hc⟩=>?_
 subst hrv
 obtain ⟨n,rfl,hn1,hn⟩:∃ n:Nat,n0 = n∧1 ≤ n∧n ≤ 6:=by
  have hc:n0 ∈ [1,2,3,4,4,5,5,6]:=hc
  simp at hc
  exact ⟨n0.toNat,by omega,by omega,by omega⟩
 simp (maxSteps:=5000000) -dsimp only [↓gp,gq,reduceCtorEq,reduceEqDiff,reduceLT,reduceLeDiff,reduceAdd,reduceMul,reduceSub,Nat.reduceBEq,Int.reduceToNat,Int.reduceLE,Int.reduceLT,Int.reduceNeg,reduceMod,zac,zad,zab,zaa,gT,TK.isInt,TK.agg,Array.toList,hs,e0,elo]
 refine za9 (zbd bs hbs 8 (by decide)) .none (by simp (maxSteps:=5000000) -dsimp only [gr,reduceEqDiff,reduceLT,reduceAdd,reduceMod,Nat.reduceBEq,zaa,zac,zad,zab,e0,elo] <;> rfl) (GvL.one (zcz (by simp (maxSteps:=5000000) -dsimp only [gr,reduceEqDiff,reduceLT,reduceAdd,reduceMod,Nat.reduceBEq,zaa,zac,zad,zab,e0,elo] <;> rfl)) (by repeat (first | exact GvL.nil | refine GvL.one (GvA.v _) ?_ | refine GvL.one (GvA.sl _ _ _) ?_))) rfl (fun _ h=>by cases h) fun rv i2 g2 ⟨x,hrv,hx⟩=>?_
 subst hrv
 simp (maxSteps:=5000000) -dsimp only [↓gp,gq,reduceCtorEq,reduceEqDiff,reduceLT,reduceLeDiff,reduceAdd,reduceMul,reduceSub,Nat.reduceBEq,Int.reduceToNat,Int.reduceLE,Int.reduceLT,Int.reduceNeg,reduceMod,zac,zad,zab,zaa,gT,TK.isInt,TK.agg,Array.toList,hs,e0,elo]
 refine ⟨fun h0=>zaf (zfk n hn1 hn) ?_,fun h0=>⟨fun h1=>?_,fun h1=>?_⟩⟩
 ·simp (maxSteps:=5000000) -dsimp only [↓gp,gq,reduceCtorEq,reduceEqDiff,reduceLT,reduceLeDiff,reduceAdd,reduceMul,reduceSub,Nat.reduceBEq,Int.reduceToNat,Int.reduceLE,Int.reduceLT,Int.reduceNeg,reduceMod,zac,zad,zab,zaa,gT,TK.isInt,TK.agg,Array.toList,e0,elo]
  exact ⟨_,i2,g2,_,zrT hn _ _,.one (.ag (.cons (.im _) (.cons (.fr (by simp (maxSteps:=5000000) -dsimp only [gr,reduceEqDiff,reduceLT,reduceAdd,reduceMod,Nat.reduceBEq,zaa,zac,zad,zab] <;> rfl) (by decide)) .nil))),by simp,by simp (maxSteps:=5000000) -dsimp only [gr,reduceEqDiff,reduceLT,reduceAdd,reduceMod,Nat.reduceBEq,zaa,zac,zad,zab] <;> rfl,by simp (maxSteps:=5000000) -dsimp only [gr,reduceEqDiff,reduceLT,reduceAdd,reduceMod,Nat.reduceBEq,zaa,zac,zad,zab,e1]⟩
 ·refine za9 (znx bs hbs dxL (by decide) (by decide)) (.some (j:=25) (by simp (maxSteps:=5000000) -dsimp only [gr,reduceEqDiff,reduceLT,reduceAdd,reduceMod,Nat.reduceBEq,zaa,zac,zad,zab,elo] <;> rfl) (zz3 _)) (by simp (maxSteps:=5000000) -dsimp only [gr,reduceEqDiff,reduceLT,reduceAdd,reduceMod,Nat.reduceBEq,zaa,zac,zad,zab,e0] <;> rfl) (.one (zcz (by simp (maxSteps:=5000000) -dsimp only [gr,reduceEqDiff,reduceLT,reduceAdd,reduceMod,Nat.reduceBEq,zaa,zac,zad,zab,e0] <;> rfl)) (.one (zkD (by simp (maxSteps:=5000000) -dsimp only [gr,reduceEqDiff,reduceLT,reduceAdd,reduceMod,Nat.reduceBEq,zaa,zac,zad,zab,elo])) .nil)) rfl (fun j hj=>by cases hj;exact ⟨rfl,rfl⟩) fun rv i3 g3 ⟨t,hrv,ht⟩=>?_
  subst hrv
  obtain ⟨m,rest,ps,hok,hm,hps⟩:=zFK ht
  simp (maxSteps:=5000000) -dsimp only [↓gp,gq,reduceCtorEq,reduceEqDiff,reduceLT,reduceLeDiff,reduceAdd,reduceMul,reduceSub,Nat.reduceBEq,Int.reduceToNat,Int.reduceLE,Int.reduceLT,Int.reduceNeg,reduceMod,zac,zad,zab,zaa,gT,TK.isInt,TK.agg,Array.toList,hs,e0,elo]
  refine zaf (zfU hok) ?_
  simp (maxSteps:=5000000) -dsimp only [↓gp,gq,reduceCtorEq,reduceEqDiff,reduceLT,reduceLeDiff,reduceAdd,reduceMul,reduceSub,Nat.reduceBEq,Int.reduceToNat,Int.reduceLE,Int.reduceLT,Int.reduceNeg,reduceMod,zac,zad,zab,zaa,gT,TK.isInt,TK.agg,Array.toList,e0,elo]
  exact ⟨_,i3,g3,_,zzx hm hps,.one (.ag (.cons (.im _) (.cons (.fr (by simp (maxSteps:=5000000) -dsimp only [gr,reduceEqDiff,reduceLT,reduceAdd,reduceMod,Nat.reduceBEq,zaa,zac,zad,zab] <;> rfl) (by decide)) .nil))),by simp,by simp (maxSteps:=5000000) -dsimp only [gr,reduceEqDiff,reduceLT,reduceAdd,reduceMod,Nat.reduceBEq,zaa,zac,zad,zab] <;> rfl,by simp (maxSteps:=5000000) -dsimp only [gr,reduceEqDiff,reduceLT,reduceAdd,reduceMod,Nat.reduceBEq,zaa,zac,zad,zab,e1]⟩
 ·have hP:∀ (S:St) (K:St→Prop) (u1:Dm S) (u2:Dm K) (lents:List PV) (Ka:RV→Prop) (d:Nat) (g:FuncId),zvV Try.prog g TC bs ⟨0,.dead⟩ [int n] (kcx cxQ)→S.rw 1000000 = ⟨1,.box TC [.sl false 1 (kL .u8 bs),int i2,int g2]⟩→(d % 1000 == 0) = false →
   (∀ (j:Nat) (y m:Int) (xs:List Int),cxQ m xs→K (zam (S.row 1000000 ⟨1,.box TC [.sl false 1 (kL .u8 bs),int j,int y]⟩) d (.ag [.im (int m),.fr 3 1 (iL xs)])))→zh4 Try.prog g lents Ka (zuM Try.prog g lents [.ref 1000000 1 0,int n] (some d) (kk S u1) (kk K u2)):=fun S K u1 u2 lents Ka d g hg hS hd hK =>
   za9 hg .none hS (GvL.one (zcz (by rw [hS])) (by repeat (first | exact GvL.nil | refine GvL.one (GvA.v _) ?_ | refine GvL.one (GvA.sl _ _ _) ?_))) hd (fun _ h=>by cases h) fun rv i3 g3 ⟨m,xs,hrv,hq⟩=>by subst hrv;exact hK i3 g3 m xs hq
  have hp:=znD bs hbs n hn1 hn
  have hz:=znF bs hbs n hn1 hn
  refine ⟨fun h2=>⟨fun h3=>hP _ _ _ _ _ _ _ _ hp (by simp (maxSteps:=5000000) -dsimp only [gr,reduceEqDiff,reduceLT,reduceAdd,reduceMod,Nat.reduceBEq,zaa,zac,zad,zab]) rfl fun i3 g3 m xs hq=>?_,fun h3=>hP _ _ _ _ _ _ _ _ hz (by simp (maxSteps:=5000000) -dsimp only [gr,reduceEqDiff,reduceLT,reduceAdd,reduceMod,Nat.reduceBEq,zaa,zac,zad,zab]) rfl fun i3 g3 m xs hq=>?_⟩,fun h2=>⟨fun h3=>hP _ _ _ _ _ _ _ _ hp (by simp (maxSteps:=5000000) -dsimp only [gr,reduceEqDiff,reduceLT,reduceAdd,reduceMod,Nat.reduceBEq,zaa,zac,zad,zab]) rfl fun i3 g3 m xs hq=>?_,fun h3=>hP _ _ _ _ _ _ _ _ hz (by simp (maxSteps:=5000000) -dsimp only [gr,reduceEqDiff,reduceLT,reduceAdd,reduceMod,Nat.reduceBEq,zaa,zac,zad,zab]) rfl fun i3 g3 m xs hq=>?_⟩⟩
  all_goals
   simp (maxSteps:=5000000) -dsimp only [↓gp,gq,reduceCtorEq,reduceEqDiff,reduceLT,reduceLeDiff,reduceAdd,reduceMul,reduceSub,Nat.reduceBEq,Int.reduceToNat,Int.reduceLE,Int.reduceLT,Int.reduceNeg,reduceMod,zac,zad,zab,zaa,gT,TK.isInt,TK.agg,Array.toList,e0,elo]
   exact ⟨_,i3,g3,_,⟨_,_,rfl,hq⟩,.one (.ag (.cons (.im _) (.cons (.fr (by simp (maxSteps:=5000000) -dsimp only [gr,reduceEqDiff,reduceLT,reduceAdd,reduceMod,Nat.reduceBEq,zaa,zac,zad,zab] <;> rfl) (by decide)) .nil))),by simp,by simp (maxSteps:=5000000) -dsimp only [gr,reduceEqDiff,reduceLT,reduceAdd,reduceMod,Nat.reduceBEq,zaa,zac,zad,zab] <;> rfl,by simp (maxSteps:=5000000) -dsimp only [gr,reduceEqDiff,reduceLT,reduceAdd,reduceMod,Nat.reduceBEq,zaa,zac,zad,zab,e1]⟩
theorem znC (bs:List Int) (hbs:bs.length ≤ 9223372036854775806):zvV Try.prog 153 TC bs ⟨0,.dead⟩ [] (kcx fun n xs=>0 ≤ n∧n ≤ 7∧xs.length ≤ 450):=by
 intro i h
 refine AG.go (rs:=[.cell 2 27]) zbe zax Try.func153 rfl rfl rfl (by kernel_rfl) fun hl _ s hs hR=>?_
 have e0:s.rw 1000000 = ⟨1,.box TC [.sl false 1 (kL .u8 bs),int i,int h]⟩:=by rw [hR];rfl
 have e1:s.rw 1000500 = ⟨0,.dead⟩:=by rw [hR];rfl
 have elo:∀ k,k < 1000000→s.rw k = ⟨0,.dead⟩:=fun k hk=>by rw [hR];exact zny hk
 simp (maxSteps:=5000000) -dsimp only [↓gp,gq,reduceCtorEq,reduceEqDiff,reduceLT,reduceLeDiff,reduceAdd,reduceMul,reduceSub,Nat.reduceBEq,Int.reduceToNat,Int.reduceLE,Int.reduceLT,Int.reduceNeg,reduceMod,zac,zad,zab,zaa,gT,TK.isInt,TK.agg,Array.toList,hs,e0,elo]
 refine za9 (znB bs hbs) .none (by simp (maxSteps:=5000000) -dsimp only [gr,reduceEqDiff,reduceLT,reduceAdd,reduceMod,Nat.reduceBEq,zaa,zac,zad,zab,e0,elo] <;> rfl) (GvL.one (zcz (by simp (maxSteps:=5000000) -dsimp only [gr,reduceEqDiff,reduceLT,reduceAdd,reduceMod,Nat.reduceBEq,zaa,zac,zad,zab,e0,elo] <;> rfl)) (by repeat (first | exact GvL.nil | refine GvL.one (GvA.v _) ?_ | refine GvL.one (GvA.sl _ _ _) ?_))) rfl (fun _ h=>by cases h) fun rv i1 g1 ⟨n,xs,hrv,hq⟩=>?_
 subst hrv
 obtain ⟨hn0,hn7,hxl⟩:=hq
 simp (maxSteps:=5000000) -dsimp only [↓gp,gq,reduceCtorEq,reduceEqDiff,reduceLT,reduceLeDiff,reduceAdd,reduceMul,reduceSub,Nat.reduceBEq,Int.reduceToNat,Int.reduceLE,Int.reduceLT,Int.reduceNeg,reduceMod,zac,zad,zab,zaa,gT,TK.isInt,TK.agg,Array.toList,hs,e0,elo]
 refine za9 (zbd bs hbs 14 (by decide)) .none (by simp (maxSteps:=5000000) -dsimp only [gr,reduceEqDiff,reduceLT,reduceAdd,reduceMod,Nat.reduceBEq,zaa,zac,zad,zab,e0,elo] <;> rfl) (GvL.one (zcz (by simp (maxSteps:=5000000) -dsimp only [gr,reduceEqDiff,reduceLT,reduceAdd,reduceMod,Nat.reduceBEq,zaa,zac,zad,zab,e0,elo] <;> rfl)) (by repeat (first | exact GvL.nil | refine GvL.one (GvA.v _) ?_ | refine GvL.one (GvA.sl _ _ _) ?_))) rfl (fun _ h=>by cases h) fun rv i2 g2 ⟨x,hrv,hx⟩=>?_
 subst hrv
 simp (maxSteps:=5000000) -dsimp only [↓gp,gq,reduceCtorEq,reduceEqDiff,reduceLT,reduceLeDiff,reduceAdd,reduceMul,reduceSub,Nat.reduceBEq,Int.reduceToNat,Int.reduceLE,Int.reduceLT,Int.reduceNeg,reduceMod,zac,zad,zab,zaa,gT,TK.isInt,TK.agg,Array.toList,hs,e0,elo]
 refine ⟨fun h0=>?_,fun h0=>⟨fun h1=>?_,fun h1=>?_⟩⟩
 ·refine za9 (zc1 bs hbs [0,7,2] (by decide) (by decide)) (.some (j:=11) (by simp (maxSteps:=5000000) -dsimp only [gr,reduceEqDiff,reduceLT,reduceAdd,reduceMod,Nat.reduceBEq,zaa,zac,zad,zab,elo] <;> rfl) (zcJ _)) (by simp (maxSteps:=5000000) -dsimp only [gr,reduceEqDiff,reduceLT,reduceAdd,reduceMod,Nat.reduceBEq,zaa,zac,zad,zab,e0] <;> rfl) (.one (zcz (by simp (maxSteps:=5000000) -dsimp only [gr,reduceEqDiff,reduceLT,reduceAdd,reduceMod,Nat.reduceBEq,zaa,zac,zad,zab,e0] <;> rfl)) (.one (zkD (by simp (maxSteps:=5000000) -dsimp only [gr,reduceEqDiff,reduceLT,reduceAdd,reduceMod,Nat.reduceBEq,zaa,zac,zad,zab,elo])) .nil)) rfl (fun j hj=>by cases hj;exact ⟨rfl,rfl⟩) fun rv i3 g3 ⟨m,hrv,hc⟩=>?_
  subst hrv
  have hm:0 ≤ m∧m ≤ 7:=by
   have hc:m ∈ [0,7,2]:=hc
   simp at hc;omega
  simp (maxSteps:=5000000) -dsimp only [↓gp,gq,reduceCtorEq,reduceEqDiff,reduceLT,reduceLeDiff,reduceAdd,reduceMul,reduceSub,Nat.reduceBEq,Int.reduceToNat,Int.reduceLE,Int.reduceLT,Int.reduceNeg,reduceMod,zac,zad,zab,zaa,gT,TK.isInt,TK.agg,Array.toList,e0,elo]
  exact ⟨_,i3,g3,_,⟨m,xs,rfl,hm.1,hm.2,by omega⟩,.one (.ag (.cons (.im _) (.cons (.fr (by simp (maxSteps:=5000000) -dsimp only [gr,reduceEqDiff,reduceLT,reduceAdd,reduceMod,Nat.reduceBEq,zaa,zac,zad,zab] <;> rfl) (by decide)) .nil))),by simp,by simp (maxSteps:=5000000) -dsimp only [gr,reduceEqDiff,reduceLT,reduceAdd,reduceMod,Nat.reduceBEq,zaa,zac,zad,zab] <;> rfl,by simp (maxSteps:=5000000) -dsimp only [gr,reduceEqDiff,reduceLT,reduceAdd,reduceMod,Nat.reduceBEq,zaa,zac,zad,zab,e1]⟩
 ·refine ⟨by kernel_rfl,zvJ (zct bs hbs 66 (by decide)) (zkB _) (i:=i2) (h:=g2) (by simp (maxSteps:=5000000) -dsimp only [gr,reduceEqDiff,reduceLT,reduceAdd,reduceMod,Nat.reduceBEq,zaa,zac,zad,zab] <;> rfl) rfl ?_⟩
  obtain ⟨y,j3,g3,hr,hy⟩:=zqE bs 66 i2 g2
  rw [hr]
  have hy66:0 ≤ y∧y < 66:=by obtain ⟨a,b⟩:=hy;omega
  have hw:IntKind.i64.wrap (y - 1) = y - 1:=zaq (by omega) (by omega)
  simp (maxSteps:=5000000) -dsimp only [↓gp,gq,reduceCtorEq,reduceEqDiff,reduceLT,reduceLeDiff,reduceAdd,reduceMul,reduceSub,Nat.reduceBEq,Int.reduceToNat,Int.reduceLE,Int.reduceLT,Int.reduceNeg,reduceMod,zac,zad,zab,zaa,gT,TK.isInt,TK.agg,Array.toList,e0,elo,hw]
  refine ⟨by omega,by kernel_rfl,?_⟩
  exact ⟨_,j3,g3,_,⟨n,xs ++ [y - 1],rfl,hn0,hn7,by simp;omega⟩,.one (.ag (.cons (.im _) (.cons (.fr (by simp (maxSteps:=5000000) -dsimp only [gr,reduceEqDiff,reduceLT,reduceAdd,reduceMod,Nat.reduceBEq,zaa,zac,zad,zab] <;> rfl) (by decide)) .nil))),by simp,by simp (maxSteps:=5000000) -dsimp only [gr,reduceEqDiff,reduceLT,reduceAdd,reduceMod,Nat.reduceBEq,zaa,zac,zad,zab] <;> rfl,by simp (maxSteps:=5000000) -dsimp only [gr,reduceEqDiff,reduceLT,reduceAdd,reduceMod,Nat.reduceBEq,zaa,zac,zad,zab,e1]⟩
 ·exact ⟨_,i2,g2,_,⟨n,xs,rfl,hn0,hn7,by omega⟩,.one (.ag (.cons (.im _) (.cons (.fr (by simp (maxSteps:=5000000) -dsimp only [gr,reduceEqDiff,reduceLT,reduceAdd,reduceMod,Nat.reduceBEq,zaa,zac,zad,zab] <;> rfl) (by decide)) .nil))),by simp,by simp (maxSteps:=5000000) -dsimp only [gr,reduceEqDiff,reduceLT,reduceAdd,reduceMod,Nat.reduceBEq,zaa,zac,zad,zab] <;> rfl,by simp (maxSteps:=5000000) -dsimp only [gr,reduceEqDiff,reduceLT,reduceAdd,reduceMod,Nat.reduceBEq,zaa,zac,zad,zab,e1]⟩
def cxB (n:Int) (xs:List Int):Prop:=0 ≤ n∧n ≤ 7∧xs.length ≤ 450
def kcp (P:Int→List Int→Int→Prop) (rv:RV):Prop:=∃ n xs p,rv = .tup [.ag [.im (int n),.fr 3 1 (iL xs)],.im (int p)]∧P n xs p
theorem zdO (bs:List Int) (hbs:bs.length ≤ 9223372036854775806):ADr Try.prog 123 [.sl false 1 (kL .u8 bs)] (kcp fun n xs p=>cxB n xs):=by
 refine AG.go (rs:=[.cell 2 27,.tmp 3]) zbe zax Try.func123 rfl rfl rfl (by kernel_rfl) fun hl _ s hs hR=>?_
 simp (maxSteps:=5000000) -dsimp only [↓gp,gq,reduceCtorEq,reduceEqDiff,reduceLT,reduceLeDiff,reduceAdd,reduceMul,reduceSub,Nat.reduceBEq,Int.reduceToNat,Int.reduceLE,Int.reduceLT,Int.reduceNeg,reduceMod,zac,zad,zab,zaa,gT,TK.isInt,TK.agg,Array.toList,hs,hR]
 refine zqG (zqD bs) (.one (.sl _ _ _) .nil) fun h0=>?_
 simp (maxSteps:=5000000) -dsimp only [↓gp,gq,reduceCtorEq,reduceEqDiff,reduceLT,reduceLeDiff,reduceAdd,reduceMul,reduceSub,Nat.reduceBEq,Int.reduceToNat,Int.reduceLE,Int.reduceLT,Int.reduceNeg,reduceMod,zac,zad,zab,zaa,gT,TK.isInt,TK.agg,Array.toList,hs,hR]
 refine za9 (znC bs hbs) .none (by simp (maxSteps:=5000000) -dsimp only [gr,reduceEqDiff,reduceLT,reduceAdd,reduceMod,Nat.reduceBEq,zaa,zac,zad,zab,hR] <;> rfl) (GvL.one (zcz (by simp (maxSteps:=5000000) -dsimp only [gr,reduceEqDiff,reduceLT,reduceAdd,reduceMod,Nat.reduceBEq,zaa,zac,zad,zab,hR] <;> rfl)) (by repeat (first | exact GvL.nil | refine GvL.one (GvA.v _) ?_ | refine GvL.one (GvA.sl _ _ _) ?_))) rfl (fun _ h=>by cases h) fun rv i1 g1 ⟨n,xs,hrv,hq⟩=>?_
 subst hrv
 simp (maxSteps:=5000000) -dsimp only [↓gp,gq,reduceCtorEq,reduceEqDiff,reduceLT,reduceLeDiff,reduceAdd,reduceMul,reduceSub,Nat.reduceBEq,Int.reduceToNat,Int.reduceLE,Int.reduceLT,Int.reduceNeg,reduceMod,zac,zad,zab,zaa,gT,TK.isInt,TK.agg,Array.toList,hs,hR]
 refine ⟨by kernel_rfl,zrS (zd0 bs hbs [2,3,5,2,3,2,3,4] (by decide) (by decide)) (zcJ _) (i:=i1) (h:=g1) (by simp (maxSteps:=5000000) -dsimp only [gr,reduceEqDiff,reduceLT,reduceAdd,reduceMod,Nat.reduceBEq,zaa,zac,zad,zab] <;> rfl) (by simp (maxSteps:=5000000) -dsimp only [gr,reduceEqDiff,reduceLT,reduceAdd,reduceMod,Nat.reduceBEq,zaa,zac,zad,zab,hR] <;> rfl) rfl rfl rfl ?_⟩
 obtain ⟨x,j2,g2,hr,hx⟩:=zCp bs (l:=[2,3,5,2,3,2,3,4]) (by decide) i1 g1
 rw [hr]
 simp (maxSteps:=5000000) -dsimp only [↓gp,gq,reduceCtorEq,reduceEqDiff,reduceLT,reduceLeDiff,reduceAdd,reduceMul,reduceSub,Nat.reduceBEq,Int.reduceToNat,Int.reduceLE,Int.reduceLT,Int.reduceNeg,reduceMod,zac,zad,zab,zaa,gT,TK.isInt,TK.agg,Array.toList,hs,hR,znA]
 exact ⟨by kernel_rfl,_,_,⟨n,xs,x,rfl,hq⟩,.tup (.cons (.ag (.cons (.im _) (.cons (.fr (by simp (maxSteps:=5000000) -dsimp only [gr,reduceEqDiff,reduceLT,reduceAdd,reduceMod,Nat.reduceBEq,zaa,zac,zad,zab] <;> rfl) (by decide)) .nil))) (.cons (.lf (.im _)) .nil)),by simp⟩
theorem zgS (bs:List Int) (hbs:bs.length ≤ 9223372036854775806):ADr Try.prog 53 [.sl false 1 (kL .u8 bs)] (kcp fun n xs p=>cxB n xs):=by
 refine AG.go (rs:=[.cell 2 27,.tmp 3]) zbe zax Try.func53 rfl rfl rfl (by kernel_rfl) fun hl _ s hs hR=>?_
 simp (maxSteps:=5000000) -dsimp only [↓gp,gq,reduceCtorEq,reduceEqDiff,reduceLT,reduceLeDiff,reduceAdd,reduceMul,reduceSub,Nat.reduceBEq,Int.reduceToNat,Int.reduceLE,Int.reduceLT,Int.reduceNeg,reduceMod,zac,zad,zab,zaa,gT,TK.isInt,TK.agg,Array.toList,hs,hR]
 refine zfh (zdO bs hbs) (.one (.sl _ _ _) .nil) fun rv ⟨n,xs,p,hrv,hq⟩=>?_
 subst hrv
 simp (maxSteps:=5000000) -dsimp only [↓gp,gq,reduceCtorEq,reduceEqDiff,reduceLT,reduceLeDiff,reduceAdd,reduceMul,reduceSub,Nat.reduceBEq,Int.reduceToNat,Int.reduceLE,Int.reduceLT,Int.reduceNeg,reduceMod,zac,zad,zab,zaa,gT,TK.isInt,TK.agg,Array.toList,hs,hR,znA]
 exact ⟨_,_,⟨n,xs,p,rfl,hq⟩,.tup (.cons (.ag (.cons (.im _) (.cons (.fr (by simp (maxSteps:=5000000) -dsimp only [gr,reduceEqDiff,reduceLT,reduceAdd,reduceMod,Nat.reduceBEq,zaa,zac,zad,zab] <;> rfl) (by decide)) .nil))) (.cons (.lf (.im _)) .nil)),by simp⟩
theorem zgT (bs:List Int) (hbs:bs.length ≤ 9223372036854775806):ADr Try.prog 55 [.sl false 1 (kL .u8 bs)] (kcp fun n xs p=>cxB n xs):=by
 refine AG.go (rs:=[.cell 2 27,.tmp 3]) zbe zax Try.func55 rfl rfl rfl (by kernel_rfl) fun hl _ s hs hR=>?_
 simp (maxSteps:=5000000) -dsimp only [↓gp,gq,reduceCtorEq,reduceEqDiff,reduceLT,reduceLeDiff,reduceAdd,reduceMul,reduceSub,Nat.reduceBEq,Int.reduceToNat,Int.reduceLE,Int.reduceLT,Int.reduceNeg,reduceMod,zac,zad,zab,zaa,gT,TK.isInt,TK.agg,Array.toList,hs,hR]
 refine zfh (zdO bs hbs) (.one (.sl _ _ _) .nil) fun rv ⟨n,xs,p,hrv,hq⟩=>?_
 subst hrv
 simp (maxSteps:=5000000) -dsimp only [↓gp,gq,reduceCtorEq,reduceEqDiff,reduceLT,reduceLeDiff,reduceAdd,reduceMul,reduceSub,Nat.reduceBEq,Int.reduceToNat,Int.reduceLE,Int.reduceLT,Int.reduceNeg,reduceMod,zac,zad,zab,zaa,gT,TK.isInt,TK.agg,Array.toList,hs,hR,znA]
 exact ⟨_,_,⟨n,xs,p,rfl,hq⟩,.tup (.cons (.ag (.cons (.im _) (.cons (.fr (by simp (maxSteps:=5000000) -dsimp only [gr,reduceEqDiff,reduceLT,reduceAdd,reduceMod,Nat.reduceBEq,zaa,zac,zad,zab] <;> rfl) (by decide)) .nil))) (.cons (.lf (.im _)) .nil)),by simp⟩
theorem zeW (bs:List Int) (hbs:bs.length ≤ 9223372036854775806):ADr Try.prog 58 [.sl false 1 (kL .u8 bs)] (kcp fun n xs p=>cxB n xs):=by
 refine AG.go (rs:=[.cell 2 27,.tmp 3]) zbe zax Try.func58 rfl rfl rfl (by kernel_rfl) fun hl _ s hs hR=>?_
 simp (maxSteps:=5000000) -dsimp only [↓gp,gq,reduceCtorEq,reduceEqDiff,reduceLT,reduceLeDiff,reduceAdd,reduceMul,reduceSub,Nat.reduceBEq,Int.reduceToNat,Int.reduceLE,Int.reduceLT,Int.reduceNeg,reduceMod,zac,zad,zab,zaa,gT,TK.isInt,TK.agg,Array.toList,hs,hR]
 refine zfh (zdO bs hbs) (.one (.sl _ _ _) .nil) fun rv ⟨n,xs,p,hrv,hq⟩=>?_
 subst hrv
 simp (maxSteps:=5000000) -dsimp only [↓gp,gq,reduceCtorEq,reduceEqDiff,reduceLT,reduceLeDiff,reduceAdd,reduceMul,reduceSub,Nat.reduceBEq,Int.reduceToNat,Int.reduceLE,Int.reduceLT,Int.reduceNeg,reduceMod,zac,zad,zab,zaa,gT,TK.isInt,TK.agg,Array.toList,hs,hR,znA]
 exact ⟨_,_,⟨n,xs,p,rfl,hq⟩,.tup (.cons (.ag (.cons (.im _) (.cons (.fr (by simp (maxSteps:=5000000) -dsimp only [gr,reduceEqDiff,reduceLT,reduceAdd,reduceMod,Nat.reduceBEq,zaa,zac,zad,zab] <;> rfl) (by decide)) .nil))) (.cons (.lf (.im _)) .nil)),by simp⟩
theorem zDN (n:Int) (xs:List Int) (p:Int):SqB (zvA n xs p):=by
 unfold zvA
 split
 ·rename_i h
  obtain ⟨h1,h6,_⟩:=zbH.1 (zaJ.1 h.1).1
  exact .of (zrG _ p (n:=n.toNat) (by omega)) (by omega)
 ·exact .nil
theorem zAY (M:Mat):(M.map iL).map (fun r=>PV.sl false 1 r) = iLL M:=by unfold iLL;rw [List.map_map];rfl
theorem zgU (n:Int) (xs:List Int) (p:Int):AC Try.prog 41 [.ag [int n,zbv xs],int p] (.fr 22 1 (iLL (zvA n xs p))):=zAY (zvA n xs p) ▸ (zho n xs p).flat
noncomputable def zCr (n:Int) (xs:List Int) (p:Int):Int:=zvF (zvA n xs p) (zvA n xs p).length
end Go.Proofs.Ytpnknaaehcljoaa

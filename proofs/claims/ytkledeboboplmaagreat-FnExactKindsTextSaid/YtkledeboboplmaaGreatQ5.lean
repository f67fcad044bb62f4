/- DERIVED by an AI agent. -/
import Derived.Test.YtkledeboboplmaaGreatQ4
import Derived.Test.YtkledeboboplmaaGreatQ1
import Derived.Test.YtkledeboboplmaaGreatP1
import Derived.Test.YtkledeboboplmaaGreatQ3
import Derived.Test.YtkledeboboplmaaGreatA13
import Derived.Test.YtkledeboboplmaaGreatQ2
namespace Go.Proofs.YtkledeboboplmaaGreat
open Go.Abs
open Nat (reduceEqDiff reduceMod reduceAdd reduceLT reduceLeDiff reduceSub reduceMul)
set_option linter.unusedSimpArgs false
set_option linter.unusedVariables false
def zi7 (b:Int) (l:List Nat):Int:=l.foldl (fun (b:Int) (x:Nat)=>min b (x:Int)) b
theorem zz0 (b:Int) (l:List Nat) (n:Nat):zi7 b (l ++ [n]) = min (zi7 b l) (n:Int):=by unfold zi7;rw [List.foldl_append];rfl
theorem zEy {b:Int} (hb:-1 ≤ b∧b ≤ 100):∀ l:List Nat,-1 ≤ zi7 b l∧zi7 b l ≤ 100:=fun l=>by
 induction l generalizing b with
 | nil=>exact hb
 | cons x l ih=>exact ih (b:=min b (x:Int)) ⟨by omega,by omega⟩
theorem zEz {b:Int}:∀ l:List Nat,zi7 b l ≤ b∧∀ x ∈ l,zi7 b l ≤ (x:Int):=fun l=>by
 induction l generalizing b with
 | nil=>exact ⟨Int.le_refl _,fun x hx=>by simp at hx⟩
 | cons y l ih =>
   obtain ⟨h1,h2⟩:=ih (b:=min b (y:Int))
   have e:zi7 b (y :: l) = zi7 (min b (y:Int)) l:=rfl
   rw [e]
   refine ⟨by omega,fun x hx=>?_⟩
   rcases List.mem_cons.1 hx with rfl | hx
   ·omega
   ·exact h2 x hx
theorem zBV {b:Int}:∀ l:List Nat,zi7 b l = b ∨ ∃ x ∈ l,zi7 b l = (x:Int):=fun l=>by
 induction l generalizing b with
 | nil=>exact .inl rfl
 | cons y l ih =>
   have e:zi7 b (y :: l) = zi7 (min b (y:Int)) l:=rfl
   rw [e]
   rcases ih (b:=min b (y:Int)) with h | ⟨x,hx,h⟩
   ·by_cases hy:b ≤ (y:Int)
    ·exact .inl (by omega)
    ·exact .inr ⟨y,by simp,by omega⟩
   ·exact .inr ⟨x,by simp [hx],h⟩
def zFn (f:Nat→Bool) (p:Int):Int:=zi7 ((zbh f:Int) - 1) (zlr f p)
theorem zlq (f:Nat→Bool) (p:Int) (hp:isP p = true):AC Tryz.prog 78 [u64 (zaB f 64:Nat),int p] (.im (int (zFn f p))):=by
 refine AC.go (rs:=[.tmp 4]) zaL mixed Tryz.func78 rfl rfl rfl (by kernel_rfl) fun hl=>?_
 simp (maxSteps:=9^7) -dsimp only [↓gp,gq,reduceCtorEq,reduceEqDiff,reduceLT,reduceLeDiff,reduceAdd,reduceMul,reduceSub,Nat.reduceBEq,Int.reduceToNat,Int.reduceLE,Int.reduceLT,Int.reduceNeg,reduceMod,gT]
 refine zab (zcF f) ?_
 simp (maxSteps:=9^7) -dsimp only [↓gp,gq,reduceCtorEq,reduceEqDiff,reduceLT,reduceLeDiff,reduceAdd,reduceMul,reduceSub,Nat.reduceBEq,Int.reduceToNat,Int.reduceLE,Int.reduceLT,Int.reduceNeg,reduceMod,gT]
 have hmd:=zbl f 64
 have eord:za9 (zaB f 64).testBit = za9 f:=zfq fun s hs=>za5 _ hs
 have hSI:=zeg (zaB f 64) (by omega)
 rw [eord] at hSI
 refine zab hSI ?_
 have hLl:=zcY f
 have hLm:=fun k (hk:k < (za9 f).length)=>zaZ.1 (zan 0 hk)
 have hres:zFn f p = zi7 ((zbh f:Int) - 1) (zbJ f p (za9 f).length):=rfl
 have hcl:∀ i,zbJ f p (i + 1) = zbJ f p i ++ zcr (zf5 (zbp f ((za9 f).getD i 0)) p) (zat ((za9 f).getD i 0)) (zf5 (zbp f ((za9 f).getD i 0)) p).length:=fun i=>rfl
 generalize hL:za9 f = L at *
 have hoL:=zad L
 have hdm:=zcA f
 have hm0:int ((zbh f:Int) - 1) = int (zi7 ((zbh f:Int) - 1) (zbJ f p 0)):=rfl
 simp (maxSteps:=9^7) -dsimp only [↓gp,gq,reduceCtorEq,reduceEqDiff,reduceLT,reduceLeDiff,reduceAdd,reduceMul,reduceSub,Nat.reduceBEq,Int.reduceToNat,Int.reduceLE,Int.reduceLT,Int.reduceNeg,reduceMod,gT,zad]
 refine zah (fun (i:Nat) s=>s.sl 0 = u64 (zaB f 64:Nat)∧s.sl 1 = int p∧s.sl 5 = int (zi7 ((zbh f:Int) - 1) (zbJ f p i))∧s.sl 13 = .own 13 1∧s.rw 13 = ⟨1,.sli 3 1 false (iL (ofN L))⟩∧s.sl 14 = int L.length∧s.sl 15 = int i∧(i ≤ L.length)) (fun i=>L.length - i) (0) (by refine ⟨?_,?_,?_,?_,?_,?_,?_,Nat.zero_le _⟩ <;> (first | (simp (maxSteps:=9^7) -dsimp only [gr,reduceEqDiff,reduceLT,reduceAdd,reduceMod,Nat.reduceBEq,hm0];first | done | rfl | (simp;done)) | assumption | rfl)) ?_
 intro i sa ⟨h0a,h1a,h5a,h13a,r13a,h14a,h15a,hIa⟩
 simp (maxSteps:=9^7) -dsimp only [↓gp,gq,reduceCtorEq,reduceEqDiff,reduceLT,reduceLeDiff,reduceAdd,reduceMul,reduceSub,Nat.reduceBEq,Int.reduceToNat,Int.reduceLE,Int.reduceLT,Int.reduceNeg,reduceMod,gT,h0a,h1a,h5a,h13a,r13a,h14a,h15a,zad]
 refine ⟨fun hlt=>?_,fun hlt=>?_⟩
 ·have hlt:i < L.length:=by omega
  have hs64:=(hLm i hlt).1
  have hg:=zaF hlt
  have hcs:=hcl i
  have hdl:=zcA (zbp f (L.getD i 0))
  have hhl:=zbG (zbp f (L.getD i 0)) p
  generalize hs0:L.getD i 0 = s0 at *
  have hpl:=zbY hs64
  have hzz:=zc0 hs64
  simp (maxSteps:=9^7) -dsimp only [↓gp,gq,reduceCtorEq,reduceEqDiff,reduceLT,reduceLeDiff,reduceAdd,reduceMul,reduceSub,Nat.reduceBEq,Int.reduceToNat,Int.reduceLE,Int.reduceLT,Int.reduceNeg,reduceMod,gT,h0a,h1a,h5a,h13a,r13a,h14a,h15a,zad,hg]
  refine ⟨hlt,hlt,zab (zej _ s0 hs64) ?_⟩
  simp (maxSteps:=9^7) -dsimp only [↓gp,gq,reduceCtorEq,reduceEqDiff,reduceLT,reduceLeDiff,reduceAdd,reduceMul,reduceSub,Nat.reduceBEq,Int.reduceToNat,Int.reduceLE,Int.reduceLT,Int.reduceNeg,reduceMod,gT,h0a,h1a,h5a,h13a,r13a,h14a,h15a,zad,hg]
  refine zab (zln _ p hp) ?_
  generalize zf5 (zbp f s0) p = hs at *
  simp (maxSteps:=9^7) -dsimp only [↓gp,gq,reduceCtorEq,reduceEqDiff,reduceLT,reduceLeDiff,reduceAdd,reduceMul,reduceSub,Nat.reduceBEq,Int.reduceToNat,Int.reduceLE,Int.reduceLT,Int.reduceNeg,reduceMod,gT,h0a,h1a,h5a,h13a,r13a,h14a,h15a,zad,hg]
  have hz0:zbJ f p i = zbJ f p i ++ zcr hs (zat s0) 0:=(List.append_nil _).symm
  refine zah (fun (k:Nat) s=>s.sl 0 = u64 (zaB f 64:Nat)∧s.sl 1 = int p∧s.sl 5 = int (zi7 ((zbh f:Int) - 1) (zbJ f p i ++ zcr hs (zat s0) k))∧s.sl 7 = int s0∧s.sl 13 = .own 13 1∧s.rw 13 = ⟨1,.sli 3 1 false (iL (ofN L))⟩∧s.sl 14 = int L.length∧s.sl 15 = int i∧s.sl 23 = .own 23 ((sa.rw 23).ver + 1)∧s.rw 23 = ⟨(sa.rw 23).ver + 1,.sli 3 1 false (iL hs)⟩∧s.sl 24 = int hs.length∧s.sl 25 = int k∧(k ≤ hs.length)) (fun k=>hs.length - k) (0) (by refine ⟨?_,?_,?_,?_,?_,?_,?_,?_,?_,?_,?_,?_,Nat.zero_le _⟩ <;> (first | (simp (maxSteps:=9^7) -dsimp only [gr,reduceEqDiff,reduceLT,reduceAdd,reduceMod,Nat.reduceBEq,h0a,h1a,h5a,h13a,r13a,h14a,h15a,← hz0];first | done | rfl | (simp;done)) | assumption | rfl)) ?_
  intro k sb ⟨h0b,h1b,h5b,h7b,h13b,r13b,h14b,h15b,h23b,r23b,h24b,h25b,hIb⟩
  simp (maxSteps:=9^7) -dsimp only [↓gp,gq,reduceCtorEq,reduceEqDiff,reduceLT,reduceLeDiff,reduceAdd,reduceMul,reduceSub,Nat.reduceBEq,Int.reduceToNat,Int.reduceLE,Int.reduceLT,Int.reduceNeg,reduceMod,gT,h0b,h1b,h5b,h7b,h13b,r13b,h14b,h15b,h23b,r23b,h24b,h25b,zad,hg]
  have hks:=zm5 hs (zat s0) k
  have hbd:=zEy (b:=(zbh f:Int) - 1) (by omega) (zbJ f p i ++ zcr hs (zat s0) k)
  have hsn:zi7 ((zbh f:Int) - 1) (zbJ f p i ++ zcr hs (zat s0) (k + 1)) = if (hs.getD k 0 != 0) = true then min (zi7 ((zbh f:Int) - 1) (zbJ f p i ++ zcr hs (zat s0) k)) ((zat s0 + k:Nat):Int) else zi7 ((zbh f:Int) - 1) (zbJ f p i ++ zcr hs (zat s0) k):=by
   rw [hks]
   split
   ·rw [← List.append_assoc,zz0]
   ·rfl
  refine ⟨fun hk=>⟨hk,hk,fun hz=>zab (zaz _) ?_,fun hz=>?_⟩,fun hk=>?_⟩
  ·have hw:IntKind.i64.wrap ((zat s0:Int) + (k:Int)) = ((zat s0 + k:Nat):Int):=by rw [zap (by omega) (by omega)];omega
   rw [if_pos hz] at hsn
   simp (maxSteps:=9^7) -dsimp only [↓gp,gq,reduceCtorEq,reduceEqDiff,reduceLT,reduceLeDiff,reduceAdd,reduceMul,reduceSub,Nat.reduceBEq,Int.reduceToNat,Int.reduceLE,Int.reduceLT,Int.reduceNeg,reduceMod,gT,h0b,h1b,h5b,h7b,h13b,r13b,h14b,h15b,h23b,r23b,h24b,h25b,zad,hg,hzz,hw]
   have em:(if ((zat s0 + k:Nat):Int) < zi7 ((zbh f:Int) - 1) (zbJ f p i ++ zcr hs (zat s0) k) then ((zat s0 + k:Nat):Int) else zi7 ((zbh f:Int) - 1) (zbJ f p i ++ zcr hs (zat s0) k)) = min (zi7 ((zbh f:Int) - 1) (zbJ f p i ++ zcr hs (zat s0) k)) ((zat s0 + k:Nat):Int):=by split <;> omega
   rw [← em] at hsn
   exact zac (k + 1) (by refine ⟨?_,?_,?_,?_,?_,?_,?_,?_,?_,?_,?_,?_,by omega⟩ <;> (first | (simp (maxSteps:=9^7) -dsimp only [gr,reduceEqDiff,reduceLT,reduceAdd,reduceMod,Nat.reduceBEq,h0b,h1b,h5b,h7b,h13b,r13b,h14b,h15b,h23b,r23b,h24b,h25b,hsn,zaa (show k < 8 by omega) (by omega)];first | done | rfl | (simp;done)) | assumption | rfl)) (by first | omega | (simp only;omega) | (dsimp only;omega) | (show _ < _;simp;omega))
  ·rw [if_neg (by rw [hz];decide)] at hsn
   exact zac (k + 1) (by refine ⟨?_,?_,?_,?_,?_,?_,?_,?_,?_,?_,?_,?_,by omega⟩ <;> (first | (simp (maxSteps:=9^7) -dsimp only [gr,reduceEqDiff,reduceLT,reduceAdd,reduceMod,Nat.reduceBEq,h0b,h1b,h5b,h7b,h13b,r13b,h14b,h15b,h23b,r23b,h24b,h25b,hsn,zaa (show k < 8 by omega) (by omega)];first | done | rfl | (simp;done)) | assumption | rfl)) (by first | omega | (simp only;omega) | (dsimp only;omega) | (show _ < _;simp;omega))
  ·have hke:k = hs.length:=by omega
   subst hke
   rw [← hcs] at h5b
   exact zac (i + 1) (by refine ⟨?_,?_,?_,?_,?_,?_,?_,by omega⟩ <;> (first | (simp (maxSteps:=9^7) -dsimp only [gr,reduceEqDiff,reduceLT,reduceAdd,reduceMod,Nat.reduceBEq,h0a,h1a,h5a,h13a,r13a,h14a,h15a,h0b,h1b,h5b,h7b,h13b,r13b,h14b,h15b,h23b,r23b,h24b,h25b,zaa hlt (by omega)];first | done | rfl | (simp;done)) | assumption | rfl)) (by first | omega | (simp only;omega) | (dsimp only;omega) | (show _ < _;simp;omega))
 ·have hil:i = L.length:=by omega
  rw [hres,hil]
theorem zz1 (a:Nat) (l:List Nat):(∀ x ∈ a :: l,l.foldl min a ≤ x)∧l.foldl min a ∈ a :: l:=by
 induction l generalizing a with
 | nil=>exact ⟨fun x hx=>by rw [List.mem_singleton.1 hx];exact Nat.le_refl _,by simp⟩
 | cons y l ih =>
   obtain ⟨h1,h2⟩:=ih (min a y)
   have e:(y :: l).foldl min a = l.foldl min (min a y):=rfl
   rw [e]
   refine ⟨fun x hx=>?_,?_⟩
   ·have h0:=h1 (min a y) (by simp)
    rcases List.mem_cons.1 hx with rfl | hx
    ·omega
    ·rcases List.mem_cons.1 hx with rfl | hx
     ·omega
     ·exact h1 x (by simp [hx])
   ·rcases List.mem_cons.1 h2 with h | h
    ·rw [h]
     rcases Nat.le_total a y with q | q
     ·rw [Nat.min_eq_left q];simp
     ·rw [Nat.min_eq_right q];simp
    ·simp [h]
section
variable {f:Nat→Bool} {m q:Nat} [NeZero q]
theorem zvb (hp:isP (q:Int) = true) (hf:zsn f) (hm:m ≤ 6) (hs:∀ t,t < 64→f t = true→t < 2 ^ m) {x:Nat}:x ∈ zlr f q ↔ ∃ F k,F < 2 ^ m∧f F = true∧¬ Ac q (zbp f F) k∧zat F + k = x:=by
 have h64:=zcg hm
 have hz:∀ F k,(zf5 (zbp f F) q).getD k 0 ≠ 0 ↔ ¬ Ac q (zbp f F) k:=fun F k=>by
  rw [zEF,Ne,(zsl (p:=q) hp (zm7 hf F) k).2]
 unfold zlr
 rw [zkP]
 constructor
 ·rintro ⟨t,ht,h⟩
  obtain ⟨j,a,b,rfl⟩:=zkO.1 h
  obtain ⟨h1,h2⟩:=zaZ.1 (zan 0 ht)
  exact ⟨_,j,hs _ h1 h2,h2,(hz _ _).1 b,rfl⟩
 ·rintro ⟨F,k,a,b,c,rfl⟩
  obtain ⟨t,ht,e⟩:=zaY 0 (zaZ.2 ⟨Nat.lt_of_lt_of_le a h64,b⟩)
  refine ⟨t,ht,?_⟩
  rw [e]
  refine zkO.2 ⟨k,Nat.lt_of_not_le fun hle=>c (zGU (by rw [zbG] at hle;exact hle)),(hz _ _).2 c,rfl⟩
theorem zEA (hp:isP (q:Int) = true) (hf:zsn f) (h0:f 0 = true) (hm:m ≤ 6) (hs:∀ t,t < 64→f t = true→t < 2 ^ m):∃ d:Nat,zGM q f m d∧zq4 (zlr f q) = d∧zFn f q = d∧(d:Int) ≤ (zbh f:Int) - 1:=by
 have h64:=zcg hm
 have hdp:0 < zbh f:=by
  have:=ze9 64 0 (by decide) h0
  unfold zbh;omega
 obtain ⟨T,hT64,hfT,hTd⟩:=zkK (f:=f) 64 hdp
 have hTd:zat T + 1 = zbh f:=hTd
 have htop:∀ s,s < 64→f s = true→zat s ≤ zat T:=fun s h1 h2=>by
  have:=ze9 64 s h1 h2
  have hd:zbh f = zil f 64:=rfl
  omega
 have hTm:zat T ∈ zlr f q:=(zvb hp hf hm hs).2 ⟨T,0,hs T hT64 hfT,hfT,zz7 hp hf hT64 hfT (zED hT64 htop),rfl⟩
 cases hc:zlr f q with
 | nil=>rw [hc] at hTm;simp at hTm
 | cons a l =>
   obtain ⟨h1,h2⟩:=zz1 a l
   have hci:=fun x=>zvb (x:=x) hp hf hm hs
   rw [hc] at hTm hci
   refine ⟨l.foldl min a,⟨?_,zsk hf fun F hF hfF k hk=>?_⟩,rfl,?_,?_⟩
   ·exact (hci _).1 h2
   ·refine Classical.byContradiction fun hac=>?_
    have:=h1 _ ((hci _).2 ⟨F,k,hF,hfF,hac,rfl⟩)
    omega
   ·unfold zFn
    rw [hc]
    have e:(zbh f:Int) - 1 = ((zat T:Nat):Int):=by omega
    rw [e]
    obtain ⟨g1,g2⟩:=zEz (b:=((zat T:Nat):Int)) (a :: l)
    have g3:=g2 _ h2
    rcases zBV (b:=((zat T:Nat):Int)) (a :: l) with g | ⟨x,hx,g⟩
    ·have:=h1 _ hTm;omega
    ·have:=h1 x hx;omega
   ·have:=h1 _ hTm;omega
end
theorem zin (b:Bool):AC Tryz.prog 68 [bool b] (.im (int (if b = true then 1 else 0))):=by
 refine AC.go (rs:=[.tmp 2]) zaL mixed Tryz.func68 rfl rfl rfl (by kernel_rfl) fun hl=>?_
 simp (maxSteps:=9^7) -dsimp only [↓gp,gq,reduceCtorEq,reduceEqDiff,reduceLT,reduceLeDiff,reduceAdd,reduceMul,reduceSub,Nat.reduceBEq,Int.reduceToNat,Int.reduceLE,Int.reduceLT,Int.reduceNeg,reduceMod,gT]
 exact ⟨fun h=>by rw [if_pos h],fun h=>by rw [if_neg (by rw [h];decide)]⟩
theorem zEU {p:Int} (h:isP p = true):∃ q:Nat,p = q∧q ≠ 0:=by
 unfold isP at h
 simp only [Bool.or_eq_true,beq_iff_eq] at h
 rcases h with (rfl | rfl) | rfl
 ·exact ⟨2,rfl,by decide⟩
 ·exact ⟨3,rfl,by decide⟩
 ·exact ⟨5,rfl,by decide⟩
theorem zja {n:Int} {xs:List Int} (h:zmY n xs = true):∃ m:Nat,n = m∧1 ≤ m∧m ≤ 6∧zsn (zal xs)∧zal xs 0 = true∧∀ s,s < 64→zal xs s = true→s < 2 ^ m:=by
 obtain ⟨hcx,hpos⟩:=zbV.1 h
 obtain ⟨h1,h6,h3⟩:=za2.1 hcx
 obtain ⟨m,rfl⟩:∃ m:Nat,n = m:=⟨n.toNat,by omega⟩
 refine ⟨m,rfl,by omega,by omega,fun s t hs ht=>zhM hs ht,?_,fun s hs hf=>?_⟩
 ·cases xs with
  | nil=>simp at hpos
  | cons x l=>exact zb1.2 ⟨x,by simp,by simp⟩
 ·obtain ⟨x,hx,e⟩:=zb1.1 hf
  obtain ⟨i,hi,rfl⟩:=zaY 0 hx
  obtain ⟨m2,t,e1,e2,h2,h3⟩:=zwF (h3 i hi).1
  have:m = m2:=by omega
  subst this
  rw [e2,Int.toNat_natCast] at e
  have:=Nat.and_le_left (n:=t) (m:=s)
  omega
def zHr (f:Nat→Bool) (p:Int):Bool:=decide (zaB f 64 ≠ 0) && decide (zFn f p = (zbh f:Int) - 1)
theorem zhd (f:Nat→Bool) (p:Int) (hp:isP p = true):AC Tryz.prog 51 [u64 (zaB f 64:Nat),int p] (.im (bool (zHr f p))):=by
 refine AC.go (rs:=[.tmp 4]) zaL mixed Tryz.func51 rfl rfl rfl (by kernel_rfl) fun hl=>?_
 simp (maxSteps:=9^7) -dsimp only [↓gp,gq,reduceCtorEq,reduceEqDiff,reduceLT,reduceLeDiff,reduceAdd,reduceMul,reduceSub,Nat.reduceBEq,Int.reduceToNat,Int.reduceLE,Int.reduceLT,Int.reduceNeg,reduceMod,gT]
 unfold zHr
 refine ⟨fun h=>zab (zlq f p hp) ?_,fun h=>?_⟩
 ·simp (maxSteps:=9^7) -dsimp only [↓gp,gq,reduceCtorEq,reduceEqDiff,reduceLT,reduceLeDiff,reduceAdd,reduceMul,reduceSub,Nat.reduceBEq,Int.reduceToNat,Int.reduceLE,Int.reduceLT,Int.reduceNeg,reduceMod,gT]
  refine zab (zcF f) ?_
  simp (maxSteps:=9^7) -dsimp only [↓gp,gq,reduceCtorEq,reduceEqDiff,reduceLT,reduceLeDiff,reduceAdd,reduceMul,reduceSub,Nat.reduceBEq,Int.reduceToNat,Int.reduceLE,Int.reduceLT,Int.reduceNeg,reduceMod,gT]
  have h:zaB f 64 ≠ 0:=fun e=>by rw [e] at h;cases h
  rw [decide_eq_true h]
  rfl
 ·have h:zaB f 64 = 0:=by
   have:((zaB f 64:Nat):Int) = 0:=by simpa using h
   omega
  rw [h];rfl
noncomputable def cmO (n:Int) (xs:List Int) (p:Int):Bool:=zaV n xs && (isP p && zHr (zal xs) p)
theorem zeF (n:Int) (xs:List Int) (p:Int):AC Tryz.prog 26 [.ag [int n,zaH xs],int p] (.im (bool (cmO n xs p))):=by
 refine AC.go (rs:=[.tmp 4]) zaL mixed Tryz.func26 rfl rfl rfl (by kernel_rfl) fun hl=>?_
 simp (maxSteps:=9^7) -dsimp only [↓gp,gq,reduceCtorEq,reduceEqDiff,reduceLT,reduceLeDiff,reduceAdd,reduceMul,reduceSub,Nat.reduceBEq,Int.reduceToNat,Int.reduceLE,Int.reduceLT,Int.reduceNeg,reduceMod,gT]
 refine zab (zaC n xs) ?_
 simp (maxSteps:=9^7) -dsimp only [↓gp,gq,reduceCtorEq,reduceEqDiff,reduceLT,reduceLeDiff,reduceAdd,reduceMul,reduceSub,Nat.reduceBEq,Int.reduceToNat,Int.reduceLE,Int.reduceLT,Int.reduceNeg,reduceMod,gT]
 unfold cmO
 refine ⟨fun hc=>zab (zdg p) ?_,fun hc=>?_⟩
 ·simp (maxSteps:=9^7) -dsimp only [↓gp,gq,reduceCtorEq,reduceEqDiff,reduceLT,reduceLeDiff,reduceAdd,reduceMul,reduceSub,Nat.reduceBEq,Int.reduceToNat,Int.reduceLE,Int.reduceLT,Int.reduceNeg,reduceMod,gT]
  rw [hc]
  refine ⟨fun hp=>?_,fun hp=>?_⟩
  ·refine zab (zb2 n xs (zcQ hc)) ?_
   simp (maxSteps:=9^7) -dsimp only [↓gp,gq,reduceCtorEq,reduceEqDiff,reduceLT,reduceLeDiff,reduceAdd,reduceMul,reduceSub,Nat.reduceBEq,Int.reduceToNat,Int.reduceLE,Int.reduceLT,Int.reduceNeg,reduceMod,gT]
   refine zab (zhd _ p hp) ?_
   rw [hp]
   simp (maxSteps:=9^7) -dsimp only [↓gp,gq,reduceCtorEq,reduceEqDiff,reduceLT,reduceLeDiff,reduceAdd,reduceMul,reduceSub,Nat.reduceBEq,Int.reduceToNat,Int.reduceLE,Int.reduceLT,Int.reduceNeg,reduceMod,gT]
  ·rw [hp];rfl
 ·rw [hc];rfl
theorem zEw (n:Int) (xs:List Int):-2 ≤ zdE n xs∧zdE n xs ≤ 100000000:=by
 unfold zdE
 split
 ·rename_i h
  obtain ⟨hcx,hpos⟩:=zbV.1 h
  have:=zcQ hcx _ (zan 0 (show xs.length - 1 < xs.length by omega))
  have:=zbY (s:=(xs.getD (xs.length - 1) 0).toNat) (by omega)
  omega
 ·omega
theorem zBT {n:Int} {xs:List Int} (h:zaV n xs = true):∀ x ∈ xs,zat x.toNat ≤ zat (xs.getD (xs.length - 1) 0).toNat:=fun x hx=>by
 obtain ⟨_,_,h3⟩:=za2.1 h
 have hok:=zcQ h
 have hle:∀ j,j < xs.length→∀ i,i ≤ j→zat (xs.getD i 0).toNat ≤ zat (xs.getD j 0).toNat:=by
  intro j
  induction j with
  | zero=>intro _ i hi;rw [show i = 0 by omega];exact Nat.le_refl _
  | succ j ih =>
    intro hj i hi
    have h1:=(h3 (j + 1) hj).2.1 (by omega)
    rw [Nat.add_sub_cancel] at h1
    have q1:=hok _ (zan 0 hj)
    have q2:=hok _ (zan 0 (show j < xs.length by omega))
    unfold zlA at h1
    rw [zcC q1,zcC q2] at h1
    simp only [Bool.and_eq_true,decide_eq_true_eq] at h1
    have hs:zat (xs.getD j 0).toNat ≤ zat (xs.getD (j + 1) 0).toNat:=by
     have h2:=h1.2.2
     split at h2
     ·omega
     ·have:=of_decide_eq_true h2;omega
    by_cases e:i = j + 1
    ·rw [e];exact Nat.le_refl _
    ·exact Nat.le_trans (ih (by omega) i (by omega)) hs
 obtain ⟨i,hi,rfl⟩:=zaY 0 hx
 exact hle (xs.length - 1) (by omega) i (by omega)
theorem zm4 {n:Int} {xs:List Int} (h:zmY n xs = true):zdE n xs + 1 = (zbh (zal xs):Int) - 1:=by
 obtain ⟨hcx,hpos⟩:=zbV.1 h
 have hok:=zcQ hcx
 have e:zdE n xs = (zat (xs.getD (xs.length - 1) 0).toNat:Int) - 1:=if_pos h
 have hl:=zan 0 (show xs.length - 1 < xs.length by omega)
 have hlast:=hok _ hl
 have hf:zal xs (xs.getD (xs.length - 1) 0).toNat = true:=zb1.2 ⟨_,hl,Nat.and_self _⟩
 have h1:=ze9 64 _ (by omega) hf
 have hdn:zbh (zal xs) = zil (zal xs) 64:=rfl
 obtain ⟨T,a,b,c⟩:=zkK (f:=zal xs) 64 (by omega)
 obtain ⟨x,hx,hxT⟩:=zb1.1 b
 have h2:=zBT hcx x hx
 have h3:=zBZ (s:=x.toNat) (t:=T) (by have:=hok x hx;omega) hxT
 omega
theorem zq3 {n:Int} {xs:List Int} (h:zaV n xs = true) (h2:¬ zmY n xs = true):xs = []:=by
 cases xs with
 | nil=>rfl
 | cons a l=>exact absurd (zbV.2 ⟨h,by simp⟩) h2
theorem zEx {n:Int} {xs:List Int} {p:Int} (h:zmY n xs = true) (hp:isP p = true):∃ (m q d:Nat) (_:NeZero q),n = m∧p = q∧1 ≤ m∧m ≤ 6∧zGM q (zal xs) m d∧zsi n xs p = d∧zFn (zal xs) p = d∧(d:Int) ≤ (zbh (zal xs):Int) - 1:=by
 obtain ⟨m,rfl,h1,h6,hd,h0,hs⟩:=zja h
 obtain ⟨q,rfl,hq⟩:=zEU hp
 haveI:NeZero q:=⟨hq⟩
 obtain ⟨d,a,b,c,e⟩:=zEA (m:=m) hp hd h0 h6 hs
 exact ⟨m,q,d,inferInstance,rfl,rfl,h1,h6,a,by rw [zsi,if_pos ⟨(zbV.1 h).1,hp⟩];exact b,c,e⟩
theorem zBU {xs:List Int} (h:zal xs 0 = true):zaB (zal xs) 64 ≠ 0:=fun e=>by
 have:=za5 (zal xs) (s:=0) (by decide)
 rw [e,h,Nat.zero_testBit] at this;cases this
theorem zHS (n:Int) (xs:List Int) (p:Int):(decide (0 ≤ zsi n xs p) && decide (zsi n xs p = zdE n xs + 1)) = cmO n xs p:=by
 unfold cmO
 by_cases hp:isP p = true
 ·by_cases h:zmY n xs = true
  ·obtain ⟨m,q,d,_,rfl,rfl,h1,h6,hd,e1,e2,e3⟩:=zEx h hp
   have h0:=(zja h).choose_spec.2.2.2.2.1
   unfold zHr
   rw [(zbV.1 h).1,hp,e1,e2,zm4 h,decide_eq_true (zBU h0),decide_eq_true (by omega)]
   rfl
  ·cases hc:zaV n xs with
   | false =>
     have:zsi n xs p = -1:=if_neg fun h=>by rw [h.1] at hc;cases hc
     rw [this];rfl
   | true =>
     have hx:=zq3 hc h
     subst hx
     have e1:zsi n [] p = -1:=by rw [zsi,if_pos ⟨hc,hp⟩];rfl
     rw [e1,hp];rfl
 ·have:zsi n xs p = -1:=if_neg fun h=>hp h.2
  rw [this,show isP p = false by simpa using hp];simp
theorem zeG (n:Int) (xs:List Int) (p:Int):AC Tryz.prog 15 [.ag [int n,zaH xs],int p] (.im (bool (cmO n xs p))):=by
 refine AC.go (rs:=[.tmp 4]) zaL mixed Tryz.func15 rfl rfl rfl (by kernel_rfl) fun hl=>?_
 simp (maxSteps:=9^7) -dsimp only [↓gp,gq,reduceCtorEq,reduceEqDiff,reduceLT,reduceLeDiff,reduceAdd,reduceMul,reduceSub,Nat.reduceBEq,Int.reduceToNat,Int.reduceLE,Int.reduceLT,Int.reduceNeg,reduceMod,gT]
 refine zab (zls n xs p) ?_
 simp (maxSteps:=9^7) -dsimp only [↓gp,gq,reduceCtorEq,reduceEqDiff,reduceLT,reduceLeDiff,reduceAdd,reduceMul,reduceSub,Nat.reduceBEq,Int.reduceToNat,Int.reduceLE,Int.reduceLT,Int.reduceNeg,reduceMod,gT]
 rw [← zHS]
 have hb:=zEw n xs
 have hw:IntKind.i64.wrap (zdE n xs + 1) = zdE n xs + 1:=zap (by omega) (by omega)
 refine ⟨fun h=>zab (zch n xs) ?_,fun h=>?_⟩
 ·simp (maxSteps:=9^7) -dsimp only [↓gp,gq,reduceCtorEq,reduceEqDiff,reduceLT,reduceLeDiff,reduceAdd,reduceMul,reduceSub,Nat.reduceBEq,Int.reduceToNat,Int.reduceLE,Int.reduceLT,Int.reduceNeg,reduceMod,gT,hw]
  rw [decide_eq_true h]
  rfl
 ·rw [decide_eq_false h];rfl
theorem zzZ (a b:Int):IntKind.i64.wrap (IntKind.i64.wrap a + b) = IntKind.i64.wrap (a + b):=by
 simp [IntKind.wrap,IntKind.bits,IntKind.signed]
 omega
theorem zGJ (m:Nat):zfO .i64 (m:Int) 1 = ((m % 2:Nat):Int):=by
 have e:zfO .i64 (m:Int) 1 = IntKind.i64.wrap (((BitVec.ofInt 64 (m:Int) &&& BitVec.ofInt 64 1).toNat:Nat):Int):=rfl
 have h1:BitVec.ofInt 64 (m:Int) = BitVec.ofNat 64 m:=by simp
 have h2:BitVec.ofInt 64 (1:Int) = BitVec.ofNat 64 1:=by decide
 have h3:(BitVec.ofNat 64 m &&& BitVec.ofNat 64 1).toNat = m % 2:=by
  rw [BitVec.toNat_and,BitVec.toNat_ofNat,BitVec.toNat_ofNat,show 1 % 2 ^ 64 = 1 by decide,Nat.and_one_is_mod]
  omega
 rw [e,h1,h2,h3,zap (by omega) (by omega)]
def pzI (s:Int):Int:=IntKind.i64.wrap ((zat s.toNat:Nat):Int)
theorem zhL {s:Int} (h:0 ≤ s∧s < 64):pzI s = (zat s.toNat:Nat):=by
 have:=zbY (s:=s.toNat) (by omega)
 exact zap (by omega) (by omega)
theorem zfS (u:Int):AC Tryz.prog 35 [int u] (.im (int (pzI u))):=by
 refine AC.go (rs:=[.tmp 2]) zaL mixed Tryz.func35 rfl rfl rfl (by kernel_rfl) fun hl=>?_
 simp (maxSteps:=9^7) -dsimp only [↓gp,gq,reduceCtorEq,reduceEqDiff,reduceLT,reduceLeDiff,reduceAdd,reduceMul,reduceSub,Nat.reduceBEq,Int.reduceToNat,Int.reduceLE,Int.reduceLT,Int.reduceNeg,reduceMod,gT]
 by_cases hs:0 ≤ u
 ·obtain ⟨n,rfl⟩:=Int.eq_ofNat_of_zero_le hs
  have hz:int 0 = int (IntKind.i64.wrap ((0:Nat):Int)):=rfl
  refine zah (fun (za:Nat × Nat) s=>match za with | (m,a)=>s.sl 0 = int m∧s.sl 3 = int (IntKind.i64.wrap (a:Int))∧(a + zat m = zat n)) (fun (m,a)=>m) ((n,0)) (by refine ⟨?_,?_,by simp⟩ <;> (first | (simp (maxSteps:=9^7) -dsimp only [gr,reduceEqDiff,reduceLT,reduceAdd,reduceMod,Nat.reduceBEq,hz];first | done | rfl | (simp;done)) | assumption | rfl)) ?_
  intro (m,a) sa ⟨h0a,h3a,hIa⟩
  simp (maxSteps:=9^7) -dsimp only [↓gp,gq,reduceCtorEq,reduceEqDiff,reduceLT,reduceLeDiff,reduceAdd,reduceMul,reduceSub,Nat.reduceBEq,Int.reduceToNat,Int.reduceLE,Int.reduceLT,Int.reduceNeg,reduceMod,gT,h0a,h3a,zGJ,zuS,zzZ]
  refine ⟨fun h1=>?_,fun h1=>?_⟩
  ·have hm0:m ≠ 0:=by omega
   have hp:=hIa
   rw [zi3 hm0] at hp
   have hw:IntKind.i64.wrap ((a:Int) + ((m % 2:Nat):Int)) = IntKind.i64.wrap ((a + m % 2:Nat):Int):=by congr 1
   exact zac ((m / 2,a + m % 2)) (by refine ⟨?_,?_,by dsimp only;omega⟩ <;> (first | (simp (maxSteps:=9^7) -dsimp only [gr,reduceEqDiff,reduceLT,reduceAdd,reduceMod,Nat.reduceBEq,h0a,h3a,hw];first | done | rfl | (simp;done)) | assumption | rfl)) (by first | omega | (simp only;omega) | (dsimp only;omega) | (show _ < _;simp;omega))
  ·have:m = 0:=by omega
   subst this
   rw [zb0,Nat.add_zero] at hIa
   unfold pzI
   rw [Int.toNat_natCast,← hIa]
 ·refine zah (fun (t:Unit) s=>s.sl 0 = int u∧s.sl 3 = int 0∧(True)) (fun t=>0) (()) (by refine ⟨?_,?_,trivial⟩ <;> (first | (simp (maxSteps:=9^7) -dsimp only [gr,reduceEqDiff,reduceLT,reduceAdd,reduceMod,Nat.reduceBEq];first | done | rfl | (simp;done)) | assumption | rfl)) ?_
  intro t sa ⟨h0a,h3a,hIa⟩
  simp (maxSteps:=9^7) -dsimp only [↓gp,gq,reduceCtorEq,reduceEqDiff,reduceLT,reduceLeDiff,reduceAdd,reduceMul,reduceSub,Nat.reduceBEq,Int.reduceToNat,Int.reduceLE,Int.reduceLT,Int.reduceNeg,reduceMod,gT,h0a,h3a]
  refine ⟨fun h1=>absurd h1 (by omega),fun h1=>?_⟩
  have:u.toNat = 0:=by omega
  unfold pzI
  rw [this,zb0];rfl
noncomputable def puB (n:Int) (xs:List Int):Bool:=zaV n xs && xs.all fun x=>decide (zat x.toNat = zat (xs.getD 0 0).toNat)
theorem zGK {n:Int} {xs:List Int} {k:Nat} (hk:k < xs.length) (h:pzI (xs.getD k 0) ≠ pzI (xs.getD 0 0)):puB n xs = false:=by
 unfold puB
 cases hc:zaV n xs with
 | false=>rfl
 | true =>
   have hok:=zcQ hc
   rw [Bool.true_and,List.all_eq_false]
   refine ⟨_,zan 0 hk,?_⟩
   rw [zhL (hok _ (zan 0 hk)),zhL (hok _ (zan 0 (show 0 < xs.length by omega)))] at h
   intro e
   exact h (by have:=of_decide_eq_true e;omega)
theorem zDw {n:Int} {xs:List Int} (hc:zaV n xs = true) (h:∀ k,k < xs.length→pzI (xs.getD k 0) = pzI (xs.getD 0 0)):puB n xs = true:=by
 unfold puB
 have hok:=zcQ hc
 rw [hc,Bool.true_and,List.all_eq_true]
 intro x hx
 obtain ⟨k,hk,rfl⟩:=zaY 0 hx
 have:=h k hk
 rw [zhL (hok _ (zan 0 hk)),zhL (hok _ (zan 0 (show 0 < xs.length by omega)))] at this
 exact decide_eq_true (by omega)
theorem zhb (n:Int) (xs:List Int):AC Tryz.prog 12 [.ag [int n,zaH xs]] (.im (bool (puB n xs))):=by
 refine AC.go (rs:=[.tmp 2]) zaL mixed Tryz.func12 rfl rfl rfl (by kernel_rfl) fun hl=>?_
 simp only [zaJ,zaX,and_true,zbM,zc6,zcm,true_and] at hl
 simp (maxSteps:=9^7) -dsimp only [↓gp,gq,reduceCtorEq,reduceEqDiff,reduceLT,reduceLeDiff,reduceAdd,reduceMul,reduceSub,Nat.reduceBEq,Int.reduceToNat,Int.reduceLE,Int.reduceLT,Int.reduceNeg,reduceMod,gT]
 refine zah (fun (k:Nat) s=>s.sl 1 = .ref 1 1 0∧s.rw 1 = ⟨1,.box 27 [int n,zaH xs]⟩∧s.sl 3 = int (k + 1:Nat)∧((k + 1 ≤ xs.length ∨ k = 0)∧∀ j,j < k + 1→pzI (xs.getD j 0) = pzI (xs.getD 0 0))) (fun k=>xs.length - k) (0) (by refine ⟨?_,?_,?_,⟨.inr rfl,fun j hj=>by rw [show j = 0 by omega]⟩⟩ <;> (first | (simp (maxSteps:=9^7) -dsimp only [gr,reduceEqDiff,reduceLT,reduceAdd,reduceMod,Nat.reduceBEq];first | done | rfl | (simp;done)) | assumption | rfl)) ?_
 intro k sa ⟨h1a,r1a,h3a,hIa⟩
 obtain ⟨hk,hall⟩:=hIa
 simp (maxSteps:=9^7) -dsimp only [↓gp,gq,reduceCtorEq,reduceEqDiff,reduceLT,reduceLeDiff,reduceAdd,reduceMul,reduceSub,Nat.reduceBEq,Int.reduceToNat,Int.reduceLE,Int.reduceLT,Int.reduceNeg,reduceMod,gT,h1a,r1a,h3a]
 refine ⟨fun h=>⟨by kernel_rfl,h,h,zab (zfS _) ?_⟩,fun h=>zab (zaI n xs) ?_⟩
 ·simp (maxSteps:=9^7) -dsimp only [↓gp,gq,reduceCtorEq,reduceEqDiff,reduceLT,reduceLeDiff,reduceAdd,reduceMul,reduceSub,Nat.reduceBEq,Int.reduceToNat,Int.reduceLE,Int.reduceLT,Int.reduceNeg,reduceMod,gT,h1a,r1a,h3a]
  refine ⟨by omega,by omega,zab (zfS _) ?_⟩
  simp (maxSteps:=9^7) -dsimp only [↓gp,gq,reduceCtorEq,reduceEqDiff,reduceLT,reduceLeDiff,reduceAdd,reduceMul,reduceSub,Nat.reduceBEq,Int.reduceToNat,Int.reduceLE,Int.reduceLT,Int.reduceNeg,reduceMod,gT,h1a,r1a,h3a]
  refine ⟨fun he=>?_,fun he=>?_⟩
  ·rw [zGK h (by simpa using he)]
  ·have he:pzI (xs.getD (k + 1) 0) = pzI (xs.getD 0 0):=by simpa using he
   exact zac (k + 1) (by refine ⟨?_,?_,?_,⟨.inl (by omega),fun j hj=>by
    by_cases e:j = k + 1
    ·rw [e];exact he
    ·exact hall j (by omega)⟩⟩ <;> (first | (simp (maxSteps:=9^7) -dsimp only [gr,reduceEqDiff,reduceLT,reduceAdd,reduceMod,Nat.reduceBEq,h1a,r1a,h3a,zaa h hl];first | done | rfl | (simp;done)) | assumption | rfl)) (by first | omega | (simp only;omega) | (dsimp only;omega) | (show _ < _;simp;omega))
 ·simp (maxSteps:=9^7) -dsimp only [↓gp,gq,reduceCtorEq,reduceEqDiff,reduceLT,reduceLeDiff,reduceAdd,reduceMul,reduceSub,Nat.reduceBEq,Int.reduceToNat,Int.reduceLE,Int.reduceLT,Int.reduceNeg,reduceMod,gT,h1a,r1a,h3a]
  cases hc:zaV n xs with
  | false=>unfold puB;rw [hc];rfl
  | true=>rw [zDw hc fun j hj=>hall j (by omega)]
theorem zhc (n:Int) (xs:List Int):AC Tryz.prog 23 [.ag [int n,zaH xs]] (.im (bool (puB n xs))):=by
 refine AC.go (rs:=[.tmp 2]) zaL mixed Tryz.func23 rfl rfl rfl (by kernel_rfl) fun hl=>?_
 simp only [zaJ,zaX,and_true,zbM,zc6,zcm,true_and] at hl
 simp (maxSteps:=9^7) -dsimp only [↓gp,gq,reduceCtorEq,reduceEqDiff,reduceLT,reduceLeDiff,reduceAdd,reduceMul,reduceSub,Nat.reduceBEq,Int.reduceToNat,Int.reduceLE,Int.reduceLT,Int.reduceNeg,reduceMod,gT]
 refine zab (zaC n xs) ?_
 simp (maxSteps:=9^7) -dsimp only [↓gp,gq,reduceCtorEq,reduceEqDiff,reduceLT,reduceLeDiff,reduceAdd,reduceMul,reduceSub,Nat.reduceBEq,Int.reduceToNat,Int.reduceLE,Int.reduceLT,Int.reduceNeg,reduceMod,gT]
 refine ⟨fun hc=>?_,fun hc=>?_⟩
 ·have hc:zaV n xs = false:=by simpa using hc
  unfold puB;rw [hc];rfl
 ·have hc:zaV n xs = true:=by simpa using hc
  have hok:=zcQ hc
  refine zah (fun (k:Nat) s=>s.sl 1 = .ref 1 1 0∧s.rw 1 = ⟨1,.box 27 [int n,zaH xs]⟩∧s.sl 9 = zaH xs∧s.sl 10 = int xs.length∧s.sl 11 = int k∧(k ≤ xs.length∧∀ j,j < k→pzI (xs.getD j 0) = pzI (xs.getD 0 0))) (fun k=>xs.length - k) (0) (by refine ⟨?_,?_,?_,?_,?_,⟨Nat.zero_le _,fun j hj=>by omega⟩⟩ <;> (first | (simp (maxSteps:=9^7) -dsimp only [gr,reduceEqDiff,reduceLT,reduceAdd,reduceMod,Nat.reduceBEq];first | done | rfl | (simp;done)) | assumption | rfl)) ?_
  intro k sa ⟨h1a,r1a,h9a,h10a,h11a,hIa⟩
  obtain ⟨hk,hall⟩:=hIa
  simp (maxSteps:=9^7) -dsimp only [↓gp,gq,reduceCtorEq,reduceEqDiff,reduceLT,reduceLeDiff,reduceAdd,reduceMul,reduceSub,Nat.reduceBEq,Int.reduceToNat,Int.reduceLE,Int.reduceLT,Int.reduceNeg,reduceMod,gT,h1a,r1a,h9a,h10a,h11a]
  refine ⟨fun h=>⟨h,h,by kernel_rfl,zab (zaz _) ?_⟩,fun h=>?_⟩
  ·have q1:=hok _ (zan 0 h)
   have q0:=hok _ (zan 0 (show 0 < xs.length by omega))
   simp (maxSteps:=9^7) -dsimp only [↓gp,gq,reduceCtorEq,reduceEqDiff,reduceLT,reduceLeDiff,reduceAdd,reduceMul,reduceSub,Nat.reduceBEq,Int.reduceToNat,Int.reduceLE,Int.reduceLT,Int.reduceNeg,reduceMod,gT,h1a,r1a,h9a,h10a,h11a]
   refine ⟨by omega,by omega,zab (zaz _) ?_⟩
   rw [zcC q1,zcC q0,← zhL q1,← zhL q0]
   simp (maxSteps:=9^7) -dsimp only [↓gp,gq,reduceCtorEq,reduceEqDiff,reduceLT,reduceLeDiff,reduceAdd,reduceMul,reduceSub,Nat.reduceBEq,Int.reduceToNat,Int.reduceLE,Int.reduceLT,Int.reduceNeg,reduceMod,gT,h1a,r1a,h9a,h10a,h11a]
   refine ⟨fun he=>?_,fun he=>?_⟩
   ·rw [zGK h (by simpa using he)]
   ·have he:pzI (xs.getD k 0) = pzI (xs.getD 0 0):=by simpa using he
    exact zac (k + 1) (by refine ⟨?_,?_,?_,?_,?_,⟨by omega,fun j hj=>by
     by_cases e:j = k
     ·rw [e];exact he
     ·exact hall j (by omega)⟩⟩ <;> (first | (simp (maxSteps:=9^7) -dsimp only [gr,reduceEqDiff,reduceLT,reduceAdd,reduceMod,Nat.reduceBEq,h1a,r1a,h9a,h10a,h11a,zaa h hl];first | done | rfl | (simp;done)) | assumption | rfl)) (by first | omega | (simp only;omega) | (dsimp only;omega) | (show _ < _;simp;omega))
  ·rw [zDw hc fun j hj=>hall j (by omega)]
theorem zen {α β:Type} (f:α→Option β) {l:List α} {k:Nat} (d:α) (h:k < l.length):(l.take (k + 1)).findSome? f = ((l.take k).findSome? f).or (f (l.getD k d)):=by
 rw [zay d h,List.findSome?_append]
 simp
theorem zio {α β:Type} (f:α→Option β) {l:List α} {k:Nat} (d:α) (h:k < l.length) (h0:(l.take k).findSome? f = none) {x:β} (h1:f (l.getD k d) = some x):l.findSome? f = some x:=by
 rw [← List.take_append_drop (k + 1) l,List.findSome?_append,zen f d h,h0,h1];rfl
noncomputable def zHs (xs:List Int):List Nat:=(List.range 64).filter (inF xs)
noncomputable def zsw (xs:List Int):List Int:=ofN (zHs xs)
theorem zHd (xs:List Int):okL (zsw xs):=fun b hb=>by
 unfold zsw ofN at hb
 obtain ⟨s,hs,rfl⟩:=List.mem_map.1 hb
 have:=List.mem_range.1 (List.mem_filter.1 hs).1
 omega
theorem zE4 (xs:List Int):(zsw xs).length ≤ 64:=by
 unfold zsw zHs
 rw [zad]
 have:=List.length_filter_le (inF xs) (List.range 64)
 rw [List.length_range] at this
 exact this
theorem zB9 {xs:List Int} (hn:xs.Nodup) (hx:okL xs):zhP xs = zsw xs:=by
 symm
 have hmem:∀ x:Int,x ∈ zsw xs ↔ x ∈ xs:=fun x=>by
  unfold zsw zHs ofN
  rw [List.mem_map]
  refine ⟨fun ⟨s,hs,e⟩=>?_,fun h=>⟨x.toNat,List.mem_filter.2 ⟨List.mem_range.2 (by have:=hx x h;omega),?_⟩,by have:=hx x h;omega⟩⟩
  ·have h2:=(List.mem_filter.1 hs).2
   unfold inF at h2
   rw [← e];exact of_decide_eq_true h2
  ·unfold inF
   have:=hx x h
   exact decide_eq_true (by rw [show ((x.toNat:Nat):Int) = x by omega];exact h)
 have hpw:(zsw xs).Pairwise (· < ·):=by
  unfold zsw zHs ofN
  refine List.Pairwise.map _ (fun a b h=>?_) (List.Pairwise.filter _ List.pairwise_lt_range)
  ·exact Int.ofNat_lt.2 h
 refine zvi ?_ (hpw.imp fun h=>Int.le_of_lt h)
 exact (List.perm_ext_iff_of_nodup (hpw.imp fun h=>Int.ne_of_lt h) hn).2 hmem
theorem zwt (x y:Int):AC Tryz.prog 138 [int x,int y] (.im (bool (decide (x < y)))):=by
 refine AC.go (rs:=[.tmp 4]) zaL mixed Tryz.func138 rfl rfl rfl (by kernel_rfl) fun hl=>?_
 simp (maxSteps:=9^7) -dsimp only [↓gp,gq,reduceCtorEq,reduceEqDiff,reduceLT,reduceLeDiff,reduceAdd,reduceMul,reduceSub,Nat.reduceBEq,Int.reduceToNat,Int.reduceLE,Int.reduceLT,Int.reduceNeg,reduceMod,gT]
 refine zab (zrp x) ?_
 simp (maxSteps:=9^7) -dsimp only [↓gp,gq,reduceCtorEq,reduceEqDiff,reduceLT,reduceLeDiff,reduceAdd,reduceMul,reduceSub,Nat.reduceBEq,Int.reduceToNat,Int.reduceLE,Int.reduceLT,Int.reduceNeg,reduceMod,gT]
theorem zrf (n:Nat) (hn:n < 9):∃ k:Int,AC Tryz.prog 142 [u64 n] (.im (int k)):=by
 refine ⟨if n = 0 then 0 else if n < 2 then 1 else if n < 4 then 2 else if n < 8 then 3 else 4,?_⟩
 refine AC.go (rs:=[.tmp 2]) zaL mixed Tryz.func142 rfl rfl rfl (by kernel_rfl) fun hl=>?_
 simp (maxSteps:=9^7) -dsimp only [↓gp,gq,reduceCtorEq,reduceEqDiff,reduceLT,reduceLeDiff,reduceAdd,reduceMul,reduceSub,Nat.reduceBEq,Int.reduceToNat,Int.reduceLE,Int.reduceLT,Int.reduceNeg,reduceMod,gT]
 refine ⟨fun h=>absurd h (by omega),fun _=>⟨fun h=>absurd h (by omega),fun _=>⟨fun h=>absurd h (by omega),fun _=>?_⟩⟩⟩
 have h9:n = 0 ∨ n = 1 ∨ n = 2 ∨ n = 3 ∨ n = 4 ∨ n = 5 ∨ n = 6 ∨ n = 7 ∨ n = 8:=by omega
 rcases h9 with rfl | rfl | rfl | rfl | rfl | rfl | rfl | rfl | rfl <;> exact ⟨by decide +kernel,by decide +kernel,by decide +kernel⟩
theorem zwu (n:Nat) (hn:n < 9):∃ k:Int,AC Tryz.prog 120 [.v (.int .u64 n)] (.im (int k)):=by
 obtain ⟨k,hk⟩:=zrf n hn
 refine ⟨k,?_⟩
 refine AC.go (rs:=[.tmp 2]) zaL mixed Tryz.func120 rfl rfl rfl (by kernel_rfl) fun hl=>?_
 simp (maxSteps:=9^7) -dsimp only [↓gp,gq,reduceCtorEq,reduceEqDiff,reduceLT,reduceLeDiff,reduceAdd,reduceMul,reduceSub,Nat.reduceBEq,Int.reduceToNat,Int.reduceLE,Int.reduceLT,Int.reduceNeg,reduceMod,gT]
 refine zab hk ?_
 simp (maxSteps:=9^7) -dsimp only [↓gp,gq,reduceCtorEq,reduceEqDiff,reduceLT,reduceLeDiff,reduceAdd,reduceMul,reduceSub,Nat.reduceBEq,Int.reduceToNat,Int.reduceLE,Int.reduceLT,Int.reduceNeg,reduceMod,gT]
theorem zk2 (xs:List Int) (hx:xs.length ≤ 1000):AM Tryz.prog 132 [.own 1000000 1,int 0,int xs.length] [⟨3,1,iL xs⟩] [iL (zhP xs)] (.tuple #[]):=by
 refine AM.go (rs:=[]) zaL mixed Tryz.func132 rfl rfl rfl (by kernel_rfl) (zb7 (za3 _) zdH) (zb6 (za3 _) zdG) rfl fun hl=>?_
 simp (maxSteps:=9^7) -dsimp only [↓gp,gq,reduceCtorEq,reduceEqDiff,reduceLT,reduceLeDiff,reduceAdd,reduceMul,reduceSub,Nat.reduceBEq,Int.reduceToNat,Int.reduceLE,Int.reduceLT,Int.reduceNeg,reduceMod,gT]
 refine zah (fun ((i,l):Nat × List Int) s=>s.sl 0 = .own 1000000 1∧s.rw 1000000 = ⟨1,.sli 3 1 false (iL l)⟩∧s.sl 1 = int 0∧s.sl 2 = int xs.length∧s.sl 6 = int i∧1 ≤ i∧l.Perm xs∧zB5 l i∧(i ≤ xs.length ∨ xs.length = 0)) (fun (i,_)=>xs.length - i) (1,xs) ⟨by simp (maxSteps:=9^7) -dsimp only [gr,reduceEqDiff,reduceLT,reduceAdd,reduceMod,Nat.reduceBEq],by simp (maxSteps:=9^7) -dsimp only [gr,reduceEqDiff,reduceLT,reduceAdd,reduceMod,Nat.reduceBEq],by simp (maxSteps:=9^7) -dsimp only [gr,reduceEqDiff,reduceLT,reduceAdd,reduceMod,Nat.reduceBEq],by simp (maxSteps:=9^7) -dsimp only [gr,reduceEqDiff,reduceLT,reduceAdd,reduceMod,Nat.reduceBEq],by simp (maxSteps:=9^7) -dsimp only [gr,reduceEqDiff,reduceLT,reduceAdd,reduceMod,Nat.reduceBEq];rfl,by omega,List.Perm.refl _,fun a b h1 h2=>by omega,by omega⟩ ?_
 intro (i,l) s1 ⟨h0,r0,h1,h2,h6,hi,hp,hs,hb⟩
 have hlen:=hp.length_eq
 simp (maxSteps:=9^7) -dsimp only [↓gp,gq,reduceCtorEq,reduceEqDiff,reduceLT,reduceLeDiff,reduceAdd,reduceMul,reduceSub,Nat.reduceBEq,Int.reduceToNat,Int.reduceLE,Int.reduceLT,Int.reduceNeg,reduceMod,gT,h0,r0,h1,h2,h6]
 refine ⟨fun hin=>?_,fun hin=>?_⟩
 rotate_left
 ·have e:l = zhP xs:=by
   refine zAv hp fun a b q1 q2=>?_
   rcases hb with hb | hb
   ·exact hs a b q1 (by omega)
   ·omega
  rw [← e]
 ·refine zah (fun ((j,m):Nat × List Int) s=>s.sl 0 = .own 1000000 1∧s.rw 1000000 = ⟨1,.sli 3 1 false (iL m)⟩∧s.sl 1 = int 0∧s.sl 2 = int xs.length∧s.sl 6 = int i∧s.sl 7 = int j∧j ≤ i∧m.Perm xs∧zrc m i j) (fun (j,_)=>j) (i,l) ⟨by simp (maxSteps:=9^7) -dsimp only [gr,reduceEqDiff,reduceLT,reduceAdd,reduceMod,Nat.reduceBEq,h0],by simp (maxSteps:=9^7) -dsimp only [gr,reduceEqDiff,reduceLT,reduceAdd,reduceMod,Nat.reduceBEq,r0],by simp (maxSteps:=9^7) -dsimp only [gr,reduceEqDiff,reduceLT,reduceAdd,reduceMod,Nat.reduceBEq,h1],by simp (maxSteps:=9^7) -dsimp only [gr,reduceEqDiff,reduceLT,reduceAdd,reduceMod,Nat.reduceBEq,h2],by simp (maxSteps:=9^7) -dsimp only [gr,reduceEqDiff,reduceLT,reduceAdd,reduceMod,Nat.reduceBEq,h6],by simp (maxSteps:=9^7) -dsimp only [gr,reduceEqDiff,reduceLT,reduceAdd,reduceMod,Nat.reduceBEq],Nat.le_refl _,hp,zwl hs⟩ ?_
  intro (j,m) s2 ⟨g0,k0,g1,g2,g6,g7,hj,hpm,hsm⟩
  have hlm:=hpm.length_eq
  have hjl:j < m.length:=by omega
  by_cases hj0:0 < j
  ·have hw:IntKind.i64.wrap ((j:Int) - 1) = ((j - 1:Nat):Int):=by rw [zap (by omega) (by omega)];omega
   simp (maxSteps:=9^7) -dsimp only [↓gp,gq,reduceCtorEq,reduceEqDiff,reduceLT,reduceLeDiff,reduceAdd,reduceMul,reduceSub,Nat.reduceBEq,Int.reduceToNat,Int.reduceLE,Int.reduceLT,Int.reduceNeg,reduceMod,gT,g0,k0,g1,g2,g6,g7,hw]
   refine ⟨by kernel_rfl,fun _=>⟨hjl,hjl,by omega,by omega,zab (zwt _ _) ?_⟩,fun h=>?_⟩
   ·simp (maxSteps:=9^7) -dsimp only [↓gp,gq,reduceCtorEq,reduceEqDiff,reduceLT,reduceLeDiff,reduceAdd,reduceMul,reduceSub,Nat.reduceBEq,Int.reduceToNat,Int.reduceLE,Int.reduceLT,Int.reduceNeg,reduceMod,gT,g0,k0,g1,g2,g6,g7,hw]
    refine ⟨fun hlt=>⟨by kernel_rfl,by omega,by omega,by omega,by omega,by omega,by omega,by omega,by omega,by kernel_rfl,?_⟩,fun hge=>?_⟩
    ·exact zac (j - 1,swj m j) ⟨by simp (maxSteps:=9^7) -dsimp only [gr,reduceEqDiff,reduceLT,reduceAdd,reduceMod,Nat.reduceBEq,g0],by simp (maxSteps:=9^7) -dsimp only [gr,reduceEqDiff,reduceLT,reduceAdd,reduceMod,Nat.reduceBEq,k0];rfl,by simp (maxSteps:=9^7) -dsimp only [gr,reduceEqDiff,reduceLT,reduceAdd,reduceMod,Nat.reduceBEq,g1],by simp (maxSteps:=9^7) -dsimp only [gr,reduceEqDiff,reduceLT,reduceAdd,reduceMod,Nat.reduceBEq,g2],by simp (maxSteps:=9^7) -dsimp only [gr,reduceEqDiff,reduceLT,reduceAdd,reduceMod,Nat.reduceBEq,g6],by simp (maxSteps:=9^7) -dsimp only [gr,reduceEqDiff,reduceLT,reduceAdd,reduceMod,Nat.reduceBEq,hw],by omega,(zB4 hj0 hjl).trans hpm,zsu hsm hj0 hj (by omega) hlt⟩ (by show j - 1 < j;omega)
    ·exact zac (i + 1,m) ⟨by simp (maxSteps:=9^7) -dsimp only [gr,reduceEqDiff,reduceLT,reduceAdd,reduceMod,Nat.reduceBEq,g0],by simp (maxSteps:=9^7) -dsimp only [gr,reduceEqDiff,reduceLT,reduceAdd,reduceMod,Nat.reduceBEq,k0],by simp (maxSteps:=9^7) -dsimp only [gr,reduceEqDiff,reduceLT,reduceAdd,reduceMod,Nat.reduceBEq,g1],by simp (maxSteps:=9^7) -dsimp only [gr,reduceEqDiff,reduceLT,reduceAdd,reduceMod,Nat.reduceBEq,g2],by simp (maxSteps:=9^7) -dsimp only [gr,reduceEqDiff,reduceLT,reduceAdd,reduceMod,Nat.reduceBEq];rw [zap (by omega) (by omega)];rfl,by omega,hpm,zkW hsm hj (.inr (Int.not_lt.1 hge)),by omega⟩ (by show xs.length - (i + 1) < xs.length - i;omega)
   ·exact absurd (show (0:Int) < (j:Int) by omega) h
  ·simp (maxSteps:=9^7) -dsimp only [↓gp,gq,reduceCtorEq,reduceEqDiff,reduceLT,reduceLeDiff,reduceAdd,reduceMul,reduceSub,Nat.reduceBEq,Int.reduceToNat,Int.reduceLE,Int.reduceLT,Int.reduceNeg,reduceMod,gT,g0,k0,g1,g2,g6,g7]
   refine ⟨by kernel_rfl,fun h=>absurd (show (0:Int) < (j:Int) from h) (by omega),fun h=>?_⟩
   exact zac (i + 1,m) ⟨by simp (maxSteps:=9^7) -dsimp only [gr,reduceEqDiff,reduceLT,reduceAdd,reduceMod,Nat.reduceBEq,g0],by simp (maxSteps:=9^7) -dsimp only [gr,reduceEqDiff,reduceLT,reduceAdd,reduceMod,Nat.reduceBEq,k0],by simp (maxSteps:=9^7) -dsimp only [gr,reduceEqDiff,reduceLT,reduceAdd,reduceMod,Nat.reduceBEq,g1],by simp (maxSteps:=9^7) -dsimp only [gr,reduceEqDiff,reduceLT,reduceAdd,reduceMod,Nat.reduceBEq,g2],by simp (maxSteps:=9^7) -dsimp only [gr,reduceEqDiff,reduceLT,reduceAdd,reduceMod,Nat.reduceBEq];rw [zap (by omega) (by omega)];rfl,by omega,hpm,zkW hsm hj (.inl (by omega)),by omega⟩ (by show xs.length - (i + 1) < xs.length - i;omega)
theorem zAx (xs:List Int) (hx:xs.length ≤ 12) (k:Int):AM Tryz.prog 119 [.own 1000000 1,int 0,int xs.length,int k] [⟨3,1,iL xs⟩] [iL (zhP xs)] (.tuple #[]):=by
 refine AM.go (rs:=[]) zaL mixed Tryz.func119 rfl rfl rfl (by kernel_rfl) (zb7 (za3 _) zdH) (zb6 (za3 _) zdG) rfl fun hl=>?_
 simp (maxSteps:=9^7) -dsimp only [↓gp,gq,reduceCtorEq,reduceEqDiff,reduceLT,reduceLeDiff,reduceAdd,reduceMul,reduceSub,Nat.reduceBEq,Int.reduceToNat,Int.reduceLE,Int.reduceLT,Int.reduceNeg,reduceMod,gT]
 refine zah (fun (_:Unit) s=>s.sl 0 = .own 1000000 1∧s.rw 1000000 = ⟨1,.sli 3 1 false (iL xs)⟩∧s.sl 1 = int 0∧s.sl 2 = int xs.length) (fun _=>0) () ⟨by simp (maxSteps:=9^7) -dsimp only [gr,reduceEqDiff,reduceLT,reduceAdd,reduceMod,Nat.reduceBEq],by simp (maxSteps:=9^7) -dsimp only [gr,reduceEqDiff,reduceLT,reduceAdd,reduceMod,Nat.reduceBEq],by simp (maxSteps:=9^7) -dsimp only [gr,reduceEqDiff,reduceLT,reduceAdd,reduceMod,Nat.reduceBEq],by simp (maxSteps:=9^7) -dsimp only [gr,reduceEqDiff,reduceLT,reduceAdd,reduceMod,Nat.reduceBEq]⟩ ?_
 intro _ s1 ⟨h0,r0,h1,h2⟩
 have hw:IntKind.i64.wrap ((xs.length:Int) - 0) = (xs.length:Int):=by rw [zap (by omega) (by omega)];omega
 simp (maxSteps:=9^7) -dsimp only [↓gp,gq,reduceCtorEq,reduceEqDiff,reduceLT,reduceLeDiff,reduceAdd,reduceMul,reduceSub,Nat.reduceBEq,Int.reduceToNat,Int.reduceLE,Int.reduceLT,Int.reduceNeg,reduceMod,gT,h0,r0,h1,h2,hw]
 refine ⟨fun h=>?_,fun h=>absurd (show (xs.length:Int) ≤ 12 by omega) h⟩
 refine zjo (zk2 xs (by omega)) [(1000000,1)] (by repeat (first | exact GiveL.nil | refine GiveL.v ?_ | refine GiveL.clo ?_ | refine GiveL.own 0 rfl ?_ | refine GiveL.own 1 rfl ?_ | refine GiveL.ag ?_ ?_)) ⟨by simp (maxSteps:=9^7) -dsimp only [gr,reduceEqDiff,reduceLT,reduceAdd,reduceMod,Nat.reduceBEq,r0],trivial⟩ (by decide) ?_
 simp (maxSteps:=9^7) -dsimp only [↓gp,gq,reduceCtorEq,reduceEqDiff,reduceLT,reduceLeDiff,reduceAdd,reduceMul,reduceSub,Nat.reduceBEq,Int.reduceToNat,Int.reduceLE,Int.reduceLT,Int.reduceNeg,reduceMod,gT,r0]
theorem zoc (xs:List Int) (hx:xs.length ≤ 8):AM Tryz.prog 100 [.own 1000000 1] [⟨3,1,iL xs⟩] [iL (zhP xs)] (.tuple #[]):=by
 refine AM.go (rs:=[]) zaL mixed Tryz.func100 rfl rfl rfl (by kernel_rfl) (zb7 (za3 _) zdH) (zb6 (za3 _) zdG) rfl fun hl=>?_
 obtain ⟨k,hk⟩:=zwu xs.length (by omega)
 have hu:IntKind.u64.wrap (xs.length:Int) = (xs.length:Int):=zba (by omega)
 simp (maxSteps:=9^7) -dsimp only [↓gp,gq,reduceCtorEq,reduceEqDiff,reduceLT,reduceLeDiff,reduceAdd,reduceMul,reduceSub,Nat.reduceBEq,Int.reduceToNat,Int.reduceLE,Int.reduceLT,Int.reduceNeg,reduceMod,gT,hu]
 refine zab hk ?_
 simp (maxSteps:=9^7) -dsimp only [↓gp,gq,reduceCtorEq,reduceEqDiff,reduceLT,reduceLeDiff,reduceAdd,reduceMul,reduceSub,Nat.reduceBEq,Int.reduceToNat,Int.reduceLE,Int.reduceLT,Int.reduceNeg,reduceMod,gT,hu]
 refine zjo (zAx xs (by omega) k) [(1000000,1)] (by repeat (first | exact GiveL.nil | refine GiveL.v ?_ | refine GiveL.clo ?_ | refine GiveL.own 0 rfl ?_ | refine GiveL.own 1 rfl ?_ | refine GiveL.ag ?_ ?_)) ⟨by simp (maxSteps:=9^7) -dsimp only [gr,reduceEqDiff,reduceLT,reduceAdd,reduceMod,Nat.reduceBEq],trivial⟩ (by decide) ?_
 simp (maxSteps:=9^7) -dsimp only [↓gp,gq,reduceCtorEq,reduceEqDiff,reduceLT,reduceLeDiff,reduceAdd,reduceMul,reduceSub,Nat.reduceBEq,Int.reduceToNat,Int.reduceLE,Int.reduceLT,Int.reduceNeg,reduceMod,gT]
def oC (items:List Int) (f:FuncId) (fl:List Bool) (p:PV):List PV:=.sl false 1 (iL items) :: .clo f [] :: (bL fl ++ [p])
section
variable {items:List Int} {f:FuncId} {fl:List Bool} {p:PV} {Kp:PV→Prop}
theorem zre (h:fl.length = 256):(oC items f fl p).length = 259:=by simp [oC,bL,h]
theorem zkZ {t:TypeId} (h0:(T t).k.agg = false) (h1:0 < (T t).size):ldK T t .asis (oC items f fl p) 0 Kp = Kp (.sl false 1 (iL items)):=by simp [ldK,h0,h1,oC,Md.fix]
theorem zk0 {t:TypeId} (h0:(T t).k.agg = false) (h1:0 < (T t).size):ldK T t .asis (oC items f fl p) 1 Kp = Kp (.clo f []):=by simp [ldK,h0,h1,oC,Md.fix]
theorem zHa {t:TypeId} (n:Nat) (h:fl.length = 256) (hn:n < 256) (h0:(T t).k.agg = false) (h1:0 < (T t).size):ldK T t .asis (oC items f fl p) (2 + n) Kp = Kp (.v (.bool (fl.getD n false))):=by
 have e:(oC items f fl p).getD (2 + n) .junk = .v (.bool (fl.getD n false)):=by
  have h2:n < (bL fl).length:=by simp [bL,h,hn]
  simp only [oC,List.getD,show 2 + n = n + 1 + 1 by omega,List.getElem?_cons_succ]
  rw [List.getElem?_append_left h2]
  simp [bL,h,hn]
 have hl:=zre (items:=items) (f:=f) (p:=p) h
 simp only [ldK,h0,h1,hl,true_and]
 rw [e]
 simp [Md.fix];omega
theorem zk1 {t:TypeId} (h:fl.length = 256) (h0:(T t).k.agg = false) (h1:0 < (T t).size):ldK T t .asis (oC items f fl p) 258 Kp = Kp p:=by
 have e:(oC items f fl p).getD 258 .junk = p:=by
  have h2:(bL fl).length = 256:=by simp [bL,h]
  simp only [oC,List.getD,show 258 = 256 + 1 + 1 by omega,List.getElem?_cons_succ]
  rw [List.getElem?_append_right (by omega),h2]
  simp
 have hl:=zre (items:=items) (f:=f) (p:=p) h
 simp only [ldK,h0,h1,hl,true_and]
 rw [e]
 simp [Md.fix]
theorem zsv (h:fl.length = 256) (q:PV):spl (oC items f fl p) 258 [q] = oC items f fl q:=by
 have h2:(bL fl).length = 256:=by simp [bL,h]
 show (oC items f fl p).set 258 q = _
 simp only [oC,show 258 = 256 + 1 + 1 by omega,List.set_cons_succ]
 rw [List.set_append_right _ _ (by omega),h2]
 simp
theorem zE1 (n:Nat) (h:fl.length = 256) (hn:n < 256) (b:Bool):spl (oC items f fl p) (2 + n) [.v (.bool b)] = oC items f (fl.set n b) p:=by
 have h2:n < (bL fl).length:=by simp [bL,h,hn]
 show (oC items f fl p).set (2 + n) (.v (.bool b)) = _
 simp only [oC,show 2 + n = n + 1 + 1 by omega,List.set_cons_succ]
 rw [List.set_append_left _ _ h2]
 simp [bL,List.map_set]
end
def oR (b:Bool) (items:List Int) (f:FuncId) (fl:List Bool) (list:List Int) (k:Nat):Row :=
 if k = 1000000 then ⟨1,.box 96 (oC items f fl (if b = true then .v (.slice none 0 0) else .own 1000001 1))⟩ else if k = 1000001∧b = false then ⟨1,.sli 3 1 false (iL list)⟩ else ⟨0,.dead⟩
def zwr (ft:List Int→Int→Bool) (items:List Int) (f:FuncId) (n:Nat) (list:List Int) (R1:Nat→Row) (p:PV):Prop :=
 ∃ fl v,fl.length = 256∧zFr ft items (fun u=>fl.getD u false)∧p = bool (zb3 ft items n list).isSome∧R1 1000000 = ⟨1,.box 96 (oC items f fl (.own 1000001 v))⟩∧R1 1000001 = ⟨v,.sli 3 1 false (iL ((zb3 ft items n list).getD list))⟩
theorem zhQ:(T 70).size = 1:=by decide +kernel
theorem zhR:(T 70).k = .other:=by first | rfl | decide +kernel
theorem zHb:∀ u,u < 256→∀ k,k < 8→(zfO .i64 (zv1 .i64 (u:Nat) (k:Nat)) 1 == 1) = Nat.testBit u k:=by decide +kernel
theorem zHc:∀ u,u < 256→∀ k,k < 8→ior .i64 (u:Nat) (znL .i64 1 (k:Nat)) = ((u ||| 2 ^ k:Nat):Int):=by decide +kernel
theorem zfT {items:List Int} {f:FuncId} {fl:List Bool} {list:List Int} (b:Bool) (hf:fl.length = 256) (hb:b = true→list = []) {s:St} (hr:∀ k,s.rw k = oR b items f fl list k) :
 ∃ s',Wk s s'∧s'.sl = s.sl∧s'.rw 1000000 = ⟨1,.box 96 (oC items f fl (.own 1000001 1))⟩∧s'.rw 1000001 = ⟨1,.sli 3 1 false (iL list)⟩∧∀ k,k < 1000000→s'.rw k = ⟨0,.dead⟩:=by
 cases b with
 | false=>exact ⟨s,Wk.refl s,rfl,by rw [hr];rfl,by rw [hr];rfl,fun k hk=>by rw [hr];unfold oR;rw [if_neg (by omega),if_neg (by omega)]⟩
 | true =>
   have hl:=hb rfl
   subst hl
   have h0:s.rw 1000000 = ⟨1,.box 96 (oC items f fl (.v (.slice none 0 0)))⟩:=by rw [hr];rfl
   have h1:s.rw 1000001 = ⟨0,.dead⟩:=by rw [hr];rfl
   have ho:(oC items f fl (.v (.slice none 0 0)))[258]? = some (.v (.slice none 0 0)):=by
    have h2:(bL fl).length = 256:=by simp [bL,hf]
    simp only [oC,show 258 = 256 + 1 + 1 by omega,List.getElem?_cons_succ]
    rw [List.getElem?_append_right (by omega),h2];rfl
   have hw:=Wk.nilBox 1000001 3 h0 ho (by decide)
   rw [h1] at hw
   have e:(oC items f fl (.v (.slice none 0 0))).set 258 (.own 1000001 (0 + 1)) = oC items f fl (.own 1000001 1):=zsv hf _
   rw [e] at hw
   refine ⟨_,hw,rfl,by rw [zaA],by rw [zar _ _ _ _ (by decide),zaA];rfl,fun k hk=>?_⟩
   rw [zar _ _ _ _ (by omega),zar _ _ _ _ (by omega),hr];unfold oR;rw [if_neg (by omega),if_neg (by omega)]
theorem zDD {rho:Nat→Option Nat} {Ln:Nat→Prop} {R0 R:Nat→Row} {l l':List PV} (h:GvL rho Ln R0 R l l'):∀ fl:List Bool,GvL rho Ln R0 R (bL fl ++ l) (bL fl ++ l'):=by
 intro fl
 induction fl with
 | nil=>exact h
 | cons b fl ih=>exact .one (.v _) ih
theorem zDE {rho:Nat→Option Nat} {R1:Nat→Row} {nv:Nat→Nat} {items:List Int} {f:FuncId} {fl:List Bool} {j v:Nat} {nl:Bool} (h1:rho 1000001 = some j) (h2:(R1 1000001).ver = v) :
 (oC items f fl (.own 1000001 v)).map (zuQ rho R1 nv nl) = (match nl with | true=>oC items f fl (.own j (nv 1000001)) | false=>.junk :: (oC items f fl (.own j (nv 1000001))).tail):=by
 have hb:(bL fl).map (zuQ rho R1 nv nl) = bL fl:=by
  unfold bL;rw [List.map_map];exact List.map_congr_left fun x _=>rfl
 have hp:zuQ rho R1 nv nl (.own 1000001 v) = .own j (nv 1000001):=by
  show zv6 rho R1 nv nl (.own 1000001 v) = _
  rw [zd8,h1,h2,beq_self_eq_true]
 unfold oC
 rw [List.map_cons,List.map_cons,List.map_append,hb,List.map_singleton,hp]
 cases nl <;> rfl
def zE2 (k:Nat):Option Nat:=if k = 1000000 ∨ k = 1000001 then some k else none
theorem zdi {k j:Nat} (h:zE2 k = some j):k = j∧(k = 1000000 ∨ k = 1000001):=by
 unfold zE2 at h
 by_cases hk:k = 1000000 ∨ k = 1000001
 ·rw [if_pos hk] at h;exact ⟨Option.some.inj h,hk⟩
 ·rw [if_neg hk] at h;cases h
theorem zH0 {items:List Int} {f:FuncId} {fl:List Bool} {list:List Int} {k:Nat} (h:(oR false items f fl list k).kind.nd = true):k = 1000000 ∨ k = 1000001:=by
 unfold oR at h
 by_cases h0:k = 1000000
 ·exact .inl h0
 ·rw [if_neg h0] at h
  by_cases h1:k = 1000001∧false = false
  ·exact .inr h1.1
  ·rw [if_neg h1] at h;cases h
theorem zE3 {s:St} {K:St→Prop} {g f:FuncId} {ft:List Int→Int→Bool} {items list:List Int} {fl:List Bool} {n d v:Nat} {u:Int} {lent:List PV} {Ka:RV→Prop} {us:Dm s} {uu:Dm K}
 (h:AG Tryz.prog g [.ref 1000000 1 0,int u] (oR false items f fl list) (zwr ft items f n list)) (hb:s.rw 1000000 = ⟨1,.box 96 (oC items f fl (.own 1000001 v))⟩) (hl:s.rw 1000001 = ⟨v,.sli 3 1 false (iL list)⟩)
 (hk:∀ (S:St) (fl':List Bool) (v':Nat),fl'.length = 256→zFr ft items (fun u=>fl'.getD u false)→S.sl d = bool (zb3 ft items n list).isSome→(∀ t,t ≠ d→S.sl t = s.sl t) →
  S.rw 1000000 = ⟨1,.box 96 (oC items f fl' (.own 1000001 v'))⟩→S.rw 1000001 = ⟨v',.sli 3 1 false (iL ((zb3 ft items n list).getD list))⟩→(∀ i,i ≠ 1000000→i ≠ 1000001→S.rw i = s.rw i)→K S) :
 zhY Tryz.prog g lent Ka (zrr Tryz.prog g lent [.ref 1000000 1 0,int u] (some d) (kk s us) (kk K uu)):=by
 have r0:zE2 1000000 = some 1000000:=rfl
 have r1:zE2 1000001 = some 1000001:=rfl
 have R00:oR false items f fl list 1000000 = ⟨1,.box 96 (oC items f fl (.own 1000001 1))⟩:=rfl
 have R01:oR false items f fl list 1000001 = ⟨1,.sli 3 1 false (iL list)⟩:=rfl
 refine zxk h zE2 (fun _=>False) (.one (.ref r0 (by rw [R00]) (by rw [hb]) (by rw [R00];rfl)) (.one (.v _) .nil)) ⟨fun k hk=>?_,fun k k' j _ _ h1 h2=>?_,fun k j _ _ h=>h⟩ fun R1 p hp=>?_
 ·rcases zH0 hk with rfl | rfl
  ·refine ⟨Nat.le_refl _,by rw [R00];exact Nat.one_pos,1000000,r0,?_⟩
   rw [R00,hb]
   exact ⟨rfl,.one (.sl _ _ _) (.clo .nil (zDD (.one (.own r1 (by rw [R01]) (by rw [hl]) (by rw [R01];rfl)) .nil) fl))⟩
  ·refine ⟨by decide,by rw [R01];exact Nat.one_pos,1000001,r1,?_⟩
   rw [R01,hl]
   exact ⟨rfl,rfl,rfl,za3 _⟩
 ·rw [(zdi h1).1,(zdi h2).1]
 ·obtain ⟨fl',v',hfl,hI,rfl,hb1,hl1⟩:=hp
  refine ⟨zE2,fun k=>if k = 1000001 then (if v' = 1 then v else v + 1) else 1,true,⟨fun _ _=>rfl,fun a b i h1 h2=>?_,fun a i h1 h2 h3=>?_,fun a i h1 h2=>?_,fun _ _ h=>h⟩,fun S hS=>?_⟩
  ·rw [(zdi h1).1,(zdi h2).1]
  ·obtain ⟨rfl,rfl | rfl⟩:=zdi h1
   ·rw [hb];rfl
   ·rw [hl1,R01] at h3
    have h3:v' = 1:=h3
    rw [hl]
    simp [h3]
  ·obtain ⟨rfl,rfl | rfl⟩:=zdi h1
   ·have:=h2 (by rw [R00];rfl)
    rw [hb1,R00] at this
    exact absurd rfl this
   ·have:=h2 (by rw [R01];rfl)
    rw [hl1,R01] at this
    have h3:¬ v' = 1:=this
    rw [hl]
    simp [h3]
  ·have e0:=hS.row 1000000 1000000 r0
   have e1:=hS.row 1000001 1000001 r1
   rw [hb1] at e0
   rw [hl1] at e1
   have e0:S.rw 1000000 = ⟨1,.box 96 ((oC items f fl' (.own 1000001 v')).map (zuQ zE2 R1 _ true))⟩:=e0
   rw [zDE r1 (by rw [hl1])] at e0
   refine hk S fl' _ hfl hI ?_ (fun t ht=>?_) e0 e1 fun i h1 h2=>hS.off i fun k hk=>?_
   ·rw [hS.sl,zav];rfl
   ·rw [hS.sl,zaK _ _ _ _ ht]
   ·obtain ⟨rfl,h | h⟩:=zdi hk
    ·exact h1 h
    ·exact h2 h
theorem zws (f:FuncId) (ft:List Int→Int→Bool) (hF:∀ l x,okL l→(0 ≤ x∧x < 64)→AC Tryz.prog f [zaH l,int x] (.im (bool (ft l x)))) (hP:∀ l l' x,l.Perm l'→ft l x = ft l' x) (items:List Int) (hn:items.Nodup) (hok:okL items) (h8:items.length ≤ 8) :
 ∀ (n:Nat) (b:Bool) (fl:List Bool) (u:Nat) (list:List Int),(b = true→list = [])→fl.length = 256→zFr ft items (fun u=>fl.getD u false)→zkY items u list→list.length + n = items.length→okL list→u < 256 →
  AG Tryz.prog 101 [.ref 1000000 1 0,int u] (oR b items f fl list) (zwr ft items f n list):=by
 intro n
 induction n with
 | zero =>
   intro b fl u list hb hfl hI hc hll hol hu
   refine AG.goW (rs:=[.tmp 4]) zaL mixed Tryz.func101 rfl rfl rfl (by kernel_rfl) fun hl hrl z hz hr=>?_
   obtain ⟨s,hw,hsl,y0,y1,hlow⟩:=zfT b hfl hb hr
   refine ⟨s,hw,?_⟩
   have z0:s.sl 0 = .ref 1000000 1 0:=by rw [hsl,hz];rfl
   have z1:s.sl 1 = int u:=by rw [hsl,hz];rfl
   clear hz hr hw hsl z
   simp (maxSteps:=9^7) -dsimp only [↓gp,gq,reduceCtorEq,reduceEqDiff,reduceLT,reduceLeDiff,reduceAdd,reduceMul,reduceSub,Nat.reduceBEq,Int.reduceToNat,Int.reduceLE,Int.reduceLT,Int.reduceNeg,reduceMod,gT,z0,z1,y0,y1,zk1 hfl,zkZ,zk0]
   have e:((list.length:Int) == (items.length:Int)) = true:=by rw [beq_iff_eq];omega
   exact ⟨by kernel_rfl,fun _=>⟨fl,1,hfl,hI,rfl,y0,y1⟩,fun h=>absurd (e.symm.trans h) (by decide)⟩
 | succ n ih =>
   intro b fl u list hb hfl hI hc hll hol hu
   refine AG.goW (rs:=[.tmp 4]) zaL mixed Tryz.func101 rfl rfl rfl (by kernel_rfl) fun hl hrl z hz hr=>?_
   obtain ⟨s,hw,hsl,y0,y1,hlow⟩:=zfT b hfl hb hr
   refine ⟨s,hw,?_⟩
   have z0:s.sl 0 = .ref 1000000 1 0:=by rw [hsl,hz];rfl
   have z1:s.sl 1 = int u:=by rw [hsl,hz];rfl
   clear hz hr hw hsl z
   simp (maxSteps:=9^7) -dsimp only [↓gp,gq,reduceCtorEq,reduceEqDiff,reduceLT,reduceLeDiff,reduceAdd,reduceMul,reduceSub,Nat.reduceBEq,Int.reduceToNat,Int.reduceLE,Int.reduceLT,Int.reduceNeg,reduceMod,gT,z0,z1,y0,y1,zk1 hfl,zkZ,zk0]
   have e:((list.length:Int) == (items.length:Int)) = false:=by rw [beq_eq_false_iff_ne];omega
   refine ⟨by kernel_rfl,fun h=>absurd (e.symm.trans h) (by decide),fun _=>⟨hu,?_⟩⟩
   simp (maxSteps:=9^7) -dsimp only [↓gp,gq,reduceCtorEq,reduceEqDiff,reduceLT,reduceLeDiff,reduceAdd,reduceMul,reduceSub,Nat.reduceBEq,Int.reduceToNat,Int.reduceLE,Int.reduceLT,Int.reduceNeg,reduceMod,gT,zHa u hfl hu,zkZ,zk0,zk1 hfl,z0,z1,y0,y1]
   refine ⟨fun h=>?_,fun h=>?_⟩
   ·unfold zwr
    rw [show zb3 ft items (n + 1) list = none from hI u h (n + 1) list hc hll]
    exact ⟨fl,1,hfl,hI,rfl,y0,y1⟩
   ·have hdef:zb3 ft items (n + 1) list = items.findSome? (fun g=>if decide (g ∈ list) || !ft list g then none else zb3 ft items n (list ++ [g])):=rfl
    generalize hff:(fun g=>if decide (g ∈ list) || !ft list g then none else zb3 ft items n (list ++ [g])) = F at *
    refine zah (fun (za:Nat × Nat × List Bool) s=>match za with | (k,v,g)=>s.sl 0 = .ref 1000000 1 0∧s.sl 1 = int u∧s.sl 27 = zaH items∧s.sl 28 = int items.length∧s.sl 29 = int k∧s.rw 1000000 = ⟨1,.box 96 (oC items f g (.own 1000001 v))⟩∧s.rw 1000001 = ⟨v,.sli 3 1 false (iL list)⟩∧(k ≤ items.length∧g.length = 256∧zFr ft items (fun u=>g.getD u false)∧(items.take k).findSome? F = none)) (fun (k,v,g)=>items.length - k) ((0,1,fl)) (by refine ⟨?_,?_,?_,?_,?_,?_,?_,⟨Nat.zero_le _,hfl,hI,rfl⟩⟩ <;> (first | (simp (maxSteps:=9^7) -dsimp only [gr,reduceEqDiff,reduceLT,reduceAdd,reduceMod,Nat.reduceBEq,z0,z1,y0,y1];first | done | rfl | (simp;done)) | assumption | rfl)) ?_
    intro (k,v,g) sa ⟨h0a,h1a,h27a,h28a,h29a,r1000000a,r1000001a,hIa⟩
    obtain ⟨hk,hgl,hgI,hnone⟩:=hIa
    by_cases h:k < items.length
    ·have hk8:k < 8:=by omega
     have hu8:IntKind.u64.wrap (k:Int) = (k:Int):=zba (by omega)
     have hb1:=zHb u hu k hk8
     have hb2:=zHc u hu k hk8
     simp (maxSteps:=9^7) -dsimp only [↓gp,gq,reduceCtorEq,reduceEqDiff,reduceLT,reduceLeDiff,reduceAdd,reduceMul,reduceSub,Nat.reduceBEq,Int.reduceToNat,Int.reduceLE,Int.reduceLT,Int.reduceNeg,reduceMod,gT,h0a,h1a,h27a,h28a,h29a,r1000000a,r1000001a,zkZ,zk0,zk1 hgl,zhQ,zhR,hu8,hb1]
     have hgk:=hok _ (zan 0 h)
     have hgo:F (items.getD k 0) = if decide (items.getD k 0 ∈ list) || !ft list (items.getD k 0) then none else zb3 ft items n (list ++ [items.getD k 0]):=by rw [← hff]
     have hmem:=zAw hn hc h
     have hskip:F (items.getD k 0) = none→(items.take (k + 1)).findSome? F = none:=fun e=>by rw [zen F 0 h,hnone,e];rfl
     refine ⟨fun _=>⟨h,h,by kernel_rfl,fun hbit=>zab (hF list _ hol hgk) ?_,fun hbit=>?_⟩,fun h'=>absurd h h'⟩
     ·simp (maxSteps:=9^7) -dsimp only [↓gp,gq,reduceCtorEq,reduceEqDiff,reduceLT,reduceLeDiff,reduceAdd,reduceMul,reduceSub,Nat.reduceBEq,Int.reduceToNat,Int.reduceLE,Int.reduceLT,Int.reduceNeg,reduceMod,gT,h0a,h1a,h27a,h28a,h29a,r1000000a,r1000001a,zkZ,zk0,zk1 hgl,zsv hgl,zhQ,zhR,hu8,hb1]
      refine ⟨fun hb=>?_,fun hb=>?_⟩
      ·have e0:F (items.getD k 0) = none:=by rw [hgo,if_pos (by rw [show ft list (items.getD k 0) = false by simpa using hb];simp)]
       exact zac ((k + 1,v,g)) (by refine ⟨?_,?_,?_,?_,?_,?_,?_,⟨by omega,hgl,hgI,hskip e0⟩⟩ <;> (first | (simp (maxSteps:=9^7) -dsimp only [gr,reduceEqDiff,reduceLT,reduceAdd,reduceMod,Nat.reduceBEq,h0a,h1a,h27a,h28a,h29a,r1000000a,r1000001a,zaa h (by omega)];first | done | rfl | (simp;done)) | assumption | rfl)) (by first | omega | (simp only;omega) | (dsimp only;omega) | (show _ < _;simp;omega))
      ·have hft:ft list (items.getD k 0) = true:=by simpa using hb
       have e0:F (items.getD k 0) = zb3 ft items n (list ++ [items.getD k 0]):=by rw [hgo,if_neg (by rw [hmem,hbit,hft];decide)]
       have hu2:u ||| 2 ^ k < 256:=by
        have:u ||| 2 ^ k < 2 ^ 8:=Nat.or_lt_two_pow hu (Nat.pow_lt_pow_right (by omega) hk8)
        exact this
       have hIH:=ih false g (u ||| 2 ^ k) (list ++ [items.getD k 0]) (fun h=>by cases h) hgl hgI (zwo hc h hbit) (by simp;omega) (fun b hb'=>by
        rcases List.mem_append.1 hb' with h' | h'
        ·exact hol b h'
        ·rw [List.mem_singleton.1 h'];exact hgk) hu2
       rw [← hb2] at hIH
       refine ⟨by omega,by rw [zre hgl];exact Nat.le_refl _,zE3 (v:=v + 1) hIH (by simp (maxSteps:=9^7) -dsimp only [gr,reduceEqDiff,reduceLT,reduceAdd,reduceMod,Nat.reduceBEq,h0a,h1a,h27a,h28a,h29a,r1000000a,r1000001a]) (by simp (maxSteps:=9^7) -dsimp only [gr,reduceEqDiff,reduceLT,reduceAdd,reduceMod,Nat.reduceBEq,h0a,h1a,h27a,h28a,h29a,r1000000a,r1000001a]) fun S g' v' hgl' hgI' hSd hSs w0 w1 hoff=>?_⟩
       rw [← e0] at hSd w1
       have u0:S.sl 0 = .ref 1000000 1 0:=by rw [hSs 0 (by decide)];simp (maxSteps:=9^7) -dsimp only [gr,reduceEqDiff,reduceLT,reduceAdd,reduceMod,Nat.reduceBEq,h0a,h1a,h27a,h28a,h29a,r1000000a,r1000001a]
       have u1:S.sl 1 = int u:=by rw [hSs 1 (by decide)];simp (maxSteps:=9^7) -dsimp only [gr,reduceEqDiff,reduceLT,reduceAdd,reduceMod,Nat.reduceBEq,h0a,h1a,h27a,h28a,h29a,r1000000a,r1000001a]
       have u27:S.sl 27 = zaH items:=by rw [hSs 27 (by decide)];simp (maxSteps:=9^7) -dsimp only [gr,reduceEqDiff,reduceLT,reduceAdd,reduceMod,Nat.reduceBEq,h0a,h1a,h27a,h28a,h29a,r1000000a,r1000001a]
       have u28:S.sl 28 = int items.length:=by rw [hSs 28 (by decide)];simp (maxSteps:=9^7) -dsimp only [gr,reduceEqDiff,reduceLT,reduceAdd,reduceMod,Nat.reduceBEq,h0a,h1a,h27a,h28a,h29a,r1000000a,r1000001a]
       have u29:S.sl 29 = int k:=by rw [hSs 29 (by decide)];simp (maxSteps:=9^7) -dsimp only [gr,reduceEqDiff,reduceLT,reduceAdd,reduceMod,Nat.reduceBEq,h0a,h1a,h27a,h28a,h29a,r1000000a,r1000001a]
       clear hSs hoff
       simp (maxSteps:=9^7) -dsimp only [↓gp,gq,reduceCtorEq,reduceEqDiff,reduceLT,reduceLeDiff,reduceAdd,reduceMul,reduceSub,Nat.reduceBEq,Int.reduceToNat,Int.reduceLE,Int.reduceLT,Int.reduceNeg,reduceMod,gT,hSd,u0,u1,u27,u28,u29,w0,w1,zkZ,zk0,zk1 hgl',zsv hgl']
       refine ⟨fun hs=>?_,fun hs=>?_⟩
       ·obtain ⟨x,hx⟩:=Option.isSome_iff_exists.1 hs
        unfold zwr
        rw [hdef,zio F 0 h hnone hx]
        rw [hx] at w1
        exact ⟨g',v',hgl',hgI',rfl,w0,w1⟩
       ·have e1:F (items.getD k 0) = none:=by
         cases hx:F (items.getD k 0) with
         | none=>rfl
         | some x=>rw [hx] at hs;cases hs
        have el:((F (items.getD k 0)).getD (list ++ [items.getD k 0])).length = list.length + 1:=by rw [e1];simp
        have ew:IntKind.i64.wrap (((F (items.getD k 0)).getD (list ++ [items.getD k 0])).length - 1:Int) = (list.length:Int):=by rw [el,zap (by omega) (by omega)];omega
        have et:((F (items.getD k 0)).getD (list ++ [items.getD k 0])).take ((list.length:Nat):Int).toNat = list:=by rw [e1];simp
        rw [ew,el]
        refine ⟨by kernel_rfl,⟨by decide +kernel,by kernel_rfl,by decide +kernel,by kernel_rfl⟩,by omega,by omega,by rw [zre hgl'];exact Nat.le_refl _,by kernel_rfl,?_⟩
        exact zac ((k + 1,v' + 1,g')) (by refine ⟨?_,?_,?_,?_,?_,?_,?_,⟨by omega,hgl',hgI',hskip e1⟩⟩ <;> (first | (simp (maxSteps:=9^7) -dsimp only [gr,reduceEqDiff,reduceLT,reduceAdd,reduceMod,Nat.reduceBEq,h0a,h1a,h27a,h28a,h29a,r1000000a,r1000001a,u0,u1,u27,u28,u29,et,zaa h (show items.length ≤ 9223372036854775807 by omega)];first | done | rfl | (simp;done)) | assumption | rfl)) (by first | omega | (simp only;omega) | (dsimp only;omega) | (show _ < _;simp;omega))
     ·have e0:F (items.getD k 0) = none:=by rw [hgo,if_pos (by rw [hmem,hbit];rfl)]
      exact zac ((k + 1,v,g)) (by refine ⟨?_,?_,?_,?_,?_,?_,?_,⟨by omega,hgl,hgI,hskip e0⟩⟩ <;> (first | (simp (maxSteps:=9^7) -dsimp only [gr,reduceEqDiff,reduceLT,reduceAdd,reduceMod,Nat.reduceBEq,h0a,h1a,h27a,h28a,h29a,r1000000a,r1000001a,zaa h (by omega)];first | done | rfl | (simp;done)) | assumption | rfl)) (by first | omega | (simp only;omega) | (dsimp only;omega) | (show _ < _;simp;omega))
    ·have hke:k = items.length:=by omega
     simp (maxSteps:=9^7) -dsimp only [↓gp,gq,reduceCtorEq,reduceEqDiff,reduceLT,reduceLeDiff,reduceAdd,reduceMul,reduceSub,Nat.reduceBEq,Int.reduceToNat,Int.reduceLE,Int.reduceLT,Int.reduceNeg,reduceMod,gT,h0a,h1a,h27a,h28a,h29a,r1000000a,r1000001a,zkZ,zk0,zk1 hgl,zE1 u hgl hu]
     refine ⟨fun h'=>absurd h' h,fun _=>⟨hu,by rw [zre hgl];omega,?_⟩⟩
     rw [hke,List.take_length] at hnone
     unfold zwr
     rw [hdef,hnone]
     refine ⟨g.set u true,v,by rw [List.length_set];exact hgl,?_,rfl,by simp (maxSteps:=9^7) -dsimp only [gr,reduceEqDiff,reduceLT,reduceAdd,reduceMod,Nat.reduceBEq],by simp (maxSteps:=9^7) -dsimp only [gr,reduceEqDiff,reduceLT,reduceAdd,reduceMod,Nat.reduceBEq,h0a,h1a,h27a,h28a,h29a,r1000000a,r1000001a];rfl⟩
     have:=zB7 hP hgI hc hll (by rw [hdef,hnone])
     intro w hw
     refine this w ?_
     show (if w = u then true else g.getD w false) = true
     by_cases e:w = u
     ·rw [if_pos e]
     ·rw [if_neg e]
      have hw:(g.set u true).getD w false = true:=hw
      simpa [List.getD,List.getElem?_set_ne (Ne.symm e)] using hw
def oX (p0:PV) (f:FuncId) (fl:List Bool) (p:PV):List PV:=p0 :: .clo f [] :: (bL fl ++ [p])
theorem zDC (p0:PV) (f:FuncId):p0 :: .clo f [] :: List.map PV.v (List.replicate 256 (Value.bool false) ++ [Value.slice none 0 0]) = oX p0 f (List.replicate 256 false) (.v (.slice none 0 0)):=by
 unfold oX bL
 rw [List.map_append,List.map_replicate,List.map_replicate];rfl
theorem zvk {p0 p:PV} {f:FuncId} {fl:List Bool} (h:fl.length = 256):(oX p0 f fl p).length = 259:=by simp [oX,bL,h]
theorem zG9 {p0 p:PV} {f:FuncId} {fl:List Bool} {Kp:PV→Prop} {t:TypeId} (h:fl.length = 256) (h0:(T t).k.agg = false) (h1:0 < (T t).size):ldK T t .asis (oX p0 f fl p) 258 Kp = Kp p:=by
 have e:(oX p0 f fl p).getD 258 .junk = p:=by
  have h2:(bL fl).length = 256:=by simp [bL,h]
  simp only [oX,List.getD,show 258 = 256 + 1 + 1 by omega,List.getElem?_cons_succ]
  rw [List.getElem?_append_right (by omega),h2]
  simp
 have hl:=zvk (p0:=p0) (f:=f) (p:=p) h
 simp only [ldK,h0,h1,hl,true_and]
 rw [e]
 simp [Md.fix]
theorem zEY {c c':List PV} (h:c'.length = c.length):spl c 0 c' = c':=by
 rw [zDl c 0 c' (by omega)]
 simp [h]
theorem zEZ {rw:Nat→Row} {p0 p:PV} {f:FuncId} {fl:List Bool} (h0:zih rw p0) (h1:zih rw p):Go.Abs.allP rw (oX p0 f fl p):=by
 unfold oX Go.Abs.allP
 intro q hq
 rcases List.mem_cons.1 hq with rfl | hq
 ·exact h0
 rcases List.mem_cons.1 hq with rfl | hq
 ·trivial
 rcases List.mem_append.1 hq with hq | hq
 ·obtain ⟨b,_,rfl⟩:=List.mem_map.1 hq
  rfl
 ·rw [List.mem_singleton.1 hq];exact h1
theorem zB8 {s:St} {K:St→Prop} {j ver:Nat} {bt:TypeId} {c:List PV} {p0 p:PV} {f:FuncId} {fl:List Bool} (hf:fl.length = 256) (hc:c.length = 259) (h0:zih s.rw p0) (h1:zih s.rw p) (u:Dm K) :
 K (s.row j ⟨ver,.box bt (oX p0 f fl p)⟩)→zes s 259 j ver 0 ⟨ver,.box bt c⟩ (.ag (oX p0 f fl p)) (kk K u):=by
 intro hk
 rw [zeM 258,znq]
 refine ⟨zvk hf,by rw [zvk hf,hc];exact Nat.le_refl _,zEZ h0 h1,?_⟩
 rw [zEY (by rw [zvk hf,hc])]
 exact hk
theorem zE0 {s:St} {K:St→Prop} {g f:FuncId} {ft:List Int→Int→Bool} {items:List Int} {fl:List Bool} {n d kb ki vi ei:Nat} {fz:Bool} {lent:List PV} {Ka:RV→Prop} {us:Dm s} {uu:Dm K}
 (h:AG Tryz.prog g [.ref 1000000 1 0,int 0] (oR true items f fl []) (zwr ft items f n [])) (hb:s.rw kb = ⟨1,.box 96 (oX (.own ki vi) f fl (.v (.slice none 0 0)))⟩) (hi:s.rw ki = ⟨vi,.sli ei 1 fz (iL items)⟩) (hd:s.rw d = ⟨0,.dead⟩)
 (h1:ki ≠ kb) (h2:d ≠ kb)
 (hk:∀ (S:St) (fl':List Bool),fl'.length = 256→S.sl d = bool (zb3 ft items n []).isSome→(∀ t,t ≠ d→S.sl t = s.sl t) →
  S.rw kb = ⟨1,.box 96 (oX .junk f fl' (.own d 1))⟩→S.rw d = ⟨1,.sli 3 1 false (iL ((zb3 ft items n []).getD []))⟩→(∀ i,i ≠ kb→i ≠ d→S.rw i = s.rw i)→K S) :
 zhY Tryz.prog g lent Ka (zrr Tryz.prog g lent [.ref kb 1 0,int 0] (some d) (kk s us) (kk K uu)):=by
 have R00:oR true items f fl [] 1000000 = ⟨1,.box 96 (oC items f fl (.v (.slice none 0 0)))⟩:=rfl
 have R0n:∀ k,k ≠ 1000000→oR true items f fl [] k = ⟨0,.dead⟩:=fun k hk=>by unfold oR;rw [if_neg hk,if_neg (fun h=>by cases h.2)]
 have nd0:∀ k,(oR true items f fl [] k).kind.nd = true→k = 1000000:=fun k hk=>by
  by_cases h:k = 1000000
  ·exact h
  ·rw [R0n k h] at hk;cases hk
 have r0:(fun k:Nat=>if k = 1000000 then some kb else none) 1000000 = some kb:=if_pos rfl
 have q0:(fun k:Nat=>if k = 1000000 then some kb else if k = 1000001 then some d else none) 1000000 = some kb:=if_pos rfl
 have q1:(fun k:Nat=>if k = 1000000 then some kb else if k = 1000001 then some d else none) 1000001 = some d:=rfl
 have qq:∀ {k j:Nat},(fun k:Nat=>if k = 1000000 then some kb else if k = 1000001 then some d else none) k = some j→(k = 1000000∧j = kb) ∨ (k = 1000001∧j = d):=fun {k j} h=>by
  have h:(if k = 1000000 then some kb else if k = 1000001 then some d else none) = some j:=h
  by_cases a:k = 1000000
  ·rw [if_pos a] at h;exact .inl ⟨a,(Option.some.inj h).symm⟩
  ·rw [if_neg a] at h
   by_cases b:k = 1000001
   ·rw [if_pos b] at h;exact .inr ⟨b,(Option.some.inj h).symm⟩
   ·rw [if_neg b] at h;cases h
 refine zxk h (fun k=>if k = 1000000 then some kb else none) (fun j=>j = ki) (.one (.ref r0 (by rw [R00]) (by rw [hb]) (by rw [R00];rfl)) (.one (.v _) .nil)) ⟨fun k hk=>?_,fun k k' j a b _ _=>by rw [nd0 k a,nd0 k' b],fun k j a b e=>?_⟩ fun R1 p hp=>?_
 ·have:=nd0 k hk;subst this
  refine ⟨Nat.le_refl _,by rw [R00];exact Nat.one_pos,kb,r0,?_⟩
  rw [R00,hb]
  exact ⟨rfl,.one (.lent rfl hi) (.clo .nil (zDD (.one (.v _) .nil) fl))⟩
 ·have:=nd0 k a;subst this
  have b:some kb = some j:=b
  cases b
  exact h1 e.symm
 ·obtain ⟨fl',v',hfl,hI,rfl,hb1,hl1⟩:=hp
  refine ⟨fun k=>if k = 1000000 then some kb else if k = 1000001 then some d else none,fun k=>1,false,⟨fun k hk=>?_,fun a b i a1 a2=>?_,fun a i a1 a2 a3=>?_,fun a i a1 a2=>?_,fun h=>by cases h⟩,fun S hS=>?_⟩
  ·have:=nd0 k hk;subst this;rfl
  ·rcases qq a1 with ⟨rfl,e1⟩ | ⟨rfl,e1⟩ <;> rcases qq a2 with ⟨rfl,e2⟩ | ⟨rfl,e2⟩ <;> first | rfl | (exact absurd (e1.symm.trans e2) (Ne.symm h2)) | (exact absurd (e1.symm.trans e2) h2)
  ·have:=nd0 a a2;subst this
   rcases qq a1 with ⟨_,rfl⟩ | ⟨h,_⟩
   ·rw [hb]
   ·exact absurd h (by decide)
  ·rcases qq a1 with ⟨rfl,rfl⟩ | ⟨rfl,rfl⟩
   ·have:=a2 (by rw [R00];rfl)
    rw [hb1,R00] at this
    exact absurd rfl this
   ·rw [hd];exact Nat.one_pos
  ·have e0:=hS.row 1000000 kb q0
   have e1:=hS.row 1000001 d q1
   rw [hb1] at e0
   rw [hl1] at e1
   have e0:S.rw kb = ⟨1,.box 96 ((oC items f fl' (.own 1000001 v')).map (zuQ (fun k:Nat=>if k = 1000000 then some kb else if k = 1000001 then some d else none) R1 _ false))⟩:=e0
   rw [zDE q1 (by rw [hl1])] at e0
   refine hk S fl' hfl ?_ (fun t ht=>?_) e0 e1 fun i a b=>hS.off i fun k hk=>?_
   ·rw [hS.sl,zav];rfl
   ·rw [hS.sl,zaK _ _ _ _ ht]
   ·rcases qq hk with ⟨_,rfl⟩ | ⟨_,rfl⟩
    ·exact a rfl
    ·exact b rfl
def zm9 (ft:List Int→Int→Bool) (xs:List Int):Option (List Int):=if xs.length ≤ 8 then zb3 ft (zhP xs) xs.length [] else none
theorem zrd (f:FuncId) (ft:List Int→Int→Bool) (hF:∀ l x,okL l→(0 ≤ x∧x < 64)→AC Tryz.prog f [zaH l,int x] (.im (bool (ft l x)))) (hP:∀ l l' x,l.Perm l'→ft l x = ft l' x) (xs:List Int) (hn:xs.Nodup) (hok:okL xs) :
 AC Tryz.prog 73 [zaH xs,.clo f []] (.tup [.fr 3 1 (iL ((zm9 ft xs).getD [])),.im (bool (zm9 ft xs).isSome)]):=by
 refine AC.go (rs:=[.tmp 4,.tmp 5]) zaL mixed Tryz.func73 rfl rfl rfl (by kernel_rfl) fun hl=>?_
 simp only [zaJ,zaX,and_true,zbM,zc6,zcm,zbx,zcl,true_and] at hl
 simp (maxSteps:=9^7) -dsimp only [↓gp,gq,reduceCtorEq,reduceEqDiff,reduceLT,reduceLeDiff,reduceAdd,reduceMul,reduceSub,Nat.reduceBEq,Int.reduceToNat,Int.reduceLE,Int.reduceLT,Int.reduceNeg,reduceMod,gT,zhQ,zhR]
 refine ⟨fun h=>?_,fun h=>?_⟩
 ·unfold zm9;rw [if_neg (by omega)];exact ⟨rfl,rfl⟩
 ·have h8:xs.length ≤ 8:=by omega
  unfold zm9;rw [if_pos h8]
  refine zab (zlb xs (by omega)) ?_
  simp (maxSteps:=9^7) -dsimp only [↓gp,gq,reduceCtorEq,reduceEqDiff,reduceLT,reduceLeDiff,reduceAdd,reduceMul,reduceSub,Nat.reduceBEq,Int.reduceToNat,Int.reduceLE,Int.reduceLT,Int.reduceNeg,reduceMod,gT,zhQ,zhR]
  refine zjo (zoc xs h8) [(12,1)] (by repeat (first | exact GiveL.nil | refine GiveL.v ?_ | refine GiveL.clo ?_ | refine GiveL.own 0 rfl ?_ | refine GiveL.own 1 rfl ?_ | refine GiveL.ag ?_ ?_)) ⟨by simp (maxSteps:=9^7) -dsimp only [gr,reduceEqDiff,reduceLT,reduceAdd,reduceMod,Nat.reduceBEq];try rfl,trivial⟩ (by decide) ?_
  simp (maxSteps:=9^7) -dsimp only [↓gp,gq,reduceCtorEq,reduceEqDiff,reduceLT,reduceLeDiff,reduceAdd,reduceMul,reduceSub,Nat.reduceBEq,Int.reduceToNat,Int.reduceLE,Int.reduceLT,Int.reduceNeg,reduceMod,gT,zhQ,zhR,zDC]
  refine zB8 List.length_replicate (by simp only [List.length_cons,List.length_map,List.length_append,List.length_replicate,List.length_nil]) ?_ (by exact rfl) _ ?_
  ·simp (maxSteps:=9^7) -dsimp only [↓gp,gq,reduceCtorEq,reduceEqDiff,reduceLT,reduceLeDiff,reduceAdd,reduceMul,reduceSub,Nat.reduceBEq,Int.reduceToNat,Int.reduceLE,Int.reduceLT,Int.reduceNeg,reduceMod,gT,znr]
  have hC:=zws f ft hF hP (zhP xs) ((zfx xs).nodup_iff.2 hn) (fun b hb=>hok b ((zfx xs).mem_iff.1 hb)) (by rw [zkX];exact h8) xs.length true (List.replicate 256 false) 0 [] (fun _=>rfl) List.length_replicate (fun u hu=>by
   have hu:(List.replicate 256 false).getD u false = true:=hu
   have:(List.replicate 256 false).getD u false = false:=by
    rw [List.getD,List.getElem?_replicate];split <;> rfl
   rw [this] at hu;cases hu) (zwm _) (by rw [zkX];simp) (fun b hb=>by cases hb) (by decide)
  simp (maxSteps:=9^7) -dsimp only [↓gp,gq,reduceCtorEq,reduceEqDiff,reduceLT,reduceLeDiff,reduceAdd,reduceMul,reduceSub,Nat.reduceBEq,Int.reduceToNat,Int.reduceLE,Int.reduceLT,Int.reduceNeg,reduceMod,gT,zhQ,zhR,zDC]
  refine zE0 (ki:=12) (vi:=1) (ei:=3) (fz:=false) hC (by simp (maxSteps:=9^7) -dsimp only [gr,reduceEqDiff,reduceLT,reduceAdd,reduceMod,Nat.reduceBEq]) (by simp (maxSteps:=9^7) -dsimp only [gr,reduceEqDiff,reduceLT,reduceAdd,reduceMod,Nat.reduceBEq]) (by simp (maxSteps:=9^7) -dsimp only [gr,reduceEqDiff,reduceLT,reduceAdd,reduceMod,Nat.reduceBEq]) (by decide) (by decide) fun S fl' hfl' hSd hSs w7 w18 hoff=>?_
  have u7:S.sl 7 = .ref 7 1 0:=by rw [hSs 7 (by decide)];simp (maxSteps:=9^7) -dsimp only [gr,reduceEqDiff,reduceLT,reduceAdd,reduceMod,Nat.reduceBEq]
  simp (maxSteps:=9^7) -dsimp only [↓gp,gq,reduceCtorEq,reduceEqDiff,reduceLT,reduceLeDiff,reduceAdd,reduceMul,reduceSub,Nat.reduceBEq,Int.reduceToNat,Int.reduceLE,Int.reduceLT,Int.reduceNeg,reduceMod,gT,hSd,u7,w7,w18,zG9 hfl']
  generalize zb3 ft (zhP xs) xs.length [] = o
  cases o with
  | none=>exact ⟨fun _=>⟨rfl,rfl⟩,fun h=>by cases h⟩
  | some l=>exact ⟨fun h=>(by cases h),fun _=>rfl⟩
theorem zDB {n:Int} {xs:List Int} (h:cxP n xs):okL xs:=fun b hb=>by
 obtain ⟨i,hi,rfl⟩:=zaY 0 hb
 exact zd9 (h.2.2 i hi).1
end Go.Proofs.YtkledeboboplmaaGreat

/- DERIVED by an AI agent. -/
import Derived.Test.YtpnknaaehcljoaaQ3
import Derived.Test.YtpnknaaehcljoaaA13
namespace Go.Proofs.Ytpnknaaehcljoaa
open Go.Abs
open Nat (reduceEqDiff reduceMod reduceAdd reduceLT reduceLeDiff reduceSub reduceMul)
set_option linter.unusedSimpArgs false
set_option linter.unusedVariables false
def ltQ (M:Mat):Prop:=M.length ≤ 5∧∀ r ∈ M,r.length ≤ 3
theorem zxa {M:Mat} (h:∀ r ∈ M,r.length = 3) {r:List Int} (hr:r.length = 3):∀ x ∈ M ++ [r],x.length = 3:=fun x hx=>by
 rw [List.mem_append,List.mem_singleton] at hx
 exact hx.elim (h x) (fun e=>e ▸ hr)
theorem zoI {M:Mat} (h:ltQ M) {r:List Int} (hr:r.length ≤ 3):ltQ (M.set 0 r):=by
 refine ⟨by rw [List.length_set];exact h.1,fun x hx=>?_⟩
 rcases List.mem_or_eq_of_mem_set hx with hx | rfl
 ·exact h.2 x hx
 ·exact hr
theorem zgP (bs:List Int) (hbs:bs.length ≤ 9223372036854775806) (i:Nat) (h:Int):AG Try.prog 81 [.ref 1000000 1 0] (zlv TC bs i h ⟨0,.dead⟩) (zhB TC bs ⟨0,.dead⟩ 22 3 ltQ):=by
 refine AG.go (rs:=[.tmp 2]) zbq zaD Try.func81 rfl rfl rfl (by kernel_rfl) fun hl _ s hs hR=>?_
 have e0:s.rw 1000000 = ⟨1,.box TC [.sl false 1 (kL .u8 bs),int i,int h]⟩:=by rw [hR];rfl
 have e1:s.rw 1000500 = ⟨0,.dead⟩:=by rw [hR];rfl
 have elo:∀ k,k < 1000000→s.rw k = ⟨0,.dead⟩:=fun k hk=>by rw [hR];exact zlw hk
 have hne:∀ j,(sid 6 j == 1000000) = false:=fun j=>beq_false_of_ne fun e=>by
  have:=zaa 6 j
  omega
 have hrow:∀ (j:Nat) (S:St) (r:Row),(S.row 1000000 r).rw (sid 6 j) = S.rw (sid 6 j):=fun j S r=>zao _ _ _ _ (beq_eq_false_iff_ne.1 (hne j))
 have hrow2:∀ (j:Nat) (S:St) (r:Row),(S.row (sid 6 j) r).rw 1000000 = S.rw 1000000:=fun j S r=>zao _ _ _ _ (Ne.symm (beq_eq_false_iff_ne.1 (hne j)))
 have hrow3:∀ (j:Nat) (S:St) (r:Row),(S.row (sid 6 j) r).rw 1000500 = S.rw 1000500:=fun j S r=>zao _ _ _ _ fun e=>by
  rw [zaT] at e
  omega
 have hrow4:∀ (i j:Nat) (S:St) (r:Row),j < i→(S.row (sid 6 j) r).rw (sid 6 i) = S.rw (sid 6 i):=fun i j S r h=>zao _ _ _ _ fun e=>by
  have:=za9 e
  omega
 have es:∀ j,s.rw (sid 6 j) = ⟨0,.dead⟩:=fun j=>by
  rw [hR]
  unfold zlv
  rw [if_neg (beq_eq_false_iff_ne.1 (hne j)),ite_self]
 simp (maxSteps:=5000000) -dsimp only [↓gp,gq,reduceCtorEq,reduceEqDiff,reduceLT,reduceLeDiff,reduceAdd,reduceMul,reduceSub,Nat.reduceBEq,Int.reduceToNat,Int.reduceLE,Int.reduceLT,Int.reduceNeg,reduceMod,zac,zad,zab,zaa,gT,TK.isInt,TK.agg,Array.toList,hs,e0,elo]
 refine zaE (zbu bs hbs 6 (by omega)) .none (by simp (maxSteps:=5000000) -dsimp only [gr,reduceEqDiff,reduceLT,reduceAdd,reduceMod,Nat.reduceBEq,zaa,zac,zad,zab,e0,elo] <;> rfl) (GvL.one (zbj (by simp (maxSteps:=5000000) -dsimp only [gr,reduceEqDiff,reduceLT,reduceAdd,reduceMod,Nat.reduceBEq,zaa,zac,zad,zab,e0,elo] <;> rfl)) (by repeat (first | exact GvL.nil | refine GvL.one (GvA.v _) ?_ | refine GvL.one (GvA.sl _ _ _) ?_))) rfl (fun _ h=>by cases h) fun rv i1 g1 ⟨x,hrv,hx⟩=>?_
 subst hrv
 obtain ⟨n,rfl,hn⟩:=zkW (n:=6) (by decide) hx
 simp (maxSteps:=5000000) -dsimp only [↓gp,gq,reduceCtorEq,reduceEqDiff,reduceLT,reduceLeDiff,reduceAdd,reduceMul,reduceSub,Nat.reduceBEq,Int.reduceToNat,Int.reduceLE,Int.reduceLT,Int.reduceNeg,reduceMod,zac,zad,zab,zaa,gT,TK.isInt,TK.agg,Array.toList,hs,e0,elo]
 refine zhx (k:=6) (v:=1) (e:=22) (e2:=3) (by simp (maxSteps:=5000000) -dsimp only [gr,reduceEqDiff,reduceLT,reduceAdd,reduceMod,Nat.reduceBEq,zaa,zac,zad,zab,elo]) (fun i=>by simp (maxSteps:=5000000) -dsimp only [gr,reduceEqDiff,reduceLT,reduceAdd,reduceMod,Nat.reduceBEq,zaa,zac,zad,zab,hrow,es]) (fun (za:Nat × Nat × Nat × Int × Mat) s=>match za with | (k,v,j,g,L)=>s.sl 0 = .ref 1000000 1 0∧s.rw 1000000 = ⟨1,.box TC [.sl false 1 (kL .u8 bs),int j,int g]⟩∧s.rw 1000500 = ⟨0,.dead⟩∧s.sl 3 = .own 6 v∧s.sl 4 = int n∧s.sl 5 = int k∧(k ≤ n∧L.length = k∧(∀ r ∈ L,r.length = 3)∧TabG s.rw 6 v 22 3 L.length L)) (fun (k,v,j,g,L)=>n - k) ((0,1,i1,g1,[])) (fun sX htX hslX hoX=>(by refine ⟨?_,?_,?_,?_,?_,?_,⟨by omega,rfl,fun r hr=>by simp at hr,htX⟩⟩ <;> (first | (simp (maxSteps:=5000000) -dsimp only [gr,reduceEqDiff,reduceLT,reduceAdd,reduceMod,Nat.reduceBEq,zaa,zac,zad,zab,hslX,hoX,hs,e0,e1,elo];first | done | rfl | (simp;done)) | assumption | rfl))) ?_
 intro (k,v,j,g,L) sa ⟨h0a,r1000000a,r1000500a,h3a,h4a,h5a,hIa⟩
 obtain ⟨hk,hL,hok,hta⟩:=hIa
 simp (maxSteps:=5000000) -dsimp only [↓gp,gq,reduceCtorEq,reduceEqDiff,reduceLT,reduceLeDiff,reduceAdd,reduceMul,reduceSub,Nat.reduceBEq,Int.reduceToNat,Int.reduceLE,Int.reduceLT,Int.reduceNeg,reduceMod,zac,zad,zab,zaa,gT,TK.isInt,TK.agg,Array.toList,h0a,r1000000a,r1000500a,h3a,h4a,h5a]
 refine ⟨fun hlt=>?_,fun hlt=>?_⟩
 ·refine zaE (zbu bs hbs 3 (by omega)) .none (by simp (maxSteps:=5000000) -dsimp only [gr,reduceEqDiff,reduceLT,reduceAdd,reduceMod,Nat.reduceBEq,zaa,zac,zad,zab,h0a,r1000000a,r1000500a,h3a,h4a,h5a] <;> rfl) (GvL.one (zbj (by simp (maxSteps:=5000000) -dsimp only [gr,reduceEqDiff,reduceLT,reduceAdd,reduceMod,Nat.reduceBEq,zaa,zac,zad,zab,h0a,r1000000a,r1000500a,h3a,h4a,h5a] <;> rfl)) (by repeat (first | exact GvL.nil | refine GvL.one (GvA.v _) ?_ | refine GvL.one (GvA.sl _ _ _) ?_))) rfl (fun _ h=>by cases h) fun rv i2 g2 ⟨x,hrv,hx⟩=>?_
  subst hrv
  simp (maxSteps:=5000000) -dsimp only [↓gp,gq,reduceCtorEq,reduceEqDiff,reduceLT,reduceLeDiff,reduceAdd,reduceMul,reduceSub,Nat.reduceBEq,Int.reduceToNat,Int.reduceLE,Int.reduceLT,Int.reduceNeg,reduceMod,zac,zad,zab,zaa,gT,TK.isInt,TK.agg,Array.toList,h0a,r1000000a,r1000500a,h3a,h4a,h5a]
  refine zaE (zbu bs hbs 3 (by omega)) .none (by simp (maxSteps:=5000000) -dsimp only [gr,reduceEqDiff,reduceLT,reduceAdd,reduceMod,Nat.reduceBEq,zaa,zac,zad,zab,h0a,r1000000a,r1000500a,h3a,h4a,h5a] <;> rfl) (GvL.one (zbj (by simp (maxSteps:=5000000) -dsimp only [gr,reduceEqDiff,reduceLT,reduceAdd,reduceMod,Nat.reduceBEq,zaa,zac,zad,zab,h0a,r1000000a,r1000500a,h3a,h4a,h5a] <;> rfl)) (by repeat (first | exact GvL.nil | refine GvL.one (GvA.v _) ?_ | refine GvL.one (GvA.sl _ _ _) ?_))) rfl (fun _ h=>by cases h) fun rv i3 g3 ⟨y,hrv,hy⟩=>?_
  subst hrv
  simp (maxSteps:=5000000) -dsimp only [↓gp,gq,reduceCtorEq,reduceEqDiff,reduceLT,reduceLeDiff,reduceAdd,reduceMul,reduceSub,Nat.reduceBEq,Int.reduceToNat,Int.reduceLE,Int.reduceLT,Int.reduceNeg,reduceMod,zac,zad,zab,zaa,gT,TK.isInt,TK.agg,Array.toList,h0a,r1000000a,r1000500a,h3a,h4a,h5a]
  refine zaE (zbu bs hbs 3 (by omega)) .none (by simp (maxSteps:=5000000) -dsimp only [gr,reduceEqDiff,reduceLT,reduceAdd,reduceMod,Nat.reduceBEq,zaa,zac,zad,zab,h0a,r1000000a,r1000500a,h3a,h4a,h5a] <;> rfl) (GvL.one (zbj (by simp (maxSteps:=5000000) -dsimp only [gr,reduceEqDiff,reduceLT,reduceAdd,reduceMod,Nat.reduceBEq,zaa,zac,zad,zab,h0a,r1000000a,r1000500a,h3a,h4a,h5a] <;> rfl)) (by repeat (first | exact GvL.nil | refine GvL.one (GvA.v _) ?_ | refine GvL.one (GvA.sl _ _ _) ?_))) rfl (fun _ h=>by cases h) fun rv i4 g4 ⟨z,hrv,hz⟩=>?_
  subst hrv
  simp (maxSteps:=5000000) -dsimp only [↓gp,gq,reduceCtorEq,reduceEqDiff,reduceLT,reduceLeDiff,reduceAdd,reduceMul,reduceSub,Nat.reduceBEq,Int.reduceToNat,Int.reduceLE,Int.reduceLT,Int.reduceNeg,reduceMod,zac,zad,zab,zaa,gT,TK.isInt,TK.agg,Array.toList,h0a,r1000000a,r1000500a,h3a,h4a,h5a]
  refine zoL ?_
  simp (maxSteps:=5000000) -dsimp only [↓gp,gq,reduceCtorEq,reduceEqDiff,reduceLT,reduceLeDiff,reduceAdd,reduceMul,reduceSub,Nat.reduceBEq,Int.reduceToNat,Int.reduceLE,Int.reduceLT,Int.reduceNeg,reduceMod,zac,zad,zab,zaa,gT,TK.isInt,TK.agg,Array.toList,h0a,r1000000a,r1000500a,h3a,h4a,h5a,hta.top,zal,List.length_range]
  refine ⟨by omega,zcK (k:=6) (v:=v + 1) (e:=22) (e2:=3) (n:=L.length) (d:=21) (vd:=(sa.rw 21).ver + 1) (M:=L) (r:=[x,y,z]) (by simp (maxSteps:=5000000) -dsimp only [gr,reduceEqDiff,reduceLT,reduceAdd,reduceMod,Nat.reduceBEq,zaa,zac,zad,zab,hta.top]) rfl (fun j hj=>by simp (maxSteps:=5000000) -dsimp only [gr,reduceEqDiff,reduceLT,reduceAdd,reduceMod,Nat.reduceBEq,zaa,zac,zad,zab,hrow,hta.row j hj]) (fun j hj=>by simp (maxSteps:=5000000) -dsimp only [gr,reduceEqDiff,reduceLT,reduceAdd,reduceMod,Nat.reduceBEq,zaa,zac,zad,zab,hrow,hta.rest j hj]) (by simp (maxSteps:=5000000) -dsimp only [gr,reduceEqDiff,reduceLT,reduceAdd,reduceMod,Nat.reduceBEq,zaa,zac,zad,zab,h0a,r1000000a,r1000500a,h3a,h4a,h5a]) (by decide) (by decide) ((k + 1,v + 1,i4,g4,L ++ [[x,y,z]])) (fun sX htX hslX hoX=>(by refine ⟨?_,?_,?_,?_,?_,?_,⟨by dsimp only;omega,by simp [hL],zxa hok rfl,by dsimp only;rw [List.length_append];exact htX⟩⟩ <;> (first | (simp (maxSteps:=5000000) -dsimp only [gr,reduceEqDiff,reduceLT,reduceAdd,reduceMod,Nat.reduceBEq,zaa,zac,zad,zab,hslX,hoX,h0a,r1000000a,r1000500a,h3a,h4a,h5a,h0a,r1000000a,r1000500a,h3a,h4a,h5a,zaf hlt (by omega)];first | done | rfl | (simp;done)) | assumption | rfl))) (by first | omega | (simp only;omega) | (dsimp only;omega) | (show _ < _;simp;omega))⟩
 ·have hq:ltQ L:=⟨by omega,fun r hr=>Nat.le_of_eq (hok r hr)⟩
  refine ⟨fun h0=>zaE (zbI bs hbs 12 (by decide)) .none (by simp (maxSteps:=5000000) -dsimp only [gr,reduceEqDiff,reduceLT,reduceAdd,reduceMod,Nat.reduceBEq,zaa,zac,zad,zab,h0a,r1000000a,r1000500a,h3a,h4a,h5a] <;> rfl) (GvL.one (zbj (by simp (maxSteps:=5000000) -dsimp only [gr,reduceEqDiff,reduceLT,reduceAdd,reduceMod,Nat.reduceBEq,zaa,zac,zad,zab,h0a,r1000000a,r1000500a,h3a,h4a,h5a] <;> rfl)) (by repeat (first | exact GvL.nil | refine GvL.one (GvA.v _) ?_ | refine GvL.one (GvA.sl _ _ _) ?_))) rfl (fun _ h=>by cases h) fun rv i2 g2 ⟨b,hrv⟩=>?_,fun h0=>⟨fun h=>absurd h h0,fun _=>⟨L,j,g,6,v,_,_,hq,Wk.refl _,rfl,hta.done,by decide,rfl,rfl,fun x hx=>?_,r1000000a,r1000500a⟩⟩⟩
  ·subst hrv
   have hl0:0 < L.length:=by omega
   have hr0:=hta.row 0 hl0
   have hr03:=hok _ (zaC [] hl0)
   simp (maxSteps:=5000000) -dsimp only [↓gp,gq,reduceCtorEq,reduceEqDiff,reduceLT,reduceLeDiff,reduceAdd,reduceMul,reduceSub,Nat.reduceBEq,Int.reduceToNat,Int.reduceLE,Int.reduceLT,Int.reduceNeg,reduceMod,zac,zad,zab,zaa,gT,TK.isInt,TK.agg,Array.toList,h0a,r1000000a,r1000500a,h3a,h4a,h5a,hta.top,zbB,zd6 hl0,hr0,List.length_range,hrow,hrow2,hr03]
   refine ⟨fun hb=>?_,fun hb=>⟨fun h1=>?_,fun h1=>absurd h0 h1⟩⟩
   ·refine ⟨by kernel_rfl,by omega,hl0,zi1 (zca bs hbs [-1,3] (by decide) (by decide)) (zcR _) (i:=i2) (h:=g2) (by simp (maxSteps:=5000000) -dsimp only [gr,reduceEqDiff,reduceLT,reduceAdd,reduceMod,Nat.reduceBEq,zaa,zac,zad,zab] <;> rfl) (by simp (maxSteps:=5000000) -dsimp only [gr,reduceEqDiff,reduceLT,reduceAdd,reduceMod,Nat.reduceBEq,zaa,zac,zad,zab] <;> rfl) rfl rfl rfl ?_⟩
    obtain ⟨y,j3,g3,hr,hy⟩:=ztu bs (l:=[-1,3]) (by decide) i2 g2
    rw [hr]
    simp (maxSteps:=5000000) -dsimp only [↓gp,gq,reduceCtorEq,reduceEqDiff,reduceLT,reduceLeDiff,reduceAdd,reduceMul,reduceSub,Nat.reduceBEq,Int.reduceToNat,Int.reduceLE,Int.reduceLT,Int.reduceNeg,reduceMod,zac,zad,zab,zaa,gT,TK.isInt,TK.agg,Array.toList,h0a,r1000000a,r1000500a,h3a,h4a,h5a,hta.top,zbB,zd6 hl0,hr0,List.length_range,hrow,hrow2,hr03]
    refine ⟨by decide,by kernel_rfl,fun h1=>zaE (zbI bs hbs 14 (by decide)) .none (by simp (maxSteps:=5000000) -dsimp only [gr,reduceEqDiff,reduceLT,reduceAdd,reduceMod,Nat.reduceBEq,zaa,zac,zad,zab,h0a,r1000000a,r1000500a,h3a,h4a,h5a,hrow,hrow2] <;> rfl) (GvL.one (zbj (by simp (maxSteps:=5000000) -dsimp only [gr,reduceEqDiff,reduceLT,reduceAdd,reduceMod,Nat.reduceBEq,zaa,zac,zad,zab,h0a,r1000000a,r1000500a,h3a,h4a,h5a,hrow,hrow2] <;> rfl)) (by repeat (first | exact GvL.nil | refine GvL.one (GvA.v _) ?_ | refine GvL.one (GvA.sl _ _ _) ?_))) rfl (fun _ h=>by cases h) fun rv i4 g4 ⟨b2,hrv⟩=>?_,fun h1=>absurd h0 h1⟩
    subst hrv
    simp (maxSteps:=5000000) -dsimp only [↓gp,gq,reduceCtorEq,reduceEqDiff,reduceLT,reduceLeDiff,reduceAdd,reduceMul,reduceSub,Nat.reduceBEq,Int.reduceToNat,Int.reduceLE,Int.reduceLT,Int.reduceNeg,reduceMod,zac,zad,zab,zaa,gT,TK.isInt,TK.agg,Array.toList,h0a,r1000000a,r1000500a,h3a,h4a,h5a,hta.top,zbB,zd6 hl0,hr0,List.length_range,hrow,hrow2,hr03]
    refine ⟨fun hb2=>?_,fun hb2=>?_⟩
    ·refine ⟨by omega,hl0,zr5 (M:=L) (r:=[1]) (n:=L.length) (d:=44) (by simp (maxSteps:=5000000) -dsimp only [gr,reduceEqDiff,reduceLT,reduceAdd,reduceMod,Nat.reduceBEq,zaa,zac,zad,zab,hrow,hrow2] <;> rfl) (by simp (maxSteps:=5000000) -dsimp only [gr,reduceEqDiff,reduceLT,reduceAdd,reduceMod,Nat.reduceBEq,zaa,zac,zad,zab,r1000500a,hrow3] <;> rfl) (by simp (maxSteps:=5000000) -dsimp only [gr,reduceEqDiff,reduceLT,reduceAdd,reduceMod,Nat.reduceBEq,zaa,zac,zad,zab,hta.top] <;> rfl) (by simp (maxSteps:=5000000) -dsimp only [gr,reduceEqDiff,reduceLT,reduceAdd,reduceMod,Nat.reduceBEq,zaa,zac,zad,zab] <;> rfl) (fun i h1 h2=>?_) ?_ rfl hl0 (zoI hq (by decide)) (by decide) rfl (by omega) rfl (by decide) rfl⟩
     ·simp (maxSteps:=5000000) -dsimp only [gr,reduceEqDiff,reduceLT,reduceAdd,reduceMod,Nat.reduceBEq,zaa,zac,zad,zab,hta.row i h2,hrow,hrow4 i 0 _ _ h1]
     ·simp (maxSteps:=5000000) -dsimp only [gr,reduceEqDiff,reduceLT,reduceAdd,reduceMod,Nat.reduceBEq,zaa,zac,zad,zab,hta.rest L.length (Nat.le_refl _),hrow,hrow4 L.length 0 _ _ hl0]
    ·refine zkQ (M:=L.set 0 ((L.getD 0 []).set 0 y)) (n:=L.length) (by simp (maxSteps:=5000000) -dsimp only [gr,reduceEqDiff,reduceLT,reduceAdd,reduceMod,Nat.reduceBEq,zaa,zac,zad,zab,hrow,hrow2] <;> rfl) (by simp (maxSteps:=5000000) -dsimp only [gr,reduceEqDiff,reduceLT,reduceAdd,reduceMod,Nat.reduceBEq,zaa,zac,zad,zab,r1000500a,hrow3] <;> rfl) (hta.done.set (i:=0) hl0 (by simp (maxSteps:=5000000) -dsimp only [gr,reduceEqDiff,reduceLT,reduceAdd,reduceMod,Nat.reduceBEq,zaa,zac,zad,zab]) (by simp (maxSteps:=5000000) -dsimp only [gr,reduceEqDiff,reduceLT,reduceAdd,reduceMod,Nat.reduceBEq,zaa,zac,zad,zab,zd6 hl0,hrow]) (fun x hx=>by simp (maxSteps:=5000000) -dsimp only [gr,reduceEqDiff,reduceLT,reduceAdd,reduceMod,Nat.reduceBEq,zaa,zac,zad,zab,zd6 hl0 ▸ hx,hrow])) (zoI hq (by rw [List.length_set,hr03];decide)) (by decide) rfl (by omega)
   ·refine zaE (zbI bs hbs 14 (by decide)) .none (by simp (maxSteps:=5000000) -dsimp only [gr,reduceEqDiff,reduceLT,reduceAdd,reduceMod,Nat.reduceBEq,zaa,zac,zad,zab,h0a,r1000000a,r1000500a,h3a,h4a,h5a] <;> rfl) (GvL.one (zbj (by simp (maxSteps:=5000000) -dsimp only [gr,reduceEqDiff,reduceLT,reduceAdd,reduceMod,Nat.reduceBEq,zaa,zac,zad,zab,h0a,r1000000a,r1000500a,h3a,h4a,h5a] <;> rfl)) (by repeat (first | exact GvL.nil | refine GvL.one (GvA.v _) ?_ | refine GvL.one (GvA.sl _ _ _) ?_))) rfl (fun _ h=>by cases h) fun rv i4 g4 ⟨b2,hrv⟩=>?_
    subst hrv
    simp (maxSteps:=5000000) -dsimp only [↓gp,gq,reduceCtorEq,reduceEqDiff,reduceLT,reduceLeDiff,reduceAdd,reduceMul,reduceSub,Nat.reduceBEq,Int.reduceToNat,Int.reduceLE,Int.reduceLT,Int.reduceNeg,reduceMod,zac,zad,zab,zaa,gT,TK.isInt,TK.agg,Array.toList,h0a,r1000000a,r1000500a,h3a,h4a,h5a,hta.top,zbB,zd6 hl0,hr0,List.length_range,hrow,hrow2,hr03]
    refine ⟨fun hb2=>?_,fun hb2=>?_⟩
    ·refine ⟨by omega,hl0,zr5 (M:=L) (r:=[1]) (n:=L.length) (d:=44) (by simp (maxSteps:=5000000) -dsimp only [gr,reduceEqDiff,reduceLT,reduceAdd,reduceMod,Nat.reduceBEq,zaa,zac,zad,zab,hrow,hrow2] <;> rfl) (by simp (maxSteps:=5000000) -dsimp only [gr,reduceEqDiff,reduceLT,reduceAdd,reduceMod,Nat.reduceBEq,zaa,zac,zad,zab,r1000500a,hrow3] <;> rfl) (by simp (maxSteps:=5000000) -dsimp only [gr,reduceEqDiff,reduceLT,reduceAdd,reduceMod,Nat.reduceBEq,zaa,zac,zad,zab,hta.top] <;> rfl) (by simp (maxSteps:=5000000) -dsimp only [gr,reduceEqDiff,reduceLT,reduceAdd,reduceMod,Nat.reduceBEq,zaa,zac,zad,zab] <;> rfl) (fun i h1 h2=>?_) ?_ rfl hl0 (zoI hq (by decide)) (by decide) rfl (by omega) rfl (by decide) rfl⟩
     ·simp (maxSteps:=5000000) -dsimp only [gr,reduceEqDiff,reduceLT,reduceAdd,reduceMod,Nat.reduceBEq,zaa,zac,zad,zab,hta.row i h2,hrow,hrow4 i 0 _ _ h1]
     ·simp (maxSteps:=5000000) -dsimp only [gr,reduceEqDiff,reduceLT,reduceAdd,reduceMod,Nat.reduceBEq,zaa,zac,zad,zab,hta.rest L.length (Nat.le_refl _),hrow,hrow4 L.length 0 _ _ hl0]
    ·exact zkQ (M:=L) (n:=L.length) (by simp (maxSteps:=5000000) -dsimp only [gr,reduceEqDiff,reduceLT,reduceAdd,reduceMod,Nat.reduceBEq,zaa,zac,zad,zab,hrow,hrow2] <;> rfl) (by simp (maxSteps:=5000000) -dsimp only [gr,reduceEqDiff,reduceLT,reduceAdd,reduceMod,Nat.reduceBEq,zaa,zac,zad,zab,r1000500a,hrow3] <;> rfl) (hta.done.same (by simp (maxSteps:=5000000) -dsimp only [gr,reduceEqDiff,reduceLT,reduceAdd,reduceMod,Nat.reduceBEq,zaa,zac,zad,zab]) fun x=>by simp (maxSteps:=5000000) -dsimp only [gr,reduceEqDiff,reduceLT,reduceAdd,reduceMod,Nat.reduceBEq,zaa,zac,zad,zab,hrow]) hq (by decide) rfl (by omega)
  ·have:=List.mem_range.1 hx
   rw [zaT];omega
end Go.Proofs.Ytpnknaaehcljoaa

namespace Go.Proofs.Ytpnknaaehcljoaa
open Go.Abs
open Nat (reduceEqDiff reduceMod reduceAdd reduceLT reduceLeDiff reduceSub reduceMul)
set_option linter.unusedSimpArgs false
set_option linter.unusedVariables false
def zbx (n:Nat):List Int:=[((n / 9:Nat):Int),((n / 3 % 3:Nat):Int),((n % 3:Nat):Int)]
def inP (l:List (List Int)) (x:List Int):Bool:=l.any fun r=>decide (r = x)
def leP (l:List (List Int)) (x:List Int):Bool:=l.all fun r=>decide (r = x) || !zc2 r x
def mkO (l:List (List Int)):Nat→List (List Int)
 | 0=>[]
 | i + 1=>if inP l (zbx (26 - i)) = true∧leP l (zbx (26 - i)) = true then mkO l i ++ [zbx (26 - i)] else mkO l i
theorem zpy (l:List (List Int)):∀ i,(mkO l i).length ≤ i:=by
 intro i
 induction i with
 | zero=>exact Nat.le_refl _
 | succ i ih=>unfold mkO;split;rw [List.length_append];simp;exact ih;omega
def zgx (l:List (List Int)):Bool:=l.all zbL
noncomputable def mkV (l:List (List Int)):List (List Int):=if zgx l = true∧p19 (mkO l 27) = true then mkO l 27 else []
noncomputable def mkB (l:List (List Int)):Bool:=zgx l && p19 (mkO l 27)
theorem zlP (xs ys:List Int):AC Try.prog 85 [zbr xs,zbr ys] (.im (bool (decide (xs = ys)))):=by
 refine AC.go (rs:=[.tmp 4]) zbq zaD Try.func85 rfl rfl rfl (by kernel_rfl) fun hl=>?_
 simp only [zaH,zb2,zaN,and_true] at hl
 simp (maxSteps:=5000000) -dsimp only [↓gp,gq,reduceCtorEq,reduceEqDiff,reduceLT,reduceLeDiff,reduceAdd,reduceMul,reduceSub,Nat.reduceBEq,Int.reduceToNat,Int.reduceLE,Int.reduceLT,Int.reduceNeg,reduceMod,zac,zad,zab,zaa,gT,TK.isInt,TK.agg,Array.toList]
 refine ⟨fun h=>?_,fun h=>?_⟩
 ·intro e
  simp [e] at h
 ·have hn:xs.length = ys.length:=by simp at h;omega
  refine zas (fun (i:Nat) s=>s.sl 0 = zbr xs∧s.sl 1 = zbr ys∧s.sl 5 = int i∧i ≤ xs.length∧xs.take i = ys.take i) (fun i=>xs.length - i) 0 ⟨by simp (maxSteps:=5000000) -dsimp only [gr,reduceEqDiff,reduceLT,reduceAdd,reduceMod,Nat.reduceBEq,zaa,zac,zad,zab],by simp (maxSteps:=5000000) -dsimp only [gr,reduceEqDiff,reduceLT,reduceAdd,reduceMod,Nat.reduceBEq,zaa,zac,zad,zab],by simp (maxSteps:=5000000) -dsimp only [gr,reduceEqDiff,reduceLT,reduceAdd,reduceMod,Nat.reduceBEq,zaa,zac,zad,zab];rfl,by simp,by simp⟩ ?_
  intro i s1 ⟨h0,h1,h5,hi,hall⟩
  simp (maxSteps:=5000000) -dsimp only [↓gp,gq,reduceCtorEq,reduceEqDiff,reduceLT,reduceLeDiff,reduceAdd,reduceMul,reduceSub,Nat.reduceBEq,Int.reduceToNat,Int.reduceLE,Int.reduceLT,Int.reduceNeg,reduceMod,zac,zad,zab,zaa,gT,TK.isInt,TK.agg,Array.toList,h0,h1,h5]
  refine ⟨fun h=>⟨by kernel_rfl,h,h,by omega,by omega,fun ha=>?_,fun ha=>?_⟩,fun h=>?_⟩
  ·intro e
   simp [e] at ha
  ·refine zai (i + 1) ⟨by simp (maxSteps:=5000000) -dsimp only [gr,reduceEqDiff,reduceLT,reduceAdd,reduceMod,Nat.reduceBEq,zaa,zac,zad,zab,h0],by simp (maxSteps:=5000000) -dsimp only [gr,reduceEqDiff,reduceLT,reduceAdd,reduceMod,Nat.reduceBEq,zaa,zac,zad,zab,h1],by simp (maxSteps:=5000000) -dsimp only [gr,reduceEqDiff,reduceLT,reduceAdd,reduceMod,Nat.reduceBEq,zaa,zac,zad,zab];rw [zaf h hl.1],h,?_⟩ (by omega)
   rw [zaF 0 h,zaF 0 (show i < ys.length by omega),hall]
   simp at ha
   simpa using ha
  ·rw [List.take_of_length_le (by omega),List.take_of_length_le (by omega)] at hall
   exact hall
theorem zcg (l:List (List Int)) (hx:l.length ≤ 1048576):AC Try.prog 18 [zcp l] (.tup [.ag [.tb 22 3 ((mkV l).map iL)],.im (bool (mkB l))]):=by
 refine AC.go (rs:=[.cell 2 35,.tmp 3]) zbq zaD Try.func18 rfl rfl rfl (by kernel_rfl) fun hl=>?_
 simp (maxSteps:=5000000) -dsimp only [↓gp,gq,reduceCtorEq,reduceEqDiff,reduceLT,reduceLeDiff,reduceAdd,reduceMul,reduceSub,Nat.reduceBEq,Int.reduceToNat,Int.reduceLE,Int.reduceLT,Int.reduceNeg,reduceMod,zac,zad,zab,zaa,gT,TK.isInt,TK.agg,Array.toList]
 refine zas (fun (k:Nat) s=>s.sl 0 = zcp l∧s.sl 2 = .ref 2 1 0∧s.rw 2 = ⟨1,.box 35 [.v (.slice none 0 0)]⟩∧s.sl 4 = int k∧(k ≤ l.length∧(l.take k).all zbL = true∧s.rw 90 = ⟨0,.dead⟩∧∀ i,s.rw (sid 90 i) = ⟨0,.dead⟩)) (fun k=>l.length - k) (0) (by refine ⟨?_,?_,?_,?_,⟨by omega,rfl,by simp (maxSteps:=5000000) -dsimp only [gr,reduceEqDiff,reduceLT,reduceAdd,reduceMod,Nat.reduceBEq,zaa,zac,zad,zab],fun i=>by simp (maxSteps:=5000000) -dsimp only [gr,reduceEqDiff,reduceLT,reduceAdd,reduceMod,Nat.reduceBEq,zaa,zac,zad,zab]⟩⟩ <;> (first | (simp (maxSteps:=5000000) -dsimp only [gr,reduceEqDiff,reduceLT,reduceAdd,reduceMod,Nat.reduceBEq,zaa,zac,zad,zab];first | done | rfl | (simp;done)) | assumption | rfl)) ?_
 intro k sa ⟨h0a,h2a,r2a,h4a,hIa⟩
 obtain ⟨hk,hal,hd0,hdi⟩:=hIa
 simp (maxSteps:=5000000) -dsimp only [↓gp,gq,reduceCtorEq,reduceEqDiff,reduceLT,reduceLeDiff,reduceAdd,reduceMul,reduceSub,Nat.reduceBEq,Int.reduceToNat,Int.reduceLE,Int.reduceLT,Int.reduceNeg,reduceMod,zac,zad,zab,zaa,gT,TK.isInt,TK.agg,Array.toList,h0a,h2a,r2a,h4a]
 refine ⟨fun h=>⟨h,h,zak (zex _) ?_⟩,fun h=>?_⟩
 ·have e:(l.take (k + 1)).all zbL = zbL (l.getD k []):=by rw [zaF [] h,List.all_append,hal];simp
  simp (maxSteps:=5000000) -dsimp only [↓gp,gq,reduceCtorEq,reduceEqDiff,reduceLT,reduceLeDiff,reduceAdd,reduceMul,reduceSub,Nat.reduceBEq,Int.reduceToNat,Int.reduceLE,Int.reduceLT,Int.reduceNeg,reduceMod,zac,zad,zab,zaa,gT,TK.isInt,TK.agg,Array.toList,h0a,h2a,r2a,h4a]
  refine ⟨fun hp=>?_,fun hp=>?_⟩
  ·have hno:¬ (zgx l = true):=fun ha=>by
    have:=List.all_eq_true.1 ha _ (zaC [] h)
    rw [this] at hp;cases hp
   have e1:mkV l = []:=if_neg fun hh=>hno hh.1
   have e2:mkB l = false:=by unfold mkB;cases ha:zgx l with | true=>exact absurd ha hno | false=>rfl
   rw [e1,e2];exact ⟨rfl,rfl⟩
  ·exact zai (k + 1) (by refine ⟨?_,?_,?_,?_,⟨by omega,by rw [e];simpa using hp,by simp (maxSteps:=5000000) -dsimp only [gr,reduceEqDiff,reduceLT,reduceAdd,reduceMod,Nat.reduceBEq,zaa,zac,zad,zab,hd0],fun i=>by simp (maxSteps:=5000000) -dsimp only [gr,reduceEqDiff,reduceLT,reduceAdd,reduceMod,Nat.reduceBEq,zaa,zac,zad,zab,hdi]⟩⟩ <;> (first | (simp (maxSteps:=5000000) -dsimp only [gr,reduceEqDiff,reduceLT,reduceAdd,reduceMod,Nat.reduceBEq,zaa,zac,zad,zab,h0a,h2a,r2a,h4a,zaf h (show l.length ≤ 9223372036854775807 by omega)];first | done | rfl | (simp;done)) | assumption | rfl)) (by first | omega | (simp only;omega) | (dsimp only;omega) | (show _ < _;simp;omega))
 ·have hkl:k = l.length:=by omega
  subst hkl
  rw [List.take_length] at hal
  have hx3:∀ k,k < l.length→(l.getD k []).length = 3:=fun k hk=>zbw (List.all_eq_true.1 hal _ (zaC [] hk))
  refine zi2 (k:=90) (e:=22) (e2:=3) (j:=5) (v:=(sa.rw 5).ver + 1) (t:=35) (o:=0) (c:=[.v (.slice none 0 0)]) (c':=[.own 90 1]) (by simp (maxSteps:=5000000) -dsimp only [gr,reduceEqDiff,reduceLT,reduceAdd,reduceMod,Nat.reduceBEq,zaa,zac,zad,zab]) rfl rfl (by decide) (by simp (maxSteps:=5000000) -dsimp only [gr,reduceEqDiff,reduceLT,reduceAdd,reduceMod,Nat.reduceBEq,zaa,zac,zad,zab,hd0]) (fun i=>by simp (maxSteps:=5000000) -dsimp only [gr,reduceEqDiff,reduceLT,reduceAdd,reduceMod,Nat.reduceBEq,zaa,zac,zad,zab,hdi]) (fun (zb:Nat × Nat) s=>match zb with | (i,v)=>s.sl 0 = zcp l∧s.sl 2 = .ref 2 1 0∧s.rw 2 = ⟨1,.box 35 [.v (.slice none 0 0)]⟩∧s.sl 5 = .ref 5 ((sa.rw 5).ver + 1) 0∧s.rw 5 = ⟨(sa.rw 5).ver + 1,.box 35 [.own 90 v]⟩∧s.sl 6 = int (26 - (i:Int))∧(i ≤ 27∧TabG s.rw 90 v 22 3 (mkO l i).length (mkO l i))) (fun (i,v)=>27 - i) ((0,1)) (fun sX htX hslX hoX=>(by refine ⟨?_,?_,?_,?_,?_,?_,⟨by omega,htX.1⟩⟩ <;> (first | (simp (maxSteps:=5000000) -dsimp only [gr,reduceEqDiff,reduceLT,reduceAdd,reduceMod,Nat.reduceBEq,zaa,zac,zad,zab,hslX,hoX,h0a,h2a,r2a,h4a,htX.2,Int.natCast_zero,Int.sub_zero];first | done | rfl | (simp;done)) | assumption | rfl))) ?_
  intro (i,v) sb ⟨h0b,h2b,r2b,h5b,r5b,h6b,hIb⟩
  obtain ⟨hi,hta⟩:=hIb
  by_cases h27:i < 27
  ·have hx:(26:Int) - (i:Int) = ((26 - i:Nat):Int):=by omega
   have hq1:(((26 - i:Nat):Int)).tdiv 9 = (((26 - i) / 9:Nat):Int):=by rw [Int.tdiv_eq_ediv_of_nonneg (by omega)];omega
   have hw9:IntKind.i64.wrap (((26 - i) / 9:Nat):Int) = (((26 - i) / 9:Nat):Int):=zaq (by omega) (by omega)
   have hw3:IntKind.i64.wrap (((26 - i) / 3:Nat):Int) = (((26 - i) / 3:Nat):Int):=zaq (by omega) (by omega)
   have hq2:(((26 - i:Nat):Int)).tdiv 3 = (((26 - i) / 3:Nat):Int):=by rw [Int.tdiv_eq_ediv_of_nonneg (by omega)];omega
   have hq3:(((26 - i) / 3:Nat):Int).tmod 3 = (((26 - i) / 3 % 3:Nat):Int):=by rw [Int.tmod_eq_emod_of_nonneg (by omega)];omega
   have hq4:(((26 - i:Nat):Int)).tmod 3 = (((26 - i) % 3:Nat):Int):=by rw [Int.tmod_eq_emod_of_nonneg (by omega)];omega
   simp (maxSteps:=5000000) -dsimp only [↓gp,gq,reduceCtorEq,reduceEqDiff,reduceLT,reduceLeDiff,reduceAdd,reduceMul,reduceSub,Nat.reduceBEq,Int.reduceToNat,Int.reduceLE,Int.reduceLT,Int.reduceNeg,reduceMod,zac,zad,zab,zaa,gT,TK.isInt,TK.agg,Array.toList,h0b,h2b,r2b,h5b,r5b,h6b,hx,hq1,hq2,hq3,hq4,hw9,hw3]
   refine ⟨by decide,by decide,by decide,by decide,?_⟩
   have hee:iL [(((26 - i) / 9:Nat):Int),(((26 - i) / 3 % 3:Nat):Int),(((26 - i) % 3:Nat):Int)] = iL (zbx (26 - i)):=rfl
   have hel:(zbx (26 - i)).length = 3:=rfl
   generalize hxe:zbx (26 - i) = x at *
   refine zas (fun (k:Nat) s=>s.sl 0 = zcp l∧s.sl 2 = .ref 2 1 0∧s.rw 2 = ⟨1,.box 35 [.v (.slice none 0 0)]⟩∧s.sl 5 = .ref 5 ((sa.rw 5).ver + 1) 0∧s.rw 5 = ⟨(sa.rw 5).ver + 1,.box 35 [.own 90 v]⟩∧s.sl 6 = int (26 - i:Nat)∧s.sl 7 = .own 37 ((sb.rw 37).ver + 1)∧s.rw 37 = ⟨(sb.rw 37).ver + 1,.sli 3 1 false (iL x)⟩∧s.sl 8 = bool (inP (l.take k) x)∧s.sl 9 = bool (leP (l.take k) x)∧s.sl 10 = int k∧(k ≤ l.length∧TabG s.rw 90 v 22 3 (mkO l i).length (mkO l i))) (fun k=>l.length - k) (0) (by refine ⟨?_,?_,?_,?_,?_,?_,?_,?_,?_,?_,?_,⟨by omega,hta.same (by simp (maxSteps:=5000000) -dsimp only [gr,reduceEqDiff,reduceLT,reduceAdd,reduceMod,Nat.reduceBEq,zaa,zac,zad,zab]) (fun x=>by simp (maxSteps:=5000000) -dsimp only [gr,reduceEqDiff,reduceLT,reduceAdd,reduceMod,Nat.reduceBEq,zaa,zac,zad,zab])⟩⟩ <;> (first | (simp (maxSteps:=5000000) -dsimp only [gr,reduceEqDiff,reduceLT,reduceAdd,reduceMod,Nat.reduceBEq,zaa,zac,zad,zab,h0b,h2b,r2b,h5b,r5b,h6b,hx,hee,inP,leP,List.take_zero,List.any_nil,List.all_nil];first | done | rfl | (simp;done)) | assumption | rfl)) ?_
   intro k sc ⟨h0c,h2c,r2c,h5c,r5c,h6c,h7c,r37c,h8c,h9c,h10c,hIc⟩
   obtain ⟨hk2,htc⟩:=hIc
   simp (maxSteps:=5000000) -dsimp only [↓gp,gq,reduceCtorEq,reduceEqDiff,reduceLT,reduceLeDiff,reduceAdd,reduceMul,reduceSub,Nat.reduceBEq,Int.reduceToNat,Int.reduceLE,Int.reduceLT,Int.reduceNeg,reduceMod,zac,zad,zab,zaa,gT,TK.isInt,TK.agg,Array.toList,h0c,h2c,r2c,h5c,r5c,h6c,h7c,r37c,h8c,h9c,h10c]
   refine ⟨fun h1=>⟨h1,h1,zak (zlP _ _) ?_⟩,fun h1=>?_⟩
   ·have ei:inP (l.take (k + 1)) x = (inP (l.take k) x || decide (l.getD k [] = x)):=by rw [zaF [] h1];simp [inP]
    have el:leP (l.take (k + 1)) x = (leP (l.take k) x && (decide (l.getD k [] = x) || !zc2 (l.getD k []) x)):=by rw [zaF [] h1];simp [leP]
    have hd:=fun (h1:k < l.length)=>zbK (l.getD k []) x (by rw [hx3 k h1];decide) (by rw [hel];decide)
    cases hf:inP (l.take k) x <;> cases hg:leP (l.take k) x <;> cases hs:decide (l.getD k [] = x)
    all_goals
     rw [hf,hs] at ei
     rw [hg,hs] at el
     simp (maxSteps:=5000000) -dsimp only [↓gp,gq,reduceCtorEq,reduceEqDiff,reduceLT,reduceLeDiff,reduceAdd,reduceMul,reduceSub,Nat.reduceBEq,Int.reduceToNat,Int.reduceLE,Int.reduceLT,Int.reduceNeg,reduceMod,zac,zad,zab,zaa,gT,TK.isInt,TK.agg,Array.toList,h0c,h2c,r2c,h5c,r5c,h6c,h7c,r37c,h8c,h9c,h10c,hf,hg,hs]
     first
      | exact zai (k + 1) (by refine ⟨?_,?_,?_,?_,?_,?_,?_,?_,?_,?_,?_,⟨by omega,htc.same (by simp (maxSteps:=5000000) -dsimp only [gr,reduceEqDiff,reduceLT,reduceAdd,reduceMod,Nat.reduceBEq,zaa,zac,zad,zab]) (fun x=>by simp (maxSteps:=5000000) -dsimp only [gr,reduceEqDiff,reduceLT,reduceAdd,reduceMod,Nat.reduceBEq,zaa,zac,zad,zab])⟩⟩ <;> (first | (simp (maxSteps:=5000000) -dsimp only [gr,reduceEqDiff,reduceLT,reduceAdd,reduceMod,Nat.reduceBEq,zaa,zac,zad,zab,h0c,h2c,r2c,h5c,r5c,h6c,h7c,r37c,h8c,h9c,h10c,hf,hg,ei,el,zaf h1 (show l.length ≤ 9223372036854775807 by omega)];first | done | rfl | (simp;done)) | assumption | rfl)) (by first | omega | (simp only;omega) | (dsimp only;omega) | (show _ < _;simp;omega))
      | (refine ⟨h1,h1,zak (hd h1) ?_⟩
         simp (maxSteps:=5000000) -dsimp only [↓gp,gq,reduceCtorEq,reduceEqDiff,reduceLT,reduceLeDiff,reduceAdd,reduceMul,reduceSub,Nat.reduceBEq,Int.reduceToNat,Int.reduceLE,Int.reduceLT,Int.reduceNeg,reduceMod,zac,zad,zab,zaa,gT,TK.isInt,TK.agg,Array.toList,h0c,h2c,r2c,h5c,r5c,h6c,h7c,r37c,h8c,h9c,h10c,hf,hg,hs]
         exact zai (k + 1) (by refine ⟨?_,?_,?_,?_,?_,?_,?_,?_,?_,?_,?_,⟨by omega,htc.same (by simp (maxSteps:=5000000) -dsimp only [gr,reduceEqDiff,reduceLT,reduceAdd,reduceMod,Nat.reduceBEq,zaa,zac,zad,zab]) (fun x=>by simp (maxSteps:=5000000) -dsimp only [gr,reduceEqDiff,reduceLT,reduceAdd,reduceMod,Nat.reduceBEq,zaa,zac,zad,zab])⟩⟩ <;> (first | (simp (maxSteps:=5000000) -dsimp only [gr,reduceEqDiff,reduceLT,reduceAdd,reduceMod,Nat.reduceBEq,zaa,zac,zad,zab,h0c,h2c,r2c,h5c,r5c,h6c,h7c,r37c,h8c,h9c,h10c,hf,hg,ei,el,zaf h1 (show l.length ≤ 9223372036854775807 by omega)];first | done | rfl | (simp;done)) | assumption | rfl)) (by first | omega | (simp only;omega) | (dsimp only;omega) | (show _ < _;simp;omega)))
   ·have hk3:k = l.length:=by omega
    subst hk3
    rw [List.take_length] at *
    have hw26:IntKind.i64.wrap (((26 - i:Nat):Int) - 1) = 26 - ((i + 1:Nat):Int):=by rw [zaq (by omega) (by omega)];omega
    have hol:=zpy l i
    have hnil:decide (l.length < l.length) = false:=decide_eq_false (Nat.lt_irrefl _)
    refine ⟨fun hin=>⟨fun hle=>?_,fun hle=>?_⟩,fun hin=>?_⟩
    ·have e:mkO l (i + 1) = mkO l i ++ [x]:=by
      show (if inP l (zbx (26 - i)) = true∧leP l (zbx (26 - i)) = true then mkO l i ++ [zbx (26 - i)] else mkO l i) = _
      rw [hxe,if_pos ⟨hin,hle⟩]
     refine zoL ?_
     simp (maxSteps:=5000000) -dsimp only [↓gp,gq,reduceCtorEq,reduceEqDiff,reduceLT,reduceLeDiff,reduceAdd,reduceMul,reduceSub,Nat.reduceBEq,Int.reduceToNat,Int.reduceLE,Int.reduceLT,Int.reduceNeg,reduceMod,zac,zad,zab,zaa,gT,TK.isInt,TK.agg,Array.toList,h0c,h2c,r2c,h5c,r5c,h6c,h7c,r37c,h8c,h9c,h10c,htc.top,zal,List.length_range]
     refine ⟨by omega,zcK (k:=90) (v:=v + 1) (e:=22) (e2:=3) (n:=(mkO l i).length) (d:=37) (vd:=(sb.rw 37).ver + 1) (M:=mkO l i) (r:=x) (by simp (maxSteps:=5000000) -dsimp only [gr,reduceEqDiff,reduceLT,reduceAdd,reduceMod,Nat.reduceBEq,zaa,zac,zad,zab,htc.top]) rfl (fun j hj=>by simp (maxSteps:=5000000) -dsimp only [gr,reduceEqDiff,reduceLT,reduceAdd,reduceMod,Nat.reduceBEq,zaa,zac,zad,zab,htc.row j hj]) (fun j hj=>by simp (maxSteps:=5000000) -dsimp only [gr,reduceEqDiff,reduceLT,reduceAdd,reduceMod,Nat.reduceBEq,zaa,zac,zad,zab,htc.rest j hj]) (by simp (maxSteps:=5000000) -dsimp only [gr,reduceEqDiff,reduceLT,reduceAdd,reduceMod,Nat.reduceBEq,zaa,zac,zad,zab,h0c,h2c,r2c,h5c,r5c,h6c,h7c,r37c,h8c,h9c,h10c]) (by decide) (by decide) ((i + 1,v + 1)) (fun sX htX hslX hoX=>(by refine ⟨?_,?_,?_,?_,?_,?_,⟨by omega,by dsimp only;rw [e,List.length_append];exact htX⟩⟩ <;> (first | (simp (maxSteps:=5000000) -dsimp only [gr,reduceEqDiff,reduceLT,reduceAdd,reduceMod,Nat.reduceBEq,zaa,zac,zad,zab,hslX,hoX,h0b,h2b,r2b,h5b,r5b,h6b,h0c,h2c,r2c,h5c,r5c,h6c,h7c,r37c,h8c,h9c,h10c,hw26];first | done | rfl | (simp;done)) | assumption | rfl))) (by first | omega | (simp only;omega) | (dsimp only;omega) | (show _ < _;simp;omega))⟩
    ·have e:mkO l (i + 1) = mkO l i:=by
      show (if inP l (zbx (26 - i)) = true∧leP l (zbx (26 - i)) = true then mkO l i ++ [zbx (26 - i)] else mkO l i) = _
      rw [hxe,if_neg (by intro h;rw [h.2] at hle;cases hle)]
     exact zai ((i + 1,v)) (by refine ⟨?_,?_,?_,?_,?_,?_,⟨by omega,by dsimp only;rw [e];exact htc.same (by simp (maxSteps:=5000000) -dsimp only [gr,reduceEqDiff,reduceLT,reduceAdd,reduceMod,Nat.reduceBEq,zaa,zac,zad,zab]) (fun x=>by simp (maxSteps:=5000000) -dsimp only [gr,reduceEqDiff,reduceLT,reduceAdd,reduceMod,Nat.reduceBEq,zaa,zac,zad,zab])⟩⟩ <;> (first | (simp (maxSteps:=5000000) -dsimp only [gr,reduceEqDiff,reduceLT,reduceAdd,reduceMod,Nat.reduceBEq,zaa,zac,zad,zab,h0b,h2b,r2b,h5b,r5b,h6b,h0c,h2c,r2c,h5c,r5c,h6c,h7c,r37c,h8c,h9c,h10c,hw26];first | done | rfl | (simp;done)) | assumption | rfl)) (by first | omega | (simp only;omega) | (dsimp only;omega) | (show _ < _;simp;omega))
    ·have e:mkO l (i + 1) = mkO l i:=by
      show (if inP l (zbx (26 - i)) = true∧leP l (zbx (26 - i)) = true then mkO l i ++ [zbx (26 - i)] else mkO l i) = _
      rw [hxe,if_neg (by intro h;rw [h.1] at hin;cases hin)]
     exact zai ((i + 1,v)) (by refine ⟨?_,?_,?_,?_,?_,?_,⟨by omega,by dsimp only;rw [e];exact htc.same (by simp (maxSteps:=5000000) -dsimp only [gr,reduceEqDiff,reduceLT,reduceAdd,reduceMod,Nat.reduceBEq,zaa,zac,zad,zab]) (fun x=>by simp (maxSteps:=5000000) -dsimp only [gr,reduceEqDiff,reduceLT,reduceAdd,reduceMod,Nat.reduceBEq,zaa,zac,zad,zab])⟩⟩ <;> (first | (simp (maxSteps:=5000000) -dsimp only [gr,reduceEqDiff,reduceLT,reduceAdd,reduceMod,Nat.reduceBEq,zaa,zac,zad,zab,h0b,h2b,r2b,h5b,r5b,h6b,h0c,h2c,r2c,h5c,r5c,h6c,h7c,r37c,h8c,h9c,h10c,hw26];first | done | rfl | (simp;done)) | assumption | rfl)) (by first | omega | (simp only;omega) | (dsimp only;omega) | (show _ < _;simp;omega))
  ·have hi2:i = 27:=by omega
   subst hi2
   have hno:decide ((0:Int) ≤ 26 - ((27:Nat):Int)) = false:=by decide
   have hn2:((0:Int) ≤ 26 - ((27:Nat):Int)) = False:=eq_false (by decide)
   simp (maxSteps:=5000000) -dsimp only [↓gp,gq,reduceCtorEq,reduceEqDiff,reduceLT,reduceLeDiff,reduceAdd,reduceMul,reduceSub,Nat.reduceBEq,Int.reduceToNat,Int.reduceLE,Int.reduceLT,Int.reduceNeg,reduceMod,zac,zad,zab,zaa,gT,TK.isInt,TK.agg,Array.toList,h0b,h2b,r2b,h5b,r5b,h6b,hno,hn2,hta.top]
   rw [zi7 hta.done _ (fun j=>by simp (maxSteps:=5000000) -dsimp only [gr,reduceEqDiff,reduceLT,reduceAdd,reduceMod,Nat.reduceBEq,zaa,zac,zad,zab])]
   refine zak (zbt _) ?_
   simp (maxSteps:=5000000) -dsimp only [↓gp,gq,reduceCtorEq,reduceEqDiff,reduceLT,reduceLeDiff,reduceAdd,reduceMul,reduceSub,Nat.reduceBEq,Int.reduceToNat,Int.reduceLE,Int.reduceLT,Int.reduceNeg,reduceMod,zac,zad,zab,zaa,gT,TK.isInt,TK.agg,Array.toList,h0b,h2b,r2b,h5b,r5b,h6b,hta.top]
   refine ⟨fun hp=>?_,fun hp=>?_⟩
   ·have hp:p19 (mkO l 27) = false:=by simpa using hp
    have e1:mkV l = []:=if_neg fun hh=>by rw [hh.2] at hp;cases hp
    have e2:mkB l = false:=by unfold mkB;rw [hp,Bool.and_false]
    rw [e1,e2];exact ⟨rfl,rfl⟩
   ·have hp:p19 (mkO l 27) = true:=by simpa using hp
    have hal2:zgx l = true:=hal
    have e1:mkV l = mkO l 27:=if_pos ⟨hal2,hp⟩
    have e2:mkB l = true:=by unfold mkB;rw [hp,hal2];rfl
    rw [e1,e2]
    refine ziZ (hta.done.same (rw':=_) (by simp (maxSteps:=5000000) -dsimp only [gr,reduceEqDiff,reduceLT,reduceAdd,reduceMod,Nat.reduceBEq,zaa,zac,zad,zab]) (fun j=>by simp (maxSteps:=5000000) -dsimp only [gr,reduceEqDiff,reduceLT,reduceAdd,reduceMod,Nat.reduceBEq,zaa,zac,zad,zab])) (by decide) (fun j hj=>by have:=List.mem_range.1 hj;have:=zpy l 27;omega) ?_
    simp only [kk,zoB]
    exact ⟨rfl,by simpa using zwf 90 (mkO l 27).length⟩
end Go.Proofs.Ytpnknaaehcljoaa

namespace Go.Proofs.Ytpnknaaehcljoaa
open Go.Abs
set_option linter.unusedSimpArgs false
set_option linter.unusedVariables false
def zl0 (r:List Int):Nat:=(r.getD 0 0 * 9 + r.getD 1 0 * 3 + r.getD 2 0).toNat
theorem zel:∀ n,n < 27→zl0 (zbx n) = n:=by decide
theorem zem {r:List Int} (h:zbL r = true):zl0 r < 27∧zbx (zl0 r) = r:=by
 have h3:=zbw h
 match r,h3 with
 | [a,b,c],_ =>
   have h0:=zcY h (j:=0) (by omega)
   have h1:=zcY h (j:=1) (by omega)
   have h2:=zcY h (j:=2) (by omega)
   simp at h0 h1 h2
   have e:zl0 [a,b,c] = (a * 9 + b * 3 + c).toNat:=rfl
   rw [e]
   refine ⟨by omega,?_⟩
   unfold zbx
   have e1:(((a * 9 + b * 3 + c).toNat / 9:Nat):Int) = a:=by omega
   have e2:(((a * 9 + b * 3 + c).toNat / 3 % 3:Nat):Int) = b:=by omega
   have e3:(((a * 9 + b * 3 + c).toNat % 3:Nat):Int) = c:=by omega
   rw [e1,e2,e3]
def zto (l:List (List Int)):List Bool:=(List.range 27).map fun n=>inP l (zbx n)
theorem zr9 (l:List (List Int)):(zto l).length = 27:=by simp [zto]
theorem zwE (l:List (List Int)) {n:Nat} (h:n < 27):(zto l).getD n false = inP l (zbx n):=by simp [zto,List.getD,h]
theorem zx8 (l:List (List Int)) {r:List Int} (h:zbL r = true):(zto l).set (zl0 r) true = zto (l ++ [r]):=by
 obtain ⟨h1,h2⟩:=zem h
 refine List.ext_getElem (by simp [zto]) fun n a b=>?_
 have hn:n < 27:=by simpa [zto] using b
 rw [List.getElem_set]
 simp only [zto,List.getElem_map,List.getElem_range]
 by_cases e:zl0 r = n
 ·subst e
  rw [if_pos rfl,h2]
  simp [inP]
 ·rw [if_neg e]
  have:r ≠ zbx n:=fun he=>e (by rw [he,zel n hn])
  simp [inP,this]
def zfS (l:List (List Int)):Nat→List (List Int)
 | 0=>[]
 | i + 1=>if inP l (zbx (26 - i)) = true then zfS l i ++ [zbx (26 - i)] else zfS l i
theorem zx9 (l:List (List Int)):∀ i,(zfS l i).length ≤ i:=by
 intro i
 induction i with
 | zero=>exact Nat.le_refl _
 | succ i ih=>unfold zfS;split;rw [List.length_append];simp;exact ih;omega
def zhD (l:List (List Int)) (i:Nat):List Nat:=((List.range i).map fun j=>26 - j).filter fun n=>inP l (zbx n)
theorem zox (l:List (List Int)) (i:Nat):zhD l (i + 1) = zhD l i ++ (if inP l (zbx (26 - i)) = true then [26 - i] else []):=by
 unfold zhD
 rw [List.range_succ,List.map_append,List.filter_append]
 congr 1
 simp only [List.map_cons,List.map_nil,List.filter_cons,List.filter_nil]
theorem zpx (l:List (List Int)):∀ i,zfS l i = (zhD l i).map zbx:=by
 intro i
 induction i with
 | zero=>rfl
 | succ i ih =>
   rw [zox,List.map_append,← ih]
   rw [show zfS l (i + 1) = if inP l (zbx (26 - i)) = true then zfS l i ++ [zbx (26 - i)] else zfS l i from rfl]
   split <;> simp
theorem zzy (l:List (List Int)):∀ i,mkO l i = ((zhD l i).filter fun n=>leP l (zbx n)).map zbx:=by
 intro i
 induction i with
 | zero=>rfl
 | succ i ih =>
   rw [zox,List.filter_append,List.map_append,← ih]
   rw [show mkO l (i + 1) = if inP l (zbx (26 - i)) = true∧leP l (zbx (26 - i)) = true then mkO l i ++ [zbx (26 - i)] else mkO l i from rfl]
   by_cases h1:inP l (zbx (26 - i)) = true
   ·by_cases h2:leP l (zbx (26 - i)) = true
    ·rw [if_pos ⟨h1,h2⟩,if_pos h1];simp [h2]
    ·rw [if_neg (fun h=>h2 h.2),if_pos h1];simp [h2]
   ·rw [if_neg (fun h=>h1 h.1),if_neg h1];simp
theorem zja (l:List (List Int)) (i:Nat):∀ n ∈ zhD l i,n < 27∧inP l (zbx n) = true:=by
 intro n hn
 obtain ⟨h1,h2⟩:=List.mem_filter.1 hn
 obtain ⟨j,_,rfl⟩:=List.mem_map.1 h1
 exact ⟨by omega,h2⟩
theorem zsa (l:List (List Int)) {n:Nat} (h:n < 27) (hi:inP l (zbx n) = true):n ∈ zhD l 27:=by
 refine List.mem_filter.2 ⟨List.mem_map.2 ⟨26 - n,List.mem_range.2 (by omega),by omega⟩,hi⟩
theorem zte (l:List (List Int)):(zhD l 27).Nodup:=by
 refine List.Pairwise.filter _ ?_
 decide
def leI (A:List (List Int)) (k j:Nat):Bool:=(List.range j).all fun t=>decide (t = k) || !zxd (A.getD t []) (A.getD k [])
theorem zya (A:List (List Int)) (k j:Nat):leI A k (j + 1) = (leI A k j && (decide (j = k) || !zxd (A.getD j []) (A.getD k []))):=by
 unfold leI;rw [List.range_succ,List.all_append];simp
def qO (A:List (List Int)) (k:Nat):List Nat:=(List.range k).filter fun t=>leI A t A.length
theorem zDe {A:List (List Int)} {k:Nat} (h:leI A k A.length = true):qO A (k + 1) = qO A k ++ [k]:=by unfold qO;rw [List.range_succ,List.filter_append];simp [h]
theorem zD4 {A:List (List Int)} {k:Nat} (h:leI A k A.length = false):qO A (k + 1) = qO A k:=by unfold qO;rw [List.range_succ,List.filter_append];simp [h]
theorem zDf (A:List (List Int)) (k:Nat):∀ t ∈ qO A k,t < k:=fun t ht=>List.mem_range.1 (List.mem_filter.1 ht).1
theorem zDg (A:List (List Int)) (k:Nat):(qO A k).length ≤ k:=by
 have:=List.length_filter_le (fun t=>leI A t A.length) (List.range k)
 rwa [List.length_range] at this
theorem zyb (A:List (List Int)) (k:Nat):(qO A k).Nodup:=List.Pairwise.filter _ List.nodup_range
theorem zyc {α:Type} (d:α) (L:List α) (p:α→Bool) (f:Nat→Bool) (h:∀ t,t < L.length→f t = p (L.getD t d)):((List.range L.length).filter f).map (fun t=>L.getD t d) = L.filter p:=by
 have e:(List.range L.length).map (fun t=>L.getD t d) = L:=by
  refine List.ext_getElem (by simp) fun i a b=>?_
  simp [List.getD,b]
 have e2:(List.range L.length).filter f = (List.range L.length).filter (p ∘ fun t=>L.getD t d):=List.filter_congr fun t ht=>h t (List.mem_range.1 ht)
 rw [e2,← List.filter_map,e]
theorem zDh {l:List (List Int)} (hal:zgx l = true):(qO (zfS l 27) (zfS l 27).length).map (fun t=>(zfS l 27).getD t []) = mkO l 27:=by
 have hA:=zpx l 27
 have hpow:∀ r ∈ l,zbL r = true:=fun r hr=>List.all_eq_true.1 hal r hr
 have hget:∀ t,t < (zhD l 27).length→(zfS l 27).getD t [] = zbx ((zhD l 27).getD t 0):=fun t ht=>by
  rw [hA];simp [List.getD,ht]
 have hlen:(zfS l 27).length = (zhD l 27).length:=by rw [hA];simp
 have hN:∀ t,t < (zhD l 27).length→(zhD l 27).getD t 0 ∈ zhD l 27:=fun t ht=>zaC 0 ht
 have hin:∀ x,inP l x = true ↔ x ∈ l:=fun x=>by simp [inP]
 unfold qO
 rw [zyc [] (zfS l 27) (leP l) _ fun t ht=>?_]
 ·rw [zzy,hA,List.filter_map]
  rfl
 ·rw [hlen] at ht
  have hx:=hget t ht
  obtain ⟨hn,hni⟩:=zja l 27 _ (hN t ht)
  have hxi:(zfS l 27).getD t [] ∈ l:=by rw [hx];exact (hin _).1 hni
  have hx3:=zbw (hpow _ hxi)
  rw [Bool.eq_iff_iff]
  unfold leI leP
  rw [List.all_eq_true,List.all_eq_true]
  constructor
  ·intro h r hr
   obtain ⟨h1,h2⟩:=zem (hpow r hr)
   have hm:=zsa l h1 (by rw [h2];exact (hin r).2 hr)
   obtain ⟨j,hj,hje⟩:=List.getElem_of_mem hm
   have hg:(zfS l 27).getD j [] = r:=by rw [hget j hj];simp [List.getD,hj,hje,h2]
   have:=h j (List.mem_range.2 (by rw [hlen];exact hj))
   rw [hg,ztd (zbw (hpow r hr))] at this
   simp only [Bool.or_eq_true,decide_eq_true_eq] at this ⊢
   rcases this with h | h
   ·left;rw [← hg,h]
   ·exact .inr h
  ·intro h j hj
   have hj:j < (zhD l 27).length:=by rw [← hlen];exact List.mem_range.1 hj
   have hgi:(zfS l 27).getD j [] ∈ l:=by rw [hget j hj];exact (hin _).1 (zja l 27 _ (hN j hj)).2
   have:=h _ hgi
   rw [ztd (zbw (hpow _ hgi))]
   simp only [Bool.or_eq_true,decide_eq_true_eq] at this ⊢
   rcases this with h | h
   ·left
    rw [hget j hj,hget t ht] at h
    have h5:=congrArg zl0 h
    rw [zel _ (zja l 27 _ (hN j hj)).1,zel _ hn] at h5
    have e1:(zhD l 27).getD j 0 = (zhD l 27)[j]:=by simp [List.getD,hj]
    have e2:(zhD l 27).getD t 0 = (zhD l 27)[t]:=by simp [List.getD,ht]
    rw [e1,e2] at h5
    exact (List.getElem_inj (h₀:=hj) (h₁:=ht) (zte l)).1 h5
   ·exact .inr h
end Go.Proofs.Ytpnknaaehcljoaa

namespace Go.Proofs.Ytpnknaaehcljoaa
open Go.Abs
open Nat (reduceEqDiff reduceMod reduceAdd reduceLT reduceLeDiff reduceSub reduceMul)
set_option linter.unusedSimpArgs false
set_option linter.unusedVariables false
theorem zDd {rw rw':Nat→Row} {k v e e2 n:Nat} {M:List (List Int)} (h:TabG rw k v e e2 n M) {q:List Nat} (hq:∀ t ∈ q,t < n) (hr:∀ j,rw' (sid k j) = rw (sid k j)):(zar k q).map (zes rw') = iLL (q.map fun t=>M.getD t []):=by
 unfold zar iLL
 rw [List.map_map,List.map_map]
 refine List.map_congr_left fun t ht=>?_
 simp only [Function.comp,zes,hr,h.row t (hq t ht),if_true]
theorem zdj (l:List (List Int)) (hx:l.length ≤ 1048576):AC Try.prog 17 [zcp l] (.tup [.ag [.tb 22 3 ((mkV l).map iL)],.im (bool (mkB l))]):=by
 refine AC.go (rs:=[.cell 2 35,.tmp 3]) zbq zaD Try.func17 rfl rfl rfl (by kernel_rfl) fun hl=>?_
 simp (maxSteps:=5000000) -dsimp only [↓gp,gq,reduceCtorEq,reduceEqDiff,reduceLT,reduceLeDiff,reduceAdd,reduceMul,reduceSub,Nat.reduceBEq,Int.reduceToNat,Int.reduceLE,Int.reduceLT,Int.reduceNeg,reduceMod,zac,zad,zab,zaa,gT,TK.isInt,TK.agg,Array.toList]
 have hz:(List.replicate 27 (Value.bool false)).map PV.v = bL (zto (l.take 0)):=by rfl
 refine zas (fun (k:Nat) s=>s.sl 2 = .ref 2 1 0∧s.rw 2 = ⟨1,.box 35 [.v (.slice none 0 0)]⟩∧s.sl 4 = .ref 4 1 0∧s.rw 4 = ⟨1,.box 82 (bL (zto (l.take k)))⟩∧s.sl 15 = zcp l∧s.sl 16 = int l.length∧s.sl 17 = int k∧(k ≤ l.length∧(l.take k).all zbL = true∧(∀ i,s.rw (sid 7 i) = ⟨0,.dead⟩)∧s.rw 91 = ⟨0,.dead⟩∧∀ i,s.rw (sid 91 i) = ⟨0,.dead⟩)) (fun k=>l.length - k) (0) (by refine ⟨?_,?_,?_,?_,?_,?_,?_,⟨by omega,rfl,fun i=>by simp (maxSteps:=5000000) -dsimp only [gr,reduceEqDiff,reduceLT,reduceAdd,reduceMod,Nat.reduceBEq,zaa,zac,zad,zab],by simp (maxSteps:=5000000) -dsimp only [gr,reduceEqDiff,reduceLT,reduceAdd,reduceMod,Nat.reduceBEq,zaa,zac,zad,zab],fun i=>by simp (maxSteps:=5000000) -dsimp only [gr,reduceEqDiff,reduceLT,reduceAdd,reduceMod,Nat.reduceBEq,zaa,zac,zad,zab]⟩⟩ <;> (first | (simp (maxSteps:=5000000) -dsimp only [gr,reduceEqDiff,reduceLT,reduceAdd,reduceMod,Nat.reduceBEq,zaa,zac,zad,zab,hz];first | done | rfl | (simp;done)) | assumption | rfl)) ?_
 intro k sa ⟨h2a,r2a,h4a,r4a,h15a,h16a,h17a,hIa⟩
 obtain ⟨hk,hal,hdi,hf0,hfi⟩:=hIa
 simp (maxSteps:=5000000) -dsimp only [↓gp,gq,reduceCtorEq,reduceEqDiff,reduceLT,reduceLeDiff,reduceAdd,reduceMul,reduceSub,Nat.reduceBEq,Int.reduceToNat,Int.reduceLE,Int.reduceLT,Int.reduceNeg,reduceMod,zac,zad,zab,zaa,gT,TK.isInt,TK.agg,Array.toList,h2a,r2a,h4a,r4a,h15a,h16a,h17a]
 refine ⟨fun h=>⟨h,h,zak (zcP _) ?_⟩,fun h=>?_⟩
 ·have e:(l.take (k + 1)).all zbL = zbL (l.getD k []):=by rw [zaF [] h,List.all_append,hal];simp
  have hpm:=fun (hp:zbL (l.getD k []) = true)=>zem hp
  have hgs:=fun (hp:zbL (l.getD k []) = true)=>zx8 (l.take k) hp
  have hgl:=zr9 (l.take k)
  have hb:=fun (hp:zbL (l.getD k []) = true) (j:Nat) (hj:j < 3)=>zcY hp hj
  have hl3:=fun (hp:zbL (l.getD k []) = true)=>zbw hp
  have etk:=zaF [] h
  simp (maxSteps:=5000000) -dsimp only [↓gp,gq,reduceCtorEq,reduceEqDiff,reduceLT,reduceLeDiff,reduceAdd,reduceMul,reduceSub,Nat.reduceBEq,Int.reduceToNat,Int.reduceLE,Int.reduceLT,Int.reduceNeg,reduceMod,zac,zad,zab,zaa,gT,TK.isInt,TK.agg,Array.toList,h2a,r2a,h4a,r4a,h15a,h16a,h17a]
  refine ⟨fun hp=>?_,fun hp=>?_⟩
  ·have hno:¬ (zgx l = true):=fun ha=>by
    have:=List.all_eq_true.1 ha _ (zaC [] h)
    rw [this] at hp;cases hp
   have e1:mkV l = []:=if_neg fun hh=>hno hh.1
   have e2:mkB l = false:=by unfold mkB;cases ha:zgx l with | true=>exact absurd ha hno | false=>rfl
   rw [e1,e2];exact ⟨rfl,rfl⟩
  ·have hp:zbL (l.getD k []) = true:=by simpa using hp
   obtain ⟨hp1,hp2⟩:=hpm hp
   have b0:=hb hp 0 (by omega)
   have b1:=hb hp 1 (by omega)
   have b2:=hb hp 2 (by omega)
   have hl3:=hl3 hp
   have hgs:=hgs hp
   rw [← etk] at hgs
   have hE:IntKind.i64.wrap (IntKind.i64.wrap (IntKind.i64.wrap ((l.getD k []).getD 0 0 * 9) + IntKind.i64.wrap ((l.getD k []).getD 1 0 * 3)) + (l.getD k []).getD 2 0) = ((zl0 (l.getD k []):Nat):Int):=by
    rw [zaq (n:=(l.getD k []).getD 0 0 * 9) (by omega) (by omega),zaq (n:=(l.getD k []).getD 1 0 * 3) (by omega) (by omega),zaq (n:=(l.getD k []).getD 0 0 * 9 + _) (by omega) (by omega),zaq (by omega) (by omega)]
    unfold zl0;omega
   rw [hE,Int.toNat_natCast,hgl]
   refine ⟨by kernel_rfl,by omega,by omega,by omega,by omega,by omega,by omega,by omega,by omega,by omega,by kernel_rfl,zai (k + 1) (by refine ⟨?_,?_,?_,?_,?_,?_,?_,⟨by omega,by rw [e];exact hp,fun i=>by simp (maxSteps:=5000000) -dsimp only [gr,reduceEqDiff,reduceLT,reduceAdd,reduceMod,Nat.reduceBEq,zaa,zac,zad,zab,hdi],by simp (maxSteps:=5000000) -dsimp only [gr,reduceEqDiff,reduceLT,reduceAdd,reduceMod,Nat.reduceBEq,zaa,zac,zad,zab,hf0],fun i=>by simp (maxSteps:=5000000) -dsimp only [gr,reduceEqDiff,reduceLT,reduceAdd,reduceMod,Nat.reduceBEq,zaa,zac,zad,zab,hfi]⟩⟩ <;> (first | (simp (maxSteps:=5000000) -dsimp only [gr,reduceEqDiff,reduceLT,reduceAdd,reduceMod,Nat.reduceBEq,zaa,zac,zad,zab,h2a,r2a,h4a,r4a,h15a,h16a,h17a,hgs,zaf h (show l.length ≤ 9223372036854775807 by omega)];first | done | rfl | (simp;done)) | assumption | rfl)) (by first | omega | (simp only;omega) | (dsimp only;omega) | (show _ < _;simp;omega))⟩
 ·have hkl:k = l.length:=by omega
  subst hkl
  rw [List.take_length] at *
  refine zhx (k:=7) (v:=(sa.rw 7).ver + 1) (e:=22) (e2:=3) (by simp (maxSteps:=5000000) -dsimp only [gr,reduceEqDiff,reduceLT,reduceAdd,reduceMod,Nat.reduceBEq,zaa,zac,zad,zab]) (fun i=>by simp (maxSteps:=5000000) -dsimp only [gr,reduceEqDiff,reduceLT,reduceAdd,reduceMod,Nat.reduceBEq,zaa,zac,zad,zab,hdi]) (fun (zb:Nat × Nat) s=>match zb with | (i,v)=>s.sl 2 = .ref 2 1 0∧s.rw 2 = ⟨1,.box 35 [.v (.slice none 0 0)]⟩∧s.sl 4 = .ref 4 1 0∧s.rw 4 = ⟨1,.box 82 (bL (zto l))⟩∧s.sl 7 = .own 7 v∧s.sl 8 = int (26 - (i:Int))∧(i ≤ 27∧TabG s.rw 7 v 22 3 (zfS l i).length (zfS l i)∧s.rw 91 = ⟨0,.dead⟩∧∀ i,s.rw (sid 91 i) = ⟨0,.dead⟩)) (fun (i,v)=>27 - i) ((0,(sa.rw 7).ver + 1)) (fun sX htX hslX hoX=>(by refine ⟨?_,?_,?_,?_,?_,?_,⟨by omega,htX,by rw [hoX _ (by decide)];simp (maxSteps:=5000000) -dsimp only [gr,reduceEqDiff,reduceLT,reduceAdd,reduceMod,Nat.reduceBEq,zaa,zac,zad,zab,hf0],fun i=>by rw [hoX _ (by rw [zaa];decide)];simp (maxSteps:=5000000) -dsimp only [gr,reduceEqDiff,reduceLT,reduceAdd,reduceMod,Nat.reduceBEq,zaa,zac,zad,zab,hfi]⟩⟩ <;> (first | (simp (maxSteps:=5000000) -dsimp only [gr,reduceEqDiff,reduceLT,reduceAdd,reduceMod,Nat.reduceBEq,zaa,zac,zad,zab,hslX,hoX,h2a,r2a,h4a,r4a,h15a,h16a,h17a,Int.natCast_zero,Int.sub_zero];first | done | rfl | (simp;done)) | assumption | rfl))) ?_
  intro (i,v) sb ⟨h2b,r2b,h4b,r4b,h7b,h8b,hIb⟩
  obtain ⟨hi,hta,hf0,hfi⟩:=hIb
  have hol:=zx9 l i
  by_cases h27:i < 27
  ·have hx:(26:Int) - (i:Int) = ((26 - i:Nat):Int):=by omega
   have hq1:(((26 - i:Nat):Int)).tdiv 9 = (((26 - i) / 9:Nat):Int):=by rw [Int.tdiv_eq_ediv_of_nonneg (by omega)];omega
   have hw9:IntKind.i64.wrap (((26 - i) / 9:Nat):Int) = (((26 - i) / 9:Nat):Int):=zaq (by omega) (by omega)
   have hw3:IntKind.i64.wrap (((26 - i) / 3:Nat):Int) = (((26 - i) / 3:Nat):Int):=zaq (by omega) (by omega)
   have hq2:(((26 - i:Nat):Int)).tdiv 3 = (((26 - i) / 3:Nat):Int):=by rw [Int.tdiv_eq_ediv_of_nonneg (by omega)];omega
   have hq3:(((26 - i) / 3:Nat):Int).tmod 3 = (((26 - i) / 3 % 3:Nat):Int):=by rw [Int.tmod_eq_emod_of_nonneg (by omega)];omega
   have hq4:(((26 - i:Nat):Int)).tmod 3 = (((26 - i) % 3:Nat):Int):=by rw [Int.tmod_eq_emod_of_nonneg (by omega)];omega
   have hgl:=zr9 l
   have hgg:=zwE l (n:=26 - i) (by omega)
   have hee:iL [(((26 - i) / 9:Nat):Int),(((26 - i) / 3 % 3:Nat):Int),(((26 - i) % 3:Nat):Int)] = iL (zbx (26 - i)):=rfl
   simp (maxSteps:=5000000) -dsimp only [↓gp,gq,reduceCtorEq,reduceEqDiff,reduceLT,reduceLeDiff,reduceAdd,reduceMul,reduceSub,Nat.reduceBEq,Int.reduceToNat,Int.reduceLE,Int.reduceLT,Int.reduceNeg,reduceMod,zac,zad,zab,zaa,gT,TK.isInt,TK.agg,Array.toList,h2b,r2b,h4b,r4b,h7b,h8b,hx,hq1,hq2,hq3,hq4,hw9,hw3,Int.toNat_natCast,hgg]
   refine ⟨by omega,by omega,fun hin=>⟨by decide,by decide,by decide,by decide,zoL ?_⟩,fun hin=>?_⟩
   ·have e:zfS l (i + 1) = zfS l i ++ [zbx (26 - i)]:=if_pos hin
    have hw26:IntKind.i64.wrap (((26 - i:Nat):Int) - 1) = 26 - ((i + 1:Nat):Int):=by rw [zaq (by omega) (by omega)];omega
    simp (maxSteps:=5000000) -dsimp only [↓gp,gq,reduceCtorEq,reduceEqDiff,reduceLT,reduceLeDiff,reduceAdd,reduceMul,reduceSub,Nat.reduceBEq,Int.reduceToNat,Int.reduceLE,Int.reduceLT,Int.reduceNeg,reduceMod,zac,zad,zab,zaa,gT,TK.isInt,TK.agg,Array.toList,h2b,r2b,h4b,r4b,h7b,h8b,hx,hta.top,zal,List.length_range]
    refine ⟨by omega,zcK (k:=7) (v:=v + 1) (e:=22) (e2:=3) (n:=(zfS l i).length) (d:=55) (vd:=(sb.rw 55).ver + 1) (M:=zfS l i) (r:=zbx (26 - i)) (by simp (maxSteps:=5000000) -dsimp only [gr,reduceEqDiff,reduceLT,reduceAdd,reduceMod,Nat.reduceBEq,zaa,zac,zad,zab,hta.top]) rfl (fun j hj=>by simp (maxSteps:=5000000) -dsimp only [gr,reduceEqDiff,reduceLT,reduceAdd,reduceMod,Nat.reduceBEq,zaa,zac,zad,zab,hta.row j hj]) (fun j hj=>by simp (maxSteps:=5000000) -dsimp only [gr,reduceEqDiff,reduceLT,reduceAdd,reduceMod,Nat.reduceBEq,zaa,zac,zad,zab,hta.rest j hj]) (by simp (maxSteps:=5000000) -dsimp only [gr,reduceEqDiff,reduceLT,reduceAdd,reduceMod,Nat.reduceBEq,zaa,zac,zad,zab,h2b,r2b,h4b,r4b,h7b,h8b];rfl) (by decide) (by decide) ((i + 1,v + 1)) (fun sX htX hslX hoX=>(by refine ⟨?_,?_,?_,?_,?_,?_,⟨by omega,by dsimp only;rw [e,List.length_append];exact htX,by rw [hoX _ (by decide) (by decide)];simp (maxSteps:=5000000) -dsimp only [gr,reduceEqDiff,reduceLT,reduceAdd,reduceMod,Nat.reduceBEq,zaa,zac,zad,zab,hf0],fun i=>by rw [hoX _ (by rw [zaa];decide) (by rw [beq_eq_false_iff_ne,zaT];omega)];simp (maxSteps:=5000000) -dsimp only [gr,reduceEqDiff,reduceLT,reduceAdd,reduceMod,Nat.reduceBEq,zaa,zac,zad,zab,hfi]⟩⟩ <;> (first | (simp (maxSteps:=5000000) -dsimp only [gr,reduceEqDiff,reduceLT,reduceAdd,reduceMod,Nat.reduceBEq,zaa,zac,zad,zab,hslX,hoX,h2b,r2b,h4b,r4b,h7b,h8b,h2b,r2b,h4b,r4b,h7b,h8b,hw26];first | done | rfl | (simp;done)) | assumption | rfl))) (by first | omega | (simp only;omega) | (dsimp only;omega) | (show _ < _;simp;omega))⟩
   ·have e:zfS l (i + 1) = zfS l i:=if_neg (by rw [hin];decide)
    have hw26:IntKind.i64.wrap (((26 - i:Nat):Int) - 1) = 26 - ((i + 1:Nat):Int):=by rw [zaq (by omega) (by omega)];omega
    exact zai ((i + 1,v)) (by refine ⟨?_,?_,?_,?_,?_,?_,⟨by omega,by dsimp only;rw [e];exact hta.same (by simp (maxSteps:=5000000) -dsimp only [gr,reduceEqDiff,reduceLT,reduceAdd,reduceMod,Nat.reduceBEq,zaa,zac,zad,zab]) (fun x=>by simp (maxSteps:=5000000) -dsimp only [gr,reduceEqDiff,reduceLT,reduceAdd,reduceMod,Nat.reduceBEq,zaa,zac,zad,zab]),by simp (maxSteps:=5000000) -dsimp only [gr,reduceEqDiff,reduceLT,reduceAdd,reduceMod,Nat.reduceBEq,zaa,zac,zad,zab,hf0],fun i=>by simp (maxSteps:=5000000) -dsimp only [gr,reduceEqDiff,reduceLT,reduceAdd,reduceMod,Nat.reduceBEq,zaa,zac,zad,zab,hfi]⟩⟩ <;> (first | (simp (maxSteps:=5000000) -dsimp only [gr,reduceEqDiff,reduceLT,reduceAdd,reduceMod,Nat.reduceBEq,zaa,zac,zad,zab,h2b,r2b,h4b,r4b,h7b,h8b,h2b,r2b,h4b,r4b,h7b,h8b,hw26];first | done | rfl | (simp;done)) | assumption | rfl)) (by first | omega | (simp only;omega) | (dsimp only;omega) | (show _ < _;simp;omega))
  ·have hi2:i = 27:=by omega
   subst hi2
   have hn2:((0:Int) ≤ 26 - ((27:Nat):Int)) = False:=eq_false (by decide)
   have hout:=zDh hal
   have hA3:∀ t,t < (zfS l 27).length→((zfS l 27).getD t []).length = 3:=fun t ht=>by
    have hm:=zaC [] ht
    rw [zpx] at hm
    obtain ⟨n,_,hn⟩:=List.mem_map.1 hm
    rw [zpx,← hn];rfl
   generalize hAe:zfS l 27 = A at *
   simp (maxSteps:=5000000) -dsimp only [↓gp,gq,reduceCtorEq,reduceEqDiff,reduceLT,reduceLeDiff,reduceAdd,reduceMul,reduceSub,Nat.reduceBEq,Int.reduceToNat,Int.reduceLE,Int.reduceLT,Int.reduceNeg,reduceMod,zac,zad,zab,zaa,gT,TK.isInt,TK.agg,Array.toList,h2b,r2b,h4b,r4b,h7b,h8b,hn2,hta.top,zal,List.length_range]
   have hq0:zar 91 (List.range 0) = zar 7 (qO A 0):=by simp only [zar,qO,List.range_zero,List.filter_nil,List.map_nil]
   refine zi2 (k:=91) (e:=22) (e2:=3) (j:=9) (v:=(sb.rw 9).ver + 1) (t:=35) (o:=0) (c:=[.v (.slice none 0 0)]) (c':=[.own 91 1]) (by simp (maxSteps:=5000000) -dsimp only [gr,reduceEqDiff,reduceLT,reduceAdd,reduceMod,Nat.reduceBEq,zaa,zac,zad,zab]) rfl rfl (by decide) (by simp (maxSteps:=5000000) -dsimp only [gr,reduceEqDiff,reduceLT,reduceAdd,reduceMod,Nat.reduceBEq,zaa,zac,zad,zab,hf0]) (fun i=>by simp (maxSteps:=5000000) -dsimp only [gr,reduceEqDiff,reduceLT,reduceAdd,reduceMod,Nat.reduceBEq,zaa,zac,zad,zab,hfi]) (fun (zc:Nat × Nat) s=>match zc with | (k,w)=>s.sl 2 = .ref 2 1 0∧s.rw 2 = ⟨1,.box 35 [.v (.slice none 0 0)]⟩∧s.sl 7 = .own 7 v∧s.rw 7 = ⟨v,.tab 22 (zar 7 (List.range A.length))⟩∧s.sl 9 = .ref 9 ((sb.rw 9).ver + 1) 0∧s.rw 9 = ⟨(sb.rw 9).ver + 1,.box 35 [.own 91 w]⟩∧s.rw 91 = ⟨w,.tab 22 (zar 7 (qO A k))⟩∧s.sl 58 = .own 7 v∧s.sl 59 = int A.length∧s.sl 60 = int k∧(k ≤ A.length∧TabG s.rw 7 v 22 3 A.length A)) (fun (k,w)=>A.length - k) ((0,1)) (fun sX htX hslX hoX=>(by refine ⟨?_,?_,?_,?_,?_,?_,?_,?_,?_,?_,⟨by omega,hta.same (by simp (maxSteps:=5000000) -dsimp only [gr,reduceEqDiff,reduceLT,reduceAdd,reduceMod,Nat.reduceBEq,zaa,zac,zad,zab,hoX]) (fun x=>by rw [hoX _ (by rw [zaa];decide) (by rw [beq_eq_false_iff_ne,zaT];omega)];simp (maxSteps:=5000000) -dsimp only [gr,reduceEqDiff,reduceLT,reduceAdd,reduceMod,Nat.reduceBEq,zaa,zac,zad,zab])⟩⟩ <;> (first | (simp (maxSteps:=5000000) -dsimp only [gr,reduceEqDiff,reduceLT,reduceAdd,reduceMod,Nat.reduceBEq,zaa,zac,zad,zab,hslX,hoX,h2b,r2b,h4b,r4b,h7b,h8b,hta.top,htX.2,htX.1.top,hq0];first | done | rfl | (simp;done)) | assumption | rfl))) ?_
   intro (k,w) sc ⟨h2c,r2c,h7c,r7c,h9c,r9c,r91c,h58c,h59c,h60c,hIc⟩
   obtain ⟨hk,htc⟩:=hIc
   have hql:=zDg A k
   simp (maxSteps:=5000000) -dsimp only [↓gp,gq,reduceCtorEq,reduceEqDiff,reduceLT,reduceLeDiff,reduceAdd,reduceMul,reduceSub,Nat.reduceBEq,Int.reduceToNat,Int.reduceLE,Int.reduceLT,Int.reduceNeg,reduceMod,zac,zad,zab,zaa,gT,TK.isInt,TK.agg,Array.toList,h2c,r2c,h7c,r7c,h9c,r9c,r91c,h58c,h59c,h60c,zal,List.length_range]
   refine ⟨fun h=>?_,fun h=>?_⟩
   ·have hrk:=htc.row k h
    have hz2:leI A k 0 = true:=rfl
    simp (maxSteps:=5000000) -dsimp only [↓gp,gq,reduceCtorEq,reduceEqDiff,reduceLT,reduceLeDiff,reduceAdd,reduceMul,reduceSub,Nat.reduceBEq,Int.reduceToNat,Int.reduceLE,Int.reduceLT,Int.reduceNeg,reduceMod,zac,zad,zab,zaa,gT,TK.isInt,TK.agg,Array.toList,h2c,r2c,h7c,r7c,h9c,r9c,r91c,h58c,h59c,h60c,zal,List.length_range,zbB,zd6 h,hrk]
    refine ⟨h,h,?_⟩
    refine zas (fun (j:Nat) s=>s.sl 2 = .ref 2 1 0∧s.rw 2 = ⟨1,.box 35 [.v (.slice none 0 0)]⟩∧s.sl 7 = .own 7 v∧s.rw 7 = ⟨v,.tab 22 (zar 7 (List.range A.length))⟩∧s.sl 9 = .ref 9 ((sb.rw 9).ver + 1) 0∧s.rw 9 = ⟨(sb.rw 9).ver + 1,.box 35 [.own 91 w]⟩∧s.rw 91 = ⟨w,.tab 22 (zar 7 (qO A k))⟩∧s.sl 58 = .own 7 v∧s.sl 59 = int A.length∧s.sl 60 = int k∧s.sl 10 = int k∧s.sl 11 = .own (sid 7 k) 1∧s.sl 12 = bool (leI A k j)∧s.sl 65 = .own 7 v∧s.sl 66 = int A.length∧s.sl 67 = int j∧(j ≤ A.length∧TabG s.rw 7 v 22 3 A.length A)) (fun j=>A.length - j) (0) (by refine ⟨?_,?_,?_,?_,?_,?_,?_,?_,?_,?_,?_,?_,?_,?_,?_,?_,⟨by omega,htc.same (by simp (maxSteps:=5000000) -dsimp only [gr,reduceEqDiff,reduceLT,reduceAdd,reduceMod,Nat.reduceBEq,zaa,zac,zad,zab]) (fun x=>by simp (maxSteps:=5000000) -dsimp only [gr,reduceEqDiff,reduceLT,reduceAdd,reduceMod,Nat.reduceBEq,zaa,zac,zad,zab])⟩⟩ <;> (first | (simp (maxSteps:=5000000) -dsimp only [gr,reduceEqDiff,reduceLT,reduceAdd,reduceMod,Nat.reduceBEq,zaa,zac,zad,zab,h2c,r2c,h7c,r7c,h9c,r9c,r91c,h58c,h59c,h60c,hz2];first | done | rfl | (simp;done)) | assumption | rfl)) ?_
    intro j sd ⟨h2d,r2d,h7d,r7d,h9d,r9d,r91d,h58d,h59d,h60d,h10d,h11d,h12d,h65d,h66d,h67d,hId⟩
    obtain ⟨hj,htd⟩:=hId
    have hrk:=htd.row k h
    have hls:=zya A k j
    simp (maxSteps:=5000000) -dsimp only [↓gp,gq,reduceCtorEq,reduceEqDiff,reduceLT,reduceLeDiff,reduceAdd,reduceMul,reduceSub,Nat.reduceBEq,Int.reduceToNat,Int.reduceLE,Int.reduceLT,Int.reduceNeg,reduceMod,zac,zad,zab,zaa,gT,TK.isInt,TK.agg,Array.toList,h2d,r2d,h7d,r7d,h9d,r9d,r91d,h58d,h59d,h60d,h10d,h11d,h12d,h65d,h66d,h67d,hrk]
    refine ⟨fun h2=>?_,fun h2=>?_⟩
    ·have hrj:=htd.row j h2
     simp (maxSteps:=5000000) -dsimp only [↓gp,gq,reduceCtorEq,reduceEqDiff,reduceLT,reduceLeDiff,reduceAdd,reduceMul,reduceSub,Nat.reduceBEq,Int.reduceToNat,Int.reduceLE,Int.reduceLT,Int.reduceNeg,reduceMod,zac,zad,zab,zaa,gT,TK.isInt,TK.agg,Array.toList,h2d,r2d,h7d,r7d,h9d,r9d,r91d,h58d,h59d,h60d,h10d,h11d,h12d,h65d,h66d,h67d,zal,List.length_range,zbB,zd6 h2,hrj,hrk]
     have hdv:=zc3 (A.getD j []) (A.getD k []) (by rw [hA3 j h2,hA3 k h];exact Nat.le_refl _)
     refine ⟨h2,h2,fun hne=>zak hdv ?_,fun hne=>?_⟩
     ·have hne:¬ j = k:=fun e=>by rw [e] at hne;simp at hne
      rw [decide_eq_false hne,Bool.false_or] at hls
      simp (maxSteps:=5000000) -dsimp only [↓gp,gq,reduceCtorEq,reduceEqDiff,reduceLT,reduceLeDiff,reduceAdd,reduceMul,reduceSub,Nat.reduceBEq,Int.reduceToNat,Int.reduceLE,Int.reduceLT,Int.reduceNeg,reduceMod,zac,zad,zab,zaa,gT,TK.isInt,TK.agg,Array.toList,h2d,r2d,h7d,r7d,h9d,r9d,r91d,h58d,h59d,h60d,h10d,h11d,h12d,h65d,h66d,h67d,zal,List.length_range,zbB,zd6 h2,hrj,hrk]
      refine ⟨fun hdd=>?_,fun hdd=>?_⟩
      ·rw [hdd,Bool.not_true,Bool.and_false] at hls
       exact zai (j + 1) (by refine ⟨?_,?_,?_,?_,?_,?_,?_,?_,?_,?_,?_,?_,?_,?_,?_,?_,⟨by omega,htd.same (by simp (maxSteps:=5000000) -dsimp only [gr,reduceEqDiff,reduceLT,reduceAdd,reduceMod,Nat.reduceBEq,zaa,zac,zad,zab]) (fun x=>by simp (maxSteps:=5000000) -dsimp only [gr,reduceEqDiff,reduceLT,reduceAdd,reduceMod,Nat.reduceBEq,zaa,zac,zad,zab])⟩⟩ <;> (first | (simp (maxSteps:=5000000) -dsimp only [gr,reduceEqDiff,reduceLT,reduceAdd,reduceMod,Nat.reduceBEq,zaa,zac,zad,zab,h2d,r2d,h7d,r7d,h9d,r9d,r91d,h58d,h59d,h60d,h10d,h11d,h12d,h65d,h66d,h67d,hls,zaf h2 (show A.length ≤ 9223372036854775807 by omega)];first | done | rfl | (simp;done)) | assumption | rfl)) (by first | omega | (simp only;omega) | (dsimp only;omega) | (show _ < _;simp;omega))
      ·rw [hdd,Bool.not_false,Bool.and_true] at hls
       exact zai (j + 1) (by refine ⟨?_,?_,?_,?_,?_,?_,?_,?_,?_,?_,?_,?_,?_,?_,?_,?_,⟨by omega,htd.same (by simp (maxSteps:=5000000) -dsimp only [gr,reduceEqDiff,reduceLT,reduceAdd,reduceMod,Nat.reduceBEq,zaa,zac,zad,zab]) (fun x=>by simp (maxSteps:=5000000) -dsimp only [gr,reduceEqDiff,reduceLT,reduceAdd,reduceMod,Nat.reduceBEq,zaa,zac,zad,zab])⟩⟩ <;> (first | (simp (maxSteps:=5000000) -dsimp only [gr,reduceEqDiff,reduceLT,reduceAdd,reduceMod,Nat.reduceBEq,zaa,zac,zad,zab,h2d,r2d,h7d,r7d,h9d,r9d,r91d,h58d,h59d,h60d,h10d,h11d,h12d,h65d,h66d,h67d,hls,zaf h2 (show A.length ≤ 9223372036854775807 by omega)];first | done | rfl | (simp;done)) | assumption | rfl)) (by first | omega | (simp only;omega) | (dsimp only;omega) | (show _ < _;simp;omega))
     ·have hne:j = k:=by simp at hne;omega
      rw [decide_eq_true hne,Bool.true_or,Bool.and_true] at hls
      exact zai (j + 1) (by refine ⟨?_,?_,?_,?_,?_,?_,?_,?_,?_,?_,?_,?_,?_,?_,?_,?_,⟨by omega,htd.same (by simp (maxSteps:=5000000) -dsimp only [gr,reduceEqDiff,reduceLT,reduceAdd,reduceMod,Nat.reduceBEq,zaa,zac,zad,zab]) (fun x=>by simp (maxSteps:=5000000) -dsimp only [gr,reduceEqDiff,reduceLT,reduceAdd,reduceMod,Nat.reduceBEq,zaa,zac,zad,zab])⟩⟩ <;> (first | (simp (maxSteps:=5000000) -dsimp only [gr,reduceEqDiff,reduceLT,reduceAdd,reduceMod,Nat.reduceBEq,zaa,zac,zad,zab,h2d,r2d,h7d,r7d,h9d,r9d,r91d,h58d,h59d,h60d,h10d,h11d,h12d,h65d,h66d,h67d,hls,zaf h2 (show A.length ≤ 9223372036854775807 by omega)];first | done | rfl | (simp;done)) | assumption | rfl)) (by first | omega | (simp only;omega) | (dsimp only;omega) | (show _ < _;simp;omega))
    ·have hj2:j = A.length:=by omega
     subst hj2
     refine ⟨fun hle=>zoL ?_,fun hle=>?_⟩
     ·have hq:=zDe hle
      have hqc:zar 7 (qO A (k + 1)) = zar 7 (qO A k) ++ [.own (sid 7 k) 1]:=by rw [hq];simp [zar]
      simp (maxSteps:=5000000) -dsimp only [↓gp,gq,reduceCtorEq,reduceEqDiff,reduceLT,reduceLeDiff,reduceAdd,reduceMul,reduceSub,Nat.reduceBEq,Int.reduceToNat,Int.reduceLE,Int.reduceLT,Int.reduceNeg,reduceMod,zac,zad,zab,zaa,gT,TK.isInt,TK.agg,Array.toList,h2d,r2d,h7d,r7d,h9d,r9d,r91d,h58d,h59d,h60d,h10d,h11d,h12d,h65d,h66d,h67d,hrk,zal]
      rw [← hq]
      exact ⟨by omega,zai ((k + 1,w + 1)) (by refine ⟨?_,?_,?_,?_,?_,?_,?_,?_,?_,?_,⟨by dsimp only;omega,htd.same (by simp (maxSteps:=5000000) -dsimp only [gr,reduceEqDiff,reduceLT,reduceAdd,reduceMod,Nat.reduceBEq,zaa,zac,zad,zab]) (fun x=>by simp (maxSteps:=5000000) -dsimp only [gr,reduceEqDiff,reduceLT,reduceAdd,reduceMod,Nat.reduceBEq,zaa,zac,zad,zab])⟩⟩ <;> (first | (simp (maxSteps:=5000000) -dsimp only [gr,reduceEqDiff,reduceLT,reduceAdd,reduceMod,Nat.reduceBEq,zaa,zac,zad,zab,h2c,r2c,h7c,r7c,h9c,r9c,r91c,h58c,h59c,h60c,h2d,r2d,h7d,r7d,h9d,r9d,r91d,h58d,h59d,h60d,h10d,h11d,h12d,h65d,h66d,h67d,hq,zaf h (show A.length ≤ 9223372036854775807 by omega)];first | done | rfl | (simp;done)) | assumption | rfl)) (by first | omega | (simp only;omega) | (dsimp only;omega) | (show _ < _;simp;omega))⟩
     ·have hq:=zD4 hle
      exact zai ((k + 1,w)) (by refine ⟨?_,?_,?_,?_,?_,?_,?_,?_,?_,?_,⟨by dsimp only;omega,htd.same (by simp (maxSteps:=5000000) -dsimp only [gr,reduceEqDiff,reduceLT,reduceAdd,reduceMod,Nat.reduceBEq,zaa,zac,zad,zab]) (fun x=>by simp (maxSteps:=5000000) -dsimp only [gr,reduceEqDiff,reduceLT,reduceAdd,reduceMod,Nat.reduceBEq,zaa,zac,zad,zab])⟩⟩ <;> (first | (simp (maxSteps:=5000000) -dsimp only [gr,reduceEqDiff,reduceLT,reduceAdd,reduceMod,Nat.reduceBEq,zaa,zac,zad,zab,h2c,r2c,h7c,r7c,h9c,r9c,r91c,h58c,h59c,h60c,h2d,r2d,h7d,r7d,h9d,r9d,r91d,h58d,h59d,h60d,h10d,h11d,h12d,h65d,h66d,h67d,hq,zaf h (show A.length ≤ 9223372036854775807 by omega)];first | done | rfl | (simp;done)) | assumption | rfl)) (by first | omega | (simp only;omega) | (dsimp only;omega) | (show _ < _;simp;omega))
   ·have hk2:k = A.length:=by omega
    subst hk2
    rw [zDd htc (zDf A A.length) (fun j=>rfl),hout]
    refine zak (za5 _) ?_
    rw [← zkP]
    simp (maxSteps:=5000000) -dsimp only [↓gp,gq,reduceCtorEq,reduceEqDiff,reduceLT,reduceLeDiff,reduceAdd,reduceMul,reduceSub,Nat.reduceBEq,Int.reduceToNat,Int.reduceLE,Int.reduceLT,Int.reduceNeg,reduceMod,zac,zad,zab,zaa,gT,TK.isInt,TK.agg,Array.toList,h2c,r2c,h7c,r7c,h9c,r9c,r91c,h58c,h59c,h60c]
    refine ⟨fun hp=>?_,fun hp=>?_⟩
    ·have hp:p19 (mkO l 27) = false:=by simpa using hp
     have e1:mkV l = []:=if_neg fun hh=>by rw [hh.2] at hp;cases hp
     have e2:mkB l = false:=by unfold mkB;rw [hp,Bool.and_false]
     rw [e1,e2];exact ⟨rfl,rfl⟩
    ·have hp:p19 (mkO l 27) = true:=by simpa using hp
     have hal2:zgx l = true:=hal
     have e1:mkV l = mkO l 27:=if_pos ⟨hal2,hp⟩
     have e2:mkB l = true:=by unfold mkB;rw [hp,hal2];rfl
     rw [e1,e2]
     have hqn:=zyb A A.length
     have hqlt:=zDf A A.length
     refine zwg (k2:=7) (q:=qO A A.length) (by simp (maxSteps:=5000000) -dsimp only [gr,reduceEqDiff,reduceLT,reduceAdd,reduceMod,Nat.reduceBEq,zaa,zac,zad,zab,h2c,r2c,h7c,r7c,h9c,r9c,r91c,h58c,h59c,h60c]) (by decide) (by decide) (fun j hj=>by have:=hqlt j hj;omega) (by rw [← hout,List.length_map]) (fun i hi=>?_) ?_
     ·have:=htc.row _ (hqlt _ (List.getElem_mem hi))
      have e3:(mkO l 27).getD i [] = A.getD ((qO A A.length)[i]) []:=by rw [← hout];simp [List.getD,hi]
      rw [e3]
      simp (maxSteps:=5000000) -dsimp only [gr,reduceEqDiff,reduceLT,reduceAdd,reduceMod,Nat.reduceBEq,zaa,zac,zad,zab,this]
     ·simp only [kk,zoB]
      exact ⟨rfl,by simpa using zAh (k:=91) (k2:=7) (by decide) hqn⟩
end Go.Proofs.Ytpnknaaehcljoaa

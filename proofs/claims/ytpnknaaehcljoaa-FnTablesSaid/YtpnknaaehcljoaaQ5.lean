/- DERIVED by an AI agent. -/
import Derived.Test.YtpnknaaehcljoaaQ4
import Derived.Test.YtpnknaaehcljoaaQ1
import Derived.Test.YtpnknaaehcljoaaA13
import Derived.Test.YtpnknaaehcljoaaP1
import Derived.Test.YtpnknaaehcljoaaQ3
import Derived.Test.YtpnknaaehcljoaaA12
namespace Go.Proofs.Ytpnknaaehcljoaa
open Go.Abs
open Nat (reduceEqDiff reduceMod reduceAdd reduceLT reduceLeDiff reduceSub reduceMul)
set_option linter.unusedSimpArgs false
set_option linter.unusedVariables false
def dx1:ByteArray:=⟨#[54,58,97,98,100,44,97,98,101,44,97,99,101,44,98,99,101,44,99,100,101,44,97,99,102,44,98,99,102,44,97,100,102,44,98,100,102]⟩
theorem zOd:OkText dx1 6 ⟨#[97,98,100,44,97,98,101,44,97,99,101,44,98,99,101,44,99,100,101,44,97,99,102,44,98,99,102,44,97,100,102,44,98,100,102]⟩ [⟨#[97,98,100]⟩,⟨#[97,98,101]⟩,⟨#[97,99,101]⟩,⟨#[98,99,101]⟩,⟨#[99,100,101]⟩,⟨#[97,99,102]⟩,⟨#[98,99,102]⟩,⟨#[97,100,102]⟩,⟨#[98,100,102]⟩]:=zij (by kernel_rfl) (by kernel_rfl) (by kernel_rfl) (by kernel_rfl) (by kernel_rfl) (by kernel_rfl) (by kernel_rfl) (by kernel_rfl) (by kernel_rfl) (by kernel_rfl) (by kernel_rfl) (by kernel_rfl)
def dx2:ByteArray:=⟨#[52,58,97,98,99,44,97,98,100]⟩
theorem zOe:OkText dx2 4 ⟨#[97,98,99,44,97,98,100]⟩ [⟨#[97,98,99]⟩,⟨#[97,98,100]⟩]:=zij (by kernel_rfl) (by kernel_rfl) (by kernel_rfl) (by kernel_rfl) (by kernel_rfl) (by kernel_rfl) (by kernel_rfl) (by kernel_rfl) (by kernel_rfl) (by kernel_rfl) (by kernel_rfl) (by kernel_rfl)
def dxL:List ByteArray:=[ex5,ex2,dx1,ex3,ex7,ex6,ex4,dx2]
theorem zHb {t:ByteArray} (h:t ∈ dxL):∃ n rest ps,OkText t n rest ps∧n ≤ 6∧ps.length ≤ 10:=by
 simp only [dxL,List.mem_cons,List.not_mem_nil,or_false] at h
 rcases h with rfl | rfl | rfl | rfl | rfl | rfl | rfl | rfl
 ·exact ⟨_,_,_,zOi,by decide,by decide⟩
 ·exact ⟨_,_,_,zOf,by decide,by decide⟩
 ·exact ⟨_,_,_,zOd,by decide,by decide⟩
 ·exact ⟨_,_,_,zOg,by decide,by decide⟩
 ·exact ⟨_,_,_,zOk,by decide,by decide⟩
 ·exact ⟨_,_,_,zOj,by decide,by decide⟩
 ·exact ⟨_,_,_,zOh,by decide,by decide⟩
 ·exact ⟨_,_,_,zOe,by decide,by decide⟩
theorem zz4 {m:Nat} {ps:List ByteArray} (hm:m ≤ 6) (hps:ps.length ≤ 10):kcx cxQ (.ag [.im (int m),.fr 3 1 (iL (zsc ps))]) :=
 ⟨_,_,rfl,by omega,by omega,by rw [zu1,zao,List.length_map];omega⟩
theorem zfx (n:Nat) (hn1:1 ≤ n) (hn:n ≤ 6):AC Try.prog 203 [int n] (.tup [.ag [.im (int n),.fr 3 1 (iL (ofN (zgj (inF (ofN (List.range (2 ^ n - 1)))) true)))],.im (bool true)]):=by
 refine AC.go (rs:=[.cell 2 27,.tmp 3]) zbc zax Try.func203 rfl rfl rfl (by kernel_rfl) fun hl=>?_
 have h64:=zaN hn
 have hp:0 < 2 ^ n:=Nat.pow_pos (by omega)
 have hsh:zuG .i64 1 (n:Int) = ((2 ^ n:Nat):Int):=zb1 (by omega)
 have hun:IntKind.u64.wrap (n:Int) = (n:Int):=zco (by omega)
 have hw:IntKind.i64.wrap (((2 ^ n:Nat):Int) - 1) = ((2 ^ n - 1:Nat):Int):=by rw [zan (by omega) (by omega)];omega
 simp (maxSteps:=5000000) -dsimp only [↓gp,gq,reduceCtorEq,reduceEqDiff,reduceLT,reduceLeDiff,reduceAdd,reduceMul,reduceSub,Nat.reduceBEq,Int.reduceToNat,Int.reduceLE,Int.reduceLT,Int.reduceNeg,reduceMod,zac,zad,zab,zaa,gT,TK.isInt,TK.agg,Array.toList]
 refine zag (zbo _ _ _) ?_
 have hin:(decide (1 ≤ (n:Int)) && decide ((n:Int) ≤ 6)) = true:=by rw [decide_eq_true (by omega),decide_eq_true (by omega)];rfl
 simp (maxSteps:=5000000) -dsimp only [↓gp,gq,reduceCtorEq,reduceEqDiff,reduceLT,reduceLeDiff,reduceAdd,reduceMul,reduceSub,Nat.reduceBEq,Int.reduceToNat,Int.reduceLE,Int.reduceLT,Int.reduceNeg,reduceMod,zac,zad,zab,zaa,gT,TK.isInt,TK.agg,Array.toList,hin]
 refine zar (fun (za:Nat × Nat) s=>match za with | (k,v)=>s.sl 0 = int n∧s.sl 2 = .ref 2 1 0∧s.rw 2 = ⟨1,.box 27 [int 0,.v (.slice none 0 0)]⟩∧s.sl 4 = .own 10 v∧s.rw 10 = ⟨v,.sli 3 1 false (iL (ofN (List.range k)))⟩∧s.sl 5 = int k∧(k ≤ 2 ^ n - 1)) (fun (k,v)=>2 ^ n - 1 - k) ((0,1)) (by refine ⟨?_,?_,?_,?_,?_,?_,Nat.zero_le _⟩ <;> (first | (simp (maxSteps:=5000000) -dsimp only [gr,reduceEqDiff,reduceLT,reduceAdd,reduceMod,Nat.reduceBEq,zaa,zac,zad,zab];first | done | rfl | (simp;done)) | assumption | rfl)) ?_
 intro (k,v) sa ⟨h0a,h2a,r2a,h4a,r10a,h5a,hIa⟩
 simp (maxSteps:=5000000) -dsimp only [↓gp,gq,reduceCtorEq,reduceEqDiff,reduceLT,reduceLeDiff,reduceAdd,reduceMul,reduceSub,Nat.reduceBEq,Int.reduceToNat,Int.reduceLE,Int.reduceLT,Int.reduceNeg,reduceMod,zac,zad,zab,zaa,gT,TK.isInt,TK.agg,Array.toList,h0a,h2a,r2a,h4a,r10a,h5a,hsh,hun,hw]
 refine ⟨fun h=>?_,fun h=>?_⟩
 ·simp (maxSteps:=5000000) -dsimp only [↓gp,gq,reduceCtorEq,reduceEqDiff,reduceLT,reduceLeDiff,reduceAdd,reduceMul,reduceSub,Nat.reduceBEq,Int.reduceToNat,Int.reduceLE,Int.reduceLT,Int.reduceNeg,reduceMod,zac,zad,zab,zaa,gT,TK.isInt,TK.agg,Array.toList,h0a,h2a,r2a,h4a,r10a,h5a,zao,List.length_range]
  refine ⟨by omega,?_⟩
  exact zah ((k + 1,v + 1)) (by refine ⟨?_,?_,?_,?_,?_,?_,by dsimp only;omega⟩ <;> (first | (simp (maxSteps:=5000000) -dsimp only [gr,reduceEqDiff,reduceLT,reduceAdd,reduceMod,Nat.reduceBEq,zaa,zac,zad,zab,h0a,h2a,r2a,h4a,r10a,h5a,List.range_succ,zbi,zd6,zae h (by omega)];first | done | rfl | (simp;done)) | assumption | rfl)) (by first | omega | (simp only;omega) | (dsimp only;omega) | (show _ < _;simp;omega))
 ·have hk:k = 2 ^ n - 1:=by omega
  rw [hk] at r10a ⊢
  have hok:okS (ofN (List.range (2 ^ n - 1))):=fun x hx=>by
   obtain ⟨s,hs,rfl⟩:=List.mem_map.1 hx
   have:=List.mem_range.1 hs
   omega
  refine zag (zb2 n _ hok) ?_
  simp (maxSteps:=5000000) -dsimp only [↓gp,gq,reduceCtorEq,reduceEqDiff,reduceLT,reduceLeDiff,reduceAdd,reduceMul,reduceSub,Nat.reduceBEq,Int.reduceToNat,Int.reduceLE,Int.reduceLT,Int.reduceNeg,reduceMod,zac,zad,zab,zaa,gT,TK.isInt,TK.agg,Array.toList,h0a,h2a,r2a,h4a,r10a,h5a]
theorem znW (bs:List Int) (hbs:bs.length ≤ 9223372036854775806):zv8 Try.prog 189 TC bs ⟨0,.dead⟩ [] (kcx cxQ):=by
 intro i h
 refine AG.go (rs:=[.cell 2 27]) zbc zax Try.func189 rfl rfl rfl (by kernel_rfl) fun hl _ s hs hR=>?_
 have e0:s.rw 1000000 = ⟨1,.box TC [.sl false 1 (kL .u8 bs),int i,int h]⟩:=by rw [hR];rfl
 have e1:s.rw 1000500 = ⟨0,.dead⟩:=by rw [hR];rfl
 have elo:∀ k,k < 1000000→s.rw k = ⟨0,.dead⟩:=fun k hk=>by rw [hR];exact zkY hk
 simp (maxSteps:=5000000) -dsimp only [↓gp,gq,reduceCtorEq,reduceEqDiff,reduceLT,reduceLeDiff,reduceAdd,reduceMul,reduceSub,Nat.reduceBEq,Int.reduceToNat,Int.reduceLE,Int.reduceLT,Int.reduceNeg,reduceMod,zac,zad,zab,zaa,gT,TK.isInt,TK.agg,Array.toList,hs,e0,elo]
 refine zaG (zcW bs hbs [1,2,3,4,4,5,5,6] (by decide) (by decide)) (.some (j:=9) (by simp (maxSteps:=5000000) -dsimp only [gr,reduceEqDiff,reduceLT,reduceAdd,reduceMod,Nat.reduceBEq,zaa,zac,zad,zab,elo] <;> rfl) (zc2 _)) (by simp (maxSteps:=5000000) -dsimp only [gr,reduceEqDiff,reduceLT,reduceAdd,reduceMod,Nat.reduceBEq,zaa,zac,zad,zab,e0] <;> rfl) (.one (zbR (by simp (maxSteps:=5000000) -dsimp only [gr,reduceEqDiff,reduceLT,reduceAdd,reduceMod,Nat.reduceBEq,zaa,zac,zad,zab,e0] <;> rfl)) (.one (zkZ (by simp (maxSteps:=5000000) -dsimp only [gr,reduceEqDiff,reduceLT,reduceAdd,reduceMod,Nat.reduceBEq,zaa,zac,zad,zab,elo])) .nil)) rfl (fun j hj=>by cases hj;exact ⟨rfl,rfl⟩) fun rv i1 g1 ⟨n0,hrv,hc⟩=>?_
 subst hrv
 obtain ⟨n,rfl,hn1,hn⟩:∃ n:Nat,n0 = n∧1 ≤ n∧n ≤ 6:=by
  have hc:n0 ∈ [1,2,3,4,4,5,5,6]:=hc
  simp at hc
  exact ⟨n0.toNat,by omega,by omega,by omega⟩
 simp (maxSteps:=5000000) -dsimp only [↓gp,gq,reduceCtorEq,reduceEqDiff,reduceLT,reduceLeDiff,reduceAdd,reduceMul,reduceSub,Nat.reduceBEq,Int.reduceToNat,Int.reduceLE,Int.reduceLT,Int.reduceNeg,reduceMod,zac,zad,zab,zaa,gT,TK.isInt,TK.agg,Array.toList,hs,e0,elo]
 refine zaG (zaY bs hbs 8 (by decide)) .none (by simp (maxSteps:=5000000) -dsimp only [gr,reduceEqDiff,reduceLT,reduceAdd,reduceMod,Nat.reduceBEq,zaa,zac,zad,zab,e0,elo] <;> rfl) (GvL.one (zbR (by simp (maxSteps:=5000000) -dsimp only [gr,reduceEqDiff,reduceLT,reduceAdd,reduceMod,Nat.reduceBEq,zaa,zac,zad,zab,e0,elo] <;> rfl)) (by repeat (first | exact GvL.nil | refine GvL.one (GvA.v _) ?_ | refine GvL.one (GvA.sl _ _ _) ?_))) rfl (fun _ h=>by cases h) fun rv i2 g2 ⟨x,hrv,hx⟩=>?_
 subst hrv
 simp (maxSteps:=5000000) -dsimp only [↓gp,gq,reduceCtorEq,reduceEqDiff,reduceLT,reduceLeDiff,reduceAdd,reduceMul,reduceSub,Nat.reduceBEq,Int.reduceToNat,Int.reduceLE,Int.reduceLT,Int.reduceNeg,reduceMod,zac,zad,zab,zaa,gT,TK.isInt,TK.agg,Array.toList,hs,e0,elo]
 refine ⟨fun h0=>zag (zfx n hn1 hn) ?_,fun h0=>⟨fun h1=>?_,fun h1=>?_⟩⟩
 ·simp (maxSteps:=5000000) -dsimp only [↓gp,gq,reduceCtorEq,reduceEqDiff,reduceLT,reduceLeDiff,reduceAdd,reduceMul,reduceSub,Nat.reduceBEq,Int.reduceToNat,Int.reduceLE,Int.reduceLT,Int.reduceNeg,reduceMod,zac,zad,zab,zaa,gT,TK.isInt,TK.agg,Array.toList,e0,elo]
  exact ⟨_,i2,g2,_,zsb hn _ _,.one (.ag (.cons (.im _) (.cons (.fr (by simp (maxSteps:=5000000) -dsimp only [gr,reduceEqDiff,reduceLT,reduceAdd,reduceMod,Nat.reduceBEq,zaa,zac,zad,zab] <;> rfl) (by decide)) .nil))),by simp,by simp (maxSteps:=5000000) -dsimp only [gr,reduceEqDiff,reduceLT,reduceAdd,reduceMod,Nat.reduceBEq,zaa,zac,zad,zab] <;> rfl,by simp (maxSteps:=5000000) -dsimp only [gr,reduceEqDiff,reduceLT,reduceAdd,reduceMod,Nat.reduceBEq,zaa,zac,zad,zab,e1]⟩
 ·refine zaG (znU bs hbs dxL (by decide) (by decide)) (.some (j:=25) (by simp (maxSteps:=5000000) -dsimp only [gr,reduceEqDiff,reduceLT,reduceAdd,reduceMod,Nat.reduceBEq,zaa,zac,zad,zab,elo] <;> rfl) (zAX _)) (by simp (maxSteps:=5000000) -dsimp only [gr,reduceEqDiff,reduceLT,reduceAdd,reduceMod,Nat.reduceBEq,zaa,zac,zad,zab,e0] <;> rfl) (.one (zbR (by simp (maxSteps:=5000000) -dsimp only [gr,reduceEqDiff,reduceLT,reduceAdd,reduceMod,Nat.reduceBEq,zaa,zac,zad,zab,e0] <;> rfl)) (.one (zkZ (by simp (maxSteps:=5000000) -dsimp only [gr,reduceEqDiff,reduceLT,reduceAdd,reduceMod,Nat.reduceBEq,zaa,zac,zad,zab,elo])) .nil)) rfl (fun j hj=>by cases hj;exact ⟨rfl,rfl⟩) fun rv i3 g3 ⟨t,hrv,ht⟩=>?_
  subst hrv
  obtain ⟨m,rest,ps,hok,hm,hps⟩:=zHb ht
  simp (maxSteps:=5000000) -dsimp only [↓gp,gq,reduceCtorEq,reduceEqDiff,reduceLT,reduceLeDiff,reduceAdd,reduceMul,reduceSub,Nat.reduceBEq,Int.reduceToNat,Int.reduceLE,Int.reduceLT,Int.reduceNeg,reduceMod,zac,zad,zab,zaa,gT,TK.isInt,TK.agg,Array.toList,hs,e0,elo]
  refine zag (zf4 hok) ?_
  simp (maxSteps:=5000000) -dsimp only [↓gp,gq,reduceCtorEq,reduceEqDiff,reduceLT,reduceLeDiff,reduceAdd,reduceMul,reduceSub,Nat.reduceBEq,Int.reduceToNat,Int.reduceLE,Int.reduceLT,Int.reduceNeg,reduceMod,zac,zad,zab,zaa,gT,TK.isInt,TK.agg,Array.toList,e0,elo]
  exact ⟨_,i3,g3,_,zz4 hm hps,.one (.ag (.cons (.im _) (.cons (.fr (by simp (maxSteps:=5000000) -dsimp only [gr,reduceEqDiff,reduceLT,reduceAdd,reduceMod,Nat.reduceBEq,zaa,zac,zad,zab] <;> rfl) (by decide)) .nil))),by simp,by simp (maxSteps:=5000000) -dsimp only [gr,reduceEqDiff,reduceLT,reduceAdd,reduceMod,Nat.reduceBEq,zaa,zac,zad,zab] <;> rfl,by simp (maxSteps:=5000000) -dsimp only [gr,reduceEqDiff,reduceLT,reduceAdd,reduceMod,Nat.reduceBEq,zaa,zac,zad,zab,e1]⟩
 ·have hP:∀ (S:St) (K:St→Prop) (u1:Dm S) (u2:Dm K) (lents:List PV) (Ka:RV→Prop) (d:Nat) (g:FuncId),zv8 Try.prog g TC bs ⟨0,.dead⟩ [int n] (kcx cxQ)→S.rw 1000000 = ⟨1,.box TC [.sl false 1 (kL .u8 bs),int i2,int g2]⟩→(d % 1000 == 0) = false →
   (∀ (j:Nat) (y m:Int) (xs:List Int),cxQ m xs→K (zam (S.row 1000000 ⟨1,.box TC [.sl false 1 (kL .u8 bs),int j,int y]⟩) d (.ag [.im (int m),.fr 3 1 (iL xs)])))→zjE Try.prog g lents Ka (zwi Try.prog g lents [.ref 1000000 1 0,int n] (some d) (kk S u1) (kk K u2)):=fun S K u1 u2 lents Ka d g hg hS hd hK =>
   zaG hg .none hS (GvL.one (zbR (by rw [hS])) (by repeat (first | exact GvL.nil | refine GvL.one (GvA.v _) ?_ | refine GvL.one (GvA.sl _ _ _) ?_))) hd (fun _ h=>by cases h) fun rv i3 g3 ⟨m,xs,hrv,hq⟩=>by subst hrv;exact hK i3 g3 m xs hq
  have hp:=znX bs hbs n hn1 hn
  have hz:=zg8 bs hbs n hn1 hn
  refine ⟨fun h2=>⟨fun h3=>hP _ _ _ _ _ _ _ _ hp (by simp (maxSteps:=5000000) -dsimp only [gr,reduceEqDiff,reduceLT,reduceAdd,reduceMod,Nat.reduceBEq,zaa,zac,zad,zab]) rfl fun i3 g3 m xs hq=>?_,fun h3=>hP _ _ _ _ _ _ _ _ hz (by simp (maxSteps:=5000000) -dsimp only [gr,reduceEqDiff,reduceLT,reduceAdd,reduceMod,Nat.reduceBEq,zaa,zac,zad,zab]) rfl fun i3 g3 m xs hq=>?_⟩,fun h2=>⟨fun h3=>hP _ _ _ _ _ _ _ _ hp (by simp (maxSteps:=5000000) -dsimp only [gr,reduceEqDiff,reduceLT,reduceAdd,reduceMod,Nat.reduceBEq,zaa,zac,zad,zab]) rfl fun i3 g3 m xs hq=>?_,fun h3=>hP _ _ _ _ _ _ _ _ hz (by simp (maxSteps:=5000000) -dsimp only [gr,reduceEqDiff,reduceLT,reduceAdd,reduceMod,Nat.reduceBEq,zaa,zac,zad,zab]) rfl fun i3 g3 m xs hq=>?_⟩⟩
  all_goals
   simp (maxSteps:=5000000) -dsimp only [↓gp,gq,reduceCtorEq,reduceEqDiff,reduceLT,reduceLeDiff,reduceAdd,reduceMul,reduceSub,Nat.reduceBEq,Int.reduceToNat,Int.reduceLE,Int.reduceLT,Int.reduceNeg,reduceMod,zac,zad,zab,zaa,gT,TK.isInt,TK.agg,Array.toList,e0,elo]
   exact ⟨_,i3,g3,_,⟨_,_,rfl,hq⟩,.one (.ag (.cons (.im _) (.cons (.fr (by simp (maxSteps:=5000000) -dsimp only [gr,reduceEqDiff,reduceLT,reduceAdd,reduceMod,Nat.reduceBEq,zaa,zac,zad,zab] <;> rfl) (by decide)) .nil))),by simp,by simp (maxSteps:=5000000) -dsimp only [gr,reduceEqDiff,reduceLT,reduceAdd,reduceMod,Nat.reduceBEq,zaa,zac,zad,zab] <;> rfl,by simp (maxSteps:=5000000) -dsimp only [gr,reduceEqDiff,reduceLT,reduceAdd,reduceMod,Nat.reduceBEq,zaa,zac,zad,zab,e1]⟩
theorem zg7 (bs:List Int) (hbs:bs.length ≤ 9223372036854775806):zv8 Try.prog 153 TC bs ⟨0,.dead⟩ [] (kcx fun n xs=>0 ≤ n∧n ≤ 7∧xs.length ≤ 450):=by
 intro i h
 refine AG.go (rs:=[.cell 2 27]) zbc zax Try.func153 rfl rfl rfl (by kernel_rfl) fun hl _ s hs hR=>?_
 have e0:s.rw 1000000 = ⟨1,.box TC [.sl false 1 (kL .u8 bs),int i,int h]⟩:=by rw [hR];rfl
 have e1:s.rw 1000500 = ⟨0,.dead⟩:=by rw [hR];rfl
 have elo:∀ k,k < 1000000→s.rw k = ⟨0,.dead⟩:=fun k hk=>by rw [hR];exact zkY hk
 simp (maxSteps:=5000000) -dsimp only [↓gp,gq,reduceCtorEq,reduceEqDiff,reduceLT,reduceLeDiff,reduceAdd,reduceMul,reduceSub,Nat.reduceBEq,Int.reduceToNat,Int.reduceLE,Int.reduceLT,Int.reduceNeg,reduceMod,zac,zad,zab,zaa,gT,TK.isInt,TK.agg,Array.toList,hs,e0,elo]
 refine zaG (znW bs hbs) .none (by simp (maxSteps:=5000000) -dsimp only [gr,reduceEqDiff,reduceLT,reduceAdd,reduceMod,Nat.reduceBEq,zaa,zac,zad,zab,e0,elo] <;> rfl) (GvL.one (zbR (by simp (maxSteps:=5000000) -dsimp only [gr,reduceEqDiff,reduceLT,reduceAdd,reduceMod,Nat.reduceBEq,zaa,zac,zad,zab,e0,elo] <;> rfl)) (by repeat (first | exact GvL.nil | refine GvL.one (GvA.v _) ?_ | refine GvL.one (GvA.sl _ _ _) ?_))) rfl (fun _ h=>by cases h) fun rv i1 g1 ⟨n,xs,hrv,hq⟩=>?_
 subst hrv
 obtain ⟨hn0,hn7,hxl⟩:=hq
 simp (maxSteps:=5000000) -dsimp only [↓gp,gq,reduceCtorEq,reduceEqDiff,reduceLT,reduceLeDiff,reduceAdd,reduceMul,reduceSub,Nat.reduceBEq,Int.reduceToNat,Int.reduceLE,Int.reduceLT,Int.reduceNeg,reduceMod,zac,zad,zab,zaa,gT,TK.isInt,TK.agg,Array.toList,hs,e0,elo]
 refine zaG (zaY bs hbs 14 (by decide)) .none (by simp (maxSteps:=5000000) -dsimp only [gr,reduceEqDiff,reduceLT,reduceAdd,reduceMod,Nat.reduceBEq,zaa,zac,zad,zab,e0,elo] <;> rfl) (GvL.one (zbR (by simp (maxSteps:=5000000) -dsimp only [gr,reduceEqDiff,reduceLT,reduceAdd,reduceMod,Nat.reduceBEq,zaa,zac,zad,zab,e0,elo] <;> rfl)) (by repeat (first | exact GvL.nil | refine GvL.one (GvA.v _) ?_ | refine GvL.one (GvA.sl _ _ _) ?_))) rfl (fun _ h=>by cases h) fun rv i2 g2 ⟨x,hrv,hx⟩=>?_
 subst hrv
 simp (maxSteps:=5000000) -dsimp only [↓gp,gq,reduceCtorEq,reduceEqDiff,reduceLT,reduceLeDiff,reduceAdd,reduceMul,reduceSub,Nat.reduceBEq,Int.reduceToNat,Int.reduceLE,Int.reduceLT,Int.reduceNeg,reduceMod,zac,zad,zab,zaa,gT,TK.isInt,TK.agg,Array.toList,hs,e0,elo]
 refine ⟨fun h0=>?_,fun h0=>⟨fun h1=>?_,fun h1=>?_⟩⟩
 ·refine zaG (zcW bs hbs [0,7,2] (by decide) (by decide)) (.some (j:=11) (by simp (maxSteps:=5000000) -dsimp only [gr,reduceEqDiff,reduceLT,reduceAdd,reduceMod,Nat.reduceBEq,zaa,zac,zad,zab,elo] <;> rfl) (zc2 _)) (by simp (maxSteps:=5000000) -dsimp only [gr,reduceEqDiff,reduceLT,reduceAdd,reduceMod,Nat.reduceBEq,zaa,zac,zad,zab,e0] <;> rfl) (.one (zbR (by simp (maxSteps:=5000000) -dsimp only [gr,reduceEqDiff,reduceLT,reduceAdd,reduceMod,Nat.reduceBEq,zaa,zac,zad,zab,e0] <;> rfl)) (.one (zkZ (by simp (maxSteps:=5000000) -dsimp only [gr,reduceEqDiff,reduceLT,reduceAdd,reduceMod,Nat.reduceBEq,zaa,zac,zad,zab,elo])) .nil)) rfl (fun j hj=>by cases hj;exact ⟨rfl,rfl⟩) fun rv i3 g3 ⟨m,hrv,hc⟩=>?_
  subst hrv
  have hm:0 ≤ m∧m ≤ 7:=by
   have hc:m ∈ [0,7,2]:=hc
   simp at hc;omega
  simp (maxSteps:=5000000) -dsimp only [↓gp,gq,reduceCtorEq,reduceEqDiff,reduceLT,reduceLeDiff,reduceAdd,reduceMul,reduceSub,Nat.reduceBEq,Int.reduceToNat,Int.reduceLE,Int.reduceLT,Int.reduceNeg,reduceMod,zac,zad,zab,zaa,gT,TK.isInt,TK.agg,Array.toList,e0,elo]
  exact ⟨_,i3,g3,_,⟨m,xs,rfl,hm.1,hm.2,by omega⟩,.one (.ag (.cons (.im _) (.cons (.fr (by simp (maxSteps:=5000000) -dsimp only [gr,reduceEqDiff,reduceLT,reduceAdd,reduceMod,Nat.reduceBEq,zaa,zac,zad,zab] <;> rfl) (by decide)) .nil))),by simp,by simp (maxSteps:=5000000) -dsimp only [gr,reduceEqDiff,reduceLT,reduceAdd,reduceMod,Nat.reduceBEq,zaa,zac,zad,zab] <;> rfl,by simp (maxSteps:=5000000) -dsimp only [gr,reduceEqDiff,reduceLT,reduceAdd,reduceMod,Nat.reduceBEq,zaa,zac,zad,zab,e1]⟩
 ·refine ⟨by kernel_rfl,zft (zbw bs hbs 66 (by decide)) (zd0 _) (i:=i2) (h:=g2) (by simp (maxSteps:=5000000) -dsimp only [gr,reduceEqDiff,reduceLT,reduceAdd,reduceMod,Nat.reduceBEq,zaa,zac,zad,zab] <;> rfl) rfl ?_⟩
  obtain ⟨y,j3,g3,hr,hy⟩:=zkW bs 66 i2 g2
  rw [hr]
  have hy66:0 ≤ y∧y < 66:=by obtain ⟨a,b⟩:=hy;omega
  have hw:IntKind.i64.wrap (y - 1) = y - 1:=zan (by omega) (by omega)
  simp (maxSteps:=5000000) -dsimp only [↓gp,gq,reduceCtorEq,reduceEqDiff,reduceLT,reduceLeDiff,reduceAdd,reduceMul,reduceSub,Nat.reduceBEq,Int.reduceToNat,Int.reduceLE,Int.reduceLT,Int.reduceNeg,reduceMod,zac,zad,zab,zaa,gT,TK.isInt,TK.agg,Array.toList,e0,elo,hw]
  refine ⟨by omega,by kernel_rfl,?_⟩
  exact ⟨_,j3,g3,_,⟨n,xs ++ [y - 1],rfl,hn0,hn7,by simp;omega⟩,.one (.ag (.cons (.im _) (.cons (.fr (by simp (maxSteps:=5000000) -dsimp only [gr,reduceEqDiff,reduceLT,reduceAdd,reduceMod,Nat.reduceBEq,zaa,zac,zad,zab] <;> rfl) (by decide)) .nil))),by simp,by simp (maxSteps:=5000000) -dsimp only [gr,reduceEqDiff,reduceLT,reduceAdd,reduceMod,Nat.reduceBEq,zaa,zac,zad,zab] <;> rfl,by simp (maxSteps:=5000000) -dsimp only [gr,reduceEqDiff,reduceLT,reduceAdd,reduceMod,Nat.reduceBEq,zaa,zac,zad,zab,e1]⟩
 ·exact ⟨_,i2,g2,_,⟨n,xs,rfl,hn0,hn7,by omega⟩,.one (.ag (.cons (.im _) (.cons (.fr (by simp (maxSteps:=5000000) -dsimp only [gr,reduceEqDiff,reduceLT,reduceAdd,reduceMod,Nat.reduceBEq,zaa,zac,zad,zab] <;> rfl) (by decide)) .nil))),by simp,by simp (maxSteps:=5000000) -dsimp only [gr,reduceEqDiff,reduceLT,reduceAdd,reduceMod,Nat.reduceBEq,zaa,zac,zad,zab] <;> rfl,by simp (maxSteps:=5000000) -dsimp only [gr,reduceEqDiff,reduceLT,reduceAdd,reduceMod,Nat.reduceBEq,zaa,zac,zad,zab,e1]⟩
theorem zq1 (b:Bool):AC Try.prog 96 [bool b] (.im (int (if b = true then 1 else 0))):=by
 refine AC.go (rs:=[.tmp 2]) zbc zax Try.func96 rfl rfl rfl (by kernel_rfl) fun hl=>?_
 simp (maxSteps:=5000000) -dsimp only [↓gp,gq,reduceCtorEq,reduceEqDiff,reduceLT,reduceLeDiff,reduceAdd,reduceMul,reduceSub,Nat.reduceBEq,Int.reduceToNat,Int.reduceLE,Int.reduceLT,Int.reduceNeg,reduceMod,zac,zad,zab,zaa,gT,TK.isInt,TK.agg,Array.toList]
 exact ⟨fun h=>by rw [if_pos h],fun h=>by rw [if_neg (by rw [h];decide)]⟩
def cxB (n:Int) (xs:List Int):Prop:=0 ≤ n∧n ≤ 7∧xs.length ≤ 450
theorem zqV (bs:List Int) (hbs:bs.length ≤ 9223372036854775806):zv8 Try.prog 152 TC bs ⟨0,.dead⟩ [] (kcx cxB):=by
 intro i h
 refine AG.go (rs:=[.cell 2 27]) zbc zax Try.func152 rfl rfl rfl (by kernel_rfl) fun hl _ s hs hR=>?_
 have e0:s.rw 1000000 = ⟨1,.box TC [.sl false 1 (kL .u8 bs),int i,int h]⟩:=by rw [hR];rfl
 have e1:s.rw 1000500 = ⟨0,.dead⟩:=by rw [hR];rfl
 have elo:∀ k,k < 1000000→s.rw k = ⟨0,.dead⟩:=fun k hk=>by rw [hR];exact zkY hk
 simp (maxSteps:=5000000) -dsimp only [↓gp,gq,reduceCtorEq,reduceEqDiff,reduceLT,reduceLeDiff,reduceAdd,reduceMul,reduceSub,Nat.reduceBEq,Int.reduceToNat,Int.reduceLE,Int.reduceLT,Int.reduceNeg,reduceMod,zac,zad,zab,zaa,gT,TK.isInt,TK.agg,Array.toList,hs,e0,elo]
 refine zaG (zen bs hbs 10 (by decide)) .none (by simp (maxSteps:=5000000) -dsimp only [gr,reduceEqDiff,reduceLT,reduceAdd,reduceMod,Nat.reduceBEq,zaa,zac,zad,zab,e0,elo] <;> rfl) (GvL.one (zbR (by simp (maxSteps:=5000000) -dsimp only [gr,reduceEqDiff,reduceLT,reduceAdd,reduceMod,Nat.reduceBEq,zaa,zac,zad,zab,e0,elo] <;> rfl)) (by repeat (first | exact GvL.nil | refine GvL.one (GvA.v _) ?_ | refine GvL.one (GvA.sl _ _ _) ?_))) rfl (fun _ h=>by cases h) fun rv i1 g1 ⟨b,hrv⟩=>?_
 subst hrv
 simp (maxSteps:=5000000) -dsimp only [↓gp,gq,reduceCtorEq,reduceEqDiff,reduceLT,reduceLeDiff,reduceAdd,reduceMul,reduceSub,Nat.reduceBEq,Int.reduceToNat,Int.reduceLE,Int.reduceLT,Int.reduceNeg,reduceMod,zac,zad,zab,zaa,gT,TK.isInt,TK.agg,Array.toList,hs,e0,elo]
 refine ⟨fun hb=>?_,fun hb=>?_⟩
 ·refine zaG (zg7 bs hbs) .none (by simp (maxSteps:=5000000) -dsimp only [gr,reduceEqDiff,reduceLT,reduceAdd,reduceMod,Nat.reduceBEq,zaa,zac,zad,zab,e0,elo] <;> rfl) (GvL.one (zbR (by simp (maxSteps:=5000000) -dsimp only [gr,reduceEqDiff,reduceLT,reduceAdd,reduceMod,Nat.reduceBEq,zaa,zac,zad,zab,e0,elo] <;> rfl)) (by repeat (first | exact GvL.nil | refine GvL.one (GvA.v _) ?_ | refine GvL.one (GvA.sl _ _ _) ?_))) rfl (fun _ h=>by cases h) fun rv i2 g2 ⟨n,xs,hrv,hq⟩=>?_
  subst hrv
  simp (maxSteps:=5000000) -dsimp only [↓gp,gq,reduceCtorEq,reduceEqDiff,reduceLT,reduceLeDiff,reduceAdd,reduceMul,reduceSub,Nat.reduceBEq,Int.reduceToNat,Int.reduceLE,Int.reduceLT,Int.reduceNeg,reduceMod,zac,zad,zab,zaa,gT,TK.isInt,TK.agg,Array.toList,hs,e0,elo]
  exact ⟨_,i2,g2,_,⟨_,_,rfl,hq⟩,.one (.ag (.cons (.im _) (.cons (.fr (by simp (maxSteps:=5000000) -dsimp only [gr,reduceEqDiff,reduceLT,reduceAdd,reduceMod,Nat.reduceBEq,zaa,zac,zad,zab] <;> rfl) (by decide)) .nil))),by simp,by simp (maxSteps:=5000000) -dsimp only [gr,reduceEqDiff,reduceLT,reduceAdd,reduceMod,Nat.reduceBEq,zaa,zac,zad,zab] <;> rfl,by simp (maxSteps:=5000000) -dsimp only [gr,reduceEqDiff,reduceLT,reduceAdd,reduceMod,Nat.reduceBEq,zaa,zac,zad,zab,e1]⟩
 ·refine zaG (zaY bs hbs 5 (by decide)) .none (by simp (maxSteps:=5000000) -dsimp only [gr,reduceEqDiff,reduceLT,reduceAdd,reduceMod,Nat.reduceBEq,zaa,zac,zad,zab,e0,elo] <;> rfl) (GvL.one (zbR (by simp (maxSteps:=5000000) -dsimp only [gr,reduceEqDiff,reduceLT,reduceAdd,reduceMod,Nat.reduceBEq,zaa,zac,zad,zab,e0,elo] <;> rfl)) (by repeat (first | exact GvL.nil | refine GvL.one (GvA.v _) ?_ | refine GvL.one (GvA.sl _ _ _) ?_))) rfl (fun _ h=>by cases h) fun rv i2 g2 ⟨x,hrv,hx⟩=>?_
  subst hrv
  obtain ⟨m,rfl,hm⟩:=zf2 (n:=5) (by decide) hx
  have hw:IntKind.i64.wrap (1 + (m:Int)) = ((m + 1:Nat):Int):=by rw [zan (by omega) (by omega)];omega
  simp (maxSteps:=5000000) -dsimp only [↓gp,gq,reduceCtorEq,reduceEqDiff,reduceLT,reduceLeDiff,reduceAdd,reduceMul,reduceSub,Nat.reduceBEq,Int.reduceToNat,Int.reduceLE,Int.reduceLT,Int.reduceNeg,reduceMod,zac,zad,zab,zaa,gT,TK.isInt,TK.agg,Array.toList,hs,e0,elo,hw]
  refine zaG (zg8 bs hbs (m + 1) (by omega) (by omega)) .none (by simp (maxSteps:=5000000) -dsimp only [gr,reduceEqDiff,reduceLT,reduceAdd,reduceMod,Nat.reduceBEq,zaa,zac,zad,zab,e0,elo] <;> rfl) (GvL.one (zbR (by simp (maxSteps:=5000000) -dsimp only [gr,reduceEqDiff,reduceLT,reduceAdd,reduceMod,Nat.reduceBEq,zaa,zac,zad,zab,e0,elo] <;> rfl)) (by repeat (first | exact GvL.nil | refine GvL.one (GvA.v _) ?_ | refine GvL.one (GvA.sl _ _ _) ?_))) rfl (fun _ h=>by cases h) fun rv i3 g3 ⟨n,xs,hrv,hq⟩=>?_
  subst hrv
  obtain ⟨q1,q2,q3⟩:=hq
  simp (maxSteps:=5000000) -dsimp only [↓gp,gq,reduceCtorEq,reduceEqDiff,reduceLT,reduceLeDiff,reduceAdd,reduceMul,reduceSub,Nat.reduceBEq,Int.reduceToNat,Int.reduceLE,Int.reduceLT,Int.reduceNeg,reduceMod,zac,zad,zab,zaa,gT,TK.isInt,TK.agg,Array.toList,hs,e0,elo]
  exact ⟨_,i3,g3,_,⟨n,xs,rfl,q1,q2,by omega⟩,.one (.ag (.cons (.im _) (.cons (.fr (by simp (maxSteps:=5000000) -dsimp only [gr,reduceEqDiff,reduceLT,reduceAdd,reduceMod,Nat.reduceBEq,zaa,zac,zad,zab] <;> rfl) (by decide)) .nil))),by simp,by simp (maxSteps:=5000000) -dsimp only [gr,reduceEqDiff,reduceLT,reduceAdd,reduceMod,Nat.reduceBEq,zaa,zac,zad,zab] <;> rfl,by simp (maxSteps:=5000000) -dsimp only [gr,reduceEqDiff,reduceLT,reduceAdd,reduceMod,Nat.reduceBEq,zaa,zac,zad,zab,e1]⟩
def kcp (P:Int→List Int→Int→Prop) (rv:RV):Prop:=∃ n xs p,rv = .tup [.ag [.im (int n),.fr 3 1 (iL xs)],.im (int p)]∧P n xs p
theorem zfO (bs:List Int) (hbs:bs.length ≤ 9223372036854775806):ADr Try.prog 105 [.sl false 1 (kL .u8 bs)] (kcp fun n xs p=>cxB n xs):=by
 refine AG.go (rs:=[.cell 2 27,.tmp 3]) zbc zax Try.func105 rfl rfl rfl (by kernel_rfl) fun hl _ s hs hR=>?_
 simp (maxSteps:=5000000) -dsimp only [↓gp,gq,reduceCtorEq,reduceEqDiff,reduceLT,reduceLeDiff,reduceAdd,reduceMul,reduceSub,Nat.reduceBEq,Int.reduceToNat,Int.reduceLE,Int.reduceLT,Int.reduceNeg,reduceMod,zac,zad,zab,zaa,gT,TK.isInt,TK.agg,Array.toList,hs,hR]
 refine zig (zid bs) (.one (.sl _ _ _) .nil) fun h0=>?_
 simp (maxSteps:=5000000) -dsimp only [↓gp,gq,reduceCtorEq,reduceEqDiff,reduceLT,reduceLeDiff,reduceAdd,reduceMul,reduceSub,Nat.reduceBEq,Int.reduceToNat,Int.reduceLE,Int.reduceLT,Int.reduceNeg,reduceMod,zac,zad,zab,zaa,gT,TK.isInt,TK.agg,Array.toList,hs,hR]
 refine zaG (zqV bs hbs) .none (by simp (maxSteps:=5000000) -dsimp only [gr,reduceEqDiff,reduceLT,reduceAdd,reduceMod,Nat.reduceBEq,zaa,zac,zad,zab,hR] <;> rfl) (GvL.one (zbR (by simp (maxSteps:=5000000) -dsimp only [gr,reduceEqDiff,reduceLT,reduceAdd,reduceMod,Nat.reduceBEq,zaa,zac,zad,zab,hR] <;> rfl)) (by repeat (first | exact GvL.nil | refine GvL.one (GvA.v _) ?_ | refine GvL.one (GvA.sl _ _ _) ?_))) rfl (fun _ h=>by cases h) fun rv i1 g1 ⟨n,xs,hrv,hq⟩=>?_
 subst hrv
 simp (maxSteps:=5000000) -dsimp only [↓gp,gq,reduceCtorEq,reduceEqDiff,reduceLT,reduceLeDiff,reduceAdd,reduceMul,reduceSub,Nat.reduceBEq,Int.reduceToNat,Int.reduceLE,Int.reduceLT,Int.reduceNeg,reduceMod,zac,zad,zab,zaa,gT,TK.isInt,TK.agg,Array.toList,hs,hR]
 refine zaG (zen bs hbs 5 (by decide)) .none (by simp (maxSteps:=5000000) -dsimp only [gr,reduceEqDiff,reduceLT,reduceAdd,reduceMod,Nat.reduceBEq,zaa,zac,zad,zab,hR] <;> rfl) (GvL.one (zbR (by simp (maxSteps:=5000000) -dsimp only [gr,reduceEqDiff,reduceLT,reduceAdd,reduceMod,Nat.reduceBEq,zaa,zac,zad,zab,hR] <;> rfl)) (by repeat (first | exact GvL.nil | refine GvL.one (GvA.v _) ?_ | refine GvL.one (GvA.sl _ _ _) ?_))) rfl (fun _ h=>by cases h) fun rv i2 g2 ⟨b,hrv⟩=>?_
 subst hrv
 simp (maxSteps:=5000000) -dsimp only [↓gp,gq,reduceCtorEq,reduceEqDiff,reduceLT,reduceLeDiff,reduceAdd,reduceMul,reduceSub,Nat.reduceBEq,Int.reduceToNat,Int.reduceLE,Int.reduceLT,Int.reduceNeg,reduceMod,zac,zad,zab,zaa,gT,TK.isInt,TK.agg,Array.toList,hs,hR]
 refine ⟨fun hb=>?_,fun hb=>?_⟩
 ·refine zaG (zg7 bs hbs) .none (by simp (maxSteps:=5000000) -dsimp only [gr,reduceEqDiff,reduceLT,reduceAdd,reduceMod,Nat.reduceBEq,zaa,zac,zad,zab,hR] <;> rfl) (GvL.one (zbR (by simp (maxSteps:=5000000) -dsimp only [gr,reduceEqDiff,reduceLT,reduceAdd,reduceMod,Nat.reduceBEq,zaa,zac,zad,zab,hR] <;> rfl)) (by repeat (first | exact GvL.nil | refine GvL.one (GvA.v _) ?_ | refine GvL.one (GvA.sl _ _ _) ?_))) rfl (fun _ h=>by cases h) fun rv i3 g3 ⟨m,ys,hrv,hq2⟩=>?_
  subst hrv
  simp (maxSteps:=5000000) -dsimp only [↓gp,gq,reduceCtorEq,reduceEqDiff,reduceLT,reduceLeDiff,reduceAdd,reduceMul,reduceSub,Nat.reduceBEq,Int.reduceToNat,Int.reduceLE,Int.reduceLT,Int.reduceNeg,reduceMod,zac,zad,zab,zaa,gT,TK.isInt,TK.agg,Array.toList,hs,hR]
  refine ⟨by kernel_rfl,zk0 (zcF bs hbs [2,3,2,5,3,4] (by decide) (by decide)) (zc2 _) (i:=i3) (h:=g3) (by simp (maxSteps:=5000000) -dsimp only [gr,reduceEqDiff,reduceLT,reduceAdd,reduceMod,Nat.reduceBEq,zaa,zac,zad,zab] <;> rfl) (by simp (maxSteps:=5000000) -dsimp only [gr,reduceEqDiff,reduceLT,reduceAdd,reduceMod,Nat.reduceBEq,zaa,zac,zad,zab,hR] <;> rfl) rfl rfl rfl ?_⟩
  obtain ⟨x,j4,g4,hr,hx⟩:=zzY bs (l:=[2,3,2,5,3,4]) (by decide) i3 g3
  rw [hr]
  simp (maxSteps:=5000000) -dsimp only [↓gp,gq,reduceCtorEq,reduceEqDiff,reduceLT,reduceLeDiff,reduceAdd,reduceMul,reduceSub,Nat.reduceBEq,Int.reduceToNat,Int.reduceLE,Int.reduceLT,Int.reduceNeg,reduceMod,zac,zad,zab,zaa,gT,TK.isInt,TK.agg,Array.toList,hs,hR,zsa]
  exact ⟨by kernel_rfl,_,_,⟨m,ys,x,rfl,hq2⟩,.tup (.cons (.ag (.cons (.im _) (.cons (.fr (by simp (maxSteps:=5000000) -dsimp only [gr,reduceEqDiff,reduceLT,reduceAdd,reduceMod,Nat.reduceBEq,zaa,zac,zad,zab] <;> rfl) (by decide)) .nil))) (.cons (.lf (.im _)) .nil)),by simp⟩
 ·refine ⟨by kernel_rfl,zk0 (zcF bs hbs [2,3,2,5,3,4] (by decide) (by decide)) (zc2 _) (i:=i2) (h:=g2) (by simp (maxSteps:=5000000) -dsimp only [gr,reduceEqDiff,reduceLT,reduceAdd,reduceMod,Nat.reduceBEq,zaa,zac,zad,zab] <;> rfl) (by simp (maxSteps:=5000000) -dsimp only [gr,reduceEqDiff,reduceLT,reduceAdd,reduceMod,Nat.reduceBEq,zaa,zac,zad,zab,hR] <;> rfl) rfl rfl rfl ?_⟩
  obtain ⟨x,j4,g4,hr,hx⟩:=zzY bs (l:=[2,3,2,5,3,4]) (by decide) i2 g2
  rw [hr]
  simp (maxSteps:=5000000) -dsimp only [↓gp,gq,reduceCtorEq,reduceEqDiff,reduceLT,reduceLeDiff,reduceAdd,reduceMul,reduceSub,Nat.reduceBEq,Int.reduceToNat,Int.reduceLE,Int.reduceLT,Int.reduceNeg,reduceMod,zac,zad,zab,zaa,gT,TK.isInt,TK.agg,Array.toList,hs,hR,zsa]
  exact ⟨by kernel_rfl,_,_,⟨n,xs,x,rfl,hq⟩,.tup (.cons (.ag (.cons (.im _) (.cons (.fr (by simp (maxSteps:=5000000) -dsimp only [gr,reduceEqDiff,reduceLT,reduceAdd,reduceMod,Nat.reduceBEq,zaa,zac,zad,zab] <;> rfl) (by decide)) .nil))) (.cons (.lf (.im _)) .nil)),by simp⟩
theorem ze6 (bs:List Int) (hbs:bs.length ≤ 9223372036854775806):ADr Try.prog 36 [.sl false 1 (kL .u8 bs)] (kcp fun n xs p=>cxB n xs):=by
 refine AG.go (rs:=[.cell 2 27,.tmp 3]) zbc zax Try.func36 rfl rfl rfl (by kernel_rfl) fun hl _ s hs hR=>?_
 simp (maxSteps:=5000000) -dsimp only [↓gp,gq,reduceCtorEq,reduceEqDiff,reduceLT,reduceLeDiff,reduceAdd,reduceMul,reduceSub,Nat.reduceBEq,Int.reduceToNat,Int.reduceLE,Int.reduceLT,Int.reduceNeg,reduceMod,zac,zad,zab,zaa,gT,TK.isInt,TK.agg,Array.toList,hs,hR]
 refine zjb (zfO bs hbs) (.one (.sl _ _ _) .nil) fun rv ⟨n,xs,p,hrv,hq⟩=>?_
 subst hrv
 simp (maxSteps:=5000000) -dsimp only [↓gp,gq,reduceCtorEq,reduceEqDiff,reduceLT,reduceLeDiff,reduceAdd,reduceMul,reduceSub,Nat.reduceBEq,Int.reduceToNat,Int.reduceLE,Int.reduceLT,Int.reduceNeg,reduceMod,zac,zad,zab,zaa,gT,TK.isInt,TK.agg,Array.toList,hs,hR,zsa]
 exact ⟨_,_,⟨n,xs,p,rfl,hq⟩,.tup (.cons (.ag (.cons (.im _) (.cons (.fr (by simp (maxSteps:=5000000) -dsimp only [gr,reduceEqDiff,reduceLT,reduceAdd,reduceMod,Nat.reduceBEq,zaa,zac,zad,zab] <;> rfl) (by decide)) .nil))) (.cons (.lf (.im _)) .nil)),by simp⟩
theorem zg6 (bs:List Int) (hbs:bs.length ≤ 9223372036854775806):ADr Try.prog 38 [.sl false 1 (kL .u8 bs)] (fun rv=>∃ n xs p a b,rv = .tup [.ag [.im (int n),.fr 3 1 (iL xs)],.im (int p),.im (int a),.im (int b)]∧cxB n xs):=by
 refine AG.go (rs:=[.cell 2 27,.tmp 3,.tmp 4,.tmp 5]) zbc zax Try.func38 rfl rfl rfl (by kernel_rfl) fun hl _ s hs hR=>?_
 simp (maxSteps:=5000000) -dsimp only [↓gp,gq,reduceCtorEq,reduceEqDiff,reduceLT,reduceLeDiff,reduceAdd,reduceMul,reduceSub,Nat.reduceBEq,Int.reduceToNat,Int.reduceLE,Int.reduceLT,Int.reduceNeg,reduceMod,zac,zad,zab,zaa,gT,TK.isInt,TK.agg,Array.toList,hs,hR]
 refine zjb (zfO bs hbs) (.one (.sl _ _ _) .nil) fun rv ⟨n,xs,p,hrv,hq⟩=>?_
 subst hrv
 simp (maxSteps:=5000000) -dsimp only [↓gp,gq,reduceCtorEq,reduceEqDiff,reduceLT,reduceLeDiff,reduceAdd,reduceMul,reduceSub,Nat.reduceBEq,Int.reduceToNat,Int.reduceLE,Int.reduceLT,Int.reduceNeg,reduceMod,zac,zad,zab,zaa,gT,TK.isInt,TK.agg,Array.toList,hs,hR]
 refine zig (zid bs) (.one (.sl _ _ _) .nil) fun h0=>?_
 simp (maxSteps:=5000000) -dsimp only [↓gp,gq,reduceCtorEq,reduceEqDiff,reduceLT,reduceLeDiff,reduceAdd,reduceMul,reduceSub,Nat.reduceBEq,Int.reduceToNat,Int.reduceLE,Int.reduceLT,Int.reduceNeg,reduceMod,zac,zad,zab,zaa,gT,TK.isInt,TK.agg,Array.toList,hs,hR]
 refine ⟨by kernel_rfl,zft (zbw bs hbs 6 (by decide)) (zd0 _) (i:=0) (h:=h0) (by simp (maxSteps:=5000000) -dsimp only [gr,reduceEqDiff,reduceLT,reduceAdd,reduceMod,Nat.reduceBEq,zaa,zac,zad,zab] <;> rfl) rfl ?_⟩
 obtain ⟨y,j3,g3,hr,hy⟩:=zkW bs 6 0 h0
 rw [hr]
 simp (maxSteps:=5000000) -dsimp only [↓gp,gq,reduceCtorEq,reduceEqDiff,reduceLT,reduceLeDiff,reduceAdd,reduceMul,reduceSub,Nat.reduceBEq,Int.reduceToNat,Int.reduceLE,Int.reduceLT,Int.reduceNeg,reduceMod,zac,zad,zab,zaa,gT,TK.isInt,TK.agg,Array.toList,hs,hR]
 refine zft (zfN bs hbs 10 (by decide)) (zd0 _) (i:=j3) (h:=g3) (by simp (maxSteps:=5000000) -dsimp only [gr,reduceEqDiff,reduceLT,reduceAdd,reduceMod,Nat.reduceBEq,zaa,zac,zad,zab] <;> rfl) rfl ?_
 obtain ⟨b,j4,g4,hr4⟩:=zCT bs 10 j3 g3
 rw [hr4]
 simp (maxSteps:=5000000) -dsimp only [↓gp,gq,reduceCtorEq,reduceEqDiff,reduceLT,reduceLeDiff,reduceAdd,reduceMul,reduceSub,Nat.reduceBEq,Int.reduceToNat,Int.reduceLE,Int.reduceLT,Int.reduceNeg,reduceMod,zac,zad,zab,zaa,gT,TK.isInt,TK.agg,Array.toList,hs,hR]
 refine zag (zq1 b) ?_
 simp (maxSteps:=5000000) -dsimp only [↓gp,gq,reduceCtorEq,reduceEqDiff,reduceLT,reduceLeDiff,reduceAdd,reduceMul,reduceSub,Nat.reduceBEq,Int.reduceToNat,Int.reduceLE,Int.reduceLT,Int.reduceNeg,reduceMod,zac,zad,zab,zaa,gT,TK.isInt,TK.agg,Array.toList,hs,hR]
 refine zft (zbw bs hbs 7 (by decide)) (zd0 _) (i:=j4) (h:=g4) (by simp (maxSteps:=5000000) -dsimp only [gr,reduceEqDiff,reduceLT,reduceAdd,reduceMod,Nat.reduceBEq,zaa,zac,zad,zab] <;> rfl) rfl ?_
 obtain ⟨z,j5,g5,hr5,hz⟩:=zkW bs 7 j4 g4
 rw [hr5]
 simp (maxSteps:=5000000) -dsimp only [↓gp,gq,reduceCtorEq,reduceEqDiff,reduceLT,reduceLeDiff,reduceAdd,reduceMul,reduceSub,Nat.reduceBEq,Int.reduceToNat,Int.reduceLE,Int.reduceLT,Int.reduceNeg,reduceMod,zac,zad,zab,zaa,gT,TK.isInt,TK.agg,Array.toList,hs,hR,zEb]
 exact ⟨by kernel_rfl,_,_,⟨n,xs,p,_,_,rfl,hq⟩,.tup (.cons (.ag (.cons (.im _) (.cons (.fr (by simp (maxSteps:=5000000) -dsimp only [gr,reduceEqDiff,reduceLT,reduceAdd,reduceMod,Nat.reduceBEq,zaa,zac,zad,zab] <;> rfl) (by decide)) .nil))) (.cons (.lf (.im _)) (.cons (.lf (.im _)) (.cons (.lf (.im _)) .nil)))),by simp⟩
noncomputable def zik (n:Int) (xs:List Int) (s:Nat):Bool:=zez n xs && (zbS n s && !zau xs s)
noncomputable def zAb (n:Int) (xs:List Int):List Nat:=zgj (zik n xs) false
theorem zAc {n:Int} {xs:List Int} {s:Nat} (h:zik n xs s = true):s < 64:=by
 unfold zik at h
 simp only [Bool.and_eq_true] at h
 have:=zff h.2.1
 omega
theorem zBD (n:Int) (xs:List Int):inF (ofN ((List.range 64).filter (zik n xs))) = zik n xs:=by
 funext s
 rw [znP]
 refine Bool.eq_iff_iff.2 ?_
 rw [decide_eq_true_iff,List.mem_filter,List.mem_range]
 exact ⟨fun h=>h.2,fun h=>⟨zAc h,h⟩⟩
theorem zAd {n:Int} {xs:List Int} (h:zez n xs = false) (s:Nat):zik n xs s = false:=by unfold zik;rw [h];rfl
theorem zu3 (n:Int) (xs:List Int):(zAb n xs).length ≤ 448:=zsp _ _
theorem zdF (n:Int) (xs:List Int):AC Try.prog 50 [.ag [int n,zbx xs]] (.fr 3 1 (iL (ofN (zAb n xs)))):=by
 refine AC.go (rs:=[.tmp 2]) zbc zax Try.func50 rfl rfl rfl (by kernel_rfl) fun hl=>?_
 simp (maxSteps:=5000000) -dsimp only [↓gp,gq,reduceCtorEq,reduceEqDiff,reduceLT,reduceLeDiff,reduceAdd,reduceMul,reduceSub,Nat.reduceBEq,Int.reduceToNat,Int.reduceLE,Int.reduceLT,Int.reduceNeg,reduceMod,zac,zad,zab,zaa,gT,TK.isInt,TK.agg,Array.toList]
 refine zar (fun (za:Nat × Nat) s=>match za with | (t,v)=>s.sl 1 = .ref 1 1 0∧s.rw 1 = ⟨1,.box 27 [int n,zbx xs]⟩∧s.sl 3 = .own 5 v∧s.rw 5 = ⟨v,.sli 3 1 false (iL (ofN ((List.range t).filter (zik n xs))))⟩∧s.sl 4 = int t∧(t ≤ 64)) (fun (t,v)=>64 - t) ((0,1)) (by refine ⟨?_,?_,?_,?_,?_,by simp⟩ <;> (first | (simp (maxSteps:=5000000) -dsimp only [gr,reduceEqDiff,reduceLT,reduceAdd,reduceMod,Nat.reduceBEq,zaa,zac,zad,zab];first | done | rfl | (simp;done)) | assumption | rfl)) ?_
 intro (t,v) sa ⟨h1a,r1a,h3a,r5a,h4a,hIa⟩
 have hfl:((List.range t).filter (zik n xs)).length ≤ 64:=by
  have:=List.length_filter_le (zik n xs) (List.range t)
  rw [List.length_range] at this
  omega
 have hend:(t = 64 ∨ zez n xs = false)→inF (ofN ((List.range t).filter (zik n xs))) = zik n xs:=fun h=>by
  rcases h with rfl | h
  ·exact zBD n xs
  ·funext i
   rw [znP,zAd h]
   exact decide_eq_false fun hm=>by rw [List.mem_filter,zAd h] at hm;cases hm.2
 have hext:(t = 64 ∨ zez n xs = false)→AC Try.prog 119 [zbx (ofN ((List.range t).filter (zik n xs))),bool false] (.fr 3 1 (iL (ofN (zAb n xs)))):=fun h=>by
  have:=zes false _ (zzU (l:=(List.range t).filter (zik n xs)) fun i hi=>zAc (List.mem_filter.1 hi).2)
  rwa [hend h] at this
 simp (maxSteps:=5000000) -dsimp only [↓gp,gq,reduceCtorEq,reduceEqDiff,reduceLT,reduceLeDiff,reduceAdd,reduceMul,reduceSub,Nat.reduceBEq,Int.reduceToNat,Int.reduceLE,Int.reduceLT,Int.reduceNeg,reduceMod,zac,zad,zab,zaa,gT,TK.isInt,TK.agg,Array.toList,h1a,r1a,h3a,r5a,h4a]
 refine ⟨fun h=>zag (zbl n xs) ?_,fun h=>zag (hext (.inl (by omega))) ?_⟩
 ·simp (maxSteps:=5000000) -dsimp only [↓gp,gq,reduceCtorEq,reduceEqDiff,reduceLT,reduceLeDiff,reduceAdd,reduceMul,reduceSub,Nat.reduceBEq,Int.reduceToNat,Int.reduceLE,Int.reduceLT,Int.reduceNeg,reduceMod,zac,zad,zab,zaa,gT,TK.isInt,TK.agg,Array.toList,h1a,r1a,h3a,r5a,h4a]
  refine ⟨fun hc=>zag (ze4 _ _) ?_,fun hc=>zag (hext (.inr hc)) ?_⟩
  ·have hx:=zhz hc
   have h:t < 64:=by omega
   have hms:zik n xs t = (zbS n t && !zau xs t):=by unfold zik;rw [hc];rfl
   have hyes:zik n xs t = true→ofN ((List.range (t + 1)).filter (zik n xs)) = ofN ((List.range t).filter (zik n xs)) ++ [(t:Int)]:=fun h=>by
    rw [List.range_succ,List.filter_append,zbi]
    simp [h,ofN]
   have hno:zik n xs t = false→ofN ((List.range (t + 1)).filter (zik n xs)) = ofN ((List.range t).filter (zik n xs)):=fun h=>by
    rw [List.range_succ,List.filter_append,zbi]
    simp [h,ofN]
   simp (maxSteps:=5000000) -dsimp only [↓gp,gq,reduceCtorEq,reduceEqDiff,reduceLT,reduceLeDiff,reduceAdd,reduceMul,reduceSub,Nat.reduceBEq,Int.reduceToNat,Int.reduceLE,Int.reduceLT,Int.reduceNeg,reduceMod,zac,zad,zab,zaa,gT,TK.isInt,TK.agg,Array.toList,h1a,r1a,h3a,r5a,h4a]
   refine ⟨fun hs=>zag (zic n xs t hx h) ?_,fun hs=>?_⟩
   ·simp (maxSteps:=5000000) -dsimp only [↓gp,gq,reduceCtorEq,reduceEqDiff,reduceLT,reduceLeDiff,reduceAdd,reduceMul,reduceSub,Nat.reduceBEq,Int.reduceToNat,Int.reduceLE,Int.reduceLT,Int.reduceNeg,reduceMod,zac,zad,zab,zaa,gT,TK.isInt,TK.agg,Array.toList,h1a,r1a,h3a,r5a,h4a]
    refine ⟨fun hf=>?_,fun hf=>?_⟩
    ·have e:=hyes (by rw [hms,hs,hf];rfl)
     refine ⟨by rw [zao];omega,zah ((t + 1,v + 1)) (by refine ⟨?_,?_,?_,?_,?_,by dsimp only;omega⟩ <;> (first | (simp (maxSteps:=5000000) -dsimp only [gr,reduceEqDiff,reduceLT,reduceAdd,reduceMod,Nat.reduceBEq,zaa,zac,zad,zab,h1a,r1a,h3a,r5a,h4a,zae h (by omega),e];first | done | rfl | (simp;done)) | assumption | rfl)) (by first | omega | (simp only;omega) | (dsimp only;omega) | (show _ < _;simp;omega))⟩
    ·have e:=hno (by rw [hms,hf];simp)
     exact zah ((t + 1,v)) (by refine ⟨?_,?_,?_,?_,?_,by dsimp only;omega⟩ <;> (first | (simp (maxSteps:=5000000) -dsimp only [gr,reduceEqDiff,reduceLT,reduceAdd,reduceMod,Nat.reduceBEq,zaa,zac,zad,zab,h1a,r1a,h3a,r5a,h4a,zae h (by omega),e];first | done | rfl | (simp;done)) | assumption | rfl)) (by first | omega | (simp only;omega) | (dsimp only;omega) | (show _ < _;simp;omega))
   ·have e:=hno (by rw [hms,hs];rfl)
    exact zah ((t + 1,v)) (by refine ⟨?_,?_,?_,?_,?_,by dsimp only;omega⟩ <;> (first | (simp (maxSteps:=5000000) -dsimp only [gr,reduceEqDiff,reduceLT,reduceAdd,reduceMod,Nat.reduceBEq,zaa,zac,zad,zab,h1a,r1a,h3a,r5a,h4a,zae h (by omega),e];first | done | rfl | (simp;done)) | assumption | rfl)) (by first | omega | (simp only;omega) | (dsimp only;omega) | (show _ < _;simp;omega))
  ·simp (maxSteps:=5000000) -dsimp only [↓gp,gq,reduceCtorEq,reduceEqDiff,reduceLT,reduceLeDiff,reduceAdd,reduceMul,reduceSub,Nat.reduceBEq,Int.reduceToNat,Int.reduceLE,Int.reduceLT,Int.reduceNeg,reduceMod,zac,zad,zab,zaa,gT,TK.isInt,TK.agg,Array.toList,h1a,r1a,h3a,r5a,h4a]
 ·simp (maxSteps:=5000000) -dsimp only [↓gp,gq,reduceCtorEq,reduceEqDiff,reduceLT,reduceLeDiff,reduceAdd,reduceMul,reduceSub,Nat.reduceBEq,Int.reduceToNat,Int.reduceLE,Int.reduceLT,Int.reduceNeg,reduceMod,zac,zad,zab,zaa,gT,TK.isInt,TK.agg,Array.toList,h1a,r1a,h3a,r5a,h4a]
theorem zsd {xs:List Int} (hx:okS xs) {w:Nat} (hw:w < 64) (s:Nat):inF (xs.map fun x=>zdv .i64 x (w:Int)) s = true ↔ ∃ x ∈ xs,x.toNat &&& w = s:=by
 unfold inF
 rw [decide_eq_true_iff,List.mem_map]
 have key:∀ x ∈ xs,zdv .i64 x (w:Int) = ((x.toNat &&& w:Nat):Int):=fun x h=>by
  have:=hx x h
  rw [← zbN (by omega) (by omega)]
  congr 1;omega
 exact ⟨fun ⟨x,h1,h2⟩=>⟨x,h1,by rw [key x h1] at h2;omega⟩,fun ⟨x,h1,h2⟩=>⟨x,h1,by rw [key x h1,h2]⟩⟩
noncomputable def zEn (xs:List Int) (w:Nat):List Int:=ofN (zgj (inF (xs.map fun x=>zdv .i64 x (w:Int))) true)
theorem zAe {xs:List Int} (hx:okS xs) {w:Nat} (hw:w < 64) {t:Nat} (ht:t < 64):zau (zEn xs w) t = zaM (zau xs) w t:=by
 unfold zEn zaM
 rw [zji]
 refine Bool.eq_iff_iff.2 ⟨fun h=>?_,fun h=>?_⟩
 ·obtain ⟨s,hs,h2⟩:=List.any_eq_true.1 h
  simp only [Bool.and_eq_true,beq_iff_eq] at h2
  obtain ⟨x,hx1,hx2⟩:=(zsd hx hw s).1 h2.1
  have e1:t &&& s = t:=by rw [Nat.and_comm];exact h2.2
  have e2:s &&& x.toNat = s:=by rw [← hx2,Nat.and_comm,← Nat.and_assoc,Nat.and_self]
  have e3:s &&& w = s:=by rw [← hx2,Nat.and_assoc,Nat.and_self]
  rw [Bool.and_eq_true]
  refine ⟨zb4.2 ⟨x,hx1,by rw [Nat.and_comm];exact zeG e1 e2⟩,?_⟩
  rw [beq_iff_eq,Nat.and_comm];exact zeG e1 e3
 ·rw [Bool.and_eq_true,beq_iff_eq] at h
  obtain ⟨x,hx1,hx2⟩:=zb4.1 h.1
  have hlt:x.toNat &&& w < 64:=by
   have:x.toNat &&& w ≤ w:=Nat.and_le_right
   omega
  refine List.any_eq_true.2 ⟨x.toNat &&& w,List.mem_range.2 hlt,?_⟩
  rw [Bool.and_eq_true,beq_iff_eq]
  exact ⟨(zsd hx hw _).2 ⟨x,hx1,rfl⟩,by rw [Nat.and_assoc,h.2,hx2]⟩
theorem zHj {n:Int} {xs:List Int} (h:zez n xs = true) {w:Nat} (hw:w < 64):zez n (zEn xs w) = true:=by
 have hx:=zhz h
 obtain ⟨h1,h6,hk⟩:=zbP.1 h
 refine zgX ⟨h1,h6,fun k hk2=>?_⟩
 unfold zEn at hk2 ⊢
 rw [zao] at hk2
 have hpw:=zri (inF (xs.map fun x=>zdv .i64 x (w:Int))) true
 have hmem:=fun i (hi:i < (zgj (inF (xs.map fun x=>zdv .i64 x (w:Int))) true).length)=>zcZ.1 (za0 0 hi)
 have hin:=fun i (hi:i < (zgj (inF (xs.map fun x=>zdv .i64 x (w:Int))) true).length)=>(zsd hx hw _).1 (hmem i hi).1.2
 generalize zgj (inF (xs.map fun x=>zdv .i64 x (w:Int))) true = ys at *
 have hbef:∀ i j,i < j→j < ys.length→zAl (ys.getD i 0) (ys.getD j 0):=fun i j hij hj=>by
  have:=List.pairwise_iff_getElem.1 hpw i j (by omega) hj hij
  have a:ys.getD i 0 = ys[i]'(by omega):=by simp [List.getD,show i < ys.length by omega]
  have b:ys.getD j 0 = ys[j]:=by simp [List.getD,hj]
  rw [a,b];exact this
 refine ⟨?_,fun h0=>?_,fun i hi=>?_⟩
 ·obtain ⟨x,hx1,hx2⟩:=hin k hk2
  rw [zaV hk2]
  obtain ⟨i,hi,rfl⟩:=zfg 0 hx1
  have:=(hk i hi).1
  unfold zbS at this ⊢
  rw [decide_eq_true_iff] at this ⊢
  have hle:ys.getD k 0 ≤ (xs.getD i 0).toNat:=by rw [← hx2];exact Nat.and_le_left
  refine ⟨by omega,by omega,by omega,?_⟩
  omega
 ·rw [zaV hk2,zaV (by omega)]
  have hb:=hbef (k - 1) k (by omega) hk2
  have:=(hmem k hk2).1.1
  have:=(hmem (k - 1) (by omega)).1.1
  unfold znO
  unfold zAl at hb
  rw [zcJ (by omega),zcJ (by omega)]
  simp only [Bool.and_eq_true,decide_eq_true_iff]
  refine ⟨by omega,by omega,?_⟩
  split
  ·rw [decide_eq_true_iff];omega
  ·rw [decide_eq_true_iff];omega
 ·have hlti:=(hmem i (by omega)).1.1
  have hltk:=(hmem k hk2).1
  rw [zaV hk2,zaV (by omega),zbN (by omega) (by omega)]
  intro e
  have:=zeF.1 (hmem i (by omega)).2 (ys.getD k 0) hltk.1 hltk.2 (by omega)
  have hb:=hbef i k hi hk2
  rw [this] at hb
  exact zjr hb
theorem zu4 {n:Int} {xs:List Int} (h:zez n xs = true):xs.length ≤ 64:=by
 have hn:=zBo (zbP.1 h)
 have hx:=zhz h
 have h2:(xs.map Int.toNat).Nodup:=by
  refine List.Pairwise.map _ (fun a b=>?_) (List.Pairwise.imp_of_mem (S:=fun a b=>0 ≤ a∧0 ≤ b∧a ≠ b) (fun ha hb hab=>⟨(hx _ ha).1,(hx _ hb).1,hab⟩) hn)
  intro ⟨q1,q2,q3⟩ e
  omega
 refine Classical.byContradiction fun hc=>?_
 have:=(zrq (m:=List.range 64) h2 (fun x hx'=>?_) (by simp;omega)).length_eq
 ·simp at this;omega
 ·obtain ⟨y,hy,rfl⟩:=List.mem_map.1 hx'
  have:=hx y hy
  exact List.mem_range.2 (by omega)
theorem zBE {n:Int} {xs:List Int} (h:zez n xs = true) {w:Nat} (hw:w < 64) (t:Nat) (ht:t < 64):zct n (zEn xs w) t = zaM (zau xs) w t:=by
 unfold zct
 rw [zHj h hw,zAe (zhz h) hw ht];rfl
theorem zEo {n:Int} {xs:List Int} (h:zez n xs = true) {w:Nat} (hw:w < 64) {p:Int} (hp:isP p = true):zFy (zct n (zEn xs w)) p = zev (zaM (zau xs) w) p:=by
 unfold zFy
 rw [if_pos hp]
 exact zhb p fun s hs=>zBE h hw s hs
theorem zCX {m:Nat} (h1:1 ≤ m) (hm:m ≤ 6) {f:Nat→Bool} (hf:∀ s,s < 64→f s = true→s < 2 ^ m):zez (m:Int) (ofN (zgj f true)) = true:=by
 refine zgX ⟨(by omega:(1:Int) ≤ (m:Int)),(by omega:(m:Int) ≤ 6),fun k hk2=>?_⟩
 rw [zao] at hk2
 have hpw:=zri f true
 have hmem:=fun i (hi:i < (zgj f true).length)=>zcZ.1 (za0 0 hi)
 generalize zgj f true = ys at *
 have hbef:∀ i j,i < j→j < ys.length→zAl (ys.getD i 0) (ys.getD j 0):=fun i j hij hj=>by
  have:=List.pairwise_iff_getElem.1 hpw i j (by omega) hj hij
  have a:ys.getD i 0 = ys[i]'(by omega):=by simp [List.getD,show i < ys.length by omega]
  have b:ys.getD j 0 = ys[j]:=by simp [List.getD,hj]
  rw [a,b];exact this
 refine ⟨?_,fun h0=>?_,fun i hi=>?_⟩
 ·have h1:=hmem k hk2
  have h2:=hf _ h1.1.1 h1.1.2
  rw [zaV hk2]
  unfold zbS
  rw [decide_eq_true_iff]
  refine ⟨by omega,by omega,by omega,?_⟩
  rw [zcg];exact_mod_cast h2
 ·rw [zaV hk2,zaV (by omega)]
  have hb:=hbef (k - 1) k (by omega) hk2
  have:=(hmem k hk2).1.1
  have:=(hmem (k - 1) (by omega)).1.1
  unfold znO
  unfold zAl at hb
  rw [zcJ (by omega),zcJ (by omega)]
  simp only [Bool.and_eq_true,decide_eq_true_iff]
  refine ⟨by omega,by omega,?_⟩
  split
  ·rw [decide_eq_true_iff];omega
  ·rw [decide_eq_true_iff];omega
 ·have hlti:=(hmem i (by omega)).1.1
  have hltk:=(hmem k hk2).1
  rw [zaV hk2,zaV (by omega),zbN (by omega) (by omega)]
  intro e
  have:=zeF.1 (hmem i (by omega)).2 (ys.getD k 0) hltk.1 hltk.2 (by omega)
  have hb:=hbef i k hi hk2
  rw [this] at hb
  exact zjr hb
theorem zCY (xs:List Int) (t:Nat):inF xs t = decide ((t:Int) ∈ xs):=rfl
noncomputable def zHs (n:Int) (xs:List Int):List Int:=(ofN (zAb n xs)).map (zhy n)
noncomputable def zAo (n:Int) (xs:List Int):List Int:=ofN (zgj (inF (zHs n xs)) true)
theorem zz8 {m:Nat} {xs:List Int} (h:zez (m:Int) xs = true) (t:Nat) :
 (t:Int) ∈ zHs m xs ↔ ∃ u,u < 2 ^ m∧zau xs u = false∧(∀ v,v < 2 ^ m→zau xs v = false→v &&& u = v→v = u)∧t = 2 ^ m - 1 - u:=by
 obtain ⟨h1,h6,_⟩:=zbP.1 h
 have h64:=zaN (m:=m) (by omega)
 have hms:∀ s:Nat,zik m xs s = true ↔ s < 2 ^ m∧zau xs s = false:=fun s=>by
  unfold zik zbS
  rw [h,Bool.true_and,Bool.and_eq_true,decide_eq_true_iff,Bool.not_eq_true',zcg]
  exact ⟨fun ⟨⟨_,_,_,a⟩,b⟩=>⟨by omega,b⟩,fun ⟨a,b⟩=>⟨⟨by omega,by omega,by omega,by omega⟩,b⟩⟩
 have hcm:∀ s:Nat,s < 2 ^ m→zhy m s = ((2 ^ m - 1 - s:Nat):Int):=fun s hs=>by
  have hin:zbS m s = true:=by
   unfold zbS;rw [decide_eq_true_iff,zcg];exact ⟨by omega,by omega,by omega,by omega⟩
  unfold zhy
  rw [if_pos hin,zcg];omega
 unfold zHs
 rw [List.mem_map]
 refine ⟨fun ⟨x,hx,e⟩=>?_,fun ⟨u,hu,hfu,hmin,e⟩=>?_⟩
 ·unfold ofN at hx
  obtain ⟨s,hs,rfl⟩:=List.mem_map.1 hx
  obtain ⟨⟨s1,s2⟩,s3⟩:=zcZ.1 hs
  obtain ⟨a,b⟩:=(hms s).1 s2
  rw [hcm s a] at e
  exact ⟨s,a,b,fun v hv hfv hvu=>zdx.1 s3 v (by omega) ((hms v).2 ⟨hv,hfv⟩) hvu,by omega⟩
 ·refine ⟨u,?_,by rw [hcm u hu,e]⟩
  unfold ofN
  refine List.mem_map.2 ⟨u,zcZ.2 ⟨⟨by omega,(hms u).2 ⟨hu,hfu⟩⟩,zdx.2 fun v hv hq hvu=>?_⟩,rfl⟩
  obtain ⟨a,b⟩:=(hms v).1 hq
  exact hmin v a b hvu
theorem zz9 {m:Nat} {xs:List Int} (h:zez (m:Int) xs = true):zez (m:Int) (zAo m xs) = true:=by
 obtain ⟨h1,h6,_⟩:=zbP.1 h
 refine zCX (by omega) (by omega) fun s hs hf=>?_
 rw [zCY,decide_eq_true_iff] at hf
 obtain ⟨u,hu,_,_,rfl⟩:=(zz8 h s).1 hf
 omega
theorem zu2 {m:Nat} {xs:List Int} (h:zez (m:Int) xs = true) {s:Nat} (hs:s < 64):zau (zAo m xs) s = zbq m (zau xs) s:=by
 obtain ⟨h1,h6,_⟩:=zbP.1 h
 unfold zAo
 rw [zji]
 exact zvb (by omega) (fun s t a b=>zlx a b) (fun t=>zz8 h t) hs
theorem zEj {m:Nat} {xs:List Int} (h:zez (m:Int) xs = true) {s:Nat} (hs:s < 64):zct m (zAo m xs) s = zbq m (zau xs) s:=by
 unfold zct
 rw [zz9 h,zu2 h hs];rfl
theorem zEk {m:Nat} {xs:List Int} (h:zez (m:Int) xs = true):zcA (zct m (zAo m xs)) = zcA (zbq m (zau xs)):=zfa fun s hs=>zEj h hs
def zn9 (xs:List Int) (s:Nat):List Int:=(xs.filter fun x=>zdv .i64 x s == (s:Int)).map fun x=>x - s
theorem zAa {xs:List Int} (hx:okS xs) {s:Nat} (hs:s < 64) (v:Nat):(v:Int) ∈ zn9 xs s ↔ ∃ x ∈ xs,x.toNat &&& s = s∧v = x.toNat - s:=by
 have key:∀ x ∈ xs,zdv .i64 x (s:Int) = ((x.toNat &&& s:Nat):Int):=fun x h=>by
  have:=hx x h
  rw [← zbN (by omega) (by omega)]
  congr 1;omega
 unfold zn9
 rw [List.mem_map]
 refine ⟨fun ⟨x,h1,e⟩=>?_,fun ⟨x,h1,h2,e⟩=>?_⟩
 ·obtain ⟨a,b⟩:=List.mem_filter.1 h1
  rw [beq_iff_eq,key x a] at b
  exact ⟨x,a,by omega,by have:=hx x a;omega⟩
 ·refine ⟨x,List.mem_filter.2 ⟨h1,by rw [beq_iff_eq,key x h1,h2]⟩,?_⟩
  have:=hx x h1
  have:s ≤ x.toNat:=by rw [← h2];exact Nat.and_le_left
  omega
theorem zHi {m:Nat} {xs:List Int} (h:zez (m:Int) xs = true) {s:Nat} (hs:s < 64):zez (m:Int) (ofN (zgj (inF (zn9 xs s)) true)) = true:=by
 obtain ⟨h1,h6,hk⟩:=zbP.1 h
 refine zCX (by omega) (by omega) fun t ht hf=>?_
 rw [zCY,decide_eq_true_iff] at hf
 obtain ⟨x,hx,_,rfl⟩:=(zAa (zhz h) hs t).1 hf
 obtain ⟨i,hi,rfl⟩:=zfg 0 hx
 have:=(hk i hi).1
 unfold zbS at this
 rw [decide_eq_true_iff,zcg] at this
 omega
theorem zEl {m:Nat} {xs:List Int} (h:zez (m:Int) xs = true) {s:Nat} (hs:s < 64) (t:Nat):zct m (ofN (zgj (inF (zn9 xs s)) true)) t = zcK (zau xs) s t:=by
 unfold zct
 rw [zHi h hs,Bool.true_and,zji]
 exact zvc (fun x hx=>by have:=zhz h x hx;omega) hs (fun v=>zAa (zhz h) hs v) t
theorem zEm {m:Nat} {xs:List Int} (h:zez (m:Int) xs = true) {s:Nat} (hs:s < 64) {p:Int} (hp:isP p = true) :
 zFy (zct m (ofN (zgj (inF (zn9 (zAo m xs) s)) true))) p = zev (zcK (zbq m (zau xs)) s) p:=by
 unfold zFy
 rw [if_pos hp]
 refine zhb p fun t ht=>?_
 rw [zEl (zz9 h) hs]
 exact zrg (fun u hu=>zu2 h hu) hs ht
noncomputable def zdG (n:Int) (xs:List Int) (p:Int):Mat:=if zjc n xs = true∧isP p = true then zly (zau xs) p n.toNat else []
theorem zf5 {n:Int} {xs:List Int} {p:Int} (h:¬ (zjc n xs = true∧isP p = true)):zdG n xs p = []:=if_neg h
theorem zu5 {n i:Nat} (h:i < n):(List.range n).getD i 0 = i:=by simp [List.getD,h]
theorem zq2 {α:Type} (n:Nat) (a:α):List.replicate n a ++ [a] = List.replicate (n + 1) a:=by rw [List.replicate_succ']
theorem zhF (n:Int) (xs:List Int) (p:Int):AC Try.prog 41 [.ag [int n,zbx xs],int p] (.tb 22 3 ((zdG n xs p).map iL)):=by
 refine AC.go (rs:=[.tmp 4]) zbc zax Try.func41 rfl rfl rfl (by kernel_rfl) fun hl=>?_
 simp only [zaZ,zbm,and_true,zbV,zde,zcd,true_and] at hl
 simp (maxSteps:=5000000) -dsimp only [↓gp,gq,reduceCtorEq,reduceEqDiff,reduceLT,reduceLeDiff,reduceAdd,reduceMul,reduceSub,Nat.reduceBEq,Int.reduceToNat,Int.reduceLE,Int.reduceLT,Int.reduceNeg,reduceMod,zac,zad,zab,zaa,gT,TK.isInt,TK.agg,Array.toList]
 refine zag (zih n xs) ?_
 have hdt:=zqW n xs
 simp (maxSteps:=5000000) -dsimp only [↓gp,gq,reduceCtorEq,reduceEqDiff,reduceLT,reduceLeDiff,reduceAdd,reduceMul,reduceSub,Nat.reduceBEq,Int.reduceToNat,Int.reduceLE,Int.reduceLT,Int.reduceNeg,reduceMod,zac,zad,zab,zaa,gT,TK.isInt,TK.agg,Array.toList,hdt]
 refine ⟨fun hh=>zag (zbF p) ?_,fun hh=>?_⟩
 ·have hh:zjc n xs = true:=by simpa using hh
  simp (maxSteps:=5000000) -dsimp only [↓gp,gq,reduceCtorEq,reduceEqDiff,reduceLT,reduceLeDiff,reduceAdd,reduceMul,reduceSub,Nat.reduceBEq,Int.reduceToNat,Int.reduceLE,Int.reduceLT,Int.reduceNeg,reduceMod,zac,zad,zab,zaa,gT,TK.isInt,TK.agg,Array.toList]
  refine ⟨fun hp=>?_,fun hp=>?_⟩
  ·rw [zf5 (fun h=>by rw [h.2] at hp;cases hp)]
   exact zei (by simp (maxSteps:=5000000) -dsimp only [gr,reduceEqDiff,reduceLT,reduceAdd,reduceMod,Nat.reduceBEq,zaa,zac,zad,zab]) (by decide)
  ·have hp:isP p = true:=by simpa using hp
   have hcx:=(zcv.1 hh).1
   obtain ⟨h1,h6,_⟩:=zbP.1 hcx
   have hb:zdG n xs p = zly (zau xs) p n.toNat:=if_pos ⟨hh,hp⟩
   rw [hb]
   have hxo:=zhz hcx
   have hxl:=zu4 hcx
   obtain ⟨m,rfl⟩:∃ m:Nat,n = m:=⟨n.toNat,by omega⟩
   rw [Int.toNat_natCast]
   have h64:=zaN (m:=m) (by omega)
   have hsh:zuG .i64 1 (m:Int) = ((2 ^ m:Nat):Int):=zb1 (by omega)
   have hun:IntKind.u64.wrap (m:Int) = (m:Int):=zco (by omega)
   have hm1:IntKind.i64.wrap ((m:Int) + 1) = ((m + 1:Nat):Int):=by rw [zan (by omega) (by omega)];rfl
   refine znC (k:=11) (v:=1) (e:=22) (e2:=3) (by simp (maxSteps:=5000000) -dsimp only [gr,reduceEqDiff,reduceLT,reduceAdd,reduceMod,Nat.reduceBEq,zaa,zac,zad,zab]) (fun j=>by simp (maxSteps:=5000000) -dsimp only [gr,reduceEqDiff,reduceLT,reduceAdd,reduceMod,Nat.reduceBEq,zaa,zac,zad,zab]) (fun (i:Nat) s=>s.sl 1 = int p∧s.sl 2 = .ref 2 1 0∧s.rw 2 = ⟨1,.box 27 [int (m:Nat),zbx xs]⟩∧s.sl 5 = .own 11 (i + 1)∧s.sl 6 = int i∧(i ≤ m + 1∧TabG s.rw 11 (i + 1) 22 3 i (List.replicate i (List.replicate (m + 1) 0)))) (fun i=>m + 1 - i) (0) (fun sX htX hslX hoX=>(by refine ⟨?_,?_,?_,?_,?_,⟨by omega,htX⟩⟩ <;> (first | (simp (maxSteps:=5000000) -dsimp only [gr,reduceEqDiff,reduceLT,reduceAdd,reduceMod,Nat.reduceBEq,zaa,zac,zad,zab,hslX,hoX];first | done | rfl | (simp;done)) | assumption | rfl))) ?_
   intro i sa ⟨h1a,h2a,r2a,h5a,h6a,hIa⟩
   obtain ⟨hi,ht⟩:=hIa
   simp (maxSteps:=5000000) -dsimp only [↓gp,gq,reduceCtorEq,reduceEqDiff,reduceLT,reduceLeDiff,reduceAdd,reduceMul,reduceSub,Nat.reduceBEq,Int.reduceToNat,Int.reduceLE,Int.reduceLT,Int.reduceNeg,reduceMod,zac,zad,zab,zaa,gT,TK.isInt,TK.agg,Array.toList,h1a,h2a,r2a,h5a,h6a,hm1,Int.toNat_natCast]
   refine ⟨fun h=>⟨by omega,by omega,?_⟩,fun h=>?_⟩
   ·refine zF3 ?_
    simp (maxSteps:=5000000) -dsimp only [↓gp,gq,reduceCtorEq,reduceEqDiff,reduceLT,reduceLeDiff,reduceAdd,reduceMul,reduceSub,Nat.reduceBEq,Int.reduceToNat,Int.reduceLE,Int.reduceLT,Int.reduceNeg,reduceMod,zac,zad,zab,zaa,gT,TK.isInt,TK.agg,Array.toList,h1a,h2a,r2a,h5a,h6a,ht.top]
    refine ⟨by omega,?_⟩
    exact zkL (k:=11) (v:=i + 1 + 1) (e:=22) (e2:=3) (n:=i) (d:=31) (vd:=(sa.rw 31).ver + 1) (M:=List.replicate i (List.replicate (m + 1) 0)) (r:=List.replicate (m + 1) 0) (by simp (maxSteps:=5000000) -dsimp only [gr,reduceEqDiff,reduceLT,reduceAdd,reduceMod,Nat.reduceBEq,zaa,zac,zad,zab,ht.top]) (by simp) (fun j hj=>by simp (maxSteps:=5000000) -dsimp only [gr,reduceEqDiff,reduceLT,reduceAdd,reduceMod,Nat.reduceBEq,zaa,zac,zad,zab,ht.row j hj]) (fun j hj=>by simp (maxSteps:=5000000) -dsimp only [gr,reduceEqDiff,reduceLT,reduceAdd,reduceMod,Nat.reduceBEq,zaa,zac,zad,zab,ht.rest j hj]) (by simp (maxSteps:=5000000) -dsimp only [gr,reduceEqDiff,reduceLT,reduceAdd,reduceMod,Nat.reduceBEq,zaa,zac,zad,zab,hm1]) (by decide) (by decide) (i + 1) (fun sX htX hslX hoX=>(by refine ⟨?_,?_,?_,?_,?_,⟨by omega,(zq2 i _ ▸ htX:TabG _ _ _ _ _ _ _)⟩⟩ <;> (first | (simp (maxSteps:=5000000) -dsimp only [gr,reduceEqDiff,reduceLT,reduceAdd,reduceMod,Nat.reduceBEq,zaa,zac,zad,zab,hslX,hoX,h1a,h2a,r2a,h5a,h6a,h1a,h2a,r2a,h5a,h6a,zae (show i < m + 1 by omega) (by omega)];first | done | rfl | (simp;done)) | assumption | rfl))) (by first | omega | (simp only;omega) | (dsimp only;omega) | (show _ < _;simp;omega))
   ·have:i = m + 1:=by omega
    subst this
    have htI:=ht.done
    refine zar (fun (w:Nat) s=>s.sl 1 = int p∧s.sl 2 = .ref 2 1 0∧s.rw 2 = ⟨1,.box 27 [int (m:Nat),zbx xs]⟩∧s.sl 5 = .own 11 (m + 1 + 1)∧s.sl 7 = int w∧(w ≤ 2 ^ m∧TabI s.rw 11 (m + 1 + 1) 22 3 (List.range (m + 1)) (zgg (zau xs) p m w))) (fun w=>2 ^ m - w) (0) (by refine ⟨?_,?_,?_,?_,?_,⟨Nat.zero_le _,htI.same (by simp (maxSteps:=5000000) -dsimp only [gr,reduceEqDiff,reduceLT,reduceAdd,reduceMod,Nat.reduceBEq,zaa,zac,zad,zab]) (fun x=>by simp (maxSteps:=5000000) -dsimp only [gr,reduceEqDiff,reduceLT,reduceAdd,reduceMod,Nat.reduceBEq,zaa,zac,zad,zab])⟩⟩ <;> (first | (simp (maxSteps:=5000000) -dsimp only [gr,reduceEqDiff,reduceLT,reduceAdd,reduceMod,Nat.reduceBEq,zaa,zac,zad,zab,h1a,h2a,r2a,h5a,h6a];first | done | rfl | (simp;done)) | assumption | rfl)) ?_
    intro w sb ⟨h1b,h2b,r2b,h5b,h7b,hIb⟩
    obtain ⟨hw,hb2⟩:=hIb
    simp (maxSteps:=5000000) -dsimp only [↓gp,gq,reduceCtorEq,reduceEqDiff,reduceLT,reduceLeDiff,reduceAdd,reduceMul,reduceSub,Nat.reduceBEq,Int.reduceToNat,Int.reduceLE,Int.reduceLT,Int.reduceNeg,reduceMod,zac,zad,zab,zaa,gT,TK.isInt,TK.agg,Array.toList,h1b,h2b,r2b,h5b,h7b,hsh,hun]
    refine ⟨fun h2=>zag (zaK w (by omega)) ?_,fun h2=>?_⟩
    ·simp (maxSteps:=5000000) -dsimp only [↓gp,gq,reduceCtorEq,reduceEqDiff,reduceLT,reduceLeDiff,reduceAdd,reduceMul,reduceSub,Nat.reduceBEq,Int.reduceToNat,Int.reduceLE,Int.reduceLT,Int.reduceNeg,reduceMod,zac,zad,zab,zaa,gT,TK.isInt,TK.agg,Array.toList,h1b,h2b,r2b,h5b,h7b,hsh,hun]
     refine zag (zk2 _ xs w (by omega) hxo (by omega)) ?_
     simp (maxSteps:=5000000) -dsimp only [↓gp,gq,reduceCtorEq,reduceEqDiff,reduceLT,reduceLeDiff,reduceAdd,reduceMul,reduceSub,Nat.reduceBEq,Int.reduceToNat,Int.reduceLE,Int.reduceLT,Int.reduceNeg,reduceMod,zac,zad,zab,zaa,gT,TK.isInt,TK.agg,Array.toList,h1b,h2b,r2b,h5b,h7b,hsh,hun]
     refine zag (ze5 _ _ p) ?_
     have hins:=zEo hcx (w:=w) (by omega) hp
     unfold zEn at hins
     rw [hins]
     have hpn:=zgh (n:=m) (by omega) h2
     have hsm:=zdP (zaM (zau xs) w) p
     have hdl:=zda (zaM (zau xs) w)
     have hhl:=za9 (zaM (zau xs) w) p
     generalize hhs:zev (zaM (zau xs) w) p = hs at *
     have hsq:=fun k=>zm3 (j:=zas w) (zm4 (zau xs) p m w) hsm k
     simp (maxSteps:=5000000) -dsimp only [↓gp,gq,reduceCtorEq,reduceEqDiff,reduceLT,reduceLeDiff,reduceAdd,reduceMul,reduceSub,Nat.reduceBEq,Int.reduceToNat,Int.reduceLE,Int.reduceLT,Int.reduceNeg,reduceMod,zac,zad,zab,zaa,gT,TK.isInt,TK.agg,Array.toList,h1b,h2b,r2b,h5b,h7b,hsh,hun]
     refine zar (fun (zc:Nat × Nat) s=>match zc with | (k,u)=>s.sl 1 = int p∧s.sl 2 = .ref 2 1 0∧s.rw 2 = ⟨1,.box 27 [int (m:Nat),zbx xs]⟩∧s.sl 5 = .own 11 (m + 1 + 1)∧s.sl 7 = int w∧s.sl 8 = int (zas w:Nat)∧s.sl 9 = .own 48 u∧s.rw 48 = ⟨u,.sli 3 1 false (iL hs)⟩∧s.sl 10 = int k∧(k ≤ hs.length∧TabI s.rw 11 (m + 1 + 1) 22 3 (List.range (m + 1)) (zgf (zgg (zau xs) p m w) (zas w) hs k))) (fun (k,u)=>hs.length - k) ((0,(sb.rw 48).ver + 1)) (by refine ⟨?_,?_,?_,?_,?_,?_,?_,?_,?_,⟨by omega,hb2.same (by simp (maxSteps:=5000000) -dsimp only [gr,reduceEqDiff,reduceLT,reduceAdd,reduceMod,Nat.reduceBEq,zaa,zac,zad,zab]) (fun x=>by simp (maxSteps:=5000000) -dsimp only [gr,reduceEqDiff,reduceLT,reduceAdd,reduceMod,Nat.reduceBEq,zaa,zac,zad,zab])⟩⟩ <;> (first | (simp (maxSteps:=5000000) -dsimp only [gr,reduceEqDiff,reduceLT,reduceAdd,reduceMod,Nat.reduceBEq,zaa,zac,zad,zab,h1b,h2b,r2b,h5b,h7b];first | done | rfl | (simp;done)) | assumption | rfl)) ?_
     intro (k,u) sc ⟨h1c,h2c,r2c,h5c,h7c,h8c,h9c,r48c,h10c,hIc⟩
     obtain ⟨hk,hb3⟩:=hIc
     have hend:(k = hs.length ∨ zas w < k)→zgf (zgg (zau xs) p m w) (zas w) hs k = zgg (zau xs) p m (w + 1):=fun h=>by
      have e0:zgg (zau xs) p m (w + 1) = zgf (zgg (zau xs) p m w) (zas w) (zev (zaM (zau xs) w) p) (zbJ (zaM (zau xs) w)):=rfl
      rw [e0,← hhl,hhs]
      rcases h with h | h
      ·rw [h]
      ·have:=zwG (M:=zgg (zau xs) p m w) (hs:=hs) h (hs.length - k)
       rw [show k + (hs.length - k) = hs.length by omega] at this
       exact this.symm
     by_cases h3:k < hs.length
     ·by_cases h4:k ≤ zas w
      ·have hsq:=hsq k
       have hs1:=hsq.small (zas w - k) (zas w)
       have hs2:=hsm k
       have hml:=hsq.len
       have hrl:=hsq.row (zas w - k) (by omega)
       have hadd:zgf (zgg (zau xs) p m w) (zas w) hs (k + 1) = zge (zgf (zgg (zau xs) p m w) (zas w) hs k) (zas w - k) (zas w) (hs.getD k 0):=by rw [zgf,if_pos h4]
       generalize zgf (zgg (zau xs) p m w) (zas w) hs k = M at *
       have e1:(List.range (m + 1)).getD (zas w - k) 0 = zas w - k:=zu5 (by omega)
       have hrow:=hb3.row (i:=zas w - k) (by omega)
       rw [e1] at hrow
       have hw1:IntKind.i64.wrap ((zas w:Int) - (k:Int)) = ((zas w - k:Nat):Int):=by rw [zan (by omega) (by omega)];omega
       have hw2:IntKind.i64.wrap ((M.getD (zas w - k) []).getD (zas w) 0 + hs.getD k 0) = (M.getD (zas w - k) []).getD (zas w) 0 + hs.getD k 0:=zan (by omega) (by omega)
       simp (maxSteps:=5000000) -dsimp only [↓gp,gq,reduceCtorEq,reduceEqDiff,reduceLT,reduceLeDiff,reduceAdd,reduceMul,reduceSub,Nat.reduceBEq,Int.reduceToNat,Int.reduceLE,Int.reduceLT,Int.reduceNeg,reduceMod,zac,zad,zab,zaa,gT,TK.isInt,TK.agg,Array.toList,h1c,h2c,r2c,h5c,h7c,h8c,h9c,r48c,h10c,hw1,hb3.top,zcM,e1,hrow,hrl,zaq,List.length_range,hw2]
       refine ⟨fun _=>⟨fun _=>⟨by kernel_rfl,by omega,by omega,by omega,by omega,by omega,by omega,h3,h3,by omega,by omega,by kernel_rfl,?_⟩,fun h=>absurd h4 h⟩,fun h=>absurd h3 h⟩
       exact zah ((k + 1,u)) (by refine ⟨?_,?_,?_,?_,?_,?_,?_,?_,?_,⟨by dsimp only;omega,by
        dsimp only
        rw [hadd]
        exact hb3.set (i:=zas w - k) (by omega) (by simp (maxSteps:=5000000) -dsimp only [gr,reduceEqDiff,reduceLT,reduceAdd,reduceMod,Nat.reduceBEq,zaa,zac,zad,zab]) (by simp (maxSteps:=5000000) -dsimp only [gr,reduceEqDiff,reduceLT,reduceAdd,reduceMod,Nat.reduceBEq,zaa,zac,zad,zab,e1,h1c,h2c,r2c,h5c,h7c,h8c,h9c,r48c,h10c,hb3.top,hrow]) (fun x hx=>by simp (maxSteps:=5000000) -dsimp only [gr,reduceEqDiff,reduceLT,reduceAdd,reduceMod,Nat.reduceBEq,zaa,zac,zad,zab,e1 ▸ hx])⟩⟩ <;> (first | (simp (maxSteps:=5000000) -dsimp only [gr,reduceEqDiff,reduceLT,reduceAdd,reduceMod,Nat.reduceBEq,zaa,zac,zad,zab,h1c,h2c,r2c,h5c,h7c,h8c,h9c,r48c,h10c,zae h3 (by omega)];first | done | rfl | (simp;done)) | assumption | rfl)) (by first | omega | (simp only;omega) | (dsimp only;omega) | (show _ < _;simp;omega))
      ·have e:=hend (.inr (by omega))
       rw [e] at hb3
       simp (maxSteps:=5000000) -dsimp only [↓gp,gq,reduceCtorEq,reduceEqDiff,reduceLT,reduceLeDiff,reduceAdd,reduceMul,reduceSub,Nat.reduceBEq,Int.reduceToNat,Int.reduceLE,Int.reduceLT,Int.reduceNeg,reduceMod,zac,zad,zab,zaa,gT,TK.isInt,TK.agg,Array.toList,h1c,h2c,r2c,h5c,h7c,h8c,h9c,r48c,h10c]
       refine ⟨fun _=>⟨fun h=>absurd h h4,fun _=>?_⟩,fun h=>absurd h3 h⟩
       exact zah (w + 1) (by refine ⟨?_,?_,?_,?_,?_,⟨by omega,hb3.same (by simp (maxSteps:=5000000) -dsimp only [gr,reduceEqDiff,reduceLT,reduceAdd,reduceMod,Nat.reduceBEq,zaa,zac,zad,zab]) (fun x=>by simp (maxSteps:=5000000) -dsimp only [gr,reduceEqDiff,reduceLT,reduceAdd,reduceMod,Nat.reduceBEq,zaa,zac,zad,zab])⟩⟩ <;> (first | (simp (maxSteps:=5000000) -dsimp only [gr,reduceEqDiff,reduceLT,reduceAdd,reduceMod,Nat.reduceBEq,zaa,zac,zad,zab,h1b,h2b,r2b,h5b,h7b,h1c,h2c,r2c,h5c,h7c,h8c,h9c,r48c,h10c,zae h2 (by omega)];first | done | rfl | (simp;done)) | assumption | rfl)) (by first | omega | (simp only;omega) | (dsimp only;omega) | (show _ < _;simp;omega))
     ·have e:=hend (.inl (by omega))
      rw [e] at hb3
      simp (maxSteps:=5000000) -dsimp only [↓gp,gq,reduceCtorEq,reduceEqDiff,reduceLT,reduceLeDiff,reduceAdd,reduceMul,reduceSub,Nat.reduceBEq,Int.reduceToNat,Int.reduceLE,Int.reduceLT,Int.reduceNeg,reduceMod,zac,zad,zab,zaa,gT,TK.isInt,TK.agg,Array.toList,h1c,h2c,r2c,h5c,h7c,h8c,h9c,r48c,h10c]
      refine ⟨fun h=>absurd h h3,fun _=>?_⟩
      exact zah (w + 1) (by refine ⟨?_,?_,?_,?_,?_,⟨by omega,hb3.same (by simp (maxSteps:=5000000) -dsimp only [gr,reduceEqDiff,reduceLT,reduceAdd,reduceMod,Nat.reduceBEq,zaa,zac,zad,zab]) (fun x=>by simp (maxSteps:=5000000) -dsimp only [gr,reduceEqDiff,reduceLT,reduceAdd,reduceMod,Nat.reduceBEq,zaa,zac,zad,zab])⟩⟩ <;> (first | (simp (maxSteps:=5000000) -dsimp only [gr,reduceEqDiff,reduceLT,reduceAdd,reduceMod,Nat.reduceBEq,zaa,zac,zad,zab,h1b,h2b,r2b,h5b,h7b,h1c,h2c,r2c,h5c,h7c,h8c,h9c,r48c,h10c,zae h2 (by omega)];first | done | rfl | (simp;done)) | assumption | rfl)) (by first | omega | (simp only;omega) | (dsimp only;omega) | (show _ < _;simp;omega))
    ·have:w = 2 ^ m:=by omega
     subst this
     exact zeY hb2 (by decide) (fun j hj=>by have:=List.mem_range.1 hj;omega)
 ·have hh:zjc n xs = false:=by simpa using hh
  rw [zf5 (fun h=>by rw [h.1] at hh;cases hh)]
  exact zei (by simp (maxSteps:=5000000) -dsimp only [gr,reduceEqDiff,reduceLT,reduceAdd,reduceMod,Nat.reduceBEq,zaa,zac,zad,zab]) (by decide)
def zwe (n:Nat):List Int:=List.replicate n 0
theorem zhG (n:Nat) (hn:n ≤ 100):AC Try.prog 108 [int n] (.tb 22 3 (List.replicate (n + 1) (iL (zwe (n + 1))))):=by
 refine AC.go (rs:=[.tmp 2]) zbc zax Try.func108 rfl rfl rfl (by kernel_rfl) fun hl=>?_
 have hw:IntKind.i64.wrap ((n:Int) + 1) = ((n + 1:Nat):Int):=by rw [zan (by omega) (by omega)];rfl
 simp (maxSteps:=5000000) -dsimp only [↓gp,gq,reduceCtorEq,reduceEqDiff,reduceLT,reduceLeDiff,reduceAdd,reduceMul,reduceSub,Nat.reduceBEq,Int.reduceToNat,Int.reduceLE,Int.reduceLT,Int.reduceNeg,reduceMod,zac,zad,zab,zaa,gT,TK.isInt,TK.agg,Array.toList,hw,Int.toNat_natCast]
 refine ⟨by omega,by omega,?_⟩
 refine zzm (fun (i:Nat) s=>s.sl 0 = int n∧s.sl 3 = .own 7 1∧s.rw 7 = ⟨1,.tab 22 (zha 7 (n + 1) i)⟩∧s.sl 9 = int (n + 1:Nat)∧s.sl 10 = int i∧(i ≤ n + 1∧(∀ j,j < i→s.rw (sid 7 j) = ⟨1,.sli 3 1 false (iL (zwe (n + 1)))⟩)∧∀ j,i ≤ j→s.rw (sid 7 j) = ⟨0,.dead⟩)) (fun i=>n + 1 - i) (0) (Wk.tab (k:=7) (v:=1) (e:=22) (c:=List.replicate (n + 1) (.v (.slice none 0 0))) (by simp (maxSteps:=5000000) -dsimp only [gr,reduceEqDiff,reduceLT,reduceAdd,reduceMod,Nat.reduceBEq,zaa,zac,zad,zab]) (zmT _)) (by refine ⟨?_,?_,?_,?_,?_,⟨by simp,fun j h=>absurd h (by omega),fun j _=>by simp (maxSteps:=5000000) -dsimp only [gr,reduceEqDiff,reduceLT,reduceAdd,reduceMod,Nat.reduceBEq,zaa,zac,zad,zab]⟩⟩ <;> (first | (simp (maxSteps:=5000000) -dsimp only [gr,reduceEqDiff,reduceLT,reduceAdd,reduceMod,Nat.reduceBEq,zaa,zac,zad,zab,← zqB];first | done | rfl | (simp;done)) | assumption | rfl)) ?_
 intro i sa ⟨h0a,h3a,r7a,h9a,h10a,hIa⟩
 obtain ⟨hi,hlo,hhi⟩:=hIa
 simp (maxSteps:=5000000) -dsimp only [↓gp,gq,reduceCtorEq,reduceEqDiff,reduceLT,reduceLeDiff,reduceAdd,reduceMul,reduceSub,Nat.reduceBEq,Int.reduceToNat,Int.reduceLE,Int.reduceLT,Int.reduceNeg,reduceMod,zac,zad,zab,zaa,gT,TK.isInt,TK.agg,Array.toList,h0a,h3a,r7a,h9a,h10a,hw,zbn,Int.toNat_natCast]
 refine ⟨fun h=>⟨by omega,by omega,h,by omega,?_⟩,fun h=>?_⟩
 ·exact zBf (i + 1) (Wk.ren (d:=17) (k:=7) (k':=sid 7 i) (v:=(sa.rw 17).ver + 1) (vk:=1) (e:=3) (et:=22) (sz:=1) (c:=iL (zwe (n + 1))) (cs:=spl (zha 7 (n + 1) i) i [.own 17 ((sa.rw 17).ver + 1)]) (cs':=zha 7 (n + 1) (i + 1)) (by simp (maxSteps:=5000000) -dsimp only [gr,reduceEqDiff,reduceLT,reduceAdd,reduceMod,Nat.reduceBEq,zaa,zac,zad,zab,zwe]) (by simp (maxSteps:=5000000) -dsimp only [gr,reduceEqDiff,reduceLT,reduceAdd,reduceMod,Nat.reduceBEq,zaa,zac,zad,zab,h0a,h3a,r7a,h9a,h10a]) (by simp (maxSteps:=5000000) -dsimp only [gr,reduceEqDiff,reduceLT,reduceAdd,reduceMod,Nat.reduceBEq,zaa,zac,zad,zab,hhi i (Nat.le_refl _)]) (by decide) (zuN h)) (by refine ⟨?_,?_,?_,?_,?_,⟨by omega,fun j hj=>(by
   by_cases e:j = i
   ·subst e;simp (maxSteps:=5000000) -dsimp only [gr,reduceEqDiff,reduceLT,reduceAdd,reduceMod,Nat.reduceBEq,zaa,zac,zad,zab]
   ·simp (maxSteps:=5000000) -dsimp only [gr,reduceEqDiff,reduceLT,reduceAdd,reduceMod,Nat.reduceBEq,zaa,zac,zad,zab,e,hlo j (by omega)]),fun j hj=>(by
   have e:¬ j = i:=by omega
   simp (maxSteps:=5000000) -dsimp only [gr,reduceEqDiff,reduceLT,reduceAdd,reduceMod,Nat.reduceBEq,zaa,zac,zad,zab,e,hhi j (by omega)])⟩⟩ <;> (first | (simp (maxSteps:=5000000) -dsimp only [gr,reduceEqDiff,reduceLT,reduceAdd,reduceMod,Nat.reduceBEq,zaa,zac,zad,zab,h0a,h3a,r7a,h9a,h10a,zae h (by omega)];first | done | rfl | (simp;done)) | assumption | rfl)) (by first | omega | (simp only;omega) | (dsimp only;omega) | (show _ < _;simp;omega))
 ·obtain rfl:i = n + 1:=by omega
  refine zBg (n:=n + 1) (by decide) (by omega) (by rw [r7a,zuM]) (by simp) fun j hj=>?_
  rw [hlo j hj]
  simp [List.getD,hj]
theorem zAf (m:Nat):List.replicate (m + 1) (iL (zwe (m + 1))) = (List.replicate (m + 1) (List.replicate (m + 1) (0:Int))).map iL:=by simp [zwe]
theorem zhE (n:Int) (xs:List Int) (p:Int):AC Try.prog 37 [.ag [int n,zbx xs],int p] (.tb 22 3 ((zdG n xs p).map iL)):=by
 refine AC.go (rs:=[.tmp 4]) zbc zax Try.func37 rfl rfl rfl (by kernel_rfl) fun hl=>?_
 simp only [zaZ,zbm,and_true,zbV,zde,zcd,true_and] at hl
 simp (maxSteps:=5000000) -dsimp only [↓gp,gq,reduceCtorEq,reduceEqDiff,reduceLT,reduceLeDiff,reduceAdd,reduceMul,reduceSub,Nat.reduceBEq,Int.reduceToNat,Int.reduceLE,Int.reduceLT,Int.reduceNeg,reduceMod,zac,zad,zab,zaa,gT,TK.isInt,TK.agg,Array.toList]
 refine zag (ziB n xs) ?_
 simp (maxSteps:=5000000) -dsimp only [↓gp,gq,reduceCtorEq,reduceEqDiff,reduceLT,reduceLeDiff,reduceAdd,reduceMul,reduceSub,Nat.reduceBEq,Int.reduceToNat,Int.reduceLE,Int.reduceLT,Int.reduceNeg,reduceMod,zac,zad,zab,zaa,gT,TK.isInt,TK.agg,Array.toList]
 refine ⟨fun hc=>⟨fun h0=>zag (zdr p) ?_,fun h0=>?_⟩,fun hc=>?_⟩
 ·have hcx:zez n xs = true:=by simpa using hc
  have hh:zjc n xs = true:=zcv.2 ⟨hcx,by simp at h0;exact List.length_pos_iff.2 h0⟩
  simp (maxSteps:=5000000) -dsimp only [↓gp,gq,reduceCtorEq,reduceEqDiff,reduceLT,reduceLeDiff,reduceAdd,reduceMul,reduceSub,Nat.reduceBEq,Int.reduceToNat,Int.reduceLE,Int.reduceLT,Int.reduceNeg,reduceMod,zac,zad,zab,zaa,gT,TK.isInt,TK.agg,Array.toList]
  refine ⟨fun hp=>?_,fun hp=>?_⟩
  ·rw [zf5 (fun h=>by rw [h.2] at hp;cases hp)]
   exact zei (by simp (maxSteps:=5000000) -dsimp only [gr,reduceEqDiff,reduceLT,reduceAdd,reduceMod,Nat.reduceBEq,zaa,zac,zad,zab]) (by decide)
  ·have hp:isP p = true:=by simpa using hp
   obtain ⟨h1,h6,_⟩:=zbP.1 hcx
   have hb:zdG n xs p = zly (zau xs) p n.toNat:=if_pos ⟨hh,hp⟩
   rw [hb]
   have hxo:=zhz hcx
   have hxl:=zu4 hcx
   obtain ⟨m,rfl⟩:∃ m:Nat,n = m:=⟨n.toNat,by omega⟩
   rw [Int.toNat_natCast]
   have h64:=zaN (m:=m) (by omega)
   have hsh:zuG .i64 1 (m:Int) = ((2 ^ m:Nat):Int):=zb1 (by omega)
   have hun:IntKind.u64.wrap (m:Int) = (m:Int):=zco (by omega)
   refine zag (zhG m (by omega)) ?_
   rw [zAf]
   simp (maxSteps:=5000000) -dsimp only [↓gp,gq,reduceCtorEq,reduceEqDiff,reduceLT,reduceLeDiff,reduceAdd,reduceMul,reduceSub,Nat.reduceBEq,Int.reduceToNat,Int.reduceLE,Int.reduceLT,Int.reduceNeg,reduceMod,zac,zad,zab,zaa,gT,TK.isInt,TK.agg,Array.toList]
   refine zag (zls _ xs hxo) ?_
   simp (maxSteps:=5000000) -dsimp only [↓gp,gq,reduceCtorEq,reduceEqDiff,reduceLT,reduceLeDiff,reduceAdd,reduceMul,reduceSub,Nat.reduceBEq,Int.reduceToNat,Int.reduceLE,Int.reduceLT,Int.reduceNeg,reduceMod,zac,zad,zab,zaa,gT,TK.isInt,TK.agg,Array.toList]
   refine zar (fun (w:Nat) s=>s.sl 1 = int p∧s.sl 2 = .ref 2 1 0∧s.rw 2 = ⟨1,.box 27 [int (m:Nat),zbx xs]⟩∧s.sl 5 = .own 27 1∧s.sl 6 = u64 (za5 (zau xs) 64:Nat)∧s.sl 7 = int w∧(w ≤ 2 ^ m∧TabI s.rw 27 1 22 3 (List.range (m + 1)) (zgg (zau xs) p m w))) (fun w=>2 ^ m - w) (0) (by refine ⟨?_,?_,?_,?_,?_,?_,⟨Nat.zero_le _,TabI.adopt (d:=27) (by simp only [zep];rfl) (fun x=>by simp only [zep];rfl) (fun i hi=>by simp (maxSteps:=5000000) -dsimp only [gr,reduceEqDiff,reduceLT,reduceAdd,reduceMod,Nat.reduceBEq,zaa,zac,zad,zab]) (by simp (maxSteps:=5000000) -dsimp only [gr,reduceEqDiff,reduceLT,reduceAdd,reduceMod,Nat.reduceBEq,zaa,zac,zad,zab]) List.length_replicate⟩⟩ <;> (first | (simp (maxSteps:=5000000) -dsimp only [gr,reduceEqDiff,reduceLT,reduceAdd,reduceMod,Nat.reduceBEq,zaa,zac,zad,zab];first | done | rfl | (simp;done)) | assumption | rfl)) ?_
   intro w sb ⟨h1b,h2b,r2b,h5b,h6b,h7b,hIb⟩
   obtain ⟨hw,hb2⟩:=hIb
   simp (maxSteps:=5000000) -dsimp only [↓gp,gq,reduceCtorEq,reduceEqDiff,reduceLT,reduceLeDiff,reduceAdd,reduceMul,reduceSub,Nat.reduceBEq,Int.reduceToNat,Int.reduceLE,Int.reduceLT,Int.reduceNeg,reduceMod,zac,zad,zab,zaa,gT,TK.isInt,TK.agg,Array.toList,h1b,h2b,r2b,h5b,h6b,h7b,hsh,hun]
   refine ⟨fun h2=>zag (za7 _) ?_,fun h2=>?_⟩
   ·have hw64:w < 64:=by omega
    have hz:=zcJ hw64
    simp (maxSteps:=5000000) -dsimp only [↓gp,gq,reduceCtorEq,reduceEqDiff,reduceLT,reduceLeDiff,reduceAdd,reduceMul,reduceSub,Nat.reduceBEq,Int.reduceToNat,Int.reduceLE,Int.reduceLT,Int.reduceNeg,reduceMod,zac,zad,zab,zaa,gT,TK.isInt,TK.agg,Array.toList,h1b,h2b,r2b,h5b,h6b,h7b,hsh,hun,hz]
    refine zag (ziA (zau xs) w hw64) ?_
    simp (maxSteps:=5000000) -dsimp only [↓gp,gq,reduceCtorEq,reduceEqDiff,reduceLT,reduceLeDiff,reduceAdd,reduceMul,reduceSub,Nat.reduceBEq,Int.reduceToNat,Int.reduceLE,Int.reduceLT,Int.reduceNeg,reduceMod,zac,zad,zab,zaa,gT,TK.isInt,TK.agg,Array.toList,h1b,h2b,r2b,h5b,h6b,h7b,hsh,hun,hz]
    refine zag (zlp _ p hp) ?_
    have epart:(fun t=>zau xs t && zle w t) = zaM (zau xs) w:=rfl
    rw [epart]
    have hpn:=zgh (n:=m) (by omega) h2
    have hsm:=zdP (zaM (zau xs) w) p
    have hdl:=zda (zaM (zau xs) w)
    have hhl:=za9 (zaM (zau xs) w) p
    generalize hhs:zev (zaM (zau xs) w) p = hs at *
    have hsq:=fun k=>zm3 (j:=zas w) (zm4 (zau xs) p m w) hsm k
    simp (maxSteps:=5000000) -dsimp only [↓gp,gq,reduceCtorEq,reduceEqDiff,reduceLT,reduceLeDiff,reduceAdd,reduceMul,reduceSub,Nat.reduceBEq,Int.reduceToNat,Int.reduceLE,Int.reduceLT,Int.reduceNeg,reduceMod,zac,zad,zab,zaa,gT,TK.isInt,TK.agg,Array.toList,h1b,h2b,r2b,h5b,h6b,h7b,hsh,hun]
    refine zar (fun (zc:Nat × Nat) s=>match zc with | (k,u)=>s.sl 1 = int p∧s.sl 2 = .ref 2 1 0∧s.rw 2 = ⟨1,.box 27 [int (m:Nat),zbx xs]⟩∧s.sl 5 = .own 27 1∧s.sl 6 = u64 (za5 (zau xs) 64:Nat)∧s.sl 7 = int w∧s.sl 8 = int (zas w:Nat)∧s.sl 44 = .own 44 u∧s.rw 44 = ⟨u,.sli 3 1 false (iL hs)⟩∧s.sl 45 = int hs.length∧s.sl 46 = int k∧(k ≤ hs.length∧TabI s.rw 27 1 22 3 (List.range (m + 1)) (zgf (zgg (zau xs) p m w) (zas w) hs k))) (fun (k,u)=>hs.length - k) ((0,(sb.rw 44).ver + 1)) (by refine ⟨?_,?_,?_,?_,?_,?_,?_,?_,?_,?_,?_,⟨by omega,hb2.same (by simp (maxSteps:=5000000) -dsimp only [gr,reduceEqDiff,reduceLT,reduceAdd,reduceMod,Nat.reduceBEq,zaa,zac,zad,zab]) (fun x=>by simp (maxSteps:=5000000) -dsimp only [gr,reduceEqDiff,reduceLT,reduceAdd,reduceMod,Nat.reduceBEq,zaa,zac,zad,zab])⟩⟩ <;> (first | (simp (maxSteps:=5000000) -dsimp only [gr,reduceEqDiff,reduceLT,reduceAdd,reduceMod,Nat.reduceBEq,zaa,zac,zad,zab,h1b,h2b,r2b,h5b,h6b,h7b];first | done | rfl | (simp;done)) | assumption | rfl)) ?_
    intro (k,u) sc ⟨h1c,h2c,r2c,h5c,h6c,h7c,h8c,h44c,r44c,h45c,h46c,hIc⟩
    obtain ⟨hk,hb3⟩:=hIc
    by_cases h3:k < hs.length
    ·by_cases h4:k ≤ zas w
     ·have hsq:=hsq k
      have hs1:=hsq.small (zas w - k) (zas w)
      have hs2:=hsm k
      have hml:=hsq.len
      have hrl:=hsq.row (zas w - k) (by omega)
      have hadd:zgf (zgg (zau xs) p m w) (zas w) hs (k + 1) = zge (zgf (zgg (zau xs) p m w) (zas w) hs k) (zas w - k) (zas w) (hs.getD k 0):=by rw [zgf,if_pos h4]
      generalize zgf (zgg (zau xs) p m w) (zas w) hs k = M at *
      have e1:(List.range (m + 1)).getD (zas w - k) 0 = zas w - k:=zu5 (by omega)
      have hrow:=hb3.row (i:=zas w - k) (by omega)
      rw [e1] at hrow
      have hw1:IntKind.i64.wrap ((zas w:Int) - (k:Int)) = ((zas w - k:Nat):Int):=by rw [zan (by omega) (by omega)];omega
      have hw2:IntKind.i64.wrap ((M.getD (zas w - k) []).getD (zas w) 0 + hs.getD k 0) = (M.getD (zas w - k) []).getD (zas w) 0 + hs.getD k 0:=zan (by omega) (by omega)
      simp (maxSteps:=5000000) -dsimp only [↓gp,gq,reduceCtorEq,reduceEqDiff,reduceLT,reduceLeDiff,reduceAdd,reduceMul,reduceSub,Nat.reduceBEq,Int.reduceToNat,Int.reduceLE,Int.reduceLT,Int.reduceNeg,reduceMod,zac,zad,zab,zaa,gT,TK.isInt,TK.agg,Array.toList,h1c,h2c,r2c,h5c,h6c,h7c,h8c,h44c,r44c,h45c,h46c,hw1,hb3.top,zcM,e1,hrow,hrl,zaq,List.length_range,hw2]
      refine ⟨fun _=>⟨h3,h3,fun _=>⟨by omega,by omega,by omega,by omega,by omega,by omega,?_⟩,fun h=>absurd h4 h⟩,fun h=>absurd h3 h⟩
      exact zah ((k + 1,u)) (by refine ⟨?_,?_,?_,?_,?_,?_,?_,?_,?_,?_,?_,⟨by dsimp only;omega,by
       dsimp only
       rw [hadd]
       exact hb3.set (i:=zas w - k) (by omega) (by simp (maxSteps:=5000000) -dsimp only [gr,reduceEqDiff,reduceLT,reduceAdd,reduceMod,Nat.reduceBEq,zaa,zac,zad,zab]) (by simp (maxSteps:=5000000) -dsimp only [gr,reduceEqDiff,reduceLT,reduceAdd,reduceMod,Nat.reduceBEq,zaa,zac,zad,zab,e1,h1c,h2c,r2c,h5c,h6c,h7c,h8c,h44c,r44c,h45c,h46c,hb3.top,hrow]) (fun x hx=>by simp (maxSteps:=5000000) -dsimp only [gr,reduceEqDiff,reduceLT,reduceAdd,reduceMod,Nat.reduceBEq,zaa,zac,zad,zab,e1 ▸ hx])⟩⟩ <;> (first | (simp (maxSteps:=5000000) -dsimp only [gr,reduceEqDiff,reduceLT,reduceAdd,reduceMod,Nat.reduceBEq,zaa,zac,zad,zab,h1c,h2c,r2c,h5c,h6c,h7c,h8c,h44c,r44c,h45c,h46c,zae h3 (by omega)];first | done | rfl | (simp;done)) | assumption | rfl)) (by first | omega | (simp only;omega) | (dsimp only;omega) | (show _ < _;simp;omega))
     ·have hadd:zgf (zgg (zau xs) p m w) (zas w) hs (k + 1) = zgf (zgg (zau xs) p m w) (zas w) hs k:=by rw [zgf,if_neg h4]
      simp (maxSteps:=5000000) -dsimp only [↓gp,gq,reduceCtorEq,reduceEqDiff,reduceLT,reduceLeDiff,reduceAdd,reduceMul,reduceSub,Nat.reduceBEq,Int.reduceToNat,Int.reduceLE,Int.reduceLT,Int.reduceNeg,reduceMod,zac,zad,zab,zaa,gT,TK.isInt,TK.agg,Array.toList,h1c,h2c,r2c,h5c,h6c,h7c,h8c,h44c,r44c,h45c,h46c]
      refine ⟨fun _=>⟨h3,h3,fun h=>absurd h h4,fun _=>?_⟩,fun h=>absurd h3 h⟩
      exact zah ((k + 1,u)) (by refine ⟨?_,?_,?_,?_,?_,?_,?_,?_,?_,?_,?_,⟨by dsimp only;omega,by
       dsimp only
       rw [hadd]
       exact hb3.same (by simp (maxSteps:=5000000) -dsimp only [gr,reduceEqDiff,reduceLT,reduceAdd,reduceMod,Nat.reduceBEq,zaa,zac,zad,zab]) (fun x=>by simp (maxSteps:=5000000) -dsimp only [gr,reduceEqDiff,reduceLT,reduceAdd,reduceMod,Nat.reduceBEq,zaa,zac,zad,zab])⟩⟩ <;> (first | (simp (maxSteps:=5000000) -dsimp only [gr,reduceEqDiff,reduceLT,reduceAdd,reduceMod,Nat.reduceBEq,zaa,zac,zad,zab,h1c,h2c,r2c,h5c,h6c,h7c,h8c,h44c,r44c,h45c,h46c,zae h3 (by omega)];first | done | rfl | (simp;done)) | assumption | rfl)) (by first | omega | (simp only;omega) | (dsimp only;omega) | (show _ < _;simp;omega))
    ·have e:zgf (zgg (zau xs) p m w) (zas w) hs k = zgg (zau xs) p m (w + 1):=by
      have e0:zgg (zau xs) p m (w + 1) = zgf (zgg (zau xs) p m w) (zas w) (zev (zaM (zau xs) w) p) (zbJ (zaM (zau xs) w)):=rfl
      rw [e0,← hhl,hhs,show k = hs.length by omega]
     rw [e] at hb3
     simp (maxSteps:=5000000) -dsimp only [↓gp,gq,reduceCtorEq,reduceEqDiff,reduceLT,reduceLeDiff,reduceAdd,reduceMul,reduceSub,Nat.reduceBEq,Int.reduceToNat,Int.reduceLE,Int.reduceLT,Int.reduceNeg,reduceMod,zac,zad,zab,zaa,gT,TK.isInt,TK.agg,Array.toList,h1c,h2c,r2c,h5c,h6c,h7c,h8c,h44c,r44c,h45c,h46c]
     refine ⟨fun h=>absurd h h3,fun _=>?_⟩
     exact zah (w + 1) (by refine ⟨?_,?_,?_,?_,?_,?_,⟨by omega,hb3.same (by simp (maxSteps:=5000000) -dsimp only [gr,reduceEqDiff,reduceLT,reduceAdd,reduceMod,Nat.reduceBEq,zaa,zac,zad,zab]) (fun x=>by simp (maxSteps:=5000000) -dsimp only [gr,reduceEqDiff,reduceLT,reduceAdd,reduceMod,Nat.reduceBEq,zaa,zac,zad,zab])⟩⟩ <;> (first | (simp (maxSteps:=5000000) -dsimp only [gr,reduceEqDiff,reduceLT,reduceAdd,reduceMod,Nat.reduceBEq,zaa,zac,zad,zab,h1b,h2b,r2b,h5b,h6b,h7b,h1c,h2c,r2c,h5c,h6c,h7c,h8c,h44c,r44c,h45c,h46c,zae h2 (by omega)];first | done | rfl | (simp;done)) | assumption | rfl)) (by first | omega | (simp only;omega) | (dsimp only;omega) | (show _ < _;simp;omega))
   ·have:w = 2 ^ m:=by omega
    subst this
    exact zeY hb2 (by decide) (fun j hj=>by have:=List.mem_range.1 hj;omega)
 ·rw [zf5 (fun h=>by have:=(zcv.1 h.1).2;simp at h0;rw [h0] at this;simp at this)]
  exact zei (by simp (maxSteps:=5000000) -dsimp only [gr,reduceEqDiff,reduceLT,reduceAdd,reduceMod,Nat.reduceBEq,zaa,zac,zad,zab]) (by decide)
 ·rw [zf5 (fun h=>by have:=(zcv.1 h.1).1;rw [this] at hc;cases hc)]
  exact zei (by simp (maxSteps:=5000000) -dsimp only [gr,reduceEqDiff,reduceLT,reduceAdd,reduceMod,Nat.reduceBEq,zaa,zac,zad,zab]) (by decide)
theorem zz7 {m s:Nat} (hm:m ≤ 6) (hs:s < 2 ^ m):zhy m s = ((2 ^ m - 1 - s:Nat):Int):=by
 have hin:zbS m s = true:=by
  unfold zbS;rw [decide_eq_true_iff,zcg];exact ⟨by omega,by omega,by omega,by omega⟩
 unfold zhy
 rw [if_pos hin,zcg];omega
noncomputable def dtR (n:Int) (xs:List Int) (p:Int):Mat:=if zjc n xs = true∧isP p = true then dtT (zbq n.toNat (zau xs)) p n.toNat else []
theorem zCW {n:Int} {xs:List Int} {p:Int} (h:¬ (zjc n xs = true∧isP p = true)):dtR n xs p = []:=if_neg h
end Go.Proofs.Ytpnknaaehcljoaa
